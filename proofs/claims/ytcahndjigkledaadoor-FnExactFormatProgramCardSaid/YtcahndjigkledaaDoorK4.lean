/- Part 4: functions on the way, plain laws. Conditions: as said. -/
import Derived.Deep.LoopGhost
import Derived.IntWalk
import Derived.Test.YtcahndjigkledaaDoorK1
import Derived.Test.YtcahndjigkledaaDoorK2
import Derived.Test.YtcahndjigkledaaDoorK3
set_option maxRecDepth 100000
set_option maxHeartbeats 16000000
set_option linter.unusedVariables false
set_option linter.unusedSimpArgs false
open Bool renaming and_eq_true → a05, eq_iff_iff → a31, not_eq_false' → a27, not_eq_true' → a23
open Inhabited renaming default → a03
open List renaming all_eq_true → a19, append_assoc → a38, getD_eq_getElem?_getD → a06, getElem?_append_left → a44, getElem?_eq_getElem → a02, getElem?_eq_none → a32, getElem?_eq_some_iff → a12, getElem?_map → a26, getElem_mem → a11, length_cons → a04, length_nil → a09, map_cons → a41, mem_cons_of_mem → a28, mem_cons_self → a22, mem_of_getElem? → a17, range → a25, size_toArray → a08, take → a13, take_of_length_le → a16
open Nat renaming le_refl → a14, le_trans → a15, pow_le_pow_right → a33, zero_add → a45, zero_le → a34
open Option renaming map_eq_some_iff → a07, map_some → a30
open True renaming intro → a18

namespace Go.Proofs.YtcahndjigkledaaDoor
open Go Go.RowKit
def pf {β : Type} (wr : Ac -> Option β) : List Ac -> Nat -> (Nat -> Bool) -> β -> β
 | [], _, _, v => v
 | a :: r, k, B, v => pf wr r (k + 1) B (match wr a with | some x => if B k then x else v | none => v)
theorem K9 {β : Type} {wr : Ac -> Option β} {B B' : Nat -> Bool} : ∀ {az : List Ac} {k : Nat} {v : β}, (∀ j a, az[j]? = some a -> (wr a).isSome = true -> B (k + j) = B' (k + j)) -> pf wr az k B v = pf wr az k B' v
 | [], _, _, _ => rfl
 | a :: r, k, v, h => by
  simp only [pf]
  have h0 := h 0 a rfl
  have hr : ∀ j b, r[j]? = some b -> (wr b).isSome = true -> B (k + 1 + j) = B' (k + 1 + j) := fun j b hb hw => by
   have := h (j + 1) b (by simpa using hb) hw
   rw [show k + (j + 1) = k + 1 + j by omega] at this; exact this
  cases hw : wr a with
  | none => exact K9 hr
  | some x =>
   rw [hw] at h0
   simp only [Nat.add_zero, Option.isSome_some, forall_const] at h0
   rw [h0]
   exact K9 hr
theorem P0 {β : Type} {wr : Ac -> Option β} {B : Nat -> Bool} : ∀ {az : List Ac} {k : Nat} {v : β}, (∀ j a, az[j]? = some a -> (wr a).isSome = true -> B (k + j) = false) -> pf wr az k B v = v
 | [], _, _, _ => rfl
 | a :: r, k, v, h => by
  simp only [pf]
  have h0 := h 0 a rfl
  have hr : ∀ j b, r[j]? = some b -> (wr b).isSome = true -> B (k + 1 + j) = false := fun j b hb hw => by
   have := h (j + 1) b (by simpa using hb) hw
   rw [show k + (j + 1) = k + 1 + j by omega] at this; exact this
  rw [P0 hr]
  cases hw : wr a with
  | none => rfl
  | some x =>
   rw [hw] at h0
   simp only [Nat.add_zero, Option.isSome_some, forall_const] at h0
   simp [h0]
theorem ap9 {β : Type} {wr : Ac -> Option β} {B : Nat -> Bool} : ∀ {az : List Ac} {k i : Nat} {v x : β} {a : Ac}, az[i]? = some a -> wr a = some x -> B (k + i) = true -> (∀ j b, i < j -> az[j]? = some b -> (wr b).isSome = true -> B (k + j) = false) -> pf wr az k B v = x
 | [], _, _, _, _, _, h, _, _, _ => by simp at h
 | b :: r, k, 0, v, x, a, h, hw, hB, hn => by
  simp at h; subst h
  simp only [pf, hw]
  rw [Nat.add_zero] at hB
  rw [hB, if_pos rfl]
  refine P0 fun j c hc hs => ?_
  have := hn (j + 1) c (by omega) (by simpa using hc) hs
  rw [show k + (j + 1) = k + 1 + j by omega] at this; exact this
 | b :: r, k, i + 1, v, x, a, h, hw, hB, hn => by
  simp only [pf]
  refine ap9 (i := i) (by simpa using h) hw (by rw [show k + 1 + i = k + (i + 1) by omega]; exact hB) fun j c hj hc hs => ?_
  have := hn (j + 1) c (by omega) (by simpa using hc) hs
  rw [show k + (j + 1) = k + 1 + j by omega] at this; exact this
theorem Z2 {β : Type} {wr : Ac -> Option β} {B : Nat -> Bool} (p : β -> Prop) : ∀ {az : List Ac} {k : Nat} {v : β}, p v -> (∀ j a x, az[j]? = some a -> B (k + j) = true -> wr a = some x -> p x) -> p (pf wr az k B v)
 | [], _, _, h, _ => h
 | a :: r, k, v, h, hs => by
  simp only [pf]
  refine Z2 p ?_ fun j b x hb hB hw => hs (j + 1) b x (by simpa using hb) (by rw [show k + (j + 1) = k + 1 + j by omega]; exact hB) hw
  cases hw : wr a with
  | none => exact h
  | some x =>
   simp only
   split
   ·rename_i hB; exact hs 0 a x rfl (by simpa using hB) hw
   exact h
def aj9 : List (Nat × It) -> Nat -> Option It
 | [], _ => none
 | (k, x) :: r, i => if i = k then some x else aj9 r i
theorem ab7 (S : Nat -> It) (i : Nat) : ∀ (l : List (Nat × It)), p6 S l i = match aj9 l i with | some x => x | none => S i
 | [] => rfl
 | (k, x) :: r => by simp only [p6, aj9]; split; rfl; exact ab7 S i r
theorem K5 {l : List (Nat × It)} {i : Nat} {x : It} (h : aj9 l i = some x) : (i, x) ∈ l := by
 induction l with
 | nil => cases h
 | cons p r ih =>
  obtain ⟨k, y⟩ := p
  simp only [aj9] at h
  split at h
  ·rename_i e; cases h; rw [e]; exact a22
  exact a28 _ (ih h)
def wrT (t : Nat) (a : Ac) : Option (Option AV) := if a.dst = some t then some (some a.t.res) else none
def wrS (i : Nat) (a : Ac) : Option It := aj9 a.t.new i
def tmD (az : List Ac) (B : Nat -> Bool) (tm : Nat -> Option AV) : Nat -> Option AV := fun t => pf (wrT t) az 0 B (tm t)
def sD (az : List Ac) (B : Nat -> Bool) (S : Nat -> It) : Nat -> It := fun i => pf (wrS i) az 0 B (S i)
def bef (ms : List Nat) (j i : Nat) : Bool := (nth ms i).testBit j
def az2 (ms : List Nat) (o : Oper) : Nat := o.after.foldl (fun s e => if Region.binds .any e then s ||| (2 ^ e.on ||| nth ms e.on) else s) 0
def aq2 (ms : List Nat) (l : List Oper) : Bool := (a25 l.length).all fun i => match l[i]? with | some o => natEq (nth ms i) (az2 ms o) | none => false
def T1 (a b : Ac) : Bool :=
 (match b.dst with | some t => memN t a.rt || (match a.dst with | some s => natEq s t | none => false) | none => false) ||
 b.t.new.any (fun p => memN p.1 a.ri || a.t.new.any fun q => natEq q.1 p.1)
def aT4 (ms : List Nat) (az : List Ac) : Bool :=
 (a25 az.length).all fun i => (a25 az.length).all fun j =>
  match az[i]?, az[j]? with
  | some a, some b => natEq i j || !T1 a b || (if decide (j < i) then bef ms j i else bef ms i j)
  | _, _ => false
def aQ3 (S : Nat -> It) (az : List Ac) (j : Nat) : Nat := match az.findSome? (wrS j) with
 | some x => knd x
 | none => knd (S j)
def aH8 (ms : List Nat) (S : Nat -> It) (az : List Ac) : Bool :=
 (a25 az.length).all fun i =>
  match az[i]? with
  | some a => a.rk.all fun j => az.all (fun b => match wrS j b with | some x => natEq (knd x) (aQ3 S az j) | none => true) && (natEq (knd (S j)) (aQ3 S az j) || (a25 i).any fun k => bef ms k i && match az[k]? with | some b => (wrS j b).isSome | none => false)
  | none => true
theorem aC4 {β : Type} {wr : Ac -> Option β} {B : Nat -> Bool} (p : β -> Prop) : ∀ {az : List Ac} {k : Nat} {v : β}, (∀ (j : Nat) (a : Ac) (x : β), az[j]? = some a -> wr a = some x -> p x) -> (p v \/ ∃ (j : Nat) (a : Ac), az[j]? = some a /\ (wr a).isSome = true /\ B (k + j) = true) -> p (pf wr az k B v)
 | [], _, _, _, h => by rcases h with h | ⟨j, a, h, _⟩; exact h; simp at h
 | a :: r, k, v, hs, h => by
  simp only [pf]
  refine aC4 p (fun j b x hb => hs (j + 1) b x (by simpa using hb)) ?_
  rcases h with h | ⟨j, b, h1, h2, h3⟩
  ·left
   cases hw : wr a with
   | none => exact h
   | some x =>
    simp only
    split
    ·exact hs 0 a x rfl hw
    exact h
  cases j with
  | zero =>
   left
   simp at h1; subst h1
   obtain ⟨x, hx⟩ := Option.isSome_iff_exists.1 h2
   rw [hx]
   rw [Nat.add_zero] at h3
   simp only [h3, if_true]
   exact hs 0 _ x rfl hx
  | succ j =>
   right
   exact ⟨j, b, by simpa using h1, h2, by rw [show k + 1 + j = k + (j + 1) by omega]; exact h3⟩
theorem aB2 {ms : List Nat} {S : Nat -> It} {az : List Ac} (h : aH8 ms S az = true) {i : Nat} {a : Ac} (ha : az[i]? = some a) {j : Nat} (hj : j ∈ a.rk) {B : Nat -> Bool} (hB : ∀ k, k < i -> bef ms k i = true -> B k = true) : knd (pf (wrS j) az 0 B (S j)) = aQ3 S az j := by
 have hi := (a12.1 ha).1
 have h1 := a19.1 h i (List.mem_range.2 hi)
 rw [ha] at h1
 have h2 := a19.1 h1 j hj
 simp only [a05, Bool.or_eq_true] at h2
 refine aC4 (fun x => knd x = aQ3 S az j) (fun q b x hb hx => ?_) ?_
 ·have := a19.1 h2.1 b (a17 hb)
  rw [hx] at this
  simpa [natEq] using this
 rcases h2.2 with h3 | h3
 ·left; simpa [natEq] using h3
 right
 obtain ⟨k, hk, h4⟩ := List.any_eq_true.1 h3
 rw [List.mem_range] at hk
 simp only [a05] at h4
 cases hb : az[k]? with
 | none => rw [hb] at h4; cases h4.2
 | some b =>
  rw [hb] at h4
  exact ⟨k, b, hb, h4.2, by rw [a45]; exact hB k hk h4.1⟩
def aK5 (ms : List Nat) (n0 : Nat) (az : List Ac) : Bool :=
 (a25 az.length).all fun i =>
  match az[i]? with
  | some a => (a.t.res.ids ++ a.t.new.map (·.1) ++ a.t.new.flatMap (fun p => p.2.ids)).all fun id => decide (id < n0) || natEq ((id - n0) / 8) i || bef ms ((id - n0) / 8) i
  | none => false
section
variable {P : Program} {ι : Type} {φ ψ : Nat -> Prop} {w0 w w' : World} {F : ι -> Rs} {ρ : Nat -> Value} {S : Nat -> It} {N n : Nat}
theorem X6 {α β : Type} {f g : α -> Option β} : ∀ {l : List α}, (∀ x ∈ l, f x = g x) -> l.filterMap f = l.filterMap g
 | [], _ => rfl
 | a :: r, h => by rw [List.filterMap_cons, List.filterMap_cons, h a a22, X6 fun x hx => h x (a28 _ hx)]
theorem ad7 {ops : List Oper} {H : K6} {tm tm' : Nat -> Option AV} {i : Nat} {o : Oper} (h : ∀ t ∈ aq6 ops o, tm' t = tm t) : ag7 ops H tm' i o = ag7 ops H tm i o := by
 unfold ag7
 unfold aq6 at h
 cases hg : o.guard with
 | none => rfl
 | some q =>
  obtain ⟨j, want⟩ := q
  rw [hg] at h
  simp only at h ⊢
  cases hd : (ops[j]?).bind (·.dst) with
  | none => rfl
  | some t =>
   rw [hd] at h
   simp only at h ⊢
   rw [h t (by simp)]
theorem aF5 {dk : TypeId -> Nat} {H : K6} {ops : List Oper} {i : Nat} {o : Oper} {tm tm' : Nat -> Option AV} {S S' : Nat -> It} {ac : Ac} {ob : List Prop} (h : opA P dk N ops H i o tm S n = some (ac, ob)) (ht : ∀ t ∈ ac.rt, tm' t = tm t) (hs : ∀ j ∈ ac.ri, S' j = S j) (hk : ∀ j ∈ ac.rk, knd (S' j) = knd (S j)) : opA P dk N ops H i o tm' S' n = some (ac, ob) := by
 unfold opA at h ⊢
 split at h
 case isFalse => cases h
 rename_i hd
 rw [if_pos hd]
 cases hw : ag7 ops H tm i o with
 | none => rw [hw] at h; cases h
 | some q =>
  obtain ⟨b, lq, rq⟩ := q
  rw [hw] at h
  cases b
  ·simp only at h
   cases h
   rw [ad7 (tm := tm) ht, hw]
  simp only at h
  cases hr : ai6 P dk H tm S n i o.op with
  | none => rw [hr] at h; cases h
  | some t =>
   rw [hr] at h
   simp only at h
   split at h
   case isFalse => cases h
   rename_i hf
   cases h
   simp only at ht hs hk
   rw [ad7 (tm := tm) fun t ht' => ht t (List.mem_append_right _ ht'), hw]
   have e1 : rtm tm' (V9 o.op) = rtm tm (V9 o.op) := by
    funext t
    unfold rtm
    split
    ·rename_i hm; exact ht t (List.mem_append_left _ (s8.1 hm))
    rfl
   have e2 : tch tm' o.op = tch tm o.op := by
    have e9 : L4 tm' (V9 o.op) = L4 tm (V9 o.op) := by
     unfold L4
     congr 1
     exact X6 fun t ht' => ht t (List.mem_append_left _ ht')
    cases ho' : o.op <;> simp only [tch] <;> rw [<- ho'] <;> first | rw [e1, e9] | exact e9
   have e8 : wk tm' o.op = wk tm o.op := by
    have e9 : L4 tm' (V9 o.op) = L4 tm (V9 o.op) := by
     unfold L4
     congr 1
     exact X6 fun t ht' => ht t (List.mem_append_left _ ht')
    cases ho' : o.op <;> simp only [wk] <;> rw [<- ho', e1, e9]
   have e3 : ai6 P dk H tm' S' n i o.op = ai6 P dk H tm S n i o.op := by
    unfold ai6
    cases hc : G7 H.calls i with
    | none =>
     simp only
     rw [e1, e2, e8, aI5 (fun j hj => hs j (List.mem_append_left _ hj)) hk]
    | some q =>
     obtain ⟨c, τ⟩ := q
     simp only
     rw [e1, e2]
     congr 1
     funext j
     unfold rS
     split
     ·rename_i hm
      refine hs j ?_
      unfold aD8
      rw [hc]; exact s8.1 hm
     rfl
   have e4 : ay9 H tm' S' n i o.op = ay9 H tm S n i o.op := by
    unfold ay9
    cases hc : G7 H.calls i with
    | none => simp only; rw [e1]
    | some q =>
     obtain ⟨c, τ⟩ := q
     simp only
     rw [e1, e2]
     congr 1
     funext j
     unfold rS
     split
     ·rename_i hm
      refine hs j ?_
      unfold aD8
      rw [hc]; exact s8.1 hm
     rfl
   rw [e3, hr, e4]
   simp only
   rw [e2, e8, if_pos hf]
theorem aP2 {dk : TypeId -> Nat} {H : K6} (hH : ∀ i c τ, G7 H.calls i = some (c, τ) -> c.ok P) (hF : J7 H.facts) {ops : List Oper} {i : Nat} {o : Oper} {tm : Nat -> Option AV} {a : Act} (hv : ∀ t x, tm t = some x -> a.tmps[t]? = some (x.val ρ)) (M : n6 φ ψ w0 w (s6 F ρ S)) {ac : Ac} {obs : List Prop} (h : opA P dk N ops H i o tm S n = some (ac, obs)) (ho : v8 obs) (he : ac.eqs.1 = ac.eqs.2) (hw' : ac.eqw.1 = ac.eqw.2)
  (hmk : ∀ j ∈ ac.t.made, S j = .none) (hi : Y1 S ρ ac.t.made)
  {Q : Exit -> Act -> World -> Prop} {rest : List Oper} (hk : ∀ ρ' w', B9 ac.t.made ρ ρ' -> n6 φ ψ w0 w' (s6 F ρ' (p6 S ac.t.new)) -> wpList P ops.toArray Q rest (a.put o.dst (ac.t.res.val ρ')) w') : wpList P ops.toArray Q (o :: rest) a w := by
 unfold opA at h
 split at h
 case isFalse => cases h
 rename_i hd
 split at h
 case h_1 => cases h
 ·rename_i l r hw
  cases h
  refine aC0 (Y2 (ρ := ρ) hF hw hw' fun t y _ hy => hv t y hy) ?_
  exact hk ρ w (B9.refl _ _) (by simpa [aT8, p6] using M)
 rename_i l r hw
 split at h
 case h_1 => cases h
 rename_i t ht
 split at h
 case isFalse => cases h
 rename_i hf
 cases h
 simp only [a05] at hf
 refine G4.wp (Y2 (ρ := ρ) hF hw hw' fun t y _ hy => hv t y hy) ?_
 refine (at9 M hH hF (fun t y _ hy => hv t y hy) ht ho he hmk hi (fun j hj => ?_)).mono ?_
 ·obtain ⟨p, hp, rfl⟩ := List.mem_map.1 hj
  have := a19.1 hf.2 p hp
  simp only [Bool.or_eq_true] at this
  exact this.imp s8.1 s8.1
 rintro v w' ⟨ρ', p1, p2, rfl⟩
 exact hk ρ' w' p1 p2
theorem aC2 {dk : TypeId -> Nat} {H : K6} {ops : List Oper} : ∀ (l : List Oper) (i n : Nat) {tm : List (Nat × AV)} {S : Nat -> It} {r : RS}, N0 P dk N ops H l i tm S n = some r -> v8 r.obs ->
  r.acts.length = l.length /\ (∀ t, C7 r.tm t = pf (wrT t) r.acts i (fun _ => true) (C7 tm t)) /\ (∀ j, r.S j = pf (wrS j) r.acts i (fun _ => true) (S j)) /\
  ∀ k o, l[k]? = some o -> ∃ ac ob, r.acts[k]? = some ac /\ v8 ob /\ opA P dk N ops H (i + k) o (fun t => pf (wrT t) r.acts i (fun j => decide (j < i + k)) (C7 tm t)) (fun j => pf (wrS j) r.acts i (fun q => decide (q < i + k)) (S j)) (n + 8 * k) = some (ac, ob)
 | [], i, n, tm, S, r, h, _ => by cases h; exact ⟨rfl, fun _ => rfl, fun _ => rfl, fun k o h => by simp at h⟩
 | o :: l, i, n, tm, S, r, h, ho => by
  simp only [N0] at h
  split at h
  case h_1 => cases h
  rename_i ac ob h1
  split at h
  case h_1 => cases h
  rename_i s h2
  cases h
  simp only [v8.append] at ho
  obtain ⟨k1, k2, k3, k4⟩ := aC2 l (i + 1) (n + 8) h2 ho.2
  have eT : ∀ t, C7 (ay5 ac.dst ac.t.res tm) t = match wrT t ac with | some x => x | none => C7 tm t := fun t => by
   rw [an2]
   simp only [al6, wrT]
   split <;> rfl
  have eS : ∀ j, p6 S ac.t.new j = match wrS j ac with | some x => x | none => S j := fun j => ab7 S j _
  refine ⟨by simp [k1], fun t => ?_, fun j => ?_, fun k o' hk => ?_⟩
  ·rw [k2 t, eT]; simp only [pf]; cases wrT t ac <;> rfl
  ·rw [k3 j, eS]; simp only [pf]; cases wrS j ac <;> rfl
  cases k with
  | zero =>
   simp at hk; subst hk
   refine ⟨ac, ob, rfl, ho.1, ?_⟩
   have e1 : (fun t => pf (wrT t) (ac :: s.acts) i (fun j => decide (j < i + 0)) (C7 tm t)) = C7 tm := by
    funext t; exact P0 fun j a _ _ => by simp
   have e2 : (fun j => pf (wrS j) (ac :: s.acts) i (fun q => decide (q < i + 0)) (S j)) = S := by
    funext j; exact P0 fun j a _ _ => by simp
   rw [e1, e2]; exact h1
  | succ k =>
   obtain ⟨ac', ob', m1, m2, m3⟩ := k4 k o' (by simpa using hk)
   refine ⟨ac', ob', by simpa using m1, m2, ?_⟩
   have hi : decide (i < i + (k + 1)) = true := by simp
   have e1 : (fun t => pf (wrT t) (ac :: s.acts) i (fun j => decide (j < i + (k + 1))) (C7 tm t)) = fun t => pf (wrT t) s.acts (i + 1) (fun j => decide (j < i + 1 + k)) (C7 (ay5 ac.dst ac.t.res tm) t) := by
    funext t
    rw [eT]
    simp only [pf, hi, if_true]
    rw [show i + (k + 1) = i + 1 + k by omega]
    cases wrT t ac <;> rfl
   have e2 : (fun j => pf (wrS j) (ac :: s.acts) i (fun q => decide (q < i + (k + 1))) (S j)) = fun j => pf (wrS j) s.acts (i + 1) (fun q => decide (q < i + 1 + k)) (p6 S ac.t.new j) := by
    funext j
    rw [eS]
    simp only [pf, hi, if_true]
    rw [show i + (k + 1) = i + 1 + k by omega]
    cases wrS j ac <;> rfl
   rw [e1, e2, show i + (k + 1) = i + 1 + k by omega, show n + 8 * (k + 1) = n + 8 + 8 * k by omega]
   exact m3
def aN2 (l : List Oper) (B : Nat -> Bool) : Prop := ∀ j o, l[j]? = some o -> B j = true -> ∀ e ∈ o.after, Region.binds .any e = true -> B e.on = true
theorem aj1 {ms : List Nat} {o : Oper} {j : Nat} (h : (az2 ms o).testBit j = true) : ∃ e ∈ o.after, Region.binds .any e = true /\ (e.on = j \/ bef ms j e.on = true) := by
 unfold az2 at h
 rw [<- Array.foldl_toList] at h
 have key : ∀ (es : List Edge) (s : Nat), (es.foldl (fun s e => if Region.binds .any e then s ||| (2 ^ e.on ||| nth ms e.on) else s) s).testBit j = true -> s.testBit j = true \/ ∃ e ∈ es, Region.binds .any e = true /\ (e.on = j \/ bef ms j e.on = true) := by
  intro es
  induction es with
  | nil => intro s h; exact .inl h
  | cons e r ih =>
   intro s h
   simp only [List.foldl_cons] at h
   rcases ih _ h with h1 | ⟨e', he', h2⟩
   ·split at h1
    ·rename_i hb
     simp only [Nat.testBit_or, Bool.or_eq_true, Nat.testBit_two_pow, decide_eq_true_eq] at h1
     rcases h1 with h1 | h1 | h1
     ·exact .inl h1
     ·exact .inr ⟨e, a22, hb, .inl h1⟩
     exact .inr ⟨e, a22, hb, .inr h1⟩
    exact .inl h1
   exact .inr ⟨e', a28 _ he', h2⟩
 rcases key _ _ h with h1 | ⟨e, he, h2⟩
 ·simp at h1
 exact ⟨e, by simpa using he, h2⟩
theorem al0 {ms : List Nat} {l : List Oper} (hm : aq2 ms l = true) (hb : U8 l.toArray = true) {B : Nat -> Bool} (hc : aN2 l B) : ∀ i, i < l.length -> B i = true -> ∀ j, bef ms j i = true -> B j = true := by
 intro i
 induction i using Nat.strongRecOn with
 | _ i ih =>
  intro hi hB j hj
  have h1 := a19.1 hm i (List.mem_range.2 hi)
  rw [a02 hi] at h1
  simp only [natEq, beq_iff_eq] at h1
  unfold bef at hj
  rw [h1] at hj
  obtain ⟨e, he, h2, h3⟩ := aj1 hj
  have h4 := hc i _ (a02 hi) hB e he h2
  have h5 := al1 hb (show i < l.toArray.size by simpa using hi) (show l.toArray[i]? = some l[i] by simp [hi]) he h2
  rcases h3 with rfl | h3
  ·exact h4
  exact ih e.on h5 (by omega) h4 j h3
theorem aH6 {ms : List Nat} {l : List Oper} (hm : aq2 ms l = true) (hb : U8 l.toArray = true) {B : Nat -> Bool} (hc : aN2 l B) {i : Nat} {o : Oper} (ho : l[i]? = some o) (hr : ∀ e ∈ o.after, Region.binds .any e = true -> B e.on = true) {j : Nat} (hj : bef ms j i = true) : B j = true := by
 have hi := (a12.1 ho).1
 have h1 := a19.1 hm i (List.mem_range.2 hi)
 rw [ho] at h1
 simp only [natEq, beq_iff_eq] at h1
 unfold bef at hj
 rw [h1] at hj
 obtain ⟨e, he, h2, h3⟩ := aj1 hj
 have h5 := al1 hb (show i < l.toArray.size by simpa using hi) (show l.toArray[i]? = some o by simpa using ho) he h2
 rcases h3 with rfl | h3
 ·exact hr e he h2
 exact al0 hm hb hc e.on (by omega) (hr e he h2) j h3
end
section
variable {P : Program} {ι : Type} {φ ψ : Nat -> Prop} {w0 w w' : World} {F : ι -> Rs} {ρ : Nat -> Value} {S : Nat -> It} {N m n : Nat} {ρ0 : Nat -> Value}
theorem aw9 {l : List Oper} {Q : Exit -> Act -> World -> Prop} (I : Array Bool -> Act -> World -> Prop) (hb : U8 l.toArray = true)
  (step : ∀ listed a w, I listed a w -> ∀ i o, l[i]? = some o -> listed.getD i true = false -> (∀ e ∈ o.after, Region.binds .any e = true -> listed.getD e.on false = true) ->
   ∀ Q' : Exit -> Act -> World -> Prop, (∀ a w, I (listed.setIfInBounds i true) a w -> Q' .normal a w) -> wpList P l.toArray Q' [o] a w)
  (done : ∀ listed a w, I listed a w -> (∀ j, j < l.length -> listed.getD j true = true) -> Q .normal a w) :
  ∀ (fuel : Nat) (listed : Array Bool) (a : Act) (w : World), listed.size = l.toArray.size -> listed.toList.count false = fuel -> I listed a w -> wpAny P .any l.toArray Q fuel listed a w := by
 have hfin : ∀ (listed : Array Bool) (a : Act) (w : World), listed.size = l.toArray.size -> Region.ready .any l.toArray listed = [] -> I listed a w -> Q .normal a w := by
  intro listed a w hsz hr hI
  refine done listed a w hI fun j hj => ?_
  cases hl : listed.getD j true
  ·exact absurd hr (as6 hb hsz j (by simpa using hj) hl)
  rfl
 intro fuel
 induction fuel with
 | zero =>
  intro listed a w hsz hc hI
  have hr : Region.ready .any l.toArray listed = [] := by
   rw [List.eq_nil_iff_forall_not_mem]
   intro j hj
   have := aa8 (mem_ready.1 hj).1
   omega
  exact ⟨hr, hfin listed a w hsz hr hI⟩
 | succ f ih =>
  intro listed a w hsz hc hI
  refine ⟨fun hr => hfin listed a w hsz hr hI, fun i hi => ?_⟩
  obtain ⟨h1, o, ho, h2⟩ := mem_ready.1 hi
  have ho' : l[i]? = some o := by simpa using ho
  have hcl := aa8 h1
  have hs := step listed a w hI i o ho' h1 h2 (fun e a w => e = .normal /\ I (listed.setIfInBounds i true) a w) fun a w h => ⟨rfl, h⟩
  unfold wpOp
  rw [ho]
  simp only
  unfold wpList at hs
  split
  ·rename_i hw
   rw [if_pos hw] at hs
   rcases hs with hs | ⟨_, a, w, he, _⟩
   ·exact .inl (aE3 (fun _ _ _ h => h.1) (Oper.wp_mono (fun a' w' h => ih _ a' w' (by simpa using hsz) (by omega) h.2) hs))
   cases he
  rename_i hw
  rw [if_neg hw] at hs
  exact ih _ _ _ (by simpa using hsz) (by omega) hs.2
theorem ag6 {id : Nat} {l : List Oper} {Q : Exit -> Act -> World -> Prop} {a : Act} {w : World} (I : Array Bool -> Act -> World -> Prop) (hm : P.follows .mixedOrders = true) (hb : U8 l.toArray = true)
  (h0 : I (Array.replicate l.length false) a w.drew)
  (step : ∀ listed a w, I listed a w -> ∀ i o, l[i]? = some o -> listed.getD i true = false -> (∀ e ∈ o.after, Region.binds .any e = true -> listed.getD e.on false = true) ->
   ∀ Q' : Exit -> Act -> World -> Prop, (∀ a w, I (listed.setIfInBounds i true) a w -> Q' .normal a w) -> wpList P l.toArray Q' [o] a w)
  (done : ∀ listed a w, I listed a w -> (∀ j, j < l.length -> listed.getD j true = true) -> Q .normal a w) : (Code.region id l.toArray true).wp P Q a w :=
 wp_region_any hm (aw9 I hb step done _ _ _ _ (by simp) (by simp) (by simpa using h0))
def RI (φ ψ : Nat -> Prop) (w0 : World) (F : ι -> Rs) (N m : Nat) (ρ0 : Nat -> Value) (l : List Oper) (az : List Ac) (tm : Nat -> Option AV) (S : Nat -> It) (listed : Array Bool) (a : Act) (w : World) : Prop :=
 listed.size = l.length /\ aN2 l (fun j => listed.getD j false) /\ ∃ ρ, (∀ i, i < m -> ρ i = ρ0 i) /\ a.tmps.size = N /\ a.defers = [] /\ (∀ t x, tmD az (fun j => listed.getD j false) tm t = some x -> a.tmps[t]? = some (x.val ρ)) /\ n6 φ ψ w0 w (s6 F ρ (sD az (fun j => listed.getD j false) S))
theorem ay8 {ms : List Nat} {az : List Ac} (h : aT4 ms az = true) {i j : Nat} {a b : Ac} (ha : az[i]? = some a) (hb : az[j]? = some b) (hij : i ≠ j) (hm : T1 a b = true) : (j < i -> bef ms j i = true) /\ (i < j -> bef ms i j = true) := by
 have hi := (a12.1 ha).1
 have hj := (a12.1 hb).1
 have h1 := a19.1 (a19.1 h i (List.mem_range.2 hi)) j (List.mem_range.2 hj)
 rw [ha, hb] at h1
 have hne : natEq i j = false := by simp [natEq, hij]
 simp only [hne, hm, Bool.not_true, Bool.false_or] at h1
 constructor
 ·intro hlt; rw [if_pos (by simpa using hlt)] at h1; exact h1
 intro hlt; rw [if_neg (by simp; omega)] at h1; exact h1
theorem aC8 {ms : List Nat} {n0 : Nat} {az : List Ac} (h : aK5 ms n0 az = true) {i : Nat} {a : Ac} (ha : az[i]? = some a) : ∀ id, (id ∈ a.t.res.ids \/ id ∈ a.t.new.map (·.1) \/ ∃ p ∈ a.t.new, id ∈ p.2.ids) -> id < n0 \/ (id - n0) / 8 = i \/ bef ms ((id - n0) / 8) i = true := by
 intro id hid
 have hi := (a12.1 ha).1
 have h1 := a19.1 h i (List.mem_range.2 hi)
 rw [ha] at h1
 have h2 := a19.1 h1 id (by
  rcases hid with h | h | ⟨p, hp, h⟩
  ·exact List.mem_append_left _ (List.mem_append_left _ h)
  ·exact List.mem_append_left _ (List.mem_append_right _ h)
  exact List.mem_append_right _ (List.mem_flatMap.2 ⟨p, hp, h⟩))
 simp only [Bool.or_eq_true, decide_eq_true_eq, natEq, beq_iff_eq] at h2
 rcases h2 with (h2 | h2) | h2
 ·exact .inl h2
 ·exact .inr (.inl h2)
 exact .inr (.inr h2)
theorem ao4 {dk : TypeId -> Nat} {H : K6} (hH : ∀ i c τ, G7 H.calls i = some (c, τ) -> c.ok P) (hF : J7 H.facts) {l : List Oper} {id : Nat} {Q : Exit -> Act -> World -> Prop} {tm : List (Nat × AV)} {a : Act} {wr : World} (I0 : Inn φ ψ w0 F N m ρ0 n ρ (C7 tm) S a wr) {r : RS} (hrun : N0 P dk N l H l 0 tm S n = some r) (ho : v8 r.obs) (heq : r.acts.map (·.eqs.1) = r.acts.map (·.eqs.2)) (hew : r.acts.map (·.eqw.1) = r.acts.map (·.eqw.2))
  (ms : List Nat) (hm : P.follows .mixedOrders = true) (hb : U8 l.toArray = true) (hms : aq2 ms l = true) (hord : aT4 ms r.acts = true) (hment : aK5 ms n r.acts = true) (hweak : aH8 ms S r.acts = true)
  (done : ∀ ρ' a' w' n', Inn φ ψ w0 F N m ρ0 n' ρ' (C7 r.tm) r.S a' w' -> Q .normal a' w') : (Code.region id l.toArray true).wp P Q a wr := by
 obtain ⟨hlen, hfT, hfS, hat⟩ := aC2 l 0 n hrun ho
 have hmt : ∀ (i : Nat) ac, r.acts[i]? = some ac -> ∀ t b, b.dst = some t -> t ∈ ac.rt -> T1 ac b = true := fun i ac _ t b hb ht => by
  simp [T1, hb, s8.2 ht]
 have hmd : ∀ ac b t, ac.dst = some t -> b.dst = some t -> T1 ac b = true := fun ac b t h1 h2 => by
  simp [T1, h1, h2, natEq]
 have hms' : ∀ (ac b : Ac) (j : Nat), j ∈ ac.ri -> j ∈ b.t.new.map (·.1) -> T1 ac b = true := fun ac b j h1 h2 => by
  obtain ⟨p, hp, rfl⟩ := List.mem_map.1 h2
  unfold T1
  have : b.t.new.any (fun p => memN p.1 ac.ri || ac.t.new.any fun q => natEq q.1 p.1) = true := List.any_eq_true.2 ⟨p, hp, by simp [s8.2 h1]⟩
  rw [this]; simp
 have hmn : ∀ (ac b : Ac) (j : Nat), j ∈ ac.t.new.map (·.1) -> j ∈ b.t.new.map (·.1) -> T1 ac b = true := fun ac b j h1 h2 => by
  obtain ⟨p, hp, rfl⟩ := List.mem_map.1 h2
  obtain ⟨q, hq, e⟩ := List.mem_map.1 h1
  unfold T1
  have : b.t.new.any (fun p => memN p.1 ac.ri || ac.t.new.any fun q => natEq q.1 p.1) = true := List.any_eq_true.2 ⟨p, hp, by
   have : ac.t.new.any (fun q => natEq q.1 p.1) = true := List.any_eq_true.2 ⟨q, hq, by simp [natEq, e]⟩
   rw [this]; simp⟩
  rw [this]; simp
 refine ag6 (RI φ ψ w0 F N m ρ0 l r.acts (C7 tm) S) hm hb ?_ ?_ ?_
 ·refine ⟨by simp, fun j o _ hj => ?_, ρ, I0.old, I0.size, I0.defs, fun t x hx => ?_, ?_⟩
  ·have hj' : (Array.replicate l.length false).getD j false = true := hj
   rw [getD_replicate_false] at hj'; cases hj'
  ·refine I0.tmv t x ?_
   rw [<- hx]
   exact (P0 fun j b _ _ => getD_replicate_false _ _).symm
  have e : sD r.acts (fun j => (Array.replicate l.length false).getD j false) S = S := by
   funext j; exact P0 fun j b _ _ => getD_replicate_false _ _
  rw [e]; exact I0.mem.drew
 ·rintro listed a w ⟨hsz, hdn, ρ, hold, hN, hdf, hv, M⟩ i o hoi hun hdep Q' hQ
  generalize hB : (fun j => listed.getD j false) = B at *
  have hBj : ∀ j, B j = listed.getD j false := fun j => by rw [<- hB]
  have hil := (a12.1 hoi).1
  have hBi : B i = false := by
   rw [hBj, <- aD4 (by omega)]; exact hun
  obtain ⟨ac, ob, hac, hob, hop⟩ := hat i o hoi
  simp only [a45] at hop
  have heqi : ac.eqs.1 = ac.eqs.2 := by
   have := congrArg (·[i]?) heq
   simpa [hac] using this
  have hewi : ac.eqw.1 = ac.eqw.2 := by
   have := congrArg (·[i]?) hew
   simpa [hac] using this
  obtain ⟨hdst, hdN, hfine⟩ := aq1 hop
  obtain ⟨hf1, hf2, hf3⟩ := S6 hfine
  have hdep' : ∀ e ∈ o.after, Region.binds .any e = true -> B e.on = true := fun e he hbi => by rw [hBj]; exact hdep e he hbi
  have ahead : ∀ j, bef ms j i = true -> B j = true := fun j hj => aH6 hms hb hdn hoi hdep' hj
  have behind : ∀ j, j < l.length -> bef ms i j = true -> B j = false := fun j hjl hj => by
   cases h : B j
   ·rfl
   have := al0 hms hb hdn j hjl h i hj
   rw [hBi] at this; cases this
  have hagree : ∀ (j : Nat) b, r.acts[j]? = some b -> T1 ac b = true -> B j = decide (j < i) := fun j b hj hmm => by
   have hjl : j < l.length := by have := (a12.1 hj).1; omega
   rcases Nat.lt_trichotomy j i with h | h | h
   ·rw [ahead j ((ay8 hord hac hj (by omega) hmm).1 h)]; simp [h]
   ·subst h; rw [hBi]; simp
   rw [behind j hjl ((ay8 hord hac hj (by omega) hmm).2 h)]
   have : ¬ j < i := by omega
   simp [this]
  have hop2 := aF5 hop (tm' := tmD r.acts B (C7 tm)) (S' := sD r.acts B S) (fun t ht => K9 fun j b hj hw => by
    rw [a45]
    refine hagree j b hj (hmt i ac hac t b ?_ ht)
    unfold wrT at hw
    split at hw
    ·assumption
    cases hw)
   (fun q hq => K9 fun j b hj hw => by
    rw [a45]
    obtain ⟨x, hx⟩ := Option.isSome_iff_exists.1 hw
    exact hagree j b hj (hms' ac b q hq (List.mem_map.2 ⟨_, K5 hx, rfl⟩)))
   (fun q hq => by
    show knd (pf (wrS q) r.acts 0 B (S q)) = _
    rw [aB2 hweak hac hq fun k _ hk => ahead k hk, aB2 hweak hac hq fun k hk _ => by simpa using hk])
  have hrange : ∀ id, n + 8 * i <= id -> id < n + 8 * i + 8 -> (id - n) / 8 = i := fun id h1 h2 => by omega
  have hmk : ∀ j ∈ ac.t.made, sD r.acts B S j = .none := fun j hj => by
   obtain ⟨g1, g2⟩ := hf2 j hj
   have e : sD r.acts B S j = S j := P0 fun k b hk hw => by
    rw [a45]
    obtain ⟨x, hx⟩ := Option.isSome_iff_exists.1 hw
    have hkl : k < l.length := by have := (a12.1 hk).1; omega
    rcases aC8 hment hk j (.inr (.inl (List.mem_map.2 ⟨_, K5 hx, rfl⟩))) with h | h | h
    ·omega
    ·rw [hrange j g1 g2] at h; subst h; exact hBi
    rw [hrange j g1 g2] at h; exact behind k hkl h
   rw [e]; exact (I0.bd j).2 (by omega)
  have hnot : ∀ (k : Nat) b, r.acts[k]? = some b -> B k = true -> ∀ id, (id ∈ b.t.res.ids \/ id ∈ b.t.new.map (·.1) \/ ∃ p ∈ b.t.new, id ∈ p.2.ids) -> id ∉ ac.t.made := fun k b hk hBk id hid hm => by
   obtain ⟨g1, g2⟩ := hf2 id hm
   have hkl : k < l.length := by have := (a12.1 hk).1; omega
   rcases aC8 hment hk id hid with h | h | h
   ·omega
   ·rw [hrange id g1 g2] at h; subst h; rw [hBi] at hBk; cases hBk
   rw [hrange id g1 g2] at h; rw [behind k hkl h] at hBk; cases hBk
  have hitem : ∀ j, ∀ id ∈ (sD r.acts B S j).ids, id ∉ ac.t.made := fun j => by
   refine Z2 (fun x : It => ∀ id ∈ x.ids, id ∉ ac.t.made) (fun id hid hm => ?_) fun k b x hk hBk hw id hid => ?_
   ·have := (I0.bd j).1 id hid; have := (hf2 id hm).1; omega
   rw [a45] at hBk
   exact hnot k b hk hBk id (.inr (.inr ⟨_, K5 hw, hid⟩))
  have htm : ∀ t x, tmD r.acts B (C7 tm) t = some x -> ∀ id ∈ x.ids, id ∉ ac.t.made := fun t => by
   refine Z2 (fun y : Option AV => ∀ x, y = some x -> ∀ id ∈ x.ids, id ∉ ac.t.made) (fun x hx id hid hm => ?_) fun k b y hk hBk hw x hx id hid => ?_
   ·have := I0.tmi t x hx id hid; have := (hf2 id hm).1; omega
   rw [a45] at hBk
   unfold wrT at hw
   split at hw
   ·cases hw; cases hx
    exact hnot k b hk hBk id (.inl hid)
   cases hw
  have hinv : Y1 (sD r.acts B S) ρ ac.t.made := fun ρ' ha j => by
   refine It.res_congr _ (fun id hid => ha id (hitem j id hid)) ?_
   by_cases hj : j ∈ ac.t.made
   ·exact .inl (hmk j hj)
   exact .inr (.inr (ha j hj))
  refine aP2 hH hF hv M hop2 hob heqi hewi hmk hinv fun ρ' w' ha M' => ?_
  refine hQ _ _ ?_
  have hB' : ∀ j, (listed.setIfInBounds i true).getD j false = if j = i then true else B j := fun j => by
   by_cases e : j = i
   ·subst e
    have : j < listed.size := by omega
    simp [this]
   rw [if_neg e, getD_set_ne false (fun h => e h.symm), hBj]
  have hBe : (fun j => (listed.setIfInBounds i true).getD j false) = fun j => if j = i then true else B j := funext hB'
  have later : ∀ (j : Nat) b, i < j -> r.acts[j]? = some b -> T1 ac b = true -> (if j = i then true else B j) = false := fun j b hij hj hmm => by
   have hjl : j < l.length := by have := (a12.1 hj).1; omega
   rw [if_neg (by omega)]
   exact behind j hjl ((ay8 hord hac hj (by omega) hmm).2 hij)
  have eT : tmD r.acts (fun j => if j = i then true else B j) (C7 tm) = al6 ac.dst ac.t.res (tmD r.acts B (C7 tm)) := by
   funext t
   simp only [al6]
   by_cases e : ac.dst = some t
   ·rw [if_pos e]
    refine ap9 (i := i) hac (by simp [wrT, e]) (by simp) fun j b hij hj hw => ?_
    rw [a45]
    refine later j b hij hj (hmd ac b t e ?_)
    unfold wrT at hw
    split at hw
    ·assumption
    cases hw
   rw [if_neg e]
   refine K9 fun j b hj hw => ?_
   have : j ≠ i := fun h => by
    subst h
    rw [hac] at hj; cases hj
    simp [wrT, e] at hw
   simp [this]
  have eS : sD r.acts (fun j => if j = i then true else B j) S = p6 (sD r.acts B S) ac.t.new := by
   funext q
   rw [ab7]
   cases hx : aj9 ac.t.new q with
   | some x =>
    refine ap9 (i := i) hac hx (by simp) fun j b hij hj hw => ?_
    rw [a45]
    obtain ⟨y, hy⟩ := Option.isSome_iff_exists.1 hw
    exact later j b hij hj (hmn ac b q (List.mem_map.2 ⟨_, K5 hx, rfl⟩) (List.mem_map.2 ⟨_, K5 hy, rfl⟩))
   | none =>
    refine K9 fun j b hj hw => ?_
    have : j ≠ i := fun h => by
     subst h
     rw [hac] at hj; cases hj
     unfold wrS at hw
     rw [hx] at hw; cases hw
    simp [this]
  refine ⟨by simpa using hsz, ?_, ρ', fun j hj => (ha j fun hm => by have := (hf2 j hm).1; have := I0.le; omega).trans (hold j hj), (at5 _ _ _).trans hN, (at6 _ _ _).trans hdf, ?_, ?_⟩
  ·rw [hBe]
   intro j oj hj hBj' e he hbi
   show (if e.on = i then true else B e.on) = true
   by_cases e1 : e.on = i
   ·simp [e1]
   rw [if_neg e1]
   by_cases e2 : j = i
   ·subst e2
    rw [hoi] at hj; cases hj
    exact hdep' e he hbi
   simp only [if_neg e2] at hBj'
   exact hdn j oj hj hBj' e he hbi
  ·rw [hBe, eT, hdst]
   intro t x hx
   rw [aJ8 (by rw [hN]; exact hdN)]
   simp only [al6] at hx
   split
   ·rename_i e; rw [if_pos e] at hx; cases hx; rfl
   rename_i e
   rw [if_neg e] at hx
   rw [hv t x hx, AV.val_congr x fun id hid => ha id (htm t x hx id hid)]
  rw [hBe, eS]; exact M'
 rintro listed a w ⟨hsz, hdn, ρ, hold, hN, hdf, hv, M⟩ hall
 have hall' : ∀ j, j < l.length -> listed.getD j false = true := fun j hj => by rw [<- aD4 (by omega)]; exact hall j hj
 have eT : tmD r.acts (fun j => listed.getD j false) (C7 tm) = C7 r.tm := by
  funext t
  rw [hfT t]
  refine K9 fun j b hj _ => ?_
  rw [a45]
  exact hall' j (by have := (a12.1 hj).1; omega)
 have eS : sD r.acts (fun j => listed.getD j false) S = r.S := by
  funext q
  rw [hfS q]
  refine K9 fun j b hj _ => ?_
  rw [a45]
  exact hall' j (by have := (a12.1 hj).1; omega)
 have hids : ∀ (k : Nat) b, r.acts[k]? = some b -> ∀ id, (id ∈ b.t.res.ids \/ id ∈ b.t.new.map (·.1) \/ ∃ p ∈ b.t.new, id ∈ p.2.ids) -> id < n + 8 * l.length := fun k b hk id hid => by
  have hkl : k < l.length := by have := (a12.1 hk).1; omega
  obtain ⟨o, ho'⟩ : ∃ o, l[k]? = some o := ⟨_, a02 hkl⟩
  obtain ⟨ac, ob, hac, _, hop⟩ := hat k o ho'
  rw [hk] at hac; cases hac
  obtain ⟨_, _, hfine⟩ := aq1 hop
  obtain ⟨hf1, hf2, hf3⟩ := S6 hfine
  rcases hid with h | h | ⟨p, hp, h⟩
  ·have := hf3 id h; omega
  ·obtain ⟨p, hp, rfl⟩ := List.mem_map.1 h
   have := (hf1 p hp).1; omega
  have := (hf1 p hp).2 id h; omega
 refine done ρ a w (n + 8 * l.length) ⟨hN, hdf, by rw [<- eT]; exact hv, fun t x hx => ?_, fun j => ?_, by rw [<- eS]; exact M, by have := I0.le; omega, hold⟩
 ·rw [hfT t] at hx
  revert x
  refine Z2 (fun y : Option AV => ∀ x, y = some x -> ∀ id ∈ x.ids, id < n + 8 * l.length) (fun x hx id hid => ?_) fun k b y hk _ hw x hx id hid => ?_
  ·have := I0.tmi t x hx id hid; omega
  unfold wrT at hw
  split at hw
  ·cases hw; cases hx
   exact hids k b hk id (.inl hid)
  cases hw
 refine ⟨?_, fun hj => ?_⟩
 ·rw [hfS j]
  refine Z2 (fun x : It => ∀ id ∈ x.ids, id < n + 8 * l.length) (fun id hid => ?_) fun k b x hk _ hw id hid => ?_
  ·have := (I0.bd j).1 id hid; omega
  exact hids k b hk id (.inr (.inr ⟨_, K5 hw, hid⟩))
 rw [hfS j, P0 fun k b hk hw => ?_]
 ·exact (I0.bd j).2 (by omega)
 obtain ⟨x, hx⟩ := Option.isSome_iff_exists.1 hw
 have := hids k b hk j (.inr (.inl (List.mem_map.2 ⟨_, K5 hx, rfl⟩)))
 omega
end
def E6 {ι : Type} (φ ψ : Nat -> Prop) (w0 : World) (F : ι -> Rs) (N m : Nat) (ρ0 ρ : Nat -> Value) (S : List It) (tm : List (Nat × AV)) (a : Act) (w : World) : Prop := Inn φ ψ w0 F N m ρ0 S.length ρ (C7 tm) (D4 S) a w
def wfB (S : List It) (tm : List (Nat × AV)) : Bool := S.all (fun x => T2 S.length x.ids) && tm.all (fun p => T2 S.length p.2.ids)
def aW1 (m : Nat) (js : List Nat) : Bool := (a25 m).all fun i => natEq (nth js i) i && decide (i < js.length)
def V8 (m : Nat) (js : List Nat) (S : List It) (tm : List (Nat × AV)) : Bool := nodupB js && natEq js.length S.length && wfB S tm && aW1 m js
section
variable {P : Program} {ι : Type} {φ ψ : Nat -> Prop} {w0 w w' : World} {F : ι -> Rs} {ρ ρ0 : Nat -> Value} {N m n : Nat} {S : List It} {tm : List (Nat × AV)} {a : Act} {Q : Exit -> Act -> World -> Prop}
theorem aj4 : ∀ {tm : List (Nat × AV)} {t : Nat} {x : AV}, C7 tm t = some x -> (t, x) ∈ tm
 | [], _, _, h => by cases h
 | (k, y) :: r, t, x, h => by
  simp only [C7, natEq, beq_iff_eq] at h
  split at h
  ·rename_i e; subst e; cases h; exact a22
  exact a28 _ (aj4 h)
theorem aK6 {l : List It} {i : Nat} (h : i < l.length) : D4 l i = l[i] := by simp [D4, a06, h]
theorem aq4 {l : List It} {i : Nat} (h : l.length <= i) : D4 l i = .none := by simp [D4, a06, h]
theorem aR1 {S : List It} {tm : List (Nat × AV)} (h : wfB S tm = true) : (∀ j, (∀ id ∈ (D4 S j).ids, id < S.length) /\ (S.length <= j -> D4 S j = .none)) /\ ∀ t x, C7 tm t = some x -> ∀ id ∈ x.ids, id < S.length := by
 simp only [wfB, a05] at h
 refine ⟨fun j => ⟨fun id hid => ?_, fun hj => aq4 hj⟩, fun t x hx id hid => ?_⟩
 ·rcases Nat.lt_or_ge j S.length with hj | hj
  ·rw [aK6 hj] at hid
   exact G5 (a19.1 h.1 _ (a11 hj)) id hid
  rw [aq4 hj] at hid; cases hid
 exact G5 (a19.1 h.2 _ (aj4 hx)) id hid
theorem Inn.sel {tf : Nat -> Option AV} {Sf : Nat -> It} (I : Inn φ ψ w0 F N m ρ0 n ρ tf Sf a w) (js : List Nat) (S1 : List It) (tm1 : List (Nat × AV)) (hb : V8 m js S1 tm1 = true) (hS : js.map Sf = S1.map (It.ren (nth js))) (ht : (tm1.map (·.1)).map tf = tm1.map fun p => some (p.2.ren (nth js))) :
  E6 φ ψ w0 F N m ρ0 (fun i => ρ (nth js i)) S1 tm1 a w := by
 simp only [V8, a05, natEq, beq_iff_eq] at hb
 obtain ⟨⟨⟨hnd, hl⟩, hwf⟩, hkeep⟩ := hb
 have hn := ai8 hnd
 obtain ⟨b1, b2⟩ := aR1 hwf
 have hk : ∀ i, i < m -> nth js i = i /\ i < js.length := fun i hi => by
  have := a19.1 hkeep i (List.mem_range.2 hi)
  simpa [natEq] using this
 refine ⟨I.size, I.defs, fun t x hx => ?_, b2, b1, ?_, ?_, fun i hi => ?_⟩
 ·obtain ⟨i, hi⟩ := List.mem_iff_getElem?.1 (aj4 hx)
  have h1 := congrArg (·[i]?) ht
  simp only [a26, hi, a30] at h1
  rw [I.tmv t _ (Option.some.inj h1), AV.val_ren]
 ·refine I.mem.map (fun k : ι ⊕ Nat => (match k with | .inl i => some (.inl i) | .inr i => if i < js.length then some (.inr (nth js i)) else none : Option (ι ⊕ Nat))) ?_ ?_
  ·intro k k' x h1 h2
   match k, k' with
   | .inl i, .inl i' => simp at h1 h2; rw [<- h1] at h2; simpa using h2.symm
   | .inl i, .inr j => simp only at h1 h2; cases h1; split at h2 <;> simp at h2
   | .inr j, .inl i => simp only at h1 h2; cases h2; split at h1 <;> simp at h1
   | .inr j, .inr j' =>
    simp at h1 h2
    obtain ⟨f1, f2⟩ := h1
    obtain ⟨g1, g2⟩ := h2
    rw [<- f2] at g2
    have hj := Sum.inr.inj g2
    have e1 := a02 f1
    have e2 := a02 g1
    rw [I2 e2, I2 e1] at hj
    have := (List.getElem?_inj f1 hn).1 (e1.trans (by rw [<- hj]; exact e2.symm))
    rw [this]
  intro k
  match k with
  | .inl i => exact .inl ⟨_, rfl, rfl⟩
  | .inr i =>
   by_cases hlt : i < js.length
   ·refine .inl ⟨.inr (nth js i), by simp [hlt], ?_⟩
    have h1 := congrArg (·[i]?) hS
    have hlt' : i < S1.length := by omega
    simp only [a26, a02 hlt, a02 hlt', a30, Option.some.injEq] at h1
    simp only [s6]
    rw [aK6 hlt', I2 (a02 hlt), h1, <- It.res_ren, I2 (a02 hlt)]
   refine .inr ?_
   simp only [s6]
   rw [aq4 (by omega)]
   rfl
 ·rcases Nat.lt_or_ge S1.length m with h | h
  ·have := (hk S1.length h).2; omega
  exact h
 rw [(hk i hi).1]; exact I.old i hi
def at8 (o : Option RS) (js ts : List Nat) : Option (List Prop × List It × List (Option AV) × List (List (List AV × List It)) × List (List AV)) := o.map fun r => (r.obs, js.map r.S, ts.map (C7 r.tm), r.acts.map (·.eqs.1), r.acts.map (·.eqw.1))
def ay7 (o : Option RS) (obs : List Prop) (js : List Nat) (S : List It) (tm : List (Nat × AV)) : Option (List Prop × List It × List (Option AV) × List (List (List AV × List It)) × List (List AV)) := o.map fun r => (obs, S.map (It.ren (nth js)), tm.map (fun p => some (p.2.ren (nth js))), r.acts.map (·.eqs.2), r.acts.map (·.eqw.2))
def aD7 (l : List Oper) (ms : List Nat) (n : Nat) (S : Nat -> It) (o : Option RS) : Bool := aq2 ms l && U8 l.toArray && match o with
 | some r => aT4 ms r.acts && aK5 ms n r.acts && aH8 ms S r.acts
 | none => false
theorem aT0 {dk : TypeId -> Nat} {l : List Oper} {id : Nat} (G : E6 φ ψ w0 F N m ρ0 ρ S tm a w) (H : K6) (hH : ∀ i c τ, G7 H.calls i = some (c, τ) -> c.ok P) (hF : J7 H.facts) (js : List Nat) (S1 : List It) (tm1 : List (Nat × AV)) (obs : List Prop)
  (hs : ((N0 P dk N l H l 0 tm (D4 S) S.length).isSome && V8 m js S1 tm1) = true)
  (hc : at8 (N0 P dk N l H l 0 tm (D4 S) S.length) js (tm1.map (·.1)) = ay7 (N0 P dk N l H l 0 tm (D4 S) S.length) obs js S1 tm1)
  (ho : v8 obs) (k : ∀ ρ' a' w', E6 φ ψ w0 F N m ρ0 ρ' S1 tm1 a' w' -> Q .normal a' w') : (Code.region id l.toArray false).wp P Q a w := by
 simp only [a05] at hs
 obtain ⟨r, hr⟩ := Option.isSome_iff_exists.1 hs.1
 rw [hr] at hc
 simp only [at8, ay7, a30, Option.some.injEq, Prod.mk.injEq] at hc
 obtain ⟨h1, h2, h3, h4, h5⟩ := hc
 refine wp_region_lit (aC1 hH hF l 0 S.length G hr (by rw [h1]; exact ho) h4 h5 fun ρ' a' w' n' I => ?_)
 exact k _ a' w' (I.sel js S1 tm1 hs.2 h2 h3)
theorem aO6 {dk : TypeId -> Nat} {l : List Oper} {id : Nat} (G : E6 φ ψ w0 F N m ρ0 ρ S tm a w) (H : K6) (hH : ∀ i c τ, G7 H.calls i = some (c, τ) -> c.ok P) (hF : J7 H.facts) (ms : List Nat) (js : List Nat) (S1 : List It) (tm1 : List (Nat × AV)) (obs : List Prop) (hm : P.follows .mixedOrders = true)
  (hs : (aD7 l ms S.length (D4 S) (N0 P dk N l H l 0 tm (D4 S) S.length) && V8 m js S1 tm1) = true)
  (hc : at8 (N0 P dk N l H l 0 tm (D4 S) S.length) js (tm1.map (·.1)) = ay7 (N0 P dk N l H l 0 tm (D4 S) S.length) obs js S1 tm1)
  (ho : v8 obs) (k : ∀ ρ' a' w', E6 φ ψ w0 F N m ρ0 ρ' S1 tm1 a' w' -> Q .normal a' w') : (Code.region id l.toArray true).wp P Q a w := by
 simp only [a05, aD7] at hs
 obtain ⟨⟨⟨q1, q2⟩, q3⟩, q4⟩ := hs
 cases hr : N0 P dk N l H l 0 tm (D4 S) S.length with
 | none => rw [hr] at q3; cases q3
 | some r =>
  rw [hr] at q3 hc
  simp only [a05] at q3
  simp only [at8, ay7, a30, Option.some.injEq, Prod.mk.injEq] at hc
  obtain ⟨h1, h2, h3, h4, h5⟩ := hc
  refine ao4 hH hF G hr (by rw [h1]; exact ho) h4 h5 ms hm q2 q1 q3.1.1 q3.1.2 q3.2 fun ρ' a' w' n' I => ?_
  exact k _ a' w' (I.sel js S1 tm1 q4 h2 h3)
theorem rs1 {dk : TypeId -> Nat} {l : List Oper} {id : Nat} (G : E6 φ ψ w0 F N m ρ0 ρ S tm a w) (H : K6) (hH : ∀ i c τ, G7 H.calls i = some (c, τ) -> c.ok P) (hF : J7 H.facts) (js : List Nat) (S1 : List It) (tm1 : List (Nat × AV)) (obs : List Prop)
  (ho : v8 obs) (k : ∀ ρ' a' w', E6 φ ψ w0 F N m ρ0 ρ' S1 tm1 a' w' -> Q .normal a' w')
  (hs : ((N0 P dk N l H l 0 tm (D4 S) S.length).isSome && V8 m js S1 tm1) = true := by kernel_rfl)
  (hc : at8 (N0 P dk N l H l 0 tm (D4 S) S.length) js (tm1.map (·.1)) = ay7 (N0 P dk N l H l 0 tm (D4 S) S.length) obs js S1 tm1 := by kernel_rfl) : (Code.region id l.toArray false).wp P Q a w := aT0 G H hH hF js S1 tm1 obs hs hc ho k
theorem rd1 {dk : TypeId -> Nat} {l : List Oper} {id : Nat} (G : E6 φ ψ w0 F N m ρ0 ρ S tm a w) (H : K6) (hH : ∀ i c τ, G7 H.calls i = some (c, τ) -> c.ok P) (hF : J7 H.facts) (ms : List Nat) (js : List Nat) (S1 : List It) (tm1 : List (Nat × AV)) (obs : List Prop)
  (ho : v8 obs) (k : ∀ ρ' a' w', E6 φ ψ w0 F N m ρ0 ρ' S1 tm1 a' w' -> Q .normal a' w') (hm : P.follows .mixedOrders = true := by kernel_rfl)
  (hs : (aD7 l ms S.length (D4 S) (N0 P dk N l H l 0 tm (D4 S) S.length) && V8 m js S1 tm1) = true := by kernel_rfl)
  (hc : at8 (N0 P dk N l H l 0 tm (D4 S) S.length) js (tm1.map (·.1)) = ay7 (N0 P dk N l H l 0 tm (D4 S) S.length) obs js S1 tm1 := by kernel_rfl) : (Code.region id l.toArray true).wp P Q a w := aO6 G H hH hF ms js S1 tm1 obs hm hs hc ho k
theorem V6 : ∀ i c τ, G7 [] i = some (c, τ) -> B5.ok P c := fun i c τ h => by cases h
theorem ak4 {i0 : Nat} {c0 : B5} {τ0 : List Nat} {r : List (Nat × B5 × List Nat)} (h0 : c0.ok P) (hr : ∀ i c τ, G7 r i = some (c, τ) -> B5.ok P c) : ∀ i c τ, G7 ((i0, c0, τ0) :: r) i = some (c, τ) -> B5.ok P c := fun i c τ h => by
 simp only [G7] at h
 split at h
 ·cases h; exact h0
 exact hr i c τ h
theorem E6.sel (G : E6 φ ψ w0 F N m ρ0 ρ S tm a w) (js : List Nat) (S1 : List It) (tm1 : List (Nat × AV)) (hb : V8 m js S1 tm1 = true) (hS : js.map (D4 S) = S1.map (It.ren (nth js))) (ht : (tm1.map (·.1)).map (C7 tm) = tm1.map fun p => some (p.2.ren (nth js))) : ∃ ρ', E6 φ ψ w0 F N m ρ0 ρ' S1 tm1 a w := ⟨_, Inn.sel G js S1 tm1 hb hS ht⟩
theorem E6.as (G : E6 φ ψ w0 F N m ρ0 ρ S tm a w) (S1 : List It) (tm1 : List (Nat × AV)) (hS : S = S1) (ht : tm = tm1) : E6 φ ψ w0 F N m ρ0 ρ S1 tm1 a w := by subst hS; subst ht; exact G
theorem E6.at (G : E6 φ ψ w0 F N m ρ0 ρ S tm a w) (S1 : List It) (tm1 : List (Nat × AV)) (hS : S = S1 := by kernel_rfl) (ht : tm = tm1 := by kernel_rfl) : E6 φ ψ w0 F N m ρ0 ρ S1 tm1 a w := G.as S1 tm1 hS ht
theorem Z0 {c : Nat} {x y : Code} (G : E6 φ ψ w0 F N m ρ0 ρ S tm a w) (b : Bool) (hc : C7 tm c = some (.v (.bool b))) (ht : b = true -> x.wp P Q a w) (hf : b = false -> y.wp P Q a w) : (Code.cond (.tmp c) x y).wp P Q a w := by
 have h := G.tmv c _ hc
 refine wp_cond_split (t := b) ?_ ht hf
 simp [Act.eval, Array.getD_eq_getD_getElem?, h, AV.val]
theorem aJ3 {c : Nat} {x y : Code} (G : E6 φ ψ w0 F N m ρ0 ρ S tm a w) (b : Bool) (hc : C7 tm c = some (.v (.bool b))) (hb : b = true) (h : x.wp P Q a w) : (Code.cond (.tmp c) x y).wp P Q a w := Z0 G b hc (fun _ => h) fun hf => by rw [hb] at hf; cases hf
theorem aJ4 {c : Nat} {x y : Code} (G : E6 φ ψ w0 F N m ρ0 ρ S tm a w) (b : Bool) (hc : C7 tm c = some (.v (.bool b))) (hb : b = false) (h : y.wp P Q a w) : (Code.cond (.tmp c) x y).wp P Q a w := Z0 G b hc (fun ht => by rw [hb] at ht; cases ht) fun _ => h
def ay3 (P : Program) (tm : Nat -> Option AV) (S : Nat -> It) : List ResultVar -> Option (List AV)
 | [] => some []
 | .tmp t :: r =>
  match tm t, ay3 P tm S r with
  | some x, some l => some (x :: l)
  | _, _ => none
 | .cell t ty :: r =>
  match tm t, ay3 P tm S r with
  | some (.ptr b off), some l =>
   match S b with
   | .box cs => (aw3 P ty ((cs.drop off).take (ad8 P ty))).map fun x => x :: l
   | _ => none
  | _, _ => none
def ay4 (P : Program) (fn : Func) (tm : List (Nat × AV)) (S : List It) : Option AV :=
 match ay3 P (C7 tm) (D4 S) fn.results.toList with
 | some [x] => some x
 | some l => some (.tup l)
 | none => none
theorem aM9 {cs : List AV} {ty : TypeId} {b off : Nat} {x : AV} (hB : O2 w b (AV.vals ρ cs)) (h : aw3 P ty ((cs.drop off).take (ad8 P ty)) = some x) : (loadVar ty ⟨b, off, none⟩).run P w = .ok (x.val ρ) w :=
 V7 h ⟨b, off, none⟩ fun j u hj => by
  rw [AV.vals_take, AV.vals_drop] at hj
  have hadd : (⟨b, off, none⟩ : Addr).add j = ⟨b, off + j, none⟩ := by unfold Addr.add; split <;> simp_all
  rw [hadd, hB.cell]
  rw [List.getElem?_take] at hj
  split at hj
  ·rw [List.getElem?_drop] at hj; exact hj
  cases hj
theorem ap5 (G : E6 φ ψ w0 F N m ρ0 ρ S tm a w) : ∀ {rs : List ResultVar} {l : List AV}, ay3 P (C7 tm) (D4 S) rs = some l ->
  (rs.mapM (fun r => (match r with | .tmp t => pure (a.tmps.getD t undef) | .cell b t => do loadVar t (<- asAddr (a.tmps.getD b undef)) : Sem Value))).run P w = .ok (AV.vals ρ l) w
 | [], l, h => by cases h; simp [AV.vals]
 | .tmp t :: r, l, h => by
  simp only [ay3] at h
  split at h
  case h_2 => cases h
  rename_i x l' h1 h2
  cases h
  have ht := G.tmv t x h1
  have ih := ap5 G h2
  have e : (pure (a.tmps.getD t undef) : Sem Value).run P w = .ok (x.val ρ) w := by simp [Array.getD_eq_getD_getElem?, ht]
  rw [List.mapM_cons, Sem.run_bind, e, Result.andThen_ok, Sem.run_bind, ih]
  rfl
 | .cell t ty :: r, l, h => by
  simp only [ay3] at h
  split at h
  case h_2 => cases h
  rename_i b off l' h1 h2
  split at h
  case h_2 => cases h
  rename_i cs hS
  obtain ⟨x, h3, h4⟩ := a07.1 h
  subst h4
  have ht := G.tmv t _ h1
  have ih := ap5 G h2
  have hl := aM9 (P := P) (G.mem.boxAt hS) h3
  have e : (do loadVar ty (<- asAddr (a.tmps.getD t undef)) : Sem Value).run P w = .ok (x.val ρ) w := by
   rw [show a.tmps.getD t undef = .pointer (some ⟨L6 (ρ b), off, none⟩) by simp [Array.getD_eq_getD_getElem?, ht, AV.val]]
   simp [asAddr, hl]
  rw [List.mapM_cons, Sem.run_bind, e, Result.andThen_ok, Sem.run_bind, ih]
  rfl
theorem aT1 {fn : Func} {R : Ending -> World -> Prop} {v : AV} (G : E6 φ ψ w0 F N m ρ0 ρ S tm a w) (h : ay4 P fn tm S = some v) (hR : R (.returned (v.val ρ)) w) : bodyPost P fn R .ret a w := by
 refine ⟨G.defs, v.val ρ, ?_, hR⟩
 unfold ay4 at h
 cases hl : ay3 P (C7 tm) (D4 S) fn.results.toList with
 | none => rw [hl] at h; cases h
 | some l =>
  rw [hl] at h
  have := ap5 G hl
  unfold results
  rw [Sem.run_bind, Array.mapM_eq_mapM_toList, Sem.run_map]
  erw [this]
  simp only [Result.andThen_ok, Sem.run_pure]
  match l, h with
  | [], h => cases h; rfl
  | [x], h => cases h; rfl
  | x :: y :: r, h => cases h; rfl
def al2 (i : Nat) : List AV -> List (Nat × AV)
 | [] => []
 | x :: r => (i, x) :: al2 (i + 1) r
theorem aw4 (ρ : Nat -> Value) : ∀ {l : List AV} {i t : Nat} {x : AV}, C7 (al2 i l) t = some x -> i <= t /\ (AV.vals ρ l)[t - i]? = some (x.val ρ)
 | [], _, _, _, h => by cases h
 | y :: r, i, t, x, h => by
  simp only [al2, C7, natEq, beq_iff_eq] at h
  split at h
  ·rename_i e; subst e; cases h; exact ⟨a14 _, by simp [AV.vals]⟩
  obtain ⟨h1, h2⟩ := aw4 ρ h
  refine ⟨by omega, ?_⟩
  rw [show t - i = (t - (i + 1)) + 1 by omega]
  simpa [AV.vals] using h2
def aB1 (φ ψ : Nat -> Prop) (w0 : World) (F : ι -> Rs) (ρ0 : Nat -> Value) (c : B5) (x : Ending) (w' : World) : Prop := ∃ ρ', (∀ i, i < c.pre.length -> ρ' i = ρ0 i) /\ x = .returned (c.res.val ρ') /\ n6 φ ψ w0 w' (s6 F ρ' (D4 c.post))
theorem aJ2 {c : B5} {fn : Func} {code : Code} (N : Nat) (hf : P.funcs[c.f]? = some fn) (hb : fn.body = some code) (hN : fn.ntmps = N) (hw : (wfB c.pre (al2 0 c.args) && decide (c.args.length <= N)) = true)
  (k : ∀ {ι : Type} (φ ψ : Nat -> Prop) (w0 w : World) (F : ι -> Rs) (ρ0 ρ : Nat -> Value) (a : Act), E6 φ ψ w0 F N c.pre.length ρ0 ρ c.pre (al2 0 c.args) a w -> code.wp P (bodyPost P fn (aB1 φ ψ w0 F ρ0 c)) a w) : c.ok P := by
 intro ι φ ψ w0 w F ρ M
 simp only [a05, decide_eq_true_eq] at hw
 obtain ⟨b1, b2⟩ := aR1 hw.1
 refine calls_of_wp hf hb (k φ ψ w0 w F ρ ρ _ ⟨?_, rfl, fun t x hx => ?_, b2, b1, M, a14 _, fun _ _ => rfl⟩)
 ·simp [AV.vals_length, hN]; omega
 obtain ⟨_, h1⟩ := aw4 ρ hx
 rw [Nat.sub_zero] at h1
 have hlt := (a12.1 h1).1
 rw [Array.getElem?_append_left (by simpa using hlt)]
 simpa using h1
theorem ap4 {fn : Func} {c : B5} {v : AV} (G : E6 φ ψ w0 F N c.pre.length ρ0 ρ S tm a w) (js : List Nat) (h : ay4 P fn tm S = some v) (hb : V8 c.pre.length js c.post [] = true) (hS : js.map (D4 S) = c.post.map (It.ren (nth js))) (hv : v = c.res.ren (nth js)) : bodyPost P fn (aB1 φ ψ w0 F ρ0 c) .ret a w := by
 have G1 := Inn.sel G js c.post [] hb hS rfl
 refine aT1 G h ⟨fun i => ρ (nth js i), G1.old, ?_, G1.mem⟩
 rw [hv, AV.val_ren]
theorem b7 {K : Act -> World -> Prop} (h : K a w) : Exit.then K Q .normal a w := h
theorem M4 {K : Act -> World -> Prop} {id : Nat} (h : Q (.exit id) a w) : Exit.then K Q (.exit id) a w := h
theorem s9 {K : Act -> World -> Prop} (h : Q .ret a w) : Exit.then K Q .ret a w := h
theorem G2 {id : Nat} (h : Q .normal a w) : Exit.inBlock id Q .normal a w := h
theorem I5 {id : Nat} (h : Q .ret a w) : Exit.inBlock id Q .ret a w := h
theorem L2 {id : Nat} (h : Q .normal a w) : Exit.inBlock id Q (.exit id) a w := by simp only [Exit.inBlock, if_true]; exact h
theorem w64 {x : Int} (h1 : -9223372036854775808 <= x) (h2 : x <= 9223372036854775807) : IntKind.i64.wrap x = x := IntWalk.i64_in x ⟨h1, h2⟩
theorem rT {c : Nat} {x y : Code} (G : E6 φ ψ w0 F N m ρ0 ρ S tm a w) (b : Bool) (hb : b = true) (h : x.wp P Q a w) (hc : C7 tm c = some (.v (.bool b)) := by kernel_rfl) : (Code.cond (.tmp c) x y).wp P Q a w := aJ3 G b hc hb h
theorem rF {c : Nat} {x y : Code} (G : E6 φ ψ w0 F N m ρ0 ρ S tm a w) (b : Bool) (hb : b = false) (h : y.wp P Q a w) (hc : C7 tm c = some (.v (.bool b)) := by kernel_rfl) : (Code.cond (.tmp c) x y).wp P Q a w := aJ4 G b hc hb h
theorem N5 {κ : Type} {c : Code} (pre : κ -> Prop) (μ : κ -> Nat) (Sk : κ -> List It) (Tk : κ -> List (Nat × AV)) (k0 : κ) (hp : pre k0) (G : E6 φ ψ w0 F N m ρ0 ρ (Sk k0) (Tk k0) a w)
  (round : ∀ k ρ a w, pre k -> E6 φ ψ w0 F N m ρ0 ρ (Sk k) (Tk k) a w -> c.wp P (Exit.then (fun a' w' => ∃ k' ρ', pre k' /\ μ k' < μ k /\ E6 φ ψ w0 F N m ρ0 ρ' (Sk k') (Tk k') a' w') Q) a w) : (Code.loop c).wp P Q a w := by
 refine wp_loop_ghost (fun n a w => ∃ k ρ, μ k = n /\ pre k /\ E6 φ ψ w0 F N m ρ0 ρ (Sk k) (Tk k) a w) (μ k0) ⟨k0, ρ, rfl, hp, G⟩ ?_
 rintro n a w ⟨k, ρ, rfl, hk, Gk⟩
 refine wp_mono (round k ρ a w hk Gk) ?_
 intro e a' w' hq
 cases e with
 | normal =>
  obtain ⟨k', ρ', h1, h2, h3⟩ := hq
  exact ⟨μ k', h2, k', ρ', rfl, h1, h3⟩
 | _ => exact hq
theorem aO5 {κ : Type} {pre : κ -> Prop} {μ : κ -> Nat} {Sk : κ -> List It} {Tk : κ -> List (Nat × AV)} {k : κ} (G : E6 φ ψ w0 F N m ρ0 ρ S tm a w) (k' : κ) (hp : pre k') (hμ : μ k' < μ k) (js : List Nat) (S1 : List It) (tm1 : List (Nat × AV)) (hs1 : Sk k' = S1) (ht1 : Tk k' = tm1)
  (hb : V8 m js S1 tm1 = true) (hS : js.map (D4 S) = S1.map (It.ren (nth js))) (ht : (tm1.map (·.1)).map (C7 tm) = tm1.map fun p => some (p.2.ren (nth js))) :
  ∃ k' ρ', pre k' /\ μ k' < μ k /\ E6 φ ψ w0 F N m ρ0 ρ' (Sk k') (Tk k') a w := by
 subst hs1; subst ht1
 exact ⟨k', _, hp, hμ, Inn.sel G js _ _ hb hS ht⟩
theorem E6.len (G : E6 φ ψ w0 F N m ρ0 ρ S tm a w) (i : Nat) {d : D} (h : itD (D4 S i) = some d) : d.len <= 9223372036854775807 := by
 obtain ⟨_, cap, _, h1, h2, _⟩ := G.mem.sliceAt h
 unfold maxLen at h2; omega
end
def dkP (t : TypeId) : Nat :=
 if natEq t 3 then 1 else
 if natEq t 4 then 2 else
 if natEq t 5 then 3 else
 if natEq t 9 then 4 else
 if natEq t 22 then 7 else
if natEq t 37 then 9 else
if natEq t 43 then 10 else
 0
abbrev eA (e : b9) (r : Nat) : AV := .agg [.v (.int .i64 e.kind), .v (.int .i64 e.value), .ref r]
abbrev eS (e : b9) : List It := [.dat (.exprs e.kids)]
abbrev sA (s : b6) (r : Nat) : AV := .agg [.v (.int .i64 s.kind), .v (.int .i64 s.target), .v (.int .i64 s.index.kind), .v (.int .i64 s.index.value), .ref r, .v (.int .i64 s.value.kind), .v (.int .i64 s.value.value), .ref (r + 1), .v (.int .i64 s.count), .ref (r + 2), .ref (r + 3)]
abbrev sS (s : b6) : List It := [.dat (.exprs s.index.kids), .dat (.exprs s.value.kids), .dat (.stmts s.body), .dat (.stmts s.els)]
abbrev pA (r : Nat) : AV := .agg [.ref r, .ref (r + 1), .ref (r + 2)]
abbrev pS (p : p8) : List It := [.dat (.ints p.vars), .dat (.ints p.arrays), .dat (.stmts p.body)]
abbrev iA (n : Int) : AV := .v (.int .i64 n)
abbrev bA (b : Bool) : AV := .v (.bool b)
abbrev N9 (f : FuncId) (args : List AV) (S : List It) (res : AV) : B5 := ⟨f, args, S, S, res⟩
abbrev dI (l : List Int) : It := .dat (.ints l)
abbrev dE (l : List b9) : It := .dat (.exprs l)
abbrev dT (l : List b6) : It := .dat (.stmts l)
abbrev eL (e : b9) (r : Nat) : List AV := [.v (.int .i64 e.kind), .v (.int .i64 e.value), .ref r]
abbrev sL (s : b6) (r : Nat) : List AV := [.v (.int .i64 s.kind), .v (.int .i64 s.target), .v (.int .i64 s.index.kind), .v (.int .i64 s.index.value), .ref r, .v (.int .i64 s.value.kind), .v (.int .i64 s.value.value), .ref (r + 1), .v (.int .i64 s.count), .ref (r + 2), .ref (r + 3)]
abbrev pL (r : Nat) : List AV := [.ref r, .ref (r + 1), .ref (r + 2)]
section
variable {P : Program} {ι : Type} {φ ψ : Nat -> Prop} {w0 w w' : World} {F : ι -> Rs} {ρ ρ0 : Nat -> Value} {N m n : Nat} {S : List It} {tm : List (Nat × AV)} {a : Act} {Q : Exit -> Act -> World -> Prop}
end
theorem b9.eta (e : b9) : (⟨e.kind, e.value, e.kids⟩ : b9) = e := by cases e; rfl
theorem b6.eta (s : b6) : (⟨s.kind, s.target, s.index, s.value, s.count, s.body, s.els⟩ : b6) = s := by cases s; rfl
section
variable {ι : Type} {P : Program} {φ ψ : Nat -> Prop} {w0 w : World} {F : ι -> Rs} {N m : Nat} {ρ0 ρ : Nat -> Value} {S : List It} {tm : List (Nat × AV)} {a : Act}
theorem rxr {fn : Func} {c : B5} (G : E6 φ ψ w0 F N c.pre.length ρ0 ρ S tm a w) (js : List Nat) (hS : js.map (D4 S) = c.post.map (It.ren (nth js)) := by kernel_rfl) (h : ay4 P fn tm S = some (c.res.ren (nth js)) := by kernel_rfl) (hb : V8 c.pre.length js c.post [] = true := by kernel_rfl) : bodyPost P fn (aB1 φ ψ w0 F ρ0 c) .ret a w := ap4 G js h hb hS rfl
theorem rxv {fn : Func} {c : B5} (v : AV) (G : E6 φ ψ w0 F N c.pre.length ρ0 ρ S tm a w) (js : List Nat) (hv : v = c.res.ren (nth js)) (hS : js.map (D4 S) = c.post.map (It.ren (nth js)) := by kernel_rfl) (h : ay4 P fn tm S = some v := by kernel_rfl) (hb : V8 c.pre.length js c.post [] = true := by kernel_rfl) : bodyPost P fn (aB1 φ ψ w0 F ρ0 c) .ret a w := ap4 G js h hb hS hv
theorem rxn {κ : Type} {pre : κ -> Prop} {μ : κ -> Nat} {Sk : κ -> List It} {Tk : κ -> List (Nat × AV)} {k : κ} (G : E6 φ ψ w0 F N m ρ0 ρ S tm a w) (k' : κ) (hp : pre k') (hμ : μ k' < μ k) (js : List Nat) (hS : js.map (D4 S) = (Sk k').map (It.ren (nth js)) := by kernel_rfl) (ht : ((Tk k').map (·.1)).map (C7 tm) = (Tk k').map (fun p => some (p.2.ren (nth js))) := by kernel_rfl) (hb : V8 m js (Sk k') (Tk k') = true := by kernel_rfl) : ∃ k' ρ', pre k' /\ μ k' < μ k /\ E6 φ ψ w0 F N m ρ0 ρ' (Sk k') (Tk k') a w := aO5 G k' hp hμ js _ _ rfl rfl hb hS ht
theorem C4 {fn : Func} {f : FuncId} {args : List AV} {pre post : List It} {x : Bool} (y : Bool) (G : E6 φ ψ w0 F N pre.length ρ0 ρ S tm a w) (js : List Nat) (e : x = y) (hS : js.map (D4 S) = post.map (It.ren (nth js)) := by kernel_rfl) (h : ay4 P fn tm S = some (bA y) := by kernel_rfl) (hb : V8 pre.length js post [] = true := by kernel_rfl) : bodyPost P fn (aB1 φ ψ w0 F ρ0 ⟨f, args, pre, post, bA x⟩) .ret a w := ap4 (c := ⟨f, args, pre, post, bA x⟩) G js h hb hS (by rw [e]; rfl)
theorem rxI {fn : Func} {f : FuncId} {args : List AV} {pre post : List It} {x : Int} (y : Int) (G : E6 φ ψ w0 F N pre.length ρ0 ρ S tm a w) (js : List Nat) (e : x = y) (hS : js.map (D4 S) = post.map (It.ren (nth js)) := by kernel_rfl) (h : ay4 P fn tm S = some (iA y) := by kernel_rfl) (hb : V8 pre.length js post [] = true := by kernel_rfl) : bodyPost P fn (aB1 φ ψ w0 F ρ0 ⟨f, args, pre, post, iA x⟩) .ret a w := ap4 (c := ⟨f, args, pre, post, iA x⟩) G js h hb hS (by rw [e]; rfl)
end
abbrev wO (x : Int) : Prop := IntKind.i64.wrap x = x
theorem oW {x : Int} (h : -9223372036854775808 <= x /\ x <= 9223372036854775807) : wO x := w64 h.1 h.2
theorem o1 {x : Int} (h : -9223372036854775808 <= x /\ x <= 9223372036854775807) : v8 [wO x] := ⟨oW h, a18⟩
theorem o2 {x y : Int} (h : (-9223372036854775808 <= x /\ x <= 9223372036854775807) /\ -9223372036854775808 <= y /\ y <= 9223372036854775807) : v8 [wO x, wO y] := ⟨oW h.1, oW h.2, a18⟩
theorem o3 {x y z : Int} (h : (-9223372036854775808 <= x /\ x <= 9223372036854775807) /\ (-9223372036854775808 <= y /\ y <= 9223372036854775807) /\ -9223372036854775808 <= z /\ z <= 9223372036854775807) : v8 [wO x, wO y, wO z] := ⟨oW h.1, oW h.2.1, oW h.2.2, a18⟩
theorem o4 {x y z u : Int} (h : (-9223372036854775808 <= x /\ x <= 9223372036854775807) /\ (-9223372036854775808 <= y /\ y <= 9223372036854775807) /\ (-9223372036854775808 <= z /\ z <= 9223372036854775807) /\ -9223372036854775808 <= u /\ u <= 9223372036854775807) : v8 [wO x, wO y, wO z, wO u] := ⟨oW h.1, oW h.2.1, oW h.2.2.1, oW h.2.2.2, a18⟩
abbrev iX (x : Int) (n l : Nat) (r : List Prop) : List Prop := (0 <= x) :: (x < (l : Int)) :: (n < l) :: r
theorem iK {x : Int} {n l : Nat} {r : List Prop} (h : 0 <= x /\ x < (l : Int) /\ n < l) (k : v8 r) : v8 (iX x n l r) := ⟨h.1, h.2.1, h.2.2, k⟩
abbrev mR (js : List Nat) (l : List It) : List It := List.map (It.ren (nth js)) l
theorem fz : J7 [] := a18
theorem fc {a b : Bool} {r : List (Bool × Bool)} (h : a = b) (k : J7 r) : J7 ((a, b) :: r) := ⟨h, k⟩
abbrev qzE (e : b9) : b9 := b9.mk e.kind e.value e.kids
def kL (P : Program) (N m : Nat) (l : List Oper) (H : K6) (tm : List (Nat × AV)) (S : List It) (js : List Nat) (S1 : List It) (t1 : List (Nat × AV)) := ((N0 P dkP N l H l 0 tm (D4 S) S.length).isSome && V8 m js S1 t1, at8 (N0 P dkP N l H l 0 tm (D4 S) S.length) js (t1.map (·.1)))
def kR (P : Program) (N : Nat) (l : List Oper) (H : K6) (tm : List (Nat × AV)) (S : List It) (o : List Prop) (js : List Nat) (S1 : List It) (t1 : List (Nat × AV)) := (true, ay7 (N0 P dkP N l H l 0 tm (D4 S) S.length) o js S1 t1)
def kM (P : Program) (N m : Nat) (l : List Oper) (H : K6) (ms : List Nat) (tm : List (Nat × AV)) (S : List It) (js : List Nat) (S1 : List It) (t1 : List (Nat × AV)) := (aD7 l ms S.length (D4 S) (N0 P dkP N l H l 0 tm (D4 S) S.length) && V8 m js S1 t1, at8 (N0 P dkP N l H l 0 tm (D4 S) S.length) js (t1.map (·.1)))
theorem Y9 {P : Program} {c : B5} {fn : Func} {code : Code} (N : Nat) (hf : P.funcs[c.f]? = some fn) (S : List It) (tm : List (Nat × AV)) (k : ∀ {ι : Type} {φ ψ : Nat -> Prop} {w0 w : World} {F : ι -> Rs} {ρ0 ρ : Nat -> Value} {a : Act}, E6 φ ψ w0 F N c.pre.length ρ0 ρ S tm a w -> code.wp P (bodyPost P fn (aB1 φ ψ w0 F ρ0 c)) a w) (hb : fn.body = some code := by rfl) (hN : (fn.ntmps, c.pre, al2 0 c.args) = (N, S, tm) := by kernel_rfl) (hw : (wfB c.pre (al2 0 c.args) && decide (c.args.length <= N)) = true := by kernel_rfl) : c.ok P := by
 simp only [Prod.mk.injEq] at hN
 obtain ⟨h1, h2, h3⟩ := hN
 exact aJ2 N hf hb h1 hw fun φ ψ w0 w F ρ0 ρ a G => k (ρ := ρ) (G.as S tm h2 h3)
def aT (x y : List (Nat × AV)) : List (Nat × AV) := x ++ y.filter fun p => !(x.any fun q => natEq q.1 p.1)
def HH (P : Program) (H : K6) : Prop := (∀ i c τ, G7 H.calls i = some (c, τ) -> c.ok P) /\ J7 H.facts
theorem s3 {P : Program} : HH P ⟨[], [], []⟩ := ⟨V6, a18⟩
theorem hhC {P : Program} {c : B5} (i : Nat) (σ : List Nat) (h : c.ok P) : HH P ⟨[(i, c, σ)], [], []⟩ := ⟨ak4 h V6, a18⟩
theorem P1 {P : Program} {f : List (Bool × Bool)} (h : J7 f) (u : List (Nat × Nat)) : HH P ⟨[], f, u⟩ := ⟨V6, h⟩
def Cs (P : Program) (r : List (Nat × B5 × List Nat)) : Prop := ∀ i c τ, G7 r i = some (c, τ) -> c.ok P
theorem E7 {P : Program} : Cs P [] := V6
theorem A1 {P : Program} {c : B5} {r : List (Nat × B5 × List Nat)} (i : Nat) (σ : List Nat) (h : c.ok P) (k : Cs P r) : Cs P ((i, c, σ) :: r) := ak4 h k
theorem E8 {P : Program} {r : List (Nat × B5 × List Nat)} {f : List (Bool × Bool)} (h : Cs P r) (h' : J7 f) (u : List (Nat × Nat)) : HH P ⟨r, f, u⟩ := ⟨h, h'⟩
section
variable {ι : Type} {P : Program} {φ ψ : Nat -> Prop} {w0 w : World} {F : ι -> Rs} {N m : Nat} {ρ0 ρ : Nat -> Value} {S : List It} {tm : List (Nat × AV)} {a : Act} {l : List Oper} {id : Nat} {Q : Exit -> Act -> World -> Prop} {H : K6}
theorem rA1 (G : E6 φ ψ w0 F N m ρ0 ρ S tm a w) (hh : HH P H) (js : List Nat) (S1 : List It) (t1 : List (Nat × AV)) (o : List Prop) (ho : v8 o) (k : ∀ {ρ' a' w'}, E6 φ ψ w0 F N m ρ0 ρ' S1 t1 a' w' -> Q .normal a' w') (h : kL P N m l H tm S js S1 t1 = kR P N l H tm S o js S1 t1 := by kernel_rfl) : (Code.region id l.toArray false).wp P Q a w := rs1 (dk := dkP) G H hh.1 hh.2 js S1 t1 o ho (fun _ _ _ => k) (congrArg Prod.fst h) (congrArg Prod.snd h)
theorem H0 (G : E6 φ ψ w0 F N m ρ0 ρ S tm a w) (hh : HH P H) (js : List Nat) (S1 : List It) (t1 : List (Nat × AV)) (k : ∀ {ρ' a' w'}, E6 φ ψ w0 F N m ρ0 ρ' S1 t1 a' w' -> Q .normal a' w') (h : kL P N m l H tm S js S1 t1 = kR P N l H tm S [] js S1 t1 := by kernel_rfl) : (Code.region id l.toArray false).wp P Q a w := rA1 G hh js S1 t1 [] a18 k h
theorem rB1 (G : E6 φ ψ w0 F N m ρ0 ρ S tm a w) (hh : HH P H) (t1 : List (Nat × AV)) (o : List Prop) (ho : v8 o) (k : ∀ {ρ' a' w'}, E6 φ ψ w0 F N m ρ0 ρ' S t1 a' w' -> Q .normal a' w') (h : kL P N m l H tm S (a25 S.length) S t1 = kR P N l H tm S o (a25 S.length) S t1 := by kernel_rfl) : (Code.region id l.toArray false).wp P Q a w := rs1 (dk := dkP) G H hh.1 hh.2 (a25 S.length) S t1 o ho (fun _ _ _ => k) (congrArg Prod.fst h) (congrArg Prod.snd h)
theorem Z1 (G : E6 φ ψ w0 F N m ρ0 ρ S tm a w) (hh : HH P H) (t1 : List (Nat × AV)) (k : ∀ {ρ' a' w'}, E6 φ ψ w0 F N m ρ0 ρ' S t1 a' w' -> Q .normal a' w') (h : kL P N m l H tm S (a25 S.length) S t1 = kR P N l H tm S [] (a25 S.length) S t1 := by kernel_rfl) : (Code.region id l.toArray false).wp P Q a w := rB1 G hh t1 [] a18 k h
theorem T7 (G : E6 φ ψ w0 F N m ρ0 ρ S tm a w) (hh : HH P H) (t1 : List (Nat × AV)) (o : List Prop) (ho : v8 o) (k : ∀ {ρ' a' w'}, E6 φ ψ w0 F N m ρ0 ρ' S (aT t1 tm) a' w' -> Q .normal a' w') (h : kL P N m l H tm S (a25 S.length) S (aT t1 tm) = kR P N l H tm S o (a25 S.length) S (aT t1 tm) := by kernel_rfl) : (Code.region id l.toArray false).wp P Q a w := rs1 (dk := dkP) G H hh.1 hh.2 (a25 S.length) S (aT t1 tm) o ho (fun _ _ _ => k) (congrArg Prod.fst h) (congrArg Prod.snd h)
theorem t8 (G : E6 φ ψ w0 F N m ρ0 ρ S tm a w) (hh : HH P H) (t1 : List (Nat × AV)) (k : ∀ {ρ' a' w'}, E6 φ ψ w0 F N m ρ0 ρ' S (aT t1 tm) a' w' -> Q .normal a' w') (h : kL P N m l H tm S (a25 S.length) S (aT t1 tm) = kR P N l H tm S [] (a25 S.length) S (aT t1 tm) := by kernel_rfl) : (Code.region id l.toArray false).wp P Q a w := T7 G hh t1 [] a18 k h
theorem ac2 (G : E6 φ ψ w0 F N m ρ0 ρ S tm a w) (hh : HH P H) (ms : List Nat) (js : List Nat) (S1 : List It) (t1 : List (Nat × AV)) (o : List Prop) (ho : v8 o) (k : ∀ {ρ' a' w'}, E6 φ ψ w0 F N m ρ0 ρ' S1 t1 a' w' -> Q .normal a' w') (hm : P.follows .mixedOrders = true := by kernel_rfl) (h : kM P N m l H ms tm S js S1 t1 = kR P N l H tm S o js S1 t1 := by kernel_rfl) : (Code.region id l.toArray true).wp P Q a w := rd1 (dk := dkP) G H hh.1 hh.2 ms js S1 t1 o ho (fun _ _ _ => k) hm (congrArg Prod.fst h) (congrArg Prod.snd h)
theorem aY1 (G : E6 φ ψ w0 F N m ρ0 ρ S tm a w) (hh : HH P H) (ms : List Nat) (js : List Nat) (S1 : List It) (t1 : List (Nat × AV)) (k : ∀ {ρ' a' w'}, E6 φ ψ w0 F N m ρ0 ρ' S1 t1 a' w' -> Q .normal a' w') (hm : P.follows .mixedOrders = true := by kernel_rfl) (h : kM P N m l H ms tm S js S1 t1 = kR P N l H tm S [] js S1 t1 := by kernel_rfl) : (Code.region id l.toArray true).wp P Q a w := ac2 G hh ms js S1 t1 [] a18 k hm h
theorem aJ7 (G : E6 φ ψ w0 F N m ρ0 ρ S tm a w) (hh : HH P H) (ms : List Nat) (t1 : List (Nat × AV)) (o : List Prop) (ho : v8 o) (k : ∀ {ρ' a' w'}, E6 φ ψ w0 F N m ρ0 ρ' S (aT t1 tm) a' w' -> Q .normal a' w') (hm : P.follows .mixedOrders = true := by kernel_rfl) (h : kM P N m l H ms tm S (a25 S.length) S (aT t1 tm) = kR P N l H tm S o (a25 S.length) S (aT t1 tm) := by kernel_rfl) : (Code.region id l.toArray true).wp P Q a w := rd1 (dk := dkP) G H hh.1 hh.2 ms (a25 S.length) S (aT t1 tm) o ho (fun _ _ _ => k) hm (congrArg Prod.fst h) (congrArg Prod.snd h)
theorem aO8 (G : E6 φ ψ w0 F N m ρ0 ρ S tm a w) (hh : HH P H) (ms : List Nat) (t1 : List (Nat × AV)) (k : ∀ {ρ' a' w'}, E6 φ ψ w0 F N m ρ0 ρ' S (aT t1 tm) a' w' -> Q .normal a' w') (hm : P.follows .mixedOrders = true := by kernel_rfl) (h : kM P N m l H ms tm S (a25 S.length) S (aT t1 tm) = kR P N l H tm S [] (a25 S.length) S (aT t1 tm) := by kernel_rfl) : (Code.region id l.toArray true).wp P Q a w := aJ7 G hh ms t1 [] a18 k hm h
variable {c : Nat} {x y : Code}
theorem rcE {α : Type} [BEq α] [LawfulBEq α] {u v : α} (G : E6 φ ψ w0 F N m ρ0 ρ S tm a w) (f : (u == v) = false -> u ≠ v -> y.wp P Q a w) (t : (u == v) = true -> u = v -> x.wp P Q a w) (h : C7 tm c = some (.v (.bool (u == v))) := by rfl) : (Code.cond (.tmp c) x y).wp P Q a w := Z0 G _ h (fun q => t q (eq_of_beq q)) fun q => f q (ne_of_beq_false q)
theorem rcN {α : Type} [BEq α] [LawfulBEq α] {u v : α} (G : E6 φ ψ w0 F N m ρ0 ρ S tm a w) (f : (u != v) = false -> u = v -> y.wp P Q a w) (t : (u != v) = true -> u ≠ v -> x.wp P Q a w) (h : C7 tm c = some (.v (.bool (u != v))) := by rfl) : (Code.cond (.tmp c) x y).wp P Q a w := Z0 G _ h (fun q => t q (bne_iff_ne.1 q)) fun q => f q (bne_eq_false_iff_eq.1 q)
theorem rcD {p : Prop} [Decidable p] (G : E6 φ ψ w0 F N m ρ0 ρ S tm a w) (f : decide p = false -> ¬ p -> y.wp P Q a w) (t : decide p = true -> p -> x.wp P Q a w) (h : C7 tm c = some (.v (.bool (decide p))) := by rfl) : (Code.cond (.tmp c) x y).wp P Q a w := Z0 G _ h (fun q => t q (dTt q)) fun q => f q (dFf q)
end
section
variable {P : Program} {f : FuncId}
theorem J0 {args : List AV} {S : List It} {x : Value} (h : ∀ (φ : Nat -> Prop) (w : World) (ρ : Nat -> Value), (∀ i d, D4 S i = .dat d -> RD w φ d (ρ i)) -> Calls P f (AV.vals ρ args).toArray w fun e w' => e = .returned x /\ Below w.heap.size w w') : B5.ok P (N9 f args S (.v x)) := by
 intro ι φ ψ w0 w F ρ M
 refine (h (T5 φ (s6 F ρ (D4 S))) w ρ fun i d hi => M.datAt hi).mono ?_
 rintro e w' ⟨rfl, hb⟩
 exact ⟨ρ, fun _ _ => rfl, rfl, M.call hb⟩
end
theorem aC3 {w : World} {φ : Nat -> Prop} {d : D} {v : Value} (h : RD w φ d v) : ∃ a cap, v = .slice a d.len cap /\ d.len <= 9223372036854775807 := by
 obtain ⟨a, cap, h1, h2, h3, _⟩ := h.open
 unfold maxLen at h3
 exact ⟨a, cap, h1, by omega⟩
theorem ar5 (l : Int) : B5.ok Tryd.prog (N9 52 [iA l] [] (bA (A8 l))) :=
 J0 fun φ w ρ _ => (L0 l w).mono fun e w' h => ⟨h.1, h.2 ▸ Below.refl _ _⟩
theorem A5 (n lo hi : Int) : B5.ok Tryd.prog (N9 64 [iA n, iA lo, iA hi] [] (bA (decide (lo <= n) && decide (n <= hi)))) :=
 J0 fun φ w ρ _ => (B7 n lo hi w).mono fun e w' h => ⟨h.1, h.2 ▸ Below.refl _ _⟩
theorem ac8 (p : p8) : B5.ok Tryd.prog (N9 36 [pA 0] (pS p) (bA (F0 p.vars p.arrays))) :=
 J0 fun φ w ρ h => ao9 (ρ 0) (ρ 1) (ρ 2) _ _ w (B4.row (h 0 _ rfl)) (B4.row (h 1 _ rfl))
theorem ak7 (vs ars : List Int) : B5.ok Tryd.prog (N9 34 [.ref 0, .ref 1] [.dat (.ints vs), .dat (.ints ars)] (bA (F0 vs ars))) :=
 J0 fun φ w ρ h => (am0 (ρ 0) (ρ 1) _ _ w (B4.row (h 0 _ rfl)) (B4.row (h 1 _ rfl))).mono fun e w' h => ⟨h.1, h.2 ▸ Below.refl _ _⟩
theorem L1 (p : p8) (e : b9) : B5.ok Tryd.prog (N9 35 [pA 0, eA e 3] (pS p ++ eS e) (bA (n5 p.vars.length p.arrays.length e))) :=
 J0 fun φ w ρ h => by
  obtain ⟨a1, c1, h1, l1⟩ := aC3 (h 0 _ rfl)
  obtain ⟨a2, c2, h2, l2⟩ := aC3 (h 1 _ rfl)
  simp only [AV.vals, AV.val, h1, h2]
  exact aG1 a1 a2 _ c1 _ c2 (ρ 2) l1 l2 e φ _ w ⟨_, rfl, h 3 _ rfl⟩
theorem ad0 (e : b9) : B5.ok Tryd.prog (N9 88 [eA e 0] (eS e) (bA (H7 e))) :=
 J0 fun φ w ρ h => aa0 e.kind e.value (ρ 0) w
theorem aj0 (a b : List b6) : O1 (a ++ b) = O1 a + O1 b := by
 induction a with
 | nil => simp [O1]
 | cons x r ih => simp [O1, ih]; omega
theorem aF7 {ss : List b6} {k : Nat} (h : k < ss.length) : O1 (ss.take (k + 1)) = O1 (ss.take k) + nS ss[k] := by
 rw [A2 _ _ h, aj0]; simp [O1]
theorem ae6 (ss : List b6) (k : Nat) : O1 (ss.take k) <= O1 ss := by
 have := aj0 (ss.take k) (ss.drop k)
 rw [List.take_append_drop] at this
 omega
theorem X3 (s : b6) : nS s = 1 + O1 s.body + O1 s.els := by cases s; simp only [nS]; rfl
theorem M6 {nv na d : Nat} {s : b6} (h : n4 nv na (d + 1) s = true) : s.body.all (n4 nv na d) = true /\ s.els.all (n4 nv na d) = true := by
 rw [n4, a05] at h
 obtain ⟨h1, h2⟩ := h
 unfold p9 at h1
 by_cases k3 : s.kind = 3
 ·rw [if_neg (by omega), if_neg (by omega), if_pos k3] at h2
  simp only [a05] at h2
  exact ⟨h2.1.2, h2.2⟩
 by_cases k4 : s.kind = 4
 ·rw [if_neg (by omega), if_neg (by omega), if_neg (by omega), if_pos k4] at h2
  rw [if_pos (.inr k4), if_pos k4] at h1
  simp only [a05, decide_eq_true_eq] at h1
  exact ⟨h2, by rw [List.eq_nil_of_length_eq_zero h1.2.1.1.1.1]; rfl⟩
 rw [if_neg (by omega)] at h1
 simp only [a05, decide_eq_true_eq] at h1
 exact ⟨by rw [List.eq_nil_of_length_eq_zero h1.1.1.1]; rfl, by rw [List.eq_nil_of_length_eq_zero h1.1.1.2]; rfl⟩
theorem am6 (s : b6) : t7 s.body <= szS s /\ t7 s.els <= szS s := by
 rcases s with ⟨_, _, _, _, _, b, e⟩
 simp only [szS, b6.body, b6.els]
 omega
theorem au9 {nv na : Nat} : ∀ {ss : List b6}, (∀ s ∈ ss, n4 nv na 1 s = true) -> O1 ss = ss.length
 | [], _ => rfl
 | s :: r, h => by
  have h1 := M6 (h s a22)
  have key : ∀ l : List b6, l.all (n4 nv na 0) = true -> l = [] := fun l hl => by
   cases l with
   | nil => rfl
   | cons a r => simp [n4] at hl
  have h2 := au9 (ss := r) fun x hx => h x (a28 _ hx)
  rw [O1, X3, key _ h1.1, key _ h1.2, h2]
  simp [O1]; omega
end Go.Proofs.YtcahndjigkledaaDoor

namespace Go.Proofs.YtcahndjigkledaaDoor
open Go
def m0 (l : List UInt8) : ByteArray := ⟨l.toArray⟩
theorem l8 (l : List UInt8) : (m0 l).size = l.length := rfl
theorem H8 (l m : List UInt8) : m0 l ++ m0 m = m0 (l ++ m) := by
 apply ByteArray.ext; simp [m0]
def stT (k t c : Int) (ix v b e : List UInt8) : List UInt8 :=
 if k = 1 then [UInt8.ofNat (97 + t.toNat)] ++ [58, 61] ++ v ++ [59]
 else if k = 5 then [UInt8.ofNat (97 + t.toNat)] ++ [33, 61] ++ v ++ [59]
 else if k = 2 then [UInt8.ofNat (80 + t.toNat)] ++ [91] ++ ix ++ [93, 58, 61] ++ v ++ [59]
 else if k = 3 then [105, 102] ++ v ++ [123] ++ b ++ [125, 123] ++ e ++ [125]
 else [114, 101, 112, 101, 97, 116] ++ Lib.decDigits c.toNat ++ [123] ++ b ++ [125]
mutual
def aI1 : b6 -> List UInt8
 | ⟨k, t, ix, v, c, b, e⟩ => stT k t c (k8 ix) (k8 v) (e7 b) (e7 e)
def e7 : List b6 -> List UInt8
 | [] => []
 | s :: r => aI1 s ++ e7 r
end
theorem F9 (s : b6) : aI1 s = stT s.kind s.target s.count (k8 s.index) (k8 s.value) (e7 s.body) (e7 s.els) := by
 cases s; simp only [aI1]; rfl
theorem ao5 (a b : List b6) : e7 (a ++ b) = e7 a ++ e7 b := by
 induction a with
 | nil => simp [e7]
 | cons x r ih => simp [e7, ih]
theorem D7 {ss : List b6} {k : Nat} (h : k < ss.length) : e7 (ss.take (k + 1)) = e7 (ss.take k) ++ aI1 (ss.getD k a03) := by
 rw [G0 ss k h, ao5, A7 h]; simp [e7]
theorem D3 {nv na : Nat} {e : b9} (h : n5 nv na e = true) : (k8 e).length <= 8192 := by
 unfold n5 at h
 simp only [a05] at h
 exact n8 nv na 5 e h.1
theorem aN7 {k t c : Int} {ix v b e : List UInt8} (hi : k = 2 -> ix.length <= 8192) (hv : k ≠ 4 -> v.length <= 8192) (hc : k = 4 -> c < 1000) (hk : k = 1 \/ k = 2 \/ k = 3 \/ k = 4 \/ k = 5) :
  (stT k t c ix v b e).length <= 20000 + b.length + e.length := by
 unfold stT
 repeat' split
 all_goals (simp only [List.length_append, a04, a09])
 ·have := hv (by omega); omega
 ·have := hv (by omega); omega
 ·have := hv (by omega); have := hi (by omega); omega
 ·have := hv (by omega); omega
 have := V4 (n := c.toNat) (by have := hc (by omega); omega); omega
theorem D8 {nv na d : Nat} {s : b6} (h : n4 nv na (d + 1) s = true) : (s.kind = 1 \/ s.kind = 2 \/ s.kind = 3 \/ s.kind = 4 \/ s.kind = 5) /\
    ((s.kind = 1 \/ s.kind = 5) -> 0 <= s.target /\ s.target < nv) /\ (s.kind = 2 -> 0 <= s.target /\ s.target < na /\ n5 nv na s.index = true /\ H7 s.index = true) /\
    (s.kind ≠ 4 -> n5 nv na s.value = true) /\ (s.kind = 4 -> 1 <= s.count /\ s.count <= 3) /\ (∀ x ∈ s.body, n4 nv na d x = true) /\ (∀ x ∈ s.els, n4 nv na d x = true) := by
  have hb := M6 h
  rw [n4, a05] at h
  obtain ⟨h0, h⟩ := h
  refine ⟨?_, ?_, ?_, ?_, ?_, a19.1 hb.1, a19.1 hb.2⟩
  all_goals
    by_cases k1 : s.kind = 1 \/ s.kind = 5
    · rw [if_pos k1] at h
      simp only [a05, decide_eq_true_eq] at h
      first | omega | exact fun _ => ⟨h.1.1, h.1.2⟩ | (intro h2; omega) | exact fun _ => h.2
    rw [if_neg k1] at h
    by_cases k2 : s.kind = 2
    · rw [if_pos k2] at h
      simp only [a05, decide_eq_true_eq] at h
      first | omega | exact fun _ => ⟨h.1.1.1.1, h.1.1.1.2, h.1.1.2, h.1.2⟩ | (intro h2; omega) | exact fun _ => h.2
    rw [if_neg k2] at h
    by_cases k3 : s.kind = 3
    · rw [if_pos k3] at h
      simp only [a05] at h
      first | omega | (intro h2; omega) | exact fun _ => h.1.1
    rw [if_neg k3] at h
    by_cases k4 : s.kind = 4
    · first
        | omega
        | (intro h2; omega)
        | (intro _
           unfold p9 at h0
           rw [if_pos (.inr k4), if_pos k4] at h0
           simp only [a05, decide_eq_true_eq] at h0
           exact ⟨h0.2.1.1.1.2, h0.2.1.1.2⟩)
    rw [if_neg k4] at h; cases h
mutual
theorem aI0 (nv na : Nat) : ∀ (d : Nat) (s : b6), n4 nv na d s = true -> (aI1 s).length <= 20000 * nS s
 | 0, s, h => by simp [n4] at h
 | d + 1, s, h => by
  obtain ⟨h1, h2, h3, h4, h5, h6, h7⟩ := D8 h
  have b1 := D2 nv na d s.body h6
  have b2 := D2 nv na d s.els h7
  have hl := aN7 (k := s.kind) (t := s.target) (c := s.count) (ix := k8 s.index) (v := k8 s.value) (b := e7 s.body) (e := e7 s.els) (fun hk => D3 (h3 hk).2.2.1) (fun hk => D3 (h4 hk)) (fun hk => by have := h5 hk; omega) h1
  rw [F9, X3]
  omega
termination_by d s => (d, 0)
theorem D2 (nv na : Nat) : ∀ (d : Nat) (ss : List b6), (∀ s ∈ ss, n4 nv na d s = true) -> (e7 ss).length <= 20000 * O1 ss
 | _, [], _ => by simp [e7]
 | d, s :: r, h => by
  have b1 := aI0 nv na d s (h s a22)
  have b2 := D2 nv na d r fun x hx => h x (a28 _ hx)
  rw [e7, O1, List.length_append]
  omega
termination_by d ss => (d, ss.length + 1)
end
def aF8 (l : Int) : UInt8 := [76, 72, 85, 88].getD l.toNat 0
def t6 (ls : List Int) : List UInt8 := ls.map aF8
theorem aj5 {ls : List Int} {k : Nat} (h : k < ls.length) : t6 (ls.take (k + 1)) = t6 (ls.take k) ++ [aF8 (ls.getD k 0)] := by
 unfold t6
 rw [G0 ls k h, List.map_append, A7 h]; rfl
def ai5 (p : p8) : List UInt8 := t6 p.vars ++ [47] ++ t6 p.arrays ++ [47] ++ e7 p.body
def N1 (p : p8) : List UInt8 := if F1 p then ai5 p else []
end Go.Proofs.YtcahndjigkledaaDoor

namespace Go.Proofs.YtcahndjigkledaaDoor
open Go Go.RowKit
theorem B5.dup {P : Program} {f : FuncId} {args args' : List AV} {S S' : List It} {d : D} {res : AV} {i : Nat} (hc : B5.ok P ⟨f, args, S ++ [.dat d], S' ++ [.dat d], res⟩) (hi : S[i]? = some (.dat d)) (hl : S'.length = S.length)
  (hS : S.all (fun x => T2 S.length x.ids) = true) (ha : ∀ ρ : Nat -> Value, ρ S.length = ρ i -> AV.vals ρ args = AV.vals ρ args') (hg : T2 S.length (AV.idsL args') = true) : B5.ok P ⟨f, args', S, S', res⟩ := by
 intro ι φ ψ w0 w F ρ M
 have hi' : D4 S i = .dat d := by simp [D4, hi]
 have hlt : i < S.length := (a12.1 hi).1
 have hinv : Y1 (D4 S) ρ [S.length] := fun ρ' h j => by
  by_cases hj : j < S.length
  ·refine It.res_congr _ (fun k hk => h k ?_) (.inr (.inr (h j (by simp; omega))))
   have h1 := G5 (a19.1 hS (S[j]) (a11 hj)) k (by simpa [D4, a06, a02 hj] using hk)
   simp; omega
  rw [show D4 S j = .none by simp only [D4, a06, a32 (Nat.le_of_not_lt hj)]; rfl]; rfl
 obtain ⟨ρ', h1, M1, h2⟩ := M.newDat (id := S.length) (by simp [D4]) hinv (M.datAt hi')
 have e : p6 (D4 S) [(S.length, .dat d)] = D4 (S ++ [.dat d]) := by
  funext j
  simp only [p6, D4, a06]
  by_cases hj : j = S.length
  ·subst hj; simp
  rw [if_neg hj]
  by_cases hj2 : j < S.length
  ·rw [a44 hj2]
  rw [a32 (by omega), a32 (by simp; omega)]
 rw [e] at M1
 have hρ : ρ' i = ρ i := h1 i (by simp; omega)
 have ea : AV.vals ρ args' = AV.vals ρ' args := by
  rw [ha ρ' (by rw [<- h2, hρ])]
  exact (AV.vals_congr _ fun k hk => by
   have := G5 hg k hk
   exact h1 k (by simp; omega)).symm
 simp only
 rw [ea]
 refine (hc ι φ ψ w0 w F ρ' M1).mono ?_
 rintro x w' ⟨ρ2, g1, g2, M2⟩
 refine ⟨ρ2, fun k hk => ?_, g2, ?_⟩
 ·rw [g1 k (by simp; omega)]; exact h1 k (by simp; omega)
 refine M2.map (fun k => match k with | .inl i => some (.inl i) | .inr j => if j < S'.length then some (.inr j) else none) ?_ ?_
 ·intro k k' x h1 h2
  match k, k' with
  | .inl i, .inl i' => simp at h1 h2; rw [h1, h2]
  | .inl i, .inr j => simp at h1; subst h1; simp at h2
  | .inr j, .inl i => simp at h2; subst h2; simp at h1
  | .inr j, .inr j' => simp at h1 h2; rw [<- h1.2] at h2; rw [Sum.inr.inj h2.2]
 intro k
 match k with
 | .inl i => exact .inl ⟨.inl i, rfl, rfl⟩
 | .inr j =>
  by_cases hj : j < S'.length
  ·refine .inl ⟨.inr j, by simp [hj], ?_⟩
   simp only [s6, D4, a06, a44 hj]
  refine .inr ?_
  simp only [s6, D4, a06, a32 (Nat.le_of_not_lt hj)]
  rfl
abbrev tA (l : List UInt8) : AV := .v (.string (m0 l))
theorem n6.tab {ι : Type} {φ ψ : Nat -> Prop} {w0 w : World} {L : ι -> Rs} (M : n6 φ ψ w0 w L) : ar8 w :=
 ⟨w.heap.size, a14 _, fun w' hb => M.env w' (M.kept.trans (C1.of_below hb fun _ h _ => h))⟩
theorem aC5 {P : Program} {f : FuncId} {args : List AV} {S : List It} {x : Value} (h : ∀ (φ : Nat -> Prop) (w : World) (ρ : Nat -> Value), ar8 w -> (∀ i d, D4 S i = .dat d -> RD w φ d (ρ i)) -> Calls P f (AV.vals ρ args).toArray w fun e w' => e = .returned x /\ Below w.heap.size w w') : B5.ok P (N9 f args S (.v x)) := by
 intro ι φ ψ w0 w F ρ M
 refine (h (T5 φ (s6 F ρ (D4 S))) w ρ M.tab fun i d hi => M.datAt hi).mono ?_
 rintro e w' ⟨rfl, hb⟩
 exact ⟨ρ, fun _ _ => rfl, rfl, M.call hb⟩
theorem ai9 {v : Int} (h : 0 <= v) : ∃ n : Nat, v = n := ⟨v.toNat, by omega⟩
theorem aE0 (v : Int) (h0 : 0 <= v) (h1 : v < 12) : B5.ok Tryd.prog (N9 53 [iA v] [] (tA [UInt8.ofNat (97 + v.toNat)])) := by
 obtain ⟨n, rfl⟩ := ai9 h0
 exact J0 fun φ w ρ _ => ai1 n (by omega) w
theorem aM8 (v : Int) (h0 : 0 <= v) (h1 : v < 1000000) : B5.ok Tryd.prog (N9 54 [iA v] [] (tA (Lib.decDigits v.toNat))) := by
 obtain ⟨n, rfl⟩ := ai9 h0
 exact J0 fun φ w ρ _ => ae2 n (by omega) w
theorem an9 (v : Int) (h0 : 0 <= v) (h1 : v < 12) : B5.ok Tryd.prog (N9 62 [iA v] [] (tA [UInt8.ofNat (97 + v.toNat)])) := by
 obtain ⟨n, rfl⟩ := ai9 h0
 exact J0 fun φ w ρ _ => Z9 n (by omega) w
theorem aw1 (v : Int) (h0 : 0 <= v) (h1 : v < 2) : B5.ok Tryd.prog (N9 63 [iA v] [] (tA [UInt8.ofNat (80 + v.toNat)])) := by
 obtain ⟨n, rfl⟩ := ai9 h0
 exact J0 fun φ w ρ _ => U4 n (by omega) w
theorem aU3 (v : Int) (h0 : 0 <= v) (h1 : v < 1000000) : B5.ok Tryd.prog (N9 61 [iA v] [] (tA (Lib.decDigits v.toNat))) := by
 obtain ⟨n, rfl⟩ := ai9 h0
 exact aC5 fun φ w ρ ht _ => aD1 n (by omega) w ht.is
theorem ae4 {nv na : Nat} {e : b9} (h : n5 nv na e = true) : m9 nv na 5 e = true := by
 unfold n5 at h
 simp only [a05] at h
 exact h.1
theorem aM7 (nv na : Nat) (hnv : nv <= 12) (hna : na <= 2) (e : b9) (h : n5 nv na e = true) : B5.ok Tryd.prog (N9 33 [eA e 0] (eS e) (tA (k8 e))) :=
 J0 fun φ w ρ hd => as5 nv na hnv hna 5 (by omega) e φ _ w ⟨_, rfl, hd 0 _ rfl⟩ (ae4 h)
theorem aA7 (nv na : Nat) (hnv : nv <= 12) (hna : na <= 2) (e : b9) (h : n5 nv na e = true) : B5.ok Tryd.prog (N9 32 [eA e 0] (eS e) (tA (k8 e))) :=
 aC5 fun φ w ρ ht hd => al9 nv na hnv hna 5 (by omega) e φ _ w ⟨_, rfl, hd 0 _ rfl⟩ (ae4 h) ht
theorem aR4 {nv na d : Nat} {ss : List b6} (h : ∀ s ∈ ss, n4 nv na (d + 1) s = true) {k : Nat} (hk : k < ss.length) : n4 nv na (d + 1) (ss.getD k a03) = true := by
 rw [A7 hk]; exact h _ (a11 hk)
theorem aR8 {ss : List b6} {k : Nat} (hk : k < ss.length) : nS (ss.getD k a03) <= O1 ss := by
 have h1 := aF7 hk
 have h2 := ae6 ss (k + 1)
 rw [A7 hk]; omega
theorem aU0 {ss : List b6} (k : Nat) : O1 (ss.take k) <= O1 ss := ae6 ss k
theorem az4 : ∀ ss : List b6, ss.length <= O1 ss
 | [] => a14 _
 | s :: r => by
  have h1 := X3 s
  have h2 := az4 r
  simp only [O1, a04]; omega
theorem aI2 {nv na d : Nat} {ss : List b6} (h : ∀ s ∈ ss, n4 nv na d s = true) (k : Nat) : (e7 (ss.take k)).length <= 20000 * O1 ss :=
 a15 (D2 nv na d _ fun s hs => h s (List.mem_of_mem_take hs)) (Nat.mul_le_mul_left _ (aU0 k))
section
variable {nv na d : Nat} {s : b6} (h : n4 nv na (d + 1) s = true)
include h
theorem aB6 (hk : s.kind = 1 \/ s.kind = 5) : 0 <= s.target /\ s.target < nv := (D8 h).2.1 hk
theorem aR3 (hk : s.kind = 2) : 0 <= s.target /\ s.target < na := ⟨((D8 h).2.2.1 hk).1, ((D8 h).2.2.1 hk).2.1⟩
theorem aB7 (hk : s.kind = 2) : n5 nv na s.index = true := ((D8 h).2.2.1 hk).2.2.1
theorem G8 (hk : s.kind ≠ 4) : n5 nv na s.value = true := (D8 h).2.2.2.1 hk
theorem aU8 (k1 : ¬ s.kind = 1) (k2 : ¬ s.kind = 2) (k3 : ¬ s.kind = 3) (k5 : ¬ s.kind = 5) : s.kind = 4 /\ 1 <= s.count /\ s.count <= 3 := by
 have h1 := (D8 h).1
 have h4 : s.kind = 4 := by omega
 exact ⟨h4, (D8 h).2.2.2.2.1 h4⟩
theorem ae1 : ∀ x ∈ s.body, n4 nv na d x = true := (D8 h).2.2.2.2.2.1
theorem aB8 : ∀ x ∈ s.els, n4 nv na d x = true := (D8 h).2.2.2.2.2.2
end
theorem l9 (a : Array UInt8) : (⟨a⟩ : ByteArray).size = a.size := rfl
theorem J2 (l : List UInt8) : (⟨l.toArray⟩ : ByteArray) = m0 l := rfl
theorem aT3 {t : Int} (h0 : 0 <= t) (h1 : t < 2) : ByteArray.extract ⟨#[80, 81]⟩ t.toNat (t + 1).toNat = m0 [UInt8.ofNat (80 + t.toNat)] := by
 have : t = 0 \/ t = 1 := by omega
 rcases this with rfl | rfl <;> decide +kernel
theorem aQ2 {t : Int} (h : A8 t = true) : ByteArray.extract ⟨#[76, 72, 85, 88]⟩ t.toNat (t + 1).toNat = m0 [aF8 t] := by
 unfold A8 at h
 simp only [a05, decide_eq_true_eq] at h
 have : t = 0 \/ t = 1 \/ t = 2 \/ t = 3 := by omega
 rcases this with rfl | rfl | rfl | rfl <;> decide +kernel
section
variable {ss : List b6} {k : Nat} (hk : k < ss.length)
include hk
theorem aZ7 (hq : (ss.getD k a03).kind = 1) : m0 (e7 (ss.take k)) ++ m0 [UInt8.ofNat (97 + (ss.getD k a03).target.toNat)] ++ ⟨#[58, 61]⟩ ++ m0 (k8 (ss.getD k a03).value) ++ ⟨#[59]⟩ = m0 (e7 (ss.take (k + 1))) := by
 rw [D7 hk, F9, stT, if_pos hq]; show _ = m0 _; simp only [J2, H8, a38]
theorem aZ3 (hq : (ss.getD k a03).kind = 5) : m0 (e7 (ss.take k)) ++ m0 [UInt8.ofNat (97 + (ss.getD k a03).target.toNat)] ++ ⟨#[33, 61]⟩ ++ m0 (k8 (ss.getD k a03).value) ++ ⟨#[59]⟩ = m0 (e7 (ss.take (k + 1))) := by
 rw [D7 hk, F9, stT, if_neg (by omega), if_pos hq]; show _ = m0 _; simp only [J2, H8, a38]
theorem aZ6 (hq : (ss.getD k a03).kind = 2) (h0 : 0 <= (ss.getD k a03).target) (h1 : (ss.getD k a03).target < 2) : m0 (e7 (ss.take k)) ++ ByteArray.extract ⟨#[80, 81]⟩ (ss.getD k a03).target.toNat ((ss.getD k a03).target + 1).toNat ++ ⟨#[91]⟩ ++ m0 (k8 (ss.getD k a03).index) ++ ⟨#[93, 58, 61]⟩ ++ m0 (k8 (ss.getD k a03).value) ++ ⟨#[59]⟩ = m0 (e7 (ss.take (k + 1))) := by
 rw [D7 hk, F9, stT, if_neg (by omega), if_neg (by omega), if_pos hq]
 rw [aT3 h0 h1]
 show _ = m0 _; simp only [J2, H8, a38]
theorem aZ5 (hq : (ss.getD k a03).kind = 3) : m0 (e7 (ss.take k)) ++ ⟨#[105, 102]⟩ ++ m0 (k8 (ss.getD k a03).value) ++ ⟨#[123]⟩ ++ m0 (e7 (ss.getD k a03).body) ++ ⟨#[125, 123]⟩ ++ m0 (e7 (ss.getD k a03).els) ++ ⟨#[125]⟩ = m0 (e7 (ss.take (k + 1))) := by
 rw [D7 hk, F9, stT, if_neg (by omega), if_neg (by omega), if_neg (by omega), if_pos hq]; show _ = m0 _; simp only [J2, H8, a38]
theorem aZ4 (hq : (ss.getD k a03).kind = 4) : m0 (e7 (ss.take k)) ++ ⟨#[114, 101, 112, 101, 97, 116]⟩ ++ m0 (Lib.decDigits (ss.getD k a03).count.toNat) ++ ⟨#[123]⟩ ++ m0 (e7 (ss.getD k a03).body) ++ ⟨#[125]⟩ = m0 (e7 (ss.take (k + 1))) := by
 rw [D7 hk, F9, stT, if_neg (by omega), if_neg (by omega), if_neg (by omega), if_neg (by omega)]; show _ = m0 _; simp only [J2, H8, a38]
end
abbrev W3 : AV := .v (.string (ByteArray.mk #[]))
abbrev aR0 (ss : List b6) (k : Nat) : AV := .v (.string (m0 (e7 (a13 k ss))))
abbrev ag5 (ss : List b6) (k : Nat) (r0 : List (Nat × AV)) : List (Nat × AV) := (0, .ref 0) :: (2, W3) :: (3, aR0 ss k) :: (4, iA (k : Int)) :: r0
theorem aF3 (nv na d : Nat) (hnv : nv <= 12) (hna : na <= 2) (ih : ∀ (ss : List b6), (∀ s ∈ ss, n4 nv na d s = true) -> O1 ss <= 60 -> B5.ok Tryd.prog (N9 24 [.ref 0] [dT ss] (tA (e7 ss)))) (ss : List b6) (h : ∀ s ∈ ss, n4 nv na (d + 1) s = true) (hn : O1 ss <= 60) : B5.ok Tryd.prog (N9 24 [.ref 0] [dT ss] (tA (e7 ss))) := by
  have hl0 := az4 ss
  have he := fun e h => aM7 nv na hnv hna e h
  refine Y9 97 Tryd.func24 [dT ss] [(0, .ref 0)] fun G => ?_; refine wp_seq (t8 G s3 [(2, W3)] fun G => b7 (wp_seq (t8 G s3 [(3, W3)] fun G => b7 (wp_seq (wp_seq (Z1 G s3 [(0, .ref 0), (2, W3), (3, W3), (4, iA 0)] fun G => b7 (wp_block ?_))))))); refine N5 (κ := Nat) (fun k => k <= ss.length) (fun k => ss.length - k) (fun k => [dT ss]) (fun k => [(0, .ref 0), (2, .v (.string (ByteArray.mk #[]))), (3, .v (.string (m0 (e7 (ss.take k))))), (4, iA k)]) 0 (by omega) (E6.at G _ _) ?_; clear G; intro k ρ a w hp G; replace G := E6.at G [dT ss] (ag5 ss k []); have ht := aI2 h k; refine wp_seq (wp_seq (Z1 G s3 (ag5 ss k [(9, bA (decide ((k : Int) < ss.length)))]) fun G => b7 ?_)); cases h0 : (decide ((k : Int) < ss.length))
  · have q0 := dFf h0; refine rF G _ h0 (wp_exit (M4 (M4 (L2 (b7 (wp_seq (t8 G s3 [(2, aR0 ss k)] fun G => b7 (wp_ret ?_)))))))); exact rxv (.v (.string (m0 (e7 (a13 k ss))))) G [0] (by show _ = AV.ren (nth [0]) (.v (.string (m0 (e7 ss)))); have e1 : (m0 (e7 ss) : ByteArray) = (m0 (e7 (a13 k ss))) := (by rw [a16 (by omega)]); (first | rw [e1] | simp only [e1]) <;> rfl)
  have q0 := dTt h0; have hb := aR4 h (show k < ss.length by omega); have b1 := aR8 (ss := ss) (show k < ss.length by omega); have b2 := X3 (ss.getD k a03); refine rT G _ h0 (wp_skip (b7 (wp_seq (wp_block (wp_seq (rA1 G s3 [0, 25, 26, 27, 28, 33] [dT ss, dE (ss.getD k a03).index.kids, dE (ss.getD k a03).value.kids, dT (ss.getD k a03).body, dT (ss.getD k a03).els, .box (sL (ss.getD k a03) 1)] (ag5 ss k [(5, .ptr 5 0)]) (iX k k ss.length []) (iK (by omega) a18) fun G => b7 (wp_seq (t8 G s3 [(17, iA (ss.getD k a03).kind)] fun G => b7 (wp_block (wp_seq (Z1 G s3 (ag5 ss k [(5, .ptr 5 0), (17, iA (ss.getD k a03).kind), (30, bA ((ss.getD k a03).kind == 1))]) fun G => b7 ?_))))))))))); cases h1 : ((ss.getD k a03).kind == 1)
  ·
   have q1 := ne_of_beq_false h1; refine rF G _ h1 (wp_seq (Z1 G s3 (ag5 ss k [(5, .ptr 5 0), (17, iA (ss.getD k a03).kind), (43, bA ((ss.getD k a03).kind == 5))]) fun G => b7 ?_)); cases h2 : ((ss.getD k a03).kind == 5)
   ·
    have q2 := ne_of_beq_false h2; refine rF G _ h2 (wp_seq (Z1 G s3 (ag5 ss k [(5, .ptr 5 0), (17, iA (ss.getD k a03).kind), (56, bA ((ss.getD k a03).kind == 2))]) fun G => b7 ?_)); cases h3 : ((ss.getD k a03).kind == 2)
    ·
     have q3 := ne_of_beq_false h3; refine rF G _ h3 (wp_seq (Z1 G s3 (ag5 ss k [(5, .ptr 5 0), (77, bA ((ss.getD k a03).kind == 3))]) fun G => b7 ?_)); cases h4 : ((ss.getD k a03).kind == 3)
     · have q4 := ne_of_beq_false h4; have c5 := aU8 hb (by omega) (by omega) (by omega) (by omega); have c3 := D2 nv na d _ (ae1 hb); have l5 := V4 (n := (ss.getD k a03).count.toNat) (by omega); refine rF G _ h4 (ac2 G (E8 (A1 4 [] (aM8 ((ss.getD k a03).count) (by omega) (by omega)) (A1 9 [3] (ih ((ss.getD k a03).body) (ae1 hb) (by omega)) E7)) fz []) [0, 1, 0, 4, 12, 31, 63, 0, 128, 412, 1023, 2047, 4095] [0] [dT ss] [(0, .ref 0), (2, W3), (3, .v (.string (m0 (e7 (a13 k ss)) ++ ByteArray.mk #[114, 101, 112, 101, 97, 116] ++ m0 (Lib.decDigits (ss.getD k a03).count.toNat) ++ ByteArray.mk #[123] ++ m0 (e7 (ss.getD k a03).body) ++ ByteArray.mk #[125]))), (4, iA k)] [(↑((m0 (e7 (a13 k ss))).size + (ByteArray.mk #[(114 : UInt8), (101 : UInt8), (112 : UInt8), (101 : UInt8), (97 : UInt8), (116 : UInt8)]).size) : Int) <= 9223372036854775807, (↑((m0 (e7 (a13 k ss)) ++ ByteArray.mk #[(114 : UInt8), (101 : UInt8), (112 : UInt8), (101 : UInt8), (97 : UInt8), (116 : UInt8)]).size + (m0 (Lib.decDigits (ss.getD k a03).count.toNat)).size) : Int) <= 9223372036854775807, (↑((m0 (e7 (a13 k ss)) ++ ByteArray.mk #[(114 : UInt8), (101 : UInt8), (112 : UInt8), (101 : UInt8), (97 : UInt8), (116 : UInt8)] ++ m0 (Lib.decDigits (ss.getD k a03).count.toNat)).size + (ByteArray.mk #[(123 : UInt8)]).size) : Int) <= 9223372036854775807, (↑((m0 (e7 (a13 k ss)) ++ ByteArray.mk #[(114 : UInt8), (101 : UInt8), (112 : UInt8), (101 : UInt8), (97 : UInt8), (116 : UInt8)] ++ m0 (Lib.decDigits (ss.getD k a03).count.toNat) ++ ByteArray.mk #[(123 : UInt8)]).size + (m0 (e7 (ss.getD k a03).body)).size) : Int) <= 9223372036854775807, (↑((m0 (e7 (a13 k ss)) ++ ByteArray.mk #[(114 : UInt8), (101 : UInt8), (112 : UInt8), (101 : UInt8), (97 : UInt8), (116 : UInt8)] ++ m0 (Lib.decDigits (ss.getD k a03).count.toNat) ++ ByteArray.mk #[(123 : UInt8)] ++ m0 (e7 (ss.getD k a03).body)).size + (ByteArray.mk #[(125 : UInt8)]).size) : Int) <= 9223372036854775807] ⟨(by simp only [ByteArray.size_append, ByteArray.size_extract, l8, l9, a08, a04, a09]; omega), (by simp only [ByteArray.size_append, ByteArray.size_extract, l8, l9, a08, a04, a09]; omega), (by simp only [ByteArray.size_append, ByteArray.size_extract, l8, l9, a08, a04, a09]; omega), (by simp only [ByteArray.size_append, ByteArray.size_extract, l8, l9, a08, a04, a09]; omega), (by simp only [ByteArray.size_append, ByteArray.size_extract, l8, l9, a08, a04, a09]; omega), a18⟩ fun G => G2 (G2 (b7 (T7 G s3 [(4, iA ((k : Int) + 1))] [wO ((k : Int) + 1)] (o1 (by omega)) fun G => b7 ?_)))); exact rxn G (k + 1) (by omega) (by omega) [0] (ht := by have e1 : (m0 (e7 (a13 (k + 1) ss)) : ByteArray) = (m0 (e7 (a13 k ss)) ++ ByteArray.mk #[114, 101, 112, 101, 97, 116] ++ m0 (Lib.decDigits (ss.getD k a03).count.toNat) ++ ByteArray.mk #[123] ++ m0 (e7 (ss.getD k a03).body) ++ ByteArray.mk #[125]) := (by have h9 : (ss.getD k a03).kind = 4 := (by omega) ; exact (aZ4 (by omega) h9).symm); (first | rw [e1] | simp only [e1]) <;> rfl)
     have q4 := eq_of_beq h4; have c3 := D2 nv na d _ (ae1 hb); have c4 := D2 nv na d _ (aB8 hb); have l1 := D3 (G8 hb (by omega)); refine rT G _ h4 (ac2 G (E8 (A1 4 [2] (he ((ss.getD k a03).value) (G8 hb (by omega))) (A1 9 [3] (ih ((ss.getD k a03).body) (ae1 hb) (by omega)) (A1 14 [4] (ih ((ss.getD k a03).els) (aB8 hb) (by omega)) E7))) fz []) [0, 1, 0, 4, 12, 31, 63, 0, 128, 412, 1023, 2047, 0, 4096, 13212, 32767, 65535, 131071] [0] [dT ss] [(0, .ref 0), (2, W3), (3, .v (.string (m0 (e7 (a13 k ss)) ++ ByteArray.mk #[105, 102] ++ m0 (k8 (ss.getD k a03).value) ++ ByteArray.mk #[123] ++ m0 (e7 (ss.getD k a03).body) ++ ByteArray.mk #[125, 123] ++ m0 (e7 (ss.getD k a03).els) ++ ByteArray.mk #[125]))), (4, iA k)] [(↑((m0 (e7 (a13 k ss))).size + (ByteArray.mk #[(105 : UInt8), (102 : UInt8)]).size) : Int) <= 9223372036854775807, (↑((m0 (e7 (a13 k ss)) ++ ByteArray.mk #[(105 : UInt8), (102 : UInt8)]).size + (m0 (k8 (ss.getD k a03).value)).size) : Int) <= 9223372036854775807, (↑((m0 (e7 (a13 k ss)) ++ ByteArray.mk #[(105 : UInt8), (102 : UInt8)] ++ m0 (k8 (ss.getD k a03).value)).size + (ByteArray.mk #[(123 : UInt8)]).size) : Int) <= 9223372036854775807, (↑((m0 (e7 (a13 k ss)) ++ ByteArray.mk #[(105 : UInt8), (102 : UInt8)] ++ m0 (k8 (ss.getD k a03).value) ++ ByteArray.mk #[(123 : UInt8)]).size + (m0 (e7 (ss.getD k a03).body)).size) : Int) <= 9223372036854775807, (↑((m0 (e7 (a13 k ss)) ++ ByteArray.mk #[(105 : UInt8), (102 : UInt8)] ++ m0 (k8 (ss.getD k a03).value) ++ ByteArray.mk #[(123 : UInt8)] ++ m0 (e7 (ss.getD k a03).body)).size + (ByteArray.mk #[(125 : UInt8), (123 : UInt8)]).size) : Int) <= 9223372036854775807, (↑((m0 (e7 (a13 k ss)) ++ ByteArray.mk #[(105 : UInt8), (102 : UInt8)] ++ m0 (k8 (ss.getD k a03).value) ++ ByteArray.mk #[(123 : UInt8)] ++ m0 (e7 (ss.getD k a03).body) ++ ByteArray.mk #[(125 : UInt8), (123 : UInt8)]).size + (m0 (e7 (ss.getD k a03).els)).size) : Int) <= 9223372036854775807, (↑((m0 (e7 (a13 k ss)) ++ ByteArray.mk #[(105 : UInt8), (102 : UInt8)] ++ m0 (k8 (ss.getD k a03).value) ++ ByteArray.mk #[(123 : UInt8)] ++ m0 (e7 (ss.getD k a03).body) ++ ByteArray.mk #[(125 : UInt8), (123 : UInt8)] ++ m0 (e7 (ss.getD k a03).els)).size + (ByteArray.mk #[(125 : UInt8)]).size) : Int) <= 9223372036854775807] ⟨(by simp only [ByteArray.size_append, ByteArray.size_extract, l8, l9, a08, a04, a09]; omega), (by simp only [ByteArray.size_append, ByteArray.size_extract, l8, l9, a08, a04, a09]; omega), (by simp only [ByteArray.size_append, ByteArray.size_extract, l8, l9, a08, a04, a09]; omega), (by simp only [ByteArray.size_append, ByteArray.size_extract, l8, l9, a08, a04, a09]; omega), (by simp only [ByteArray.size_append, ByteArray.size_extract, l8, l9, a08, a04, a09]; omega), (by simp only [ByteArray.size_append, ByteArray.size_extract, l8, l9, a08, a04, a09]; omega), (by simp only [ByteArray.size_append, ByteArray.size_extract, l8, l9, a08, a04, a09]; omega), a18⟩ fun G => G2 (G2 (b7 (T7 G s3 [(4, iA ((k : Int) + 1))] [wO ((k : Int) + 1)] (o1 (by omega)) fun G => ?_))))
     refine b7 ?_; exact rxn G (k + 1) (by omega) (by omega) [0] (ht := by have e1 : (m0 (e7 (a13 (k + 1) ss)) : ByteArray) = (m0 (e7 (a13 k ss)) ++ ByteArray.mk #[105, 102] ++ m0 (k8 (ss.getD k a03).value) ++ ByteArray.mk #[123] ++ m0 (e7 (ss.getD k a03).body) ++ ByteArray.mk #[125, 123] ++ m0 (e7 (ss.getD k a03).els) ++ ByteArray.mk #[125]) := (by have h9 : (ss.getD k a03).kind = 3 := (by omega) ; exact (aZ5 (by omega) h9).symm); (first | rw [e1] | simp only [e1]) <;> rfl)
    have q3 := eq_of_beq h3; have c2 := aR3 hb (by omega); have l1 := D3 (G8 hb (by omega)); have l2 := D3 (aB7 hb (by omega)); refine rT G _ h3 (ac2 G (E8 (A1 11 [1] (he ((ss.getD k a03).index) (aB7 hb (by omega))) (A1 16 [2] (he ((ss.getD k a03).value) (G8 hb (by omega))) E7)) fz []) [0, 0, 2, 0, 8, 24, 62, 127, 255, 0, 512, 1536, 4095, 8191, 0, 16384, 52736, 131071, 262143, 524287] [0] [dT ss] [(0, .ref 0), (2, W3), (3, .v (.string (m0 (e7 (a13 k ss)) ++ (ByteArray.mk #[80, 81]).extract (ss.getD k a03).target.toNat ((ss.getD k a03).target + 1).toNat ++ ByteArray.mk #[91] ++ m0 (k8 (ss.getD k a03).index) ++ ByteArray.mk #[93, 58, 61] ++ m0 (k8 (ss.getD k a03).value) ++ ByteArray.mk #[59]))), (4, iA k)] [wO ((ss.getD k a03).target + 1), (0 : Int) <= (ss.getD k a03).target, (ss.getD k a03).target <= (ss.getD k a03).target + 1, (ss.getD k a03).target + 1 <= ((ByteArray.mk #[(80 : UInt8), (81 : UInt8)]).size : Int), (↑((m0 (e7 (a13 k ss))).size + ((ByteArray.mk #[(80 : UInt8), (81 : UInt8)]).extract (ss.getD k a03).target.toNat ((ss.getD k a03).target + 1).toNat).size) : Int) <= 9223372036854775807, (↑((m0 (e7 (a13 k ss)) ++ (ByteArray.mk #[(80 : UInt8), (81 : UInt8)]).extract (ss.getD k a03).target.toNat ((ss.getD k a03).target + 1).toNat).size + (ByteArray.mk #[(91 : UInt8)]).size) : Int) <= 9223372036854775807, (↑((m0 (e7 (a13 k ss)) ++ (ByteArray.mk #[(80 : UInt8), (81 : UInt8)]).extract (ss.getD k a03).target.toNat ((ss.getD k a03).target + 1).toNat ++ ByteArray.mk #[(91 : UInt8)]).size + (m0 (k8 (ss.getD k a03).index)).size) : Int) <= 9223372036854775807, (↑((m0 (e7 (a13 k ss)) ++ (ByteArray.mk #[(80 : UInt8), (81 : UInt8)]).extract (ss.getD k a03).target.toNat ((ss.getD k a03).target + 1).toNat ++ ByteArray.mk #[(91 : UInt8)] ++ m0 (k8 (ss.getD k a03).index)).size + (ByteArray.mk #[(93 : UInt8), (58 : UInt8), (61 : UInt8)]).size) : Int) <= 9223372036854775807, (↑((m0 (e7 (a13 k ss)) ++ (ByteArray.mk #[(80 : UInt8), (81 : UInt8)]).extract (ss.getD k a03).target.toNat ((ss.getD k a03).target + 1).toNat ++ ByteArray.mk #[(91 : UInt8)] ++ m0 (k8 (ss.getD k a03).index) ++ ByteArray.mk #[(93 : UInt8), (58 : UInt8), (61 : UInt8)]).size + (m0 (k8 (ss.getD k a03).value)).size) : Int) <= 9223372036854775807, (↑((m0 (e7 (a13 k ss)) ++ (ByteArray.mk #[(80 : UInt8), (81 : UInt8)]).extract (ss.getD k a03).target.toNat ((ss.getD k a03).target + 1).toNat ++ ByteArray.mk #[(91 : UInt8)] ++ m0 (k8 (ss.getD k a03).index) ++ ByteArray.mk #[(93 : UInt8), (58 : UInt8), (61 : UInt8)] ++ m0 (k8 (ss.getD k a03).value)).size + (ByteArray.mk #[(59 : UInt8)]).size) : Int) <= 9223372036854775807] ⟨oW (by omega), (by omega), (by omega), (by simp only [ByteArray.size_append, ByteArray.size_extract, l8, l9, a08, a04, a09]; omega), (by simp only [ByteArray.size_append, ByteArray.size_extract, l8, l9, a08, a04, a09]; omega), (by simp only [ByteArray.size_append, ByteArray.size_extract, l8, l9, a08, a04, a09]; omega), (by simp only [ByteArray.size_append, ByteArray.size_extract, l8, l9, a08, a04, a09]; omega), (by simp only [ByteArray.size_append, ByteArray.size_extract, l8, l9, a08, a04, a09]; omega), (by simp only [ByteArray.size_append, ByteArray.size_extract, l8, l9, a08, a04, a09]; omega), (by simp only [ByteArray.size_append, ByteArray.size_extract, l8, l9, a08, a04, a09]; omega), a18⟩ fun G => ?_)
    refine G2 (G2 (b7 (T7 G s3 [(4, iA ((k : Int) + 1))] [wO ((k : Int) + 1)] (o1 (by omega)) fun G => b7 ?_))); exact rxn G (k + 1) (by omega) (by omega) [0] (ht := by have e1 : (m0 (e7 (a13 (k + 1) ss)) : ByteArray) = (m0 (e7 (a13 k ss)) ++ (ByteArray.mk #[80, 81]).extract (ss.getD k a03).target.toNat ((ss.getD k a03).target + 1).toNat ++ ByteArray.mk #[91] ++ m0 (k8 (ss.getD k a03).index) ++ ByteArray.mk #[93, 58, 61] ++ m0 (k8 (ss.getD k a03).value) ++ ByteArray.mk #[59]) := (by have h9 : (ss.getD k a03).kind = 2 := (by omega) ; exact (aZ6 (by omega) h9 (by omega) (by omega)).symm); (first | rw [e1] | simp only [e1]) <;> rfl)
   have q2 := eq_of_beq h2; have c1 := aB6 hb (by omega); have l1 := D3 (G8 hb (by omega)); refine rT G _ h2 (ac2 G (E8 (A1 3 [] (aE0 ((ss.getD k a03).target) (by omega) (by omega)) (A1 8 [2] (he ((ss.getD k a03).value) (G8 hb (by omega))) E7)) fz []) [0, 0, 2, 6, 15, 31, 0, 64, 206, 511, 1023, 2047] [0] [dT ss] [(0, .ref 0), (2, W3), (3, .v (.string (m0 (e7 (a13 k ss)) ++ m0 [UInt8.ofNat (97 + (ss.getD k a03).target.toNat)] ++ ByteArray.mk #[33, 61] ++ m0 (k8 (ss.getD k a03).value) ++ ByteArray.mk #[59]))), (4, iA k)] [(↑((m0 (e7 (a13 k ss))).size + (m0 [UInt8.ofNat ((97 : Nat) + (ss.getD k a03).target.toNat)]).size) : Int) <= 9223372036854775807, (↑((m0 (e7 (a13 k ss)) ++ m0 [UInt8.ofNat ((97 : Nat) + (ss.getD k a03).target.toNat)]).size + (ByteArray.mk #[(33 : UInt8), (61 : UInt8)]).size) : Int) <= 9223372036854775807, (↑((m0 (e7 (a13 k ss)) ++ m0 [UInt8.ofNat ((97 : Nat) + (ss.getD k a03).target.toNat)] ++ ByteArray.mk #[(33 : UInt8), (61 : UInt8)]).size + (m0 (k8 (ss.getD k a03).value)).size) : Int) <= 9223372036854775807, (↑((m0 (e7 (a13 k ss)) ++ m0 [UInt8.ofNat ((97 : Nat) + (ss.getD k a03).target.toNat)] ++ ByteArray.mk #[(33 : UInt8), (61 : UInt8)] ++ m0 (k8 (ss.getD k a03).value)).size + (ByteArray.mk #[(59 : UInt8)]).size) : Int) <= 9223372036854775807] ⟨(by simp only [ByteArray.size_append, ByteArray.size_extract, l8, l9, a08, a04, a09]; omega), (by simp only [ByteArray.size_append, ByteArray.size_extract, l8, l9, a08, a04, a09]; omega), (by simp only [ByteArray.size_append, ByteArray.size_extract, l8, l9, a08, a04, a09]; omega), (by simp only [ByteArray.size_append, ByteArray.size_extract, l8, l9, a08, a04, a09]; omega), a18⟩ fun G => G2 (G2 (b7 (T7 G s3 [(4, iA ((k : Int) + 1))] [wO ((k : Int) + 1)] (o1 (by omega)) fun G => b7 ?_)))); exact rxn G (k + 1) (by omega) (by omega) [0] (ht := by have e1 : (m0 (e7 (a13 (k + 1) ss)) : ByteArray) = (m0 (e7 (a13 k ss)) ++ m0 [UInt8.ofNat (97 + (ss.getD k a03).target.toNat)] ++ ByteArray.mk #[33, 61] ++ m0 (k8 (ss.getD k a03).value) ++ ByteArray.mk #[59]) := (by have h9 : (ss.getD k a03).kind = 5 := (by omega) ; exact (aZ3 (by omega) h9).symm); (first | rw [e1] | simp only [e1]) <;> rfl)
  have q1 := eq_of_beq h1; have c1 := aB6 hb (by omega); have l1 := D3 (G8 hb (by omega)); refine rT G _ h1 (ac2 G (E8 (A1 3 [] (aE0 ((ss.getD k a03).target) (by omega) (by omega)) (A1 8 [2] (he ((ss.getD k a03).value) (G8 hb (by omega))) E7)) fz []) [0, 0, 2, 6, 15, 31, 0, 64, 206, 511, 1023, 2047] [0] [dT ss] [(0, .ref 0), (2, W3), (3, .v (.string (m0 (e7 (a13 k ss)) ++ m0 [UInt8.ofNat (97 + (ss.getD k a03).target.toNat)] ++ ByteArray.mk #[58, 61] ++ m0 (k8 (ss.getD k a03).value) ++ ByteArray.mk #[59]))), (4, iA k)] [(↑((m0 (e7 (a13 k ss))).size + (m0 [UInt8.ofNat ((97 : Nat) + (ss.getD k a03).target.toNat)]).size) : Int) <= 9223372036854775807, (↑((m0 (e7 (a13 k ss)) ++ m0 [UInt8.ofNat ((97 : Nat) + (ss.getD k a03).target.toNat)]).size + (ByteArray.mk #[(58 : UInt8), (61 : UInt8)]).size) : Int) <= 9223372036854775807, (↑((m0 (e7 (a13 k ss)) ++ m0 [UInt8.ofNat ((97 : Nat) + (ss.getD k a03).target.toNat)] ++ ByteArray.mk #[(58 : UInt8), (61 : UInt8)]).size + (m0 (k8 (ss.getD k a03).value)).size) : Int) <= 9223372036854775807, (↑((m0 (e7 (a13 k ss)) ++ m0 [UInt8.ofNat ((97 : Nat) + (ss.getD k a03).target.toNat)] ++ ByteArray.mk #[(58 : UInt8), (61 : UInt8)] ++ m0 (k8 (ss.getD k a03).value)).size + (ByteArray.mk #[(59 : UInt8)]).size) : Int) <= 9223372036854775807] ⟨(by simp only [ByteArray.size_append, ByteArray.size_extract, l8, l9, a08, a04, a09]; omega), (by simp only [ByteArray.size_append, ByteArray.size_extract, l8, l9, a08, a04, a09]; omega), (by simp only [ByteArray.size_append, ByteArray.size_extract, l8, l9, a08, a04, a09]; omega), (by simp only [ByteArray.size_append, ByteArray.size_extract, l8, l9, a08, a04, a09]; omega), a18⟩ fun G => G2 (G2 (b7 (T7 G s3 [(4, iA ((k : Int) + 1))] [wO ((k : Int) + 1)] (o1 (by omega)) fun G => b7 ?_)))); exact rxn G (k + 1) (by omega) (by omega) [0] (ht := by have e1 : (m0 (e7 (a13 (k + 1) ss)) : ByteArray) = (m0 (e7 (a13 k ss)) ++ m0 [UInt8.ofNat (97 + (ss.getD k a03).target.toNat)] ++ ByteArray.mk #[58, 61] ++ m0 (k8 (ss.getD k a03).value) ++ ByteArray.mk #[59]) := (by have h9 : (ss.getD k a03).kind = 1 := (by omega) ; exact (aZ7 (by omega) h9).symm); (first | rw [e1] | simp only [e1]) <;> rfl)
theorem F2 (e : b9) : B5.ok Tryd.prog ⟨101, [.agg [.v (.int .i64 e.kind), .v (.int .i64 e.value), .ref 0]], [.dat (.exprs e.kids)], [.dat (.exprs e.kids)], .v (.bool (noneB e))⟩ := by
  refine Y9 17 Tryd.func101 [dE e.kids] [(0, eA e 0)] fun G => ?_; refine wp_seq (H0 G s3 [0, 1] [dE e.kids, .box (eL e 0)] [(1, .ptr 1 0), (2, bA false)] fun G => b7 (wp_seq ?_)); cases h0 : (e.kind == 0)
  · have q0 := ne_of_beq_false h0; refine H0 G (P1 (fc h0 (fc (b := false) rfl fz)) (us [(4, 6, 0), (1007, 1007, 0), (9, 12, 1), (1013, 1013, 1)])) [0] [dE e.kids] [(2, bA false)] fun G => b7 (wp_ret ?_); exact C4 false G [0] (by rw [a31]; simp [noneB, h0, q0]; done)
  have q0 := eq_of_beq h0; cases h1 : (e.value == 0)
  · have q1 := ne_of_beq_false h1; refine H0 G (P1 (fc h0 (fc h1 fz)) (us [(4, 6, 0), (1007, 1007, 0), (9, 12, 1), (1013, 1013, 1)])) [0] [dE e.kids] [(2, bA false)] fun G => b7 (wp_ret ?_); exact C4 false G [0] (by rw [a31]; simp [noneB, h0, q0, h1, q1]; done)
  have q1 := eq_of_beq h1; refine H0 G (P1 (fc h0 (fc h1 fz)) (us [(4, 6, 0), (1007, 1007, 0), (9, 12, 1), (1013, 1013, 1)])) [0] [dE e.kids] [(2, bA ((e.kids.length : Int) == 0))] fun G => b7 (wp_ret ?_); exact C4 ((e.kids.length : Int) == 0) G [0] (by rw [a31]; simp [noneB, h0, q0, h1, q1]; done)
theorem U6 (e : b9) : B5.ok Tryd.prog ⟨105, [.agg [.v (.int .i64 e.kind), .v (.int .i64 e.value), .ref 0]], [.dat (.exprs e.kids)], [.dat (.exprs e.kids)], .v (.bool (noneB e))⟩ := by
  refine Y9 17 Tryd.func105 [dE e.kids] [(0, eA e 0)] fun G => ?_; refine wp_seq (H0 G s3 [0, 1] [dE e.kids, .box (eL e 0)] [(1, .ptr 1 0), (2, bA false)] fun G => b7 (wp_seq ?_)); cases h0 : (e.kind == 0)
  · have q0 := ne_of_beq_false h0; refine H0 G (P1 (fc h0 (fc (b := false) rfl fz)) (us [(4, 6, 0), (1007, 1007, 0), (9, 12, 1), (1013, 1013, 1)])) [0] [dE e.kids] [(2, bA false)] fun G => b7 (wp_ret ?_); exact C4 false G [0] (by rw [a31]; simp [noneB, h0, q0]; done)
  have q0 := eq_of_beq h0; cases h1 : (e.value == 0)
  · have q1 := ne_of_beq_false h1; refine H0 G (P1 (fc h0 (fc h1 fz)) (us [(4, 6, 0), (1007, 1007, 0), (9, 12, 1), (1013, 1013, 1)])) [0] [dE e.kids] [(2, bA false)] fun G => b7 (wp_ret ?_); exact C4 false G [0] (by rw [a31]; simp [noneB, h0, q0, h1, q1]; done)
  have q1 := eq_of_beq h1; refine H0 G (P1 (fc h0 (fc h1 fz)) (us [(4, 6, 0), (1007, 1007, 0), (9, 12, 1), (1013, 1013, 1)])) [0] [dE e.kids] [(2, bA ((e.kids.length : Int) == 0))] fun G => b7 (wp_ret ?_); exact C4 ((e.kids.length : Int) == 0) G [0] (by rw [a31]; simp [noneB, h0, q0, h1, q1]; done)
theorem ac9 (k : Int) : B5.ok Tryd.prog ⟨89, [.v (.int .i64 k)], [], [], .v (.int .i64 (v7 k))⟩ := by
  refine Y9 23 Tryd.func89 [] [(0, iA k)] fun G => ?_; refine wp_seq (t8 G s3 [(2, iA 0)] fun G => b7 (wp_seq (wp_block (wp_seq ?_)))); cases h0 : (k == 1)
  ·
   have q0 := ne_of_beq_false h0; refine t8 G (P1 (fc h0 fz) [(3, 0), (4, 0), (1005, 0)]) [(3, bA (k == 2))] fun G => b7 (rcE G (fun h1 q1 => ?_) fun h1 q1 => ?_)
   ·
    refine wp_seq (t8 G s3 [(10, bA (k == 3))] fun G => b7 (rcE G (fun h2 q2 => ?_) fun h2 q2 => ?_))
    ·
     refine wp_seq ?_; cases h3 : (decide (k >= 4))
     ·
      have q3 := dFf h3; refine t8 G (P1 (fc h3 fz) [(3, 0), (4, 0), (1005, 0)]) [(13, bA false)] fun G => b7 (rF G false (by kernel_rfl) (wp_seq (Z1 G s3 [(2, iA 0), (20, bA (k == 11))] fun G => b7 ?_))); cases h4 : (k == 11)
      · have q4 := ne_of_beq_false h4; refine rF G _ h4 (wp_skip (G2 (b7 (wp_seq (t8 G s3 [(2, iA (-1))] fun G => b7 (wp_ret ?_)))))); exact rxI (-1) G [] (by unfold v7; (repeat' split) <;> omega)
      have q4 := eq_of_beq h4; exact False.elim (by omega)
     have q3 := dTt h3; refine t8 G (P1 (fc h3 fz) [(3, 0), (4, 0), (1005, 0)]) [(13, bA (decide (k <= 10)))] fun G => b7 (rcD G (fun h5 q5 => ?_) fun h5 q5 => ?_)
     ·
      refine wp_seq (t8 G s3 [(20, bA (k == 11))] fun G => b7 (rcE G (fun h6 q6 => ?_) fun h6 q6 => ?_))
      · refine wp_skip (G2 (b7 (wp_seq (t8 G s3 [(2, iA (-1))] fun G => b7 (wp_ret ?_))))); exact rxI (-1) G [] (by unfold v7; (repeat' split) <;> omega)
      refine wp_seq (t8 G s3 [(2, iA 3)] fun G => b7 (wp_ret (I5 (s9 ?_)))); exact rxI 3 G [] (by unfold v7; (repeat' split) <;> omega)
     refine wp_seq (t8 G s3 [(2, iA 2)] fun G => b7 (wp_ret (I5 (s9 ?_)))); exact rxI 2 G [] (by unfold v7; (repeat' split) <;> omega)
    refine wp_seq (t8 G s3 [(2, iA 1)] fun G => b7 (wp_ret (I5 (s9 ?_)))); exact rxI 1 G [] (by unfold v7; (repeat' split) <;> omega)
   refine wp_seq (t8 G s3 [] fun G => b7 (wp_ret (I5 (s9 ?_)))); exact rxI 0 G [] (by unfold v7; (repeat' split) <;> omega)
  have q0 := eq_of_beq h0; refine t8 G (P1 (fc h0 fz) [(3, 0), (4, 0), (1005, 0)]) [(3, bA true)] fun G => b7 (rT G true (by kernel_rfl) (wp_seq (t8 G s3 [] fun G => b7 (wp_ret (I5 (s9 ?_)))))); exact rxI 0 G [] (by unfold v7; (repeat' split) <;> omega)
theorem ak6 (e : b9) : B5.ok Tryd.prog ⟨91, [.agg [.v (.int .i64 e.kind), .v (.int .i64 e.value), .ref 0]], [.dat (.exprs e.kids)], [.dat (.exprs e.kids)], .v (.bool (H7 e))⟩ := by
 refine Y9 11 Tryd.func91 [dE e.kids] [(0, eA e 0)] fun G => ?_; refine wp_seq (H0 G s3 [0, 1] [dE e.kids, .box (eL e 0)] [(1, .ptr 1 0), (2, bA false)] fun G => b7 (wp_seq ?_)); cases h0 : (e.kind == 1)
 ·have q0 := ne_of_beq_false h0; refine H0 G (P1 (fc h0 fz) [(4, 0), (5, 0), (6, 0), (1007, 0)]) [0] [dE e.kids] [(2, bA (e.kind == 2))] fun G => b7 (wp_ret ?_); exact C4 (e.kind == 2) G [0] (by rw [a31]; simp [H7, h0, q0]; done)
 have q0 := eq_of_beq h0; refine H0 G (P1 (fc h0 fz) [(4, 0), (5, 0), (6, 0), (1007, 0)]) [0] [dE e.kids] [(2, bA true)] fun G => b7 (wp_ret ?_); exact C4 true G [0] (by rw [a31]; simp [H7, h0, q0]; done)
theorem aH0 (vs ars : List Int) (b : List b6) (k : Int) : B5.ok Tryd.prog ⟨90, [.agg [.ref 0, .ref 1, .ref 2], .v (.int .i64 k)], [.dat (.ints vs), .dat (.ints ars), .dat (.stmts b)], [.dat (.ints vs), .dat (.ints ars), .dat (.stmts b)], .v (.int .i64 (D9 vs.length ars.length k))⟩ := by
  refine Y9 18 Tryd.func90 [dI vs, dI ars, dT b] [(0, pA 0), (1, iA k)] fun G => ?_; refine wp_seq (H0 G s3 (rg 4) [dI vs, dI ars, dT b, .box (pL 0)] [(1, iA k), (2, .ptr 3 0), (4, iA 0)] fun G => b7 (wp_seq (wp_seq (t8 G s3 [(5, iA k)] fun G => b7 (wp_block (wp_seq (t8 G s3 [(6, bA (k == 1))] fun G => b7 (rcE G (fun h0 q0 => ?_) fun h0 q0 => ?_))))))))
  ·
   refine wp_seq (t8 G s3 [(8, bA (k == 2))] fun G => b7 (rcE G (fun h1 q1 => ?_) fun h1 q1 => ?_))
   ·
    refine wp_seq (t8 G s3 [(13, bA (k == 3))] fun G => b7 (rcE G (fun h2 q2 => ?_) fun h2 q2 => ?_))
    · refine wp_skip (G2 (b7 (wp_seq (H0 G s3 [0, 1, 2] [dI vs, dI ars, dT b] [(4, iA 1)] fun G => b7 (wp_ret ?_))))); exact rxI 1 G [0, 1, 2] (by unfold D9; (repeat' split) <;> omega)
    refine wp_seq (H0 G s3 [0, 1, 2] [dI vs, dI ars, dT b] [(4, iA (ars.length : Int))] fun G => b7 (wp_ret (I5 (s9 ?_)))); exact rxI ((ars.length : Int)) G [0, 1, 2] (by unfold D9; (repeat' split) <;> omega)
   refine wp_seq (H0 G s3 [0, 1, 2] [dI vs, dI ars, dT b] [(4, iA (vs.length : Int))] fun G => b7 (wp_ret (I5 (s9 ?_)))); exact rxI ((vs.length : Int)) G [0, 1, 2] (by unfold D9; (repeat' split) <;> omega)
  refine wp_seq (H0 G s3 [0, 1, 2] [dI vs, dI ars, dT b] [(4, iA 256)] fun G => b7 (wp_ret (I5 (s9 ?_)))); exact rxI 256 G [0, 1, 2] (by unfold D9; (repeat' split) <;> omega)
theorem aw6 {α : Type} {l : List α} {k : Nat} {p : α -> Bool} {z : α} (h : (l.take k).all p = true) (hk : k < l.length) (hp : p (l.getD k z) = true) : (l.take (k + 1)).all p = true := by
 rw [P7 p l k hk, h, <- A7 (d := z) hk, hp]; rfl
theorem al3 {α : Type} {l : List α} {k : Nat} {p : α -> Bool} (h : (l.take k).all p = true) (hk : l.length <= k) : l.all p = true := by
 rw [a16 hk] at h; exact h
section
variable {nv na d : Nat} {e : b9}
theorem aO4 (h : ¬ (e.kids.length : Int) = v7 e.kind) : m9 nv na (d + 1) e = false := by simp [m9, C2, h]
theorem aO3 (h : e.value < 0) : m9 nv na (d + 1) e = false := by
 have : ¬ 0 <= e.value := by omega
 simp [m9, C2, this]
theorem aO2 (h : D9 nv na e.kind <= e.value) : m9 nv na (d + 1) e = false := by
 have : ¬ e.value < D9 nv na e.kind := by omega
 simp [m9, C2, this]
theorem aO1 {k : Nat} {z : b9} (hk : k < e.kids.length) (h : m9 nv na d (e.kids.getD k z) = false) : m9 nv na (d + 1) e = false := by
 rw [A7 hk] at h
 have : e.kids.all (m9 nv na d) = false := af7 hk h
 simp [m9, this]
theorem ax7 (h1 : (e.kids.length : Int) = v7 e.kind) (h2 : ¬ e.value < 0) (h3 : ¬ D9 nv na e.kind <= e.value) : C2 nv na e = true := by
 unfold C2; rw [decide_eq_true h1, decide_eq_true (by omega), decide_eq_true (by omega)]; rfl
theorem aO0 (hn : C2 nv na e = true) (ha : e.kids.all (m9 nv na d) = true) (h : ¬ e.kind = 3) : m9 nv na (d + 1) e = true := by
 rw [m9, hn, ha]; simp [Q9, h]
theorem aN9 (hn : C2 nv na e = true) (ha : e.kids.all (m9 nv na d) = true) (h : e.kind = 3) (hl : 0 < e.kids.length) : m9 nv na (d + 1) e = H7 (e.kids.getD 0 a03) := by
 rw [m9, hn, ha, an1 h hl, A7 hl]; simp [H7]
theorem ao1 (h1 : (e.kids.length : Int) = v7 e.kind) (h : e.kind = 3) : 0 < e.kids.length := by
 rw [h] at h1; simp [v7] at h1; omega
end
theorem aA4 (vs ars : List Int) (b : List b6) (e : b9) (n : Int) (hn : n = 0) : B5.ok Tryd.prog ⟨66, [.agg [.ref 0, .ref 1, .ref 2], .agg [.v (.int .i64 e.kind), .v (.int .i64 e.value), .ref 3], .v (.int .i64 n)], [.dat (.ints vs), .dat (.ints ars), .dat (.stmts b), .dat (.exprs e.kids)], [.dat (.ints vs), .dat (.ints ars), .dat (.stmts b), .dat (.exprs e.kids)], .v (.bool (m9 vs.length ars.length 0 e))⟩ := by
 have h100 : decide (n < 1) = true := by simp; omega
 refine Y9 60 Tryd.func66 [dI vs, dI ars, dT b, dE e.kids] [(0, pA 0), (1, eA e 3), (2, iA n)] fun G => ?_; refine wp_seq (H0 G s3 [0, 1, 2, 3, 4, 12] [dI vs, dI ars, dT b, dE e.kids, .box (pL 0), .box (eL e 3)] [(2, iA n), (3, .ptr 4 0), (4, .ptr 5 0), (6, bA false)] fun G => b7 (wp_seq (wp_seq (aO8 G (P1 (fc (a := decide (n < 1)) (b := true) (by assumption) (fc (b := true) rfl fz)) (us [(3, 9, 0), (1010, 1010, 0), (12, 14, 1), (1015, 1015, 1), (17, 23, 1), (1024, 1024, 1)])) [0, 1, 3, 7, 15, 31, 7, 71, 199, 511, 1023, 2047, 4095, 8191, 16383, 32767, 65535, 131071, 262143, 131071, 131071, 1179647, 3801087, 8388607, 16777215] [(32, bA true)] fun G => b7 (rT G true (by kernel_rfl) (wp_seq (t8 G s3 [] fun G => b7 (wp_ret (s9 ?_))))))))); exact rxr G (rg 4)
theorem aA3 (vs ars : List Int) (b : List b6) (d : Nat) (hd : d <= 5) (ih : ∀ (e : b9) (n : Int), n = d -> B5.ok Tryd.prog ⟨66, [.agg [.ref 0, .ref 1, .ref 2], .agg [.v (.int .i64 e.kind), .v (.int .i64 e.value), .ref 3], .v (.int .i64 n)], [.dat (.ints vs), .dat (.ints ars), .dat (.stmts b), .dat (.exprs e.kids)], [.dat (.ints vs), .dat (.ints ars), .dat (.stmts b), .dat (.exprs e.kids)], .v (.bool (m9 vs.length ars.length d e))⟩)
    (e : b9) (n : Int) (hn : n = (d + 1 : Nat)) : B5.ok Tryd.prog ⟨66, [.agg [.ref 0, .ref 1, .ref 2], .agg [.v (.int .i64 e.kind), .v (.int .i64 e.value), .ref 3], .v (.int .i64 n)], [.dat (.ints vs), .dat (.ints ars), .dat (.stmts b), .dat (.exprs e.kids)], [.dat (.ints vs), .dat (.ints ars), .dat (.stmts b), .dat (.exprs e.kids)], .v (.bool (m9 vs.length ars.length (d + 1) e))⟩ := by
  have h100 : decide (n < 1) = false := by simp; omega
  refine Y9 60 Tryd.func66 [dI vs, dI ars, dT b, dE e.kids] [(0, pA 0), (1, eA e 3), (2, iA n)] fun G => ?_; refine wp_seq (H0 G s3 [0, 1, 2, 3, 4, 12] [dI vs, dI ars, dT b, dE e.kids, .box (pL 0), .box (eL e 3)] [(2, iA n), (3, .ptr 4 0), (4, .ptr 5 0), (6, bA false)] fun G => b7 (wp_seq (wp_seq ?_))); cases h0 : ((e.kids.length : Int) != v7 e.kind)
  ·
   have q0 := bne_eq_false_iff_eq.1 h0; cases h1 : (decide (e.value < 0))
   ·
    have q1 := dFf h1; refine aO8 G (E8 (A1 8 [] (ac9 e.kind) (A1 22 [0, 1, 2] (aH0 vs ars b e.kind) E7)) (fc (a := decide (n < 1)) (b := false) (by assumption) (fc h0 (fc h1 fz))) (us [(3, 9, 0), (1010, 1010, 0), (12, 14, 1), (1015, 1015, 1), (17, 23, 2), (1024, 1024, 2)])) [0, 1, 3, 7, 15, 31, 7, 71, 199, 511, 1023, 2047, 4095, 8191, 16383, 32767, 65535, 131071, 262143, 131071, 131071, 1179647, 3801087, 8388607, 16777215] [(32, bA (decide (e.value >= D9 vs.length ars.length e.kind)))] fun G => b7 (rcD G (fun h2 q2 => ?_) fun h2 q2 => ?_)
    ·
     refine wp_skip (b7 (wp_seq (wp_seq (Z1 G s3 [(2, iA n), (3, .ptr 4 0), (4, .ptr 5 0), (6, bA false), (7, iA 0)] fun G => b7 (wp_block ?_))))); refine N5 (κ := Nat) (fun k => k <= e.kids.length /\ (e.kids.take k).all (m9 vs.length ars.length d) = true) (fun k => e.kids.length - k) (fun k => [dI vs, dI ars, dT b, dE e.kids, .box (pL 0), .box (eL e 3)]) (fun k => [(2, iA n), (3, .ptr 4 0), (4, .ptr 5 0), (6, bA false), (7, iA k)]) 0 (by simp [h100, h0, h1, h2]) (E6.at G _ _) ?_; clear G; intro k ρ a w hp G; have hlen : e.kids.length <= 9223372036854775807 := G.len 3 (d := .exprs e.kids) (by kernel_rfl); have hnode := ax7 (nv := vs.length) (na := ars.length) q0 q1 q2; refine wp_seq (wp_seq (Z1 G s3 [(2, iA n), (3, .ptr 4 0), (4, .ptr 5 0), (6, bA false), (7, iA k), (37, bA (decide ((k : Int) < e.kids.length)))] fun G => b7 (rcD G (fun h3 q3 => ?_) fun h3 q3 => ?_)))
     ·
      refine wp_exit (M4 (M4 (L2 (b7 (wp_seq ?_))))); cases h4 : (e.kind != 3)
      · have q4 := bne_eq_false_iff_eq.1 h4; refine rA1 G (E8 (A1 8 [62] (ak6 (e.kids.getD 0 a03)) E7) (fc h4 fz) (us [(4, 8, 0), (1009, 1009, 0)])) (rg 4) [dI vs, dI ars, dT b, dE e.kids] [(6, bA (H7 (e.kids.getD 0 a03)))] (iX 0 0 e.kids.length []) (iK (by have := ao1 q0 (by omega); omega) a18) fun G => b7 (wp_ret ?_); exact C4 (H7 (e.kids.getD 0 a03)) G (rg 4) (aN9 hnode (al3 hp.2 (by omega)) (by omega) (ao1 q0 (by omega)))
      have q4 := bne_iff_ne.1 h4; refine H0 G (P1 (fc h4 fz) (us [(4, 8, 0), (1009, 1009, 0)])) (rg 4) [dI vs, dI ars, dT b, dE e.kids] [(6, bA true)] fun G => b7 (wp_ret ?_); exact C4 true G (rg 4) (aO0 hnode (al3 hp.2 (by omega)) (by omega))
     refine wp_skip (b7 (wp_seq (wp_block (wp_seq (aJ7 G (hhC 8 [0, 1, 2, 46] (ih (e.kids.getD k a03) (n - 1) (by omega))) [0, 0, 2, 0, 14, 30, 0, 64, 255, 511] [(49, .v (.bool !m9 vs.length ars.length d (e.kids.getD k a03)))] (iX k k e.kids.length ((wO (n - 1)) :: [])) (iK (by omega) (o1 (by omega))) fun G => b7 ?_))))); cases h5 : (!m9 vs.length ars.length d (e.kids.getD k a03))
     · have q5 : (m9 vs.length ars.length d (e.kids.getD k a03)) = true := (Eq.mp (a27 _) h5); refine rF G _ h5 (wp_skip (G2 (b7 (T7 G s3 [(7, iA ((k : Int) + 1))] [wO ((k : Int) + 1)] (o1 (by omega)) fun G => b7 ?_)))); exact rxn G (k + 1) (⟨by omega, aw6 hp.2 (by omega) (by assumption)⟩) (by omega) (rg 6)
     have q5 : (m9 vs.length ars.length d (e.kids.getD k a03)) = false := (Eq.mp (a23 _) h5); refine rT G _ h5 (wp_seq (t8 G s3 [] fun G => b7 (wp_ret (I5 (s9 (s9 (I5 (s9 ?_)))))))); exact C4 false G (rg 4) (aO1 (k := k) (by omega) (by assumption))
    refine wp_seq (t8 G s3 [] fun G => b7 (wp_ret (s9 ?_))); exact C4 false G (rg 4) (aO2 (by omega))
   have q1 := dTt h1; refine aO8 G (E8 (A1 8 [] (ac9 e.kind) E7) (fc (a := decide (n < 1)) (b := false) (by assumption) (fc h0 (fc h1 fz))) (us [(3, 9, 0), (1010, 1010, 0), (12, 14, 1), (1015, 1015, 1), (17, 23, 2), (1024, 1024, 2)])) [0, 1, 3, 7, 15, 31, 7, 71, 199, 511, 1023, 2047, 4095, 8191, 16383, 32767, 65535, 131071, 262143, 131071, 131071, 1179647, 3801087, 8388607, 16777215] [(32, bA true)] fun G => b7 (rT G true (by kernel_rfl) (wp_seq (t8 G s3 [] fun G => b7 (wp_ret (s9 ?_))))); exact C4 false G (rg 4) (aO3 (by omega))
  have q0 := bne_iff_ne.1 h0; refine aO8 G (E8 (A1 8 [] (ac9 e.kind) E7) (fc (a := decide (n < 1)) (b := false) (by assumption) (fc h0 (fc (b := true) rfl fz))) (us [(3, 9, 0), (1010, 1010, 0), (12, 14, 1), (1015, 1015, 1), (17, 23, 2), (1024, 1024, 2)])) [0, 1, 3, 7, 15, 31, 7, 71, 199, 511, 1023, 2047, 4095, 8191, 16383, 32767, 65535, 131071, 262143, 131071, 131071, 1179647, 3801087, 8388607, 16777215] [(32, bA true)] fun G => b7 (rT G true (by kernel_rfl) (wp_seq (t8 G s3 [] fun G => b7 (wp_ret (s9 ?_))))); exact C4 false G (rg 4) (aO4 (by omega))
theorem au3 (vs ars : List Int) (b : List b6) : ∀ (d : Nat), d <= 5 -> ∀ (e : b9) (n : Int), n = d -> B5.ok Tryd.prog ⟨66, [.agg [.ref 0, .ref 1, .ref 2], .agg [.v (.int .i64 e.kind), .v (.int .i64 e.value), .ref 3], .v (.int .i64 n)], [.dat (.ints vs), .dat (.ints ars), .dat (.stmts b), .dat (.exprs e.kids)], [.dat (.ints vs), .dat (.ints ars), .dat (.stmts b), .dat (.exprs e.kids)], .v (.bool (m9 vs.length ars.length d e))⟩
 | 0, _, e, n, hn => aA4 vs ars b e n (by omega)
 | d + 1, hd, e, n, hn => aA3 vs ars b d (by omega) (au3 vs ars b d (by omega)) e n hn
theorem ak5 (vs ars : List Int) (b : List b6) (ky vy : Int) (ks : List b9) (n : Int) (hn : n = 5) : B5.ok Tryd.prog (N9 66 [pA 0, .agg [iA ky, iA vy, .ref 3], iA n] [dI vs, dI ars, dT b, dE ks] (bA (m9 vs.length ars.length 5 ⟨ky, vy, ks⟩))) := au3 vs ars b 5 (by omega) ⟨ky, vy, ks⟩ n hn
def cnP (d : Nat) (ks : List b9) (k : Nat) : Nat := 1 + ((ks.take k).map (T8 d)).sum
theorem aW9 (d : Nat) (ks : List b9) : cnP d ks 0 = 1 := rfl
theorem av5 {d : Nat} {ks : List b9} {k : Nat} (hk : k < ks.length) : cnP d ks (k + 1) = cnP d ks k + T8 d (ks.getD k a03) := by
 unfold cnP
 rw [G0 ks k hk, List.map_append, List.sum_append, A7 hk]
 simp; omega
theorem aQ5 {d : Nat} {e : b9} {k : Nat} (hk : e.kids.length <= k) : cnP d e.kids k = T8 (d + 1) e := by
 unfold cnP; rw [a16 hk, T8]
section
variable {nv na d : Nat} {e : b9}
theorem aA2 (he : m9 nv na (d + 1) e = true) {k : Nat} (hk : k < e.kids.length) : m9 nv na d (e.kids.getD k a03) = true := by
 rw [A7 hk]; exact (O0 he).2 _ (a11 hk)
theorem aW8 (hd : d <= 5) (he : m9 nv na d e = true) : T8 d e <= 1024 := by
 rw [av4 nv na d e he]
 refine a15 (aJ0 nv na d e he) ?_
 exact a15 (a33 (by decide) hd) (by decide)
theorem aS4 (hd : d <= 4) (he : m9 nv na (d + 1) e = true) : ∀ k : Nat, k <= e.kids.length -> cnP d e.kids k <= 1 + 1024 * k
 | 0, _ => by rw [aW9]; omega
 | k + 1, hk => by
  have h := aS4 hd he k (by omega)
  have h2 := aW8 (by omega) (aA2 he (show k < e.kids.length by omega))
  rw [av5 (by omega)]
  omega
end
abbrev cnC (d : Nat) (e : b9) (n : Int) : B5 := N9 67 [eA e 0, iA n] (eS e) (iA (T8 d e : Nat))
theorem aF4 (nv na d : Nat) (hd : d <= 4) (ih : ∀ (e : b9), m9 nv na d e = true -> ∀ n : Int, n = d -> B5.ok Tryd.prog (cnC d e n)) (e : b9) (he : m9 nv na (d + 1) e = true) (n : Int) (hn : n = (d + 1 : Nat)) : B5.ok Tryd.prog (cnC (d + 1) e n) := by
  have hk3 := (O0 he).1; refine Y9 29 Tryd.func67 [dE e.kids] [(0, eA e 0), (1, iA n)] fun G => ?_; refine wp_seq (H0 G s3 [0, 1] [dE e.kids, .box (eL e 0)] [(1, iA n), (2, .ptr 1 0), (4, iA 0)] fun G => b7 (wp_seq (t8 G s3 [(5, iA 1)] fun G => b7 (wp_seq (wp_seq (Z1 G s3 [(1, iA n), (2, .ptr 1 0), (4, iA 0), (5, iA 1), (6, iA 0)] fun G => b7 (wp_block ?_))))))); refine N5 (κ := Nat) (fun k => k <= e.kids.length) (fun k => e.kids.length - k) (fun k => [dE e.kids, .box (eL e 0)]) (fun k => [(1, iA n), (2, .ptr 1 0), (4, iA 0), (5, iA (cnP d e.kids k : Nat)), (6, iA k)]) 0 (by omega) (E6.at G _ _) ?_; clear G; intro k ρ a w hp G; replace G := E6.at G [dE e.kids, .box (eL e 0)] [(1, iA n), (2, .ptr 1 0), (4, iA 0), (5, iA (↑(cnP d e.kids k) : Int)), (6, iA k)]; have hcb := aS4 hd he k hp; refine wp_seq (wp_seq ?_); cases h0 : (decide ((k : Int) < e.kids.length))
  · have q0 := dFf h0; refine t8 G (P1 (fc h0 fz) [(6, 0), (7, 0), (1008, 0)]) [(15, bA false)] fun G => b7 (rF G false (by kernel_rfl) (wp_exit (M4 (M4 (L2 (b7 (wp_seq (H0 G s3 [0] [dE e.kids] [(4, iA (↑(cnP d e.kids k) : Int))] fun G => b7 (wp_ret ?_))))))))); exact rxI ((↑(cnP d e.kids k) : Int)) G [0] (by rw [<- aQ5 (k := k) (by omega)]; done)
  have q0 := dTt h0; refine Z1 G (P1 (fc h0 fz) [(6, 0), (7, 0), (1008, 0)]) [(1, iA n), (2, .ptr 1 0), (4, iA 0), (5, iA (↑(cnP d e.kids k) : Int)), (6, iA k), (15, bA (decide (n > 0)))] fun G => b7 ?_; cases h1 : (decide (n > 0))
  · have q1 := dFf h1; exact False.elim (by omega)
  have q1 := dTt h1; refine rT G _ h1 (wp_skip (b7 (wp_seq (wp_block (T7 G (hhC 8 [42] (ih (e.kids.getD k a03) (aA2 he (by omega)) (n - 1) (by omega))) [(5, iA ((↑(cnP d e.kids k) : Int) + (↑(T8 d (e.kids.getD k a03)) : Int)))] (iX k k e.kids.length ((wO (n - 1)) :: ((wO ((↑(cnP d e.kids k) : Int) + (↑(T8 d (e.kids.getD k a03)) : Int))) :: []))) (iK (by omega) ⟨oW (by omega), ⟨(by have h9 := aW8 (nv := nv) (na := na) (d := d) (by omega) (aA2 he (show k < e.kids.length by omega)); exact w64 (by omega) (by omega)), a18⟩⟩) fun G => G2 (b7 (T7 G s3 [(6, iA ((k : Int) + 1))] [wO ((k : Int) + 1)] (o1 (by omega)) fun G => b7 ?_))))))); exact rxn G (k + 1) (by omega) (by omega) [0, 1] (ht := by have e1 : ((↑(cnP d e.kids (k + 1)) : Int) : Int) = ((↑(cnP d e.kids k) : Int) + (↑(T8 d (e.kids.getD k a03)) : Int)) := (by rw [av5 (by omega)]; omega); (first | rw [e1] | simp only [e1]) <;> rfl)
theorem au5 (nv na : Nat) : ∀ (d : Nat), d <= 5 -> ∀ (e : b9), m9 nv na d e = true -> ∀ n : Int, n = d -> B5.ok Tryd.prog (cnC d e n)
 | 0, _, e, h, _, _ => by simp [m9] at h
 | d + 1, hd, e, h, n, hn => aF4 nv na d (by omega) (au5 nv na d (by omega)) e h n hn
theorem aA6 (nv na : Nat) (ky vy : Int) (ks : List b9) (n : Int) (hn : n = 5) (h : m9 nv na 5 ⟨ky, vy, ks⟩ = true) : B5.ok Tryd.prog (N9 67 [.agg [iA ky, iA vy, .ref 0], iA n] [dE ks] (iA (T8 5 ⟨ky, vy, ks⟩ : Nat))) := au5 nv na 5 (by omega) ⟨ky, vy, ks⟩ h n hn
theorem aX9 {nv na : Nat} {e : b9} (h : m9 nv na 5 ⟨e.kind, e.value, e.kids⟩ = false) : n5 nv na e = false := by
 rw [b9.eta] at h
 unfold n5; rw [h]; rfl
theorem aX8 {nv na : Nat} {e : b9} (h : m9 nv na 5 ⟨e.kind, e.value, e.kids⟩ = true) : n5 nv na e = decide ((T8 5 ⟨e.kind, e.value, e.kids⟩ : Int) <= 15) := by
 rw [b9.eta] at h ⊢
 rw [ay2, h, Bool.true_and, a31]
 simp only [decide_eq_true_eq]; omega
section
variable {s : b6}
theorem aY4 (h : s.kind = 4) (h2 : ¬ (s.els.length : Int) = 0) : p9 s = false := by
 unfold p9; rw [if_pos (.inr h), if_pos h, decide_eq_false (p := s.els.length = 0) (by omega)]; simp
theorem aY7 (h : s.kind = 4) (h1 : s.target = 0) (h2 : (s.els.length : Int) = 0) (h3 : s.count >= 1) (h4 : s.count <= 3) (h5 : noneB s.index = true) : p9 s = noneB s.value := by
 unfold p9; rw [if_pos (.inr h), if_pos h, decide_eq_true (p := s.els.length = 0) (by omega), decide_eq_true h1, decide_eq_true (p := 1 <= s.count) h3, decide_eq_true h4, h5]; simp
theorem aY6 (h3 : ¬ s.kind = 3) (h4 : ¬ s.kind = 4) (b : ¬ (s.body.length : Int) > 0) (e : ¬ (s.els.length : Int) > 0) (c : s.count = 0) (h2 : ¬ s.kind = 2) : p9 s = noneB s.index := by
 unfold p9; rw [if_neg (by omega), decide_eq_true (p := s.body.length = 0) (by omega), decide_eq_true (p := s.els.length = 0) (by omega), decide_eq_true c, decide_eq_false h2]; simp
theorem aY5 (b : ¬ (s.body.length : Int) > 0) (e : ¬ (s.els.length : Int) > 0) (c : s.count = 0) (h2 : s.kind = 2) : p9 s = true := by
 unfold p9; rw [if_neg (by omega), decide_eq_true (p := s.body.length = 0) (by omega), decide_eq_true (p := s.els.length = 0) (by omega), decide_eq_true c, decide_eq_true h2]; simp
theorem aY3 (h3 : ¬ s.kind = 3) (h4 : ¬ s.kind = 4) (e : (s.els.length : Int) > 0) : p9 s = false := by
 unfold p9; rw [if_neg (by omega), decide_eq_false (p := s.els.length = 0) (by omega)]; simp
theorem aY2 (h3 : ¬ s.kind = 3) (h4 : ¬ s.kind = 4) (e : (s.body.length : Int) > 0) : p9 s = false := by
 unfold p9; rw [if_neg (by omega), decide_eq_false (p := s.body.length = 0) (by omega)]; simp
end
theorem G6 (p : p8) (e : b9) : B5.ok Tryd.prog (N9 37 [pA 0, eA e 3] (pS p ++ eS e) (bA (n5 p.vars.length p.arrays.length e))) := by
 have hcn := fun h => aA6 p.vars.length p.arrays.length e.kind e.value e.kids 5 rfl h
 refine Y9 13 Tryd.func37 [dI p.vars, dI p.arrays, dT p.body, dE e.kids] [(0, pA 0), (1, eA e 3)] fun G => ?_; refine wp_seq (H0 G s3 [0, 1, 2, 3, 4, 12] [dI p.vars, dI p.arrays, dT p.body, dE e.kids, .box (pL 0), .box (eL e 3)] [(2, .ptr 4 0), (3, .ptr 5 0), (4, bA false)] fun G => b7 (wp_seq ?_)); cases h0 : (m9 p.vars.length p.arrays.length (5 : Nat) (qzE e))
 ·refine H0 G (E8 (A1 2 (rg 4) (ak5 p.vars p.arrays p.body e.kind e.value e.kids 5 (by kernel_rfl)) E7) (fc h0 fz) [(4, 0), (5, 0), (6, 0), (1007, 0)]) (rg 4) [dI p.vars, dI p.arrays, dT p.body, dE e.kids] [(4, bA false)] fun G => b7 (wp_ret ?_); exact C4 false G (rg 4) (aX9 (by with_reducible assumption))
 refine H0 G (E8 (A1 2 (rg 4) (ak5 p.vars p.arrays p.body e.kind e.value e.kids 5 (by kernel_rfl)) (A1 5 [3] (hcn (by assumption)) E7)) (fc h0 fz) [(4, 0), (5, 0), (6, 0), (1007, 0)]) (rg 4) [dI p.vars, dI p.arrays, dT p.body, dE e.kids] [(4, bA (decide ((↑(T8 5 (qzE e)) : Int) <= 15)))] fun G => b7 (wp_ret ?_); exact C4 (decide ((↑(T8 5 (qzE e)) : Int) <= 15)) G (rg 4) (aX8 (by with_reducible assumption))
abbrev ag4 (s : b6) (r0 : List It) : List It := dE s.index.kids :: dE s.value.kids :: dT s.body :: dT s.els :: r0
theorem aG9 (s : b6) : B5.ok Tryd.prog (N9 99 [sA s 0] (sS s) (bA (p9 s))) := by
  refine Y9 74 Tryd.func99 (ag4 s []) [(0, sA s 0)] fun G => ?_; refine wp_seq (H0 G s3 (rg 5) (ag4 s [.box (sL s 0)]) [(1, .ptr 4 0), (2, bA false)] fun G => b7 (wp_seq ?_)); cases h0 : (s.kind == 3)
  ·
   have q0 := ne_of_beq_false h0; refine Z1 G (P1 (fc h0 fz) [(4, 0), (5, 0), (6, 0), (1007, 0)]) [(1, .ptr 4 0), (2, bA false), (3, bA (s.kind == 4))] fun G => b7 (wp_seq (wp_seq ?_)); cases h1 : (!s.kind == 4)
   ·
    have q1 : s.kind = 4 := (fun hq => eq_of_beq hq) (Eq.mp (a27 _) h1); cases h2 : (s.kind == 4)
    · have q2 := ne_of_beq_false h2; exact False.elim (by omega)
    have q2 := eq_of_beq h2; refine t8 G (P1 (fc h1 (fc (b := false) rfl (fc h2 fz))) (us [(3, 7, 0), (12, 12, 0), (1013, 1013, 0), (15, 16, 1), (17, 19, 2), (20, 20, 1), (1020, 1020, 2), (1021, 1021, 1)])) [(33, bA (s.target != 0))] fun G => b7 (rcN G (fun h3 q3 => ?_) fun h3 q3 => ?_)
    ·
     refine wp_skip (b7 (wp_seq (wp_seq (t8 G s3 [(36, bA (s.kind == 4))] fun G => b7 (rT G _ h2 (wp_seq ?_)))))); cases h4 : ((s.els.length : Int) == 0)
     · have q4 := ne_of_beq_false h4; refine t8 G (P1 (fc h4 (fc (b := false) rfl fz)) (us [(5, 7, 0), (1008, 1008, 0), (10, 12, 1), (1013, 1013, 1), (15, 17, 1), (1018, 1018, 1), (20, 22, 1), (1023, 1023, 1)])) [] fun G => b7 (wp_ret (s9 ?_)); exact C4 false G (rg 4) (aY4 (by omega) (by omega))
     have q4 := eq_of_beq h4; cases h5 : (decide (s.count >= 1))
     · have q5 := dFf h5; refine t8 G (P1 (fc h4 (fc h5 (fc (b := false) rfl fz))) (us [(5, 7, 0), (1008, 1008, 0), (10, 12, 1), (1013, 1013, 1), (15, 17, 2), (1018, 1018, 2), (20, 22, 2), (1023, 1023, 2)])) [] fun G => b7 (wp_ret (s9 ?_)); exact C4 false G (rg 4) (by rw [a31]; simp [p9, h0, q0, h1, q1, h2, q2, h3, q3, h4, q4, h5, q5]; done)
     have q5 := dTt h5; cases h6 : (decide (s.count <= 3))
     · have q6 := dFf h6; refine t8 G (P1 (fc h4 (fc h5 (fc h6 (fc (b := false) rfl fz)))) (us [(5, 7, 0), (1008, 1008, 0), (10, 12, 1), (1013, 1013, 1), (15, 17, 2), (1018, 1018, 2), (20, 22, 3), (1023, 1023, 3)])) [] fun G => b7 (wp_ret (s9 ?_)); exact C4 false G (rg 4) (by rw [a31]; simp [p9, h0, q0, h1, q1, h2, q2, h3, q3, h4, q4, h5, q5, h6, q6]; done)
     have q6 := dTt h6; cases h7 : (noneB s.index)
     · refine t8 G (E8 (A1 17 [0] (U6 s.index) E7) (fc h4 (fc h5 (fc h6 (fc h7 fz)))) (us [(5, 7, 0), (1008, 1008, 0), (10, 12, 1), (1013, 1013, 1), (15, 17, 2), (1018, 1018, 2), (20, 22, 3), (1023, 1023, 3)])) [] fun G => b7 (wp_ret (s9 ?_)); exact C4 false G (rg 4) (by rw [a31]; simp [p9, h0, q0, h1, q1, h2, q2, h3, q3, h4, q4, h5, q5, h6, q6, h7]; done)
     refine t8 G (E8 (A1 17 [0] (U6 s.index) (A1 22 [1] (U6 s.value) E7)) (fc h4 (fc h5 (fc h6 (fc h7 fz)))) (us [(5, 7, 0), (1008, 1008, 0), (10, 12, 1), (1013, 1013, 1), (15, 17, 2), (1018, 1018, 2), (20, 22, 3), (1023, 1023, 3)])) [(2, bA (noneB s.value))] fun G => b7 (wp_ret (s9 ?_)); exact C4 (noneB s.value) G (rg 4) (aY7 (by omega) (by omega) (by omega) (by omega) (by omega) (by with_reducible assumption))
    refine wp_seq (t8 G s3 [] fun G => b7 (wp_ret (s9 ?_))); exact C4 false G (rg 4) (by rw [a31]; simp [p9, h0, q0, h1, q1, h2, q2, h3, q3]; done)
   have q1 : ¬ (s.kind = 4) := (fun hq => ne_of_beq_false hq) (Eq.mp (a23 _) h1); cases h8 : (decide ((s.body.length : Int) > 0))
   ·
    have q8 := dFf h8; cases h9 : (decide ((s.els.length : Int) > 0))
    ·
     have q9 := dFf h9; cases h10 : (s.kind == 4)
     ·
      have q10 := ne_of_beq_false h10; refine t8 G (P1 (fc h1 (fc h8 (fc h9 (fc h10 fz)))) (us [(3, 7, 0), (8, 11, 1), (12, 12, 0), (1012, 1012, 1), (1013, 1013, 0), (15, 16, 2), (17, 19, 3), (20, 20, 2), (1020, 1020, 3), (1021, 1021, 2)])) [(33, bA false)] fun G => b7 (rF G false (by kernel_rfl) (wp_skip (b7 (wp_seq (wp_seq (t8 G s3 [(36, bA (s.kind == 4))] fun G => b7 (rF G _ h10 (wp_skip (b7 (wp_seq ?_)))))))))); cases h11 : (s.count == 0)
      · have q11 := ne_of_beq_false h11; refine H0 G (P1 (fc h11 fz) (us [(4, 7, 0), (11, 11, 0), (1012, 1012, 0)])) (rg 4) (ag4 s []) [(2, bA false)] fun G => b7 (wp_ret ?_); exact C4 false G (rg 4) (by rw [a31]; simp [p9, h0, q0, h1, q1, h8, q8, h9, q9, h10, q10, h11, q11]; done)
      have q11 := eq_of_beq h11; cases h12 : (s.kind == 2)
      · have q12 := ne_of_beq_false h12; refine H0 G (E8 (A1 10 [0] (U6 s.index) E7) (fc h11 (fc h12 fz)) (us [(4, 7, 0), (8, 10, 1), (11, 11, 0), (1011, 1011, 1), (1012, 1012, 0)])) (rg 4) (ag4 s []) [(2, bA (noneB s.index))] fun G => b7 (wp_ret ?_); exact C4 (noneB s.index) G (rg 4) (aY6 (by omega) (by omega) (by omega) (by omega) (by omega) (by omega))
      have q12 := eq_of_beq h12; refine H0 G (P1 (fc h11 (fc h12 fz)) (us [(4, 7, 0), (8, 10, 1), (11, 11, 0), (1011, 1011, 1), (1012, 1012, 0)])) (rg 4) (ag4 s []) [(2, bA true)] fun G => b7 (wp_ret ?_); exact C4 true G (rg 4) (aY5 (by omega) (by omega) (by omega) (by omega))
     have q10 := eq_of_beq h10; exact False.elim (by omega)
    have q9 := dTt h9; refine t8 G (P1 (fc h1 (fc h8 (fc h9 fz))) (us [(3, 7, 0), (8, 11, 1), (12, 12, 0), (1012, 1012, 1), (1013, 1013, 0), (15, 16, 2), (20, 20, 2), (1021, 1021, 2)])) [(33, bA true)] fun G => b7 (rT G true (by kernel_rfl) (wp_seq (t8 G s3 [] fun G => b7 (wp_ret (s9 ?_))))); exact C4 false G (rg 4) (aY3 (by omega) (by omega) (by omega))
   have q8 := dTt h8; refine t8 G (P1 (fc h1 (fc h8 (fc (b := true) rfl fz))) (us [(3, 7, 0), (8, 11, 1), (12, 12, 0), (1012, 1012, 1), (1013, 1013, 0), (15, 16, 2), (20, 20, 2), (1021, 1021, 2)])) [(33, bA true)] fun G => b7 (rT G true (by kernel_rfl) (wp_seq (t8 G s3 [] fun G => b7 (wp_ret (s9 ?_))))); exact C4 false G (rg 4) (aY2 (by omega) (by omega) (by omega))
  have q0 := eq_of_beq h0; refine t8 G (P1 (fc h0 fz) [(4, 0), (5, 0), (6, 0), (1007, 0)]) [(3, bA true)] fun G => b7 (wp_seq (wp_seq (t8 G (P1 (fc (b := false) rfl (fc (b := true) rfl fz)) (us [(3, 7, 0), (12, 12, 0), (1013, 1013, 0), (15, 16, 0), (17, 19, 1), (20, 20, 0), (1020, 1020, 1), (1021, 1021, 0)])) [(33, bA (s.target != 0))] fun G => b7 (rcN G (fun h13 q13 => ?_) fun h13 q13 => ?_))))
  ·
   refine wp_skip (b7 (wp_seq (wp_seq (Z1 G s3 [(1, .ptr 4 0), (2, bA false), (36, bA (s.kind == 4))] fun G => b7 ?_)))); cases h14 : (s.kind == 4)
   ·
    have q14 := ne_of_beq_false h14; refine rF G _ h14 (wp_skip (b7 (wp_seq ?_))); cases h15 : (s.count == 0)
    · have q15 := ne_of_beq_false h15; refine H0 G (P1 (fc h15 fz) (us [(4, 7, 0), (11, 11, 0), (1012, 1012, 0)])) (rg 4) (ag4 s []) [(2, bA false)] fun G => b7 (wp_ret ?_); exact C4 false G (rg 4) (by rw [a31]; simp [p9, h0, q0, h13, q13, h14, q14, h15, q15]; done)
    have q15 := eq_of_beq h15; cases h16 : (s.kind == 2)
    · have q16 := ne_of_beq_false h16; refine H0 G (E8 (A1 10 [0] (U6 s.index) E7) (fc h15 (fc h16 fz)) (us [(4, 7, 0), (8, 10, 1), (11, 11, 0), (1011, 1011, 1), (1012, 1012, 0)])) (rg 4) (ag4 s []) [(2, bA (noneB s.index))] fun G => b7 (wp_ret ?_); exact C4 (noneB s.index) G (rg 4) (by rw [a31]; simp [p9, h0, q0, h13, q13, h14, q14, h15, q15, h16, q16]; done)
    have q16 := eq_of_beq h16; exact False.elim (by omega)
   have q14 := eq_of_beq h14; exact False.elim (by omega)
  refine wp_seq (t8 G s3 [] fun G => b7 (wp_ret (s9 ?_))); exact C4 false G (rg 4) (by rw [a31]; simp [p9, h0, q0, h13, q13]; done)
abbrev vbC (p : p8) (d : Nat) (ss : List b6) (n : Int) : B5 := N9 50 [pA 0, .ref 3, iA n] (pS p ++ [dT ss]) (bA (ss.all (n4 p.vars.length p.arrays.length d)))
abbrev vsC (p : p8) (d : Nat) (s : b6) (n : Int) : B5 := N9 80 [pA 0, sA s 3, iA n] (pS p ++ sS s) (bA (n4 p.vars.length p.arrays.length d s))
theorem aF2 (p : p8) (s : b6) (n : Int) (hn : n = 0) : B5.ok Tryd.prog (vsC p 0 s n) := by
 refine Y9 96 Tryd.func80 [dI p.vars, dI p.arrays, dT p.body, dE s.index.kids, dE s.value.kids, dT s.body, dT s.els] [(0, pA 0), (1, sA s 3), (2, iA n)] fun G => ?_; refine wp_seq (H0 G s3 [0, 1, 2, 3, 4, 5, 6, 7, 15] [dI p.vars, dI p.arrays, dT p.body, dE s.index.kids, dE s.value.kids, dT s.body, dT s.els, .box (pL 0), .box (sL s 3)] [(2, iA n), (3, .ptr 7 0), (4, .ptr 8 0), (6, bA false)] fun G => b7 (wp_seq (wp_seq ?_))); cases h0 : (decide (n < 1))
 ·have q0 := dFf h0; exact False.elim (by omega)
 have q0 := dTt h0; refine t8 G (P1 (fc h0 fz) [(3, 0), (4, 0), (5, 0), (1006, 0)]) [(13, bA true)] fun G => b7 (rT G true (by kernel_rfl) (wp_seq (t8 G s3 [] fun G => b7 (wp_ret (s9 ?_))))); exact rxr G (rg 7)
section
variable {nv na d : Nat} {s : b6}
theorem aX5 (h : p9 s = false) : n4 nv na (d + 1) s = false := by rw [n4, h]; rfl
theorem aS9 (hp : p9 s = true) (h : s.kind = 1 \/ s.kind = 5) : n4 nv na (d + 1) s = (decide (0 <= s.target) && decide (s.target < nv) && n5 nv na s.value) := by rw [n4, hp, if_pos h]; rfl
theorem aI7 (hp : p9 s = true) (h : s.kind = 2) : n4 nv na (d + 1) s = (decide (0 <= s.target) && decide (s.target < na) && n5 nv na s.index && H7 s.index && n5 nv na s.value) := by rw [n4, hp, if_neg (by omega), if_pos h]; rfl
theorem aS8 (hp : p9 s = true) (h : s.kind = 3) : n4 nv na (d + 1) s = (n5 nv na s.value && s.body.all (n4 nv na d) && s.els.all (n4 nv na d)) := by rw [n4, hp, if_neg (by omega), if_neg (by omega), if_pos h]; rfl
theorem aX6 (hp : p9 s = true) (h : s.kind = 4) : n4 nv na (d + 1) s = s.body.all (n4 nv na d) := by rw [n4, hp, if_neg (by omega), if_neg (by omega), if_neg (by omega), if_pos h]; rfl
theorem aR7 (hp : p9 s = true) (h : s.kind = 1 \/ s.kind = 5) (q : ¬ s.target >= 0) : n4 nv na (d + 1) s = false := by rw [aS9 hp h, decide_eq_false (p := 0 <= s.target) q]; rfl
theorem aR6 (hp : p9 s = true) (h : s.kind = 1 \/ s.kind = 5) (q : ¬ s.target < (nv : Int)) : n4 nv na (d + 1) s = false := by rw [aS9 hp h, decide_eq_false q, Bool.and_false]; rfl
theorem aR5 (hp : p9 s = true) (h : s.kind = 1 \/ s.kind = 5) (q : s.target >= 0) (r : s.target < (nv : Int)) : n4 nv na (d + 1) s = n5 nv na s.value := by rw [aS9 hp h, decide_eq_true (p := 0 <= s.target) q, decide_eq_true r]; rfl
theorem aV6 (hp : p9 s = true) (h : s.kind = 2) (q : ¬ s.target >= 0) : n4 nv na (d + 1) s = false := by rw [aI7 hp h, decide_eq_false (p := 0 <= s.target) q]; rfl
theorem aV5 (hp : p9 s = true) (h : s.kind = 2) (q : ¬ s.target < (na : Int)) : n4 nv na (d + 1) s = false := by rw [aI7 hp h, decide_eq_false q, Bool.and_false]; rfl
theorem aV4 (hp : p9 s = true) (h : s.kind = 2) (q : n5 nv na s.index = false) : n4 nv na (d + 1) s = false := by rw [aI7 hp h, q, Bool.and_false]; rfl
theorem aV3 (hp : p9 s = true) (h : s.kind = 2) (q : H7 s.index = false) : n4 nv na (d + 1) s = false := by rw [aI7 hp h, q, Bool.and_false]; rfl
theorem aV2 (hp : p9 s = true) (h : s.kind = 2) (q : s.target >= 0) (r : s.target < (na : Int)) (u : n5 nv na s.index = true) (v : H7 s.index = true) : n4 nv na (d + 1) s = n5 nv na s.value := by rw [aI7 hp h, decide_eq_true (p := 0 <= s.target) q, decide_eq_true r, u, v]; rfl
theorem aV1 (hp : p9 s = true) (h : s.kind = 3) (q : n5 nv na s.value = false) : n4 nv na (d + 1) s = false := by rw [aS8 hp h, q]; rfl
theorem aV0 (hp : p9 s = true) (h : s.kind = 3) (q : s.body.all (n4 nv na d) = false) : n4 nv na (d + 1) s = false := by rw [aS8 hp h, q, Bool.and_false]; rfl
theorem aU9 (hp : p9 s = true) (h : s.kind = 3) (q : n5 nv na s.value = true) (r : s.body.all (n4 nv na d) = true) : n4 nv na (d + 1) s = s.els.all (n4 nv na d) := by rw [aS8 hp h, q, r]; rfl
theorem aX7 (h1 : ¬ s.kind = 1) (h2 : ¬ s.kind = 2) (h3 : ¬ s.kind = 3) (h4 : ¬ s.kind = 4) (h5 : ¬ s.kind = 5) : n4 nv na (d + 1) s = false := by rw [n4, if_neg (by omega), if_neg h2, if_neg h3, if_neg h4]; simp
end
abbrev J8 (p : p8) (s : b6) (r0 : List It) : List It := dI p.vars :: dI p.arrays :: dT p.body :: dE s.index.kids :: dE s.value.kids :: dT s.body :: dT s.els :: r0
theorem aJ1 (p : p8) (d : Nat) (hB : ∀ (ss : List b6) (n : Int), n = d -> B5.ok Tryd.prog (vbC p d ss n)) (s : b6) (n : Int) (hn : n = (d + 1 : Nat)) (hd : d <= 5) : B5.ok Tryd.prog (vsC p (d + 1) s n) := by
  refine Y9 96 Tryd.func80 (J8 p s []) [(0, pA 0), (1, sA s 3), (2, iA n)] fun G => ?_; refine wp_seq (H0 G s3 [0, 1, 2, 3, 4, 5, 6, 7, 15] (J8 p s [.box (pL 0), .box (sL s 3)]) [(2, iA n), (3, .ptr 7 0), (4, .ptr 8 0), (6, bA false)] fun G => b7 (wp_seq (wp_seq ?_))); cases h0 : (decide (n < 1))
  ·
   have q0 := dFf h0; refine t8 G (E8 (A1 4 [3, 4, 5, 6] (aG9 s) E7) (fc h0 fz) [(3, 0), (4, 0), (5, 0), (1006, 0)]) [(13, .v (.bool !p9 s))] fun G => b7 ?_; cases h1 : (!p9 s)
   ·
    have q1 : (p9 s) = true := (Eq.mp (a27 _) h1); refine rF G _ h1 (wp_skip (b7 (wp_seq (wp_seq (t8 G s3 [(15, iA s.kind)] fun G => b7 (wp_block (wp_seq (wp_seq (t8 G s3 [(16, bA (s.kind == 1))] fun G => b7 (rcE G (fun h2 q2 => ?_) fun h2 q2 => ?_))))))))))
    ·
     refine t8 G s3 [(16, bA (s.kind == 5))] fun G => b7 (rcE G (fun h3 q3 => ?_) fun h3 q3 => ?_)
     ·
      refine wp_seq (t8 G s3 [(36, bA (s.kind == 2))] fun G => b7 (rcE G (fun h4 q4 => ?_) fun h4 q4 => ?_))
      ·
       refine wp_seq (t8 G s3 [(66, bA (s.kind == 3))] fun G => b7 (rcE G (fun h5 q5 => ?_) fun h5 q5 => ?_))
       ·
        refine wp_seq (t8 G s3 [(88, bA (s.kind == 4))] fun G => b7 (rcE G (fun h6 q6 => ?_) fun h6 q6 => ?_))
        · refine wp_skip (G2 (b7 (wp_seq (H0 G s3 (rg 7) (J8 p s []) [(6, bA false)] fun G => b7 (wp_ret ?_))))); exact C4 false G (rg 7) (aX7 (by omega) (by omega) (by omega) (by omega) (by omega))
        refine wp_seq (rA1 G (hhC 5 [0, 1, 2, 5] (hB s.body (n - 1) (by omega))) (rg 7) (J8 p s []) [(6, bA (s.body.all (n4 p.vars.length p.arrays.length d)))] [wO (n - 1)] (o1 (by omega)) fun G => b7 (wp_ret (I5 (s9 ?_)))); exact C4 (s.body.all (n4 p.vars.length p.arrays.length d)) G (rg 7) (aX6 (by with_reducible assumption) (by omega))
       refine wp_seq ?_; cases h7 : (n5 p.vars.length p.arrays.length s.value)
       · refine H0 G (E8 (A1 3 [0, 1, 2, 4] (G6 p s.value) E7) (fc h7 (fc (b := false) rfl fz)) (us [(5, 10, 0), (1011, 1011, 0), (13, 18, 1), (1019, 1019, 1)])) (rg 7) (J8 p s []) [(6, bA false)] fun G => b7 (wp_ret (I5 (s9 ?_))); exact C4 false G (rg 7) (aV1 (by with_reducible assumption) (by omega) (by with_reducible assumption))
       cases h8 : (s.body.all (n4 p.vars.length p.arrays.length d))
       · refine rA1 G (E8 (A1 3 [0, 1, 2, 4] (G6 p s.value) (A1 10 [0, 1, 2, 5] (hB s.body (n - 1) (by omega)) E7)) (fc h7 (fc h8 fz)) (us [(5, 10, 0), (1011, 1011, 0), (13, 18, 1), (1019, 1019, 1)])) (rg 7) (J8 p s []) [(6, bA false)] [wO (n - 1)] (o1 (by omega)) fun G => b7 (wp_ret (I5 (s9 ?_))); exact C4 false G (rg 7) (aV0 (by with_reducible assumption) (by omega) (by with_reducible assumption))
       refine rA1 G (E8 (A1 3 [0, 1, 2, 4] (G6 p s.value) (A1 10 [0, 1, 2, 5] (hB s.body (n - 1) (by omega)) (A1 18 [0, 1, 2, 6] (hB s.els (n - 1) (by omega)) E7))) (fc h7 (fc h8 fz)) (us [(5, 10, 0), (1011, 1011, 0), (13, 18, 1), (1019, 1019, 1)])) (rg 7) (J8 p s []) [(6, bA (s.els.all (n4 p.vars.length p.arrays.length d)))] [wO (n - 1), wO (n - 1)] (o2 (by omega)) fun G => b7 (wp_ret (I5 (s9 ?_))); exact C4 (s.els.all (n4 p.vars.length p.arrays.length d)) G (rg 7) (aU9 (by with_reducible assumption) (by omega) (by with_reducible assumption) (by with_reducible assumption))
      refine wp_seq ?_; cases h9 : (decide (s.target >= 0))
      · have q9 := dFf h9; refine H0 G (P1 (fc h9 (fc (b := false) rfl fz)) (us [(4, 9, 0), (1010, 1010, 0), (12, 15, 1), (1016, 1016, 1), (18, 20, 1), (1021, 1021, 1), (23, 26, 1), (1027, 1027, 1)])) (rg 7) (J8 p s []) [(6, bA false)] fun G => b7 (wp_ret (I5 (s9 ?_))); exact C4 false G (rg 7) (aV6 (by with_reducible assumption) (by omega) (by omega))
      have q9 := dTt h9; cases h10 : (decide (s.target < (p.arrays.length : Int)))
      · have q10 := dFf h10; refine H0 G (P1 (fc h9 (fc h10 (fc (b := false) rfl fz))) (us [(4, 9, 0), (1010, 1010, 0), (12, 15, 1), (1016, 1016, 1), (18, 20, 2), (1021, 1021, 2), (23, 26, 2), (1027, 1027, 2)])) (rg 7) (J8 p s []) [(6, bA false)] fun G => b7 (wp_ret (I5 (s9 ?_))); exact C4 false G (rg 7) (aV5 (by with_reducible assumption) (by omega) (by omega))
      have q10 := dTt h10; cases h11 : (n5 p.vars.length p.arrays.length s.index)
      · refine H0 G (E8 (A1 15 (rg 4) (G6 p s.index) E7) (fc h9 (fc h10 (fc h11 (fc (b := false) rfl fz)))) (us [(4, 9, 0), (1010, 1010, 0), (12, 15, 1), (1016, 1016, 1), (18, 20, 2), (1021, 1021, 2), (23, 26, 3), (1027, 1027, 3)])) (rg 7) (J8 p s []) [(6, bA false)] fun G => b7 (wp_ret (I5 (s9 ?_))); exact C4 false G (rg 7) (aV4 (by with_reducible assumption) (by omega) (by with_reducible assumption))
      cases h12 : (H7 s.index)
      · refine H0 G (E8 (A1 15 (rg 4) (G6 p s.index) (A1 20 [3] (ak6 s.index) E7)) (fc h9 (fc h10 (fc h11 (fc h12 fz)))) (us [(4, 9, 0), (1010, 1010, 0), (12, 15, 1), (1016, 1016, 1), (18, 20, 2), (1021, 1021, 2), (23, 26, 3), (1027, 1027, 3)])) (rg 7) (J8 p s []) [(6, bA false)] fun G => b7 (wp_ret (I5 (s9 ?_))); exact C4 false G (rg 7) (aV3 (by with_reducible assumption) (by omega) (by with_reducible assumption))
      refine H0 G (E8 (A1 15 (rg 4) (G6 p s.index) (A1 20 [3] (ak6 s.index) (A1 26 [0, 1, 2, 4] (G6 p s.value) E7))) (fc h9 (fc h10 (fc h11 (fc h12 fz)))) (us [(4, 9, 0), (1010, 1010, 0), (12, 15, 1), (1016, 1016, 1), (18, 20, 2), (1021, 1021, 2), (23, 26, 3), (1027, 1027, 3)])) (rg 7) (J8 p s []) [(6, bA (n5 p.vars.length p.arrays.length s.value))] fun G => b7 (wp_ret (I5 (s9 ?_))); exact C4 (n5 p.vars.length p.arrays.length s.value) G (rg 7) (aV2 (by with_reducible assumption) (by omega) (by omega) (by omega) (by with_reducible assumption) (by with_reducible assumption))
     refine wp_seq ?_; cases h13 : (decide (s.target >= 0))
     · have q13 := dFf h13; refine H0 G (P1 (fc h13 (fc (b := false) rfl fz)) (us [(4, 9, 0), (1010, 1010, 0), (12, 15, 1), (1016, 1016, 1)])) (rg 7) (J8 p s []) [(6, bA false)] fun G => b7 (wp_ret (I5 (s9 ?_))); exact C4 false G (rg 7) (aR7 (by with_reducible assumption) (by omega) (by omega))
     have q13 := dTt h13; cases h14 : (decide (s.target < (p.vars.length : Int)))
     · have q14 := dFf h14; refine H0 G (P1 (fc h13 (fc h14 fz)) (us [(4, 9, 0), (1010, 1010, 0), (12, 15, 1), (1016, 1016, 1)])) (rg 7) (J8 p s []) [(6, bA false)] fun G => b7 (wp_ret (I5 (s9 ?_))); exact C4 false G (rg 7) (aR6 (by with_reducible assumption) (by omega) (by omega))
     have q14 := dTt h14; refine H0 G (E8 (A1 15 [0, 1, 2, 4] (G6 p s.value) E7) (fc h13 (fc h14 fz)) (us [(4, 9, 0), (1010, 1010, 0), (12, 15, 1), (1016, 1016, 1)])) (rg 7) (J8 p s []) [(6, bA (n5 p.vars.length p.arrays.length s.value))] fun G => b7 (wp_ret (I5 (s9 ?_))); exact C4 (n5 p.vars.length p.arrays.length s.value) G (rg 7) (aR5 (by with_reducible assumption) (by omega) (by omega) (by omega))
    refine wp_skip (b7 (rT G _ h2 (wp_seq ?_))); cases h15 : (decide (s.target >= 0))
    · have q15 := dFf h15; refine H0 G (P1 (fc h15 (fc (b := false) rfl fz)) (us [(4, 9, 0), (1010, 1010, 0), (12, 15, 1), (1016, 1016, 1)])) (rg 7) (J8 p s []) [(6, bA false)] fun G => b7 (wp_ret (I5 (s9 ?_))); exact C4 false G (rg 7) (aR7 (by with_reducible assumption) (by omega) (by omega))
    have q15 := dTt h15; cases h16 : (decide (s.target < (p.vars.length : Int)))
    · have q16 := dFf h16; refine H0 G (P1 (fc h15 (fc h16 fz)) (us [(4, 9, 0), (1010, 1010, 0), (12, 15, 1), (1016, 1016, 1)])) (rg 7) (J8 p s []) [(6, bA false)] fun G => b7 (wp_ret (I5 (s9 ?_))); exact C4 false G (rg 7) (aR6 (by with_reducible assumption) (by omega) (by omega))
    have q16 := dTt h16; refine H0 G (E8 (A1 15 [0, 1, 2, 4] (G6 p s.value) E7) (fc h15 (fc h16 fz)) (us [(4, 9, 0), (1010, 1010, 0), (12, 15, 1), (1016, 1016, 1)])) (rg 7) (J8 p s []) [(6, bA (n5 p.vars.length p.arrays.length s.value))] fun G => b7 (wp_ret (I5 (s9 ?_))); exact C4 (n5 p.vars.length p.arrays.length s.value) G (rg 7) (aR5 (by with_reducible assumption) (by omega) (by omega) (by omega))
   have q1 : (p9 s) = false := (Eq.mp (a23 _) h1); refine rT G _ h1 (wp_seq (t8 G s3 [] fun G => b7 (wp_ret (s9 ?_)))); exact C4 false G (rg 7) (aX5 (by with_reducible assumption))
  have q0 := dTt h0; exact False.elim (by omega)
theorem aX1 {nv na d : Nat} {ss : List b6} {k : Nat} (hk : k < ss.length) (h : n4 nv na d (ss.getD k a03) = false) : ss.all (n4 nv na d) = false := by
 rw [A7 hk] at h
 exact af7 hk h
theorem am9 (p : p8) (d : Nat) (hd : d <= 5) (hS : ∀ (s : b6) (n : Int), n = d -> B5.ok Tryd.prog (vsC p d s n)) (ss : List b6) (n : Int) (hn : n = d) : B5.ok Tryd.prog (vbC p d ss n) := by
  refine Y9 22 Tryd.func50 [dI p.vars, dI p.arrays, dT p.body, dT ss] [(0, pA 0), (1, .ref 3), (2, iA n)] fun G => ?_; refine wp_seq (H0 G s3 (rg 5) [dI p.vars, dI p.arrays, dT p.body, dT ss, .box (pL 0)] [(1, .ref 3), (2, iA n), (3, .ptr 4 0), (6, bA false)] fun G => b7 (wp_seq (wp_seq (Z1 G s3 [(1, .ref 3), (2, iA n), (3, .ptr 4 0), (6, bA false), (7, iA 0)] fun G => b7 (wp_block ?_))))); refine N5 (κ := Nat) (fun k => k <= ss.length /\ (ss.take k).all (n4 p.vars.length p.arrays.length d) = true) (fun k => ss.length - k) (fun k => [dI p.vars, dI p.arrays, dT p.body, dT ss, .box (pL 0)]) (fun k => [(1, .ref 3), (2, iA n), (3, .ptr 4 0), (6, bA false), (7, iA k)]) 0 (by simp) (E6.at G _ _) ?_; clear G; intro k ρ a w hp G; have hlen : ss.length <= 9223372036854775807 := G.len 3 (d := .stmts ss) (by kernel_rfl); refine wp_seq (wp_seq (Z1 G s3 [(1, .ref 3), (2, iA n), (3, .ptr 4 0), (6, bA false), (7, iA k), (11, bA (decide ((k : Int) < ss.length)))] fun G => b7 (rcD G (fun h0 q0 => ?_) fun h0 q0 => ?_)))
  · refine wp_exit (M4 (M4 (L2 (b7 (wp_seq (H0 G s3 (rg 4) [dI p.vars, dI p.arrays, dT p.body, dT ss] [(6, bA true)] fun G => b7 (wp_ret ?_))))))); exact C4 true G (rg 4) (al3 hp.2 (by omega))
  refine wp_skip (b7 (wp_seq (wp_block (wp_seq (aJ7 G (hhC 6 [0, 1, 2, 37, 38, 39, 40] (hS (ss.getD k a03) n (by assumption))) [0, 0, 0, 6, 14, 0, 63, 127] [(21, .v (.bool !n4 p.vars.length p.arrays.length d (ss.getD k a03)))] (iX k k ss.length []) (iK (by omega) a18) fun G => b7 ?_))))); cases h1 : (!n4 p.vars.length p.arrays.length d (ss.getD k a03))
  · have q1 : (n4 p.vars.length p.arrays.length d (ss.getD k a03)) = true := (Eq.mp (a27 _) h1); refine rF G _ h1 (wp_skip (G2 (b7 (T7 G s3 [(7, iA ((k : Int) + 1))] [wO ((k : Int) + 1)] (o1 (by omega)) fun G => b7 ?_)))); exact rxn G (k + 1) (⟨by omega, aw6 hp.2 (by omega) (by assumption)⟩) (by omega) (rg 5)
  have q1 : (n4 p.vars.length p.arrays.length d (ss.getD k a03)) = false := (Eq.mp (a23 _) h1); refine rT G _ h1 (wp_seq (t8 G s3 [] fun G => b7 (wp_ret (I5 (s9 (s9 (I5 (s9 ?_)))))))); exact C4 false G (rg 4) (aX1 (k := k) (by omega) (by with_reducible assumption))
theorem aC9 (p : p8) : ∀ (d : Nat), d <= 5 -> ∀ (s : b6) (n : Int), n = d -> B5.ok Tryd.prog (vsC p d s n)
 | 0, _, s, n, hn => aF2 p s n hn
 | d + 1, hd, s, n, hn => aJ1 p d (fun ss n hn => am9 p d (by omega) (aC9 p d (by omega)) ss n hn) s n hn (by omega)
theorem aH1 (p : p8) (ss : List b6) (n : Int) (hn : n = 5) : B5.ok Tryd.prog (N9 50 [pA 0, .ref 3, iA n] (pS p ++ [.dat (.stmts ss)]) (bA (X9 p.vars.length p.arrays.length 5 ss))) :=
 am9 p 5 (by omega) (aC9 p 5 (by omega)) ss n hn
def C6 : Nat -> List b6 -> Nat
 | 0, ss => ss.length
 | d + 1, ss => ss.length + (ss.map fun s => C6 d s.body + C6 d s.els).sum
def szP (d : Nat) (ss : List b6) (k : Nat) : Nat := ss.length + ((ss.take k).map fun s => C6 d s.body + C6 d s.els).sum
theorem aN4 (d : Nat) (ss : List b6) {k : Nat} (h : ss.length <= k) : szP d ss k = C6 (d + 1) ss := by unfold szP; rw [a16 h, C6]
theorem ah4 {d : Nat} {ss : List b6} {k : Nat} (h : k < ss.length) : szP d ss (k + 1) = szP d ss k + (C6 d (ss.getD k a03).body + C6 d (ss.getD k a03).els) := by
 unfold szP
 rw [G0 ss k h, List.map_append, List.sum_append, A7 h]
 simp; omega
theorem aI8 : ∀ (d : Nat) (ss : List b6), C6 d ss <= t7 ss := by
 intro d
 induction d with
 | zero => intro ss; exact Q5 ss
 | succ d ih =>
  intro ss
  induction ss with
  | nil => simp [C6]
  | cons s r ihr =>
   have h1 := ih s.body
   have h2 := ih s.els
   have h3 := am6 s
   simp only [C6, a41, List.sum_cons, a04, t7] at ihr ⊢
   have h4 : t7 s.body + t7 s.els <= szS s := by
    rcases s with ⟨_, _, _, _, _, b, e⟩
    simp only [szS, b6.body, b6.els]; omega
   omega
theorem ax3 {d : Nat} {ss : List b6} {k : Nat} : szP d ss k <= t7 ss := by
 refine a15 ?_ (aI8 (d + 1) ss)
 unfold szP
 rw [C6]
 have : ∀ (l : List Nat) (k : Nat), (l.take k).sum <= l.sum := fun l k => by
  have := List.sum_append (l₁ := l.take k) (l₂ := l.drop k)
  rw [List.take_append_drop] at this; omega
 have h := this (ss.map fun s => C6 d s.body + C6 d s.els) k
 rw [<- List.map_take] at h
 omega
theorem aE1 {ss : List b6} {k B : Nat} (h : t7 ss <= B) (hk : k < ss.length) : t7 (ss.getD k a03).body <= B /\ t7 (ss.getD k a03).els <= B := by
 rw [A7 hk]
 have h1 := aB5 (a11 hk)
 have h2 := am6 ss[k]
 omega
theorem aG8 (ss : List b6) (n : Int) (hn : n = 1) (hb : t7 ss <= 1048576) : B5.ok Tryd.prog (N9 51 [.ref 0, iA n] [.dat (.stmts ss)] (iA (C6 0 ss : Nat))) := by
 have h100 : decide (n > 1) = false := by simp; omega
 refine Y9 39 Tryd.func51 [dT ss] [(0, .ref 0), (1, iA n)] fun G => ?_; refine wp_seq (t8 G s3 [(4, iA 0)] fun G => b7 (wp_seq (t8 G s3 [(5, iA (ss.length : Int))] fun G => b7 (wp_seq (wp_seq (Z1 G s3 [(0, .ref 0), (1, iA n), (4, iA 0), (5, iA (ss.length : Int)), (6, iA 0)] fun G => b7 (wp_block ?_))))))); refine N5 (κ := Nat) (fun k => k = 0) (fun k => 0) (fun k => [dT ss]) (fun k => [(0, .ref 0), (1, iA n), (4, iA 0), (5, iA (ss.length : Nat)), (6, iA k)]) 0 (by kernel_rfl) (E6.at G _ _) ?_; clear G; intro k ρ a w hp G; replace G := E6.at G [dT ss] [(0, .ref 0), (1, iA n), (4, iA 0), (5, iA (ss.length : Int)), (6, iA k)]; refine wp_seq (wp_seq ?_); cases h0 : (decide ((k : Int) < ss.length))
 ·have q0 := dFf h0; refine t8 G (P1 (fc h0 fz) [(5, 0), (6, 0), (1007, 0)]) [(16, bA false)] fun G => b7 (rF G false (by kernel_rfl) (wp_exit (M4 (M4 (L2 (b7 (wp_seq (t8 G s3 [(4, iA (ss.length : Int))] fun G => b7 (wp_ret ?_))))))))); exact rxr G [0]
 have q0 := dTt h0; refine t8 G (P1 (fc h0 fz) [(5, 0), (6, 0), (1007, 0)]) [(16, bA (decide (n > 1)))] fun G => b7 (rF G (decide (n > 1)) (by assumption) (wp_exit (M4 (M4 (L2 (b7 (wp_seq (t8 G s3 [(4, iA (ss.length : Int))] fun G => b7 (wp_ret ?_))))))))); exact rxr G [0]
theorem aG6 (d : Nat) (hd : d <= 5) (ih : ∀ (ss : List b6) (n : Int), n = (d + 1 : Nat) -> t7 ss <= 1048576 -> B5.ok Tryd.prog (N9 51 [.ref 0, iA n] [.dat (.stmts ss)] (iA (C6 d ss : Nat))))
  (ss : List b6) (n : Int) (hn : n = (d + 2 : Nat)) (hb : t7 ss <= 1048576) : B5.ok Tryd.prog (N9 51 [.ref 0, iA n] [.dat (.stmts ss)] (iA (C6 (d + 1) ss : Nat))) := by
 have h100 : decide (n > 1) = true := by simp; omega
 refine Y9 39 Tryd.func51 [dT ss] [(0, .ref 0), (1, iA n)] fun G => ?_; refine wp_seq (t8 G s3 [(4, iA 0)] fun G => b7 (wp_seq (t8 G s3 [(5, iA (ss.length : Int))] fun G => b7 (wp_seq (wp_seq (Z1 G s3 [(0, .ref 0), (1, iA n), (4, iA 0), (5, iA (ss.length : Int)), (6, iA 0)] fun G => b7 (wp_block ?_))))))); refine N5 (κ := Nat) (fun k => k <= ss.length) (fun k => ss.length - k) (fun k => [dT ss]) (fun k => [(0, .ref 0), (1, iA n), (4, iA 0), (5, iA (szP d ss k : Nat)), (6, iA k)]) 0 (by omega) (E6.at G _ _) ?_; clear G; intro k ρ a w hp G; replace G := E6.at G [dT ss] [(0, .ref 0), (1, iA n), (4, iA 0), (5, iA (↑(szP d ss k) : Int)), (6, iA k)]; have hlen := Q5 ss; refine wp_seq (wp_seq ?_); cases h0 : (decide ((k : Int) < ss.length))
 ·have q0 := dFf h0; refine t8 G (P1 (fc h0 fz) [(5, 0), (6, 0), (1007, 0)]) [(16, bA false)] fun G => b7 (rF G false (by kernel_rfl) (wp_exit (M4 (M4 (L2 (b7 (wp_seq (t8 G s3 [(4, iA (↑(szP d ss k) : Int))] fun G => b7 (wp_ret ?_))))))))); exact rxI ((↑(szP d ss k) : Int)) G [0] (by have h1 := aN4 d ss (k := k) (by omega); omega)
 have q0 := dTt h0; refine t8 G (P1 (fc h0 fz) [(5, 0), (6, 0), (1007, 0)]) [(16, bA (decide (n > 1)))] fun G => b7 (rT G (decide (n > 1)) (by assumption) (wp_skip (b7 (wp_seq (wp_block (aJ7 G (E8 (A1 8 [41] (ih ((ss.getD k a03).body) (n - 1) (by omega) ((aE1 hb (by omega)).1)) (A1 17 [113] (ih ((ss.getD k a03).els) (n - 1) (by omega) ((aE1 hb (by omega)).2)) E7)) fz []) [0, 0, 0, 6, 14, 30, 0, 64, 254, 511, 0, 0, 3072, 7168, 15360, 0, 32768, 130558, 262143, 524287] [(5, iA ((↑(szP d ss k) : Int) + (↑(C6 d (ss.getD k a03).body) : Int) + (↑(C6 d (ss.getD k a03).els) : Int)))] (iX k k ss.length ((wO (n - 1)) :: ((wO ((↑(szP d ss k) : Int) + (↑(C6 d (ss.getD k a03).body) : Int))) :: (iX k k ss.length ((wO (n - 1)) :: ((wO ((↑(szP d ss k) : Int) + (↑(C6 d (ss.getD k a03).body) : Int) + (↑(C6 d (ss.getD k a03).els) : Int))) :: [])))))) (iK (by omega) ⟨oW (by omega), ⟨(by have h1 := ah4 (d := d) (ss := ss) (k := k) (by omega); have h2 := ax3 (d := d) (ss := ss) (k := k + 1); exact w64 (by omega) (by omega)), (iK (by omega) ⟨oW (by omega), ⟨(by have h1 := ah4 (d := d) (ss := ss) (k := k) (by omega); have h2 := ax3 (d := d) (ss := ss) (k := k + 1); exact w64 (by omega) (by omega)), a18⟩⟩)⟩⟩) fun G => G2 (b7 (T7 G s3 [(6, iA ((k : Int) + 1))] [wO ((k : Int) + 1)] (o1 (by omega)) fun G => b7 ?_)))))))); exact rxn G (k + 1) (by omega) (by omega) [0] (ht := by have e1 : ((↑(szP d ss (k + 1)) : Int) : Int) = ((↑(szP d ss k) : Int) + (↑(C6 d (ss.getD k a03).body) : Int) + (↑(C6 d (ss.getD k a03).els) : Int)) := (by have h1 := ah4 (d := d) (ss := ss) (k := k) (by omega); have h2 := ax3 (d := d) (ss := ss) (k := k + 1); omega); (first | rw [e1] | simp only [e1]) <;> rfl)
theorem aG7 : ∀ d, d <= 5 -> ∀ (ss : List b6) (n : Int), n = (d + 1 : Nat) -> t7 ss <= 1048576 -> B5.ok Tryd.prog (N9 51 [.ref 0, iA n] [.dat (.stmts ss)] (iA (C6 d ss : Nat))) := by
 intro d
 induction d with
 | zero => intro _ ss n hn hb; exact aG8 ss n (by omega) hb
 | succ d ih => intro hd ss n hn hb; exact aG6 d (by omega) (fun ss n hn hb => ih (by omega) ss n hn hb) ss n (by omega) hb
theorem aM6 (ss : List b6) (n : Int) (hn : n = 5) (hb : t7 ss <= 1048576) : B5.ok Tryd.prog (N9 51 [.ref 0, iA n] [.dat (.stmts ss)] (iA (C6 4 ss : Nat))) :=
 aG7 4 (by omega) ss n (by omega) hb
theorem aI9 {nv na : Nat} : ∀ (d : Nat) (ss : List b6), (∀ s ∈ ss, n4 nv na (d + 1) s = true) -> C6 d ss = O1 ss := by
 intro d
 induction d with
 | zero => intro ss h; rw [au9 h]; rfl
 | succ d ih =>
  intro ss
  induction ss with
  | nil => intro _; rfl
  | cons s r ihr =>
   intro h
   have h1 := M6 (h s a22)
   have h2 := ih s.body fun x hx => a19.1 h1.1 x hx
   have h3 := ih s.els fun x hx => a19.1 h1.2 x hx
   have h4 := ihr fun x hx => h x (a28 _ hx)
   rw [O1, X3, <- h2, <- h3, <- h4]
   simp [C6]; omega
theorem ae5 {p : p8} (h : F0 p.vars p.arrays = false) : F1 p = false := by simp [F1, h]
theorem at7 {p : p8} (h : X9 p.vars.length p.arrays.length 5 p.body = false) : F1 p = false := by simp [F1, h]
theorem ay6 {p : p8} (h1 : F0 p.vars p.arrays = true) (h2 : X9 p.vars.length p.arrays.length 5 p.body = true) : F1 p = decide ((C6 4 p.body : Int) <= 60) := by
 have h3 := aI9 (nv := p.vars.length) (na := p.arrays.length) 4 p.body (fun x hx => a19.1 h2 x hx)
 rw [F1, h1, h2, h3]
 simp
 exact ⟨fun h => by omega, fun h => by omega⟩
theorem av9 (p : p8) (n : Int) (hn : n = 5) : B5.ok Tryd.prog (N9 50 [pA 0, .ref 2, iA n] (pS p) (bA (X9 p.vars.length p.arrays.length 5 p.body))) :=
 B5.dup (S := pS p) (S' := pS p) (d := .stmts p.body) (i := 2) (aH1 p p.body n hn) rfl rfl rfl (fun ρ h => by simp only [AV.vals, AV.val]; rw [show ρ 3 = ρ 2 from h]) rfl
theorem ak8 (p : p8) (hb : t7 p.body <= 1048576) : B5.ok Tryd.prog (N9 22 [pA 0] (pS p) (bA (F1 p))) := by
  refine Y9 17 Tryd.func22 [dI p.vars, dI p.arrays, dT p.body] [(0, pA 0)] fun G => ?_; refine wp_seq (H0 G s3 (rg 4) [dI p.vars, dI p.arrays, dT p.body, .box (pL 0)] [(1, .ptr 3 0), (2, bA false)] fun G => b7 (wp_seq ?_)); cases h0 : (F0 p.vars p.arrays)
  · refine H0 G (E8 (A1 1 [0, 1, 2] (ac8 p) E7) (fc h0 (fc (b := false) rfl fz)) (us [(3, 6, 0), (1007, 1007, 0), (9, 12, 1), (1013, 1013, 1)])) [0, 1, 2] [dI p.vars, dI p.arrays, dT p.body] [(2, bA false)] fun G => b7 (wp_ret ?_); exact C4 false G [0, 1, 2] (ae5 (by assumption))
  cases h1 : (X9 p.vars.length p.arrays.length (5 : Nat) p.body)
  · refine H0 G (E8 (A1 1 [0, 1, 2] (ac8 p) (A1 6 [0, 1, 2] (av9 p 5 (by kernel_rfl)) E7)) (fc h0 (fc h1 fz)) (us [(3, 6, 0), (1007, 1007, 0), (9, 12, 1), (1013, 1013, 1)])) [0, 1, 2] [dI p.vars, dI p.arrays, dT p.body] [(2, bA false)] fun G => b7 (wp_ret ?_); exact C4 false G [0, 1, 2] (at7 (by assumption))
  refine H0 G (E8 (A1 1 [0, 1, 2] (ac8 p) (A1 6 [0, 1, 2] (av9 p 5 (by kernel_rfl)) (A1 11 [2] (aM6 p.body 5 (by kernel_rfl) (by assumption)) E7))) (fc h0 (fc h1 fz)) (us [(3, 6, 0), (1007, 1007, 0), (9, 12, 1), (1013, 1013, 1)])) [0, 1, 2] [dI p.vars, dI p.arrays, dT p.body] [(2, bA (decide ((↑(C6 4 p.body) : Int) <= 60)))] fun G => b7 (wp_ret ?_); exact C4 (decide ((↑(C6 4 p.body) : Int) <= 60)) G [0, 1, 2] (ay6 (by assumption) (by assumption))
def J4 (nv na : Nat) (s : b6) : Bool := p9 s &&
    (if s.kind = 1 \/ s.kind = 5 then decide (0 <= s.target) && decide (s.target < nv) && n5 nv na s.value
     else if s.kind = 2 then decide (0 <= s.target) && decide (s.target < na) && n5 nv na s.index && H7 s.index && n5 nv na s.value
     else if s.kind = 3 then n5 nv na s.value
     else decide (s.kind = 4))
theorem ai0 {nv na d : Nat} {s : b6} : n4 nv na (d + 1) s = (J4 nv na s && (s.body.all (n4 nv na d) && s.els.all (n4 nv na d))) := by
 rw [a31]
 constructor
 ·intro h
  have h1 := M6 h
  rw [h1.1, h1.2, Bool.and_true, Bool.and_true]
  rw [n4, a05] at h
  rw [J4, h.1, Bool.true_and]
  obtain ⟨-, h⟩ := h
  split at h
  ·rw [if_pos (by assumption)]; exact h
  split at h
  ·rw [if_neg (by assumption), if_pos (by assumption)]; exact h
  split at h
  ·rw [if_neg (by assumption), if_neg (by assumption), if_pos (by assumption)]
   simp only [a05] at h; exact h.1.1
  split at h
  ·rw [if_neg (by assumption), if_neg (by assumption), if_neg (by assumption)]; simp [*]
  simp at h
 intro h
 simp only [a05] at h
 obtain ⟨h, hb, he⟩ := h
 rw [J4, a05] at h
 obtain ⟨h0, h⟩ := h
 rw [n4, h0, Bool.true_and]
 split at h
 ·rw [if_pos (by assumption)]; exact h
 split at h
 ·rw [if_neg (by assumption), if_pos (by assumption)]; exact h
 split at h
 ·rw [if_neg (by assumption), if_neg (by assumption), if_pos (by assumption), h, hb, he]; rfl
 rw [if_neg (by assumption), if_neg (by assumption), if_neg (by assumption), if_pos (by simpa using h), hb]
def B8 (F : Nat -> b6 -> Bool × Nat) : Nat -> List b6 -> Bool × Nat
 | c, [] => (true, c)
 | c, s :: r => if (F c s).1 then B8 F (F c s).2 r else F c s
def w5 (nv na : Nat) : Nat -> Nat -> b6 -> Bool × Nat
 | 0, c, _ => (false, c + 1)
 | d + 1, c, s => if 60 < c + 1 then (false, c + 1) else if J4 nv na s then
   (if (B8 (w5 nv na d) (c + 1) s.body).1 then B8 (w5 nv na d) (B8 (w5 nv na d) (c + 1) s.body).2 s.els else B8 (w5 nv na d) (c + 1) s.body)
   else (false, c + 1)
abbrev m8 (nv na d c : Nat) (ss : List b6) : Bool × Nat := B8 (w5 nv na d) c ss
theorem S5 (F : Nat -> b6 -> Bool × Nat) : ∀ (a b : List b6) (c : Nat), B8 F c (a ++ b) = if (B8 F c a).1 then B8 F (B8 F c a).2 b else B8 F c a
 | [], b, c => by simp [B8]
 | x :: r, b, c => by
  simp only [List.cons_append, B8]
  by_cases h : (F c x).1 = true
  ·simp only [h, if_true]; exact S5 F r b _
  simp [h]
theorem X5 {F : Nat -> b6 -> Bool × Nat} {c k : Nat} {ss : List b6} (h : (B8 F c (ss.take k)).1 = true) (hk : k < ss.length) : B8 F c (ss.take (k + 1)) = F (B8 F c (ss.take k)).2 (ss.getD k a03) := by
 rw [A2 _ _ hk, S5, if_pos h, A7 hk]
 simp only [B8]
 split
 ·rename_i h; exact Prod.ext h.symm rfl
 rfl
theorem aj7 {F : Nat -> b6 -> Bool × Nat} {c k : Nat} {ss : List b6} (h : (B8 F c (ss.take k)).1 = true) (hk : k < ss.length) (hf : (F (B8 F c (ss.take k)).2 (ss.getD k a03)).1 = false) : B8 F c ss = F (B8 F c (ss.take k)).2 (ss.getD k a03) := by
 conv => lhs; rw [<- List.take_append_drop (k + 1) ss]
 rw [S5, X5 h hk, hf]
 rfl
theorem aj8 {F : Nat -> b6 -> Bool × Nat} {c k : Nat} {ss : List b6} (hk : ss.length <= k) : B8 F c (ss.take k) = B8 F c ss := by rw [a16 hk]
theorem aa2 {F : Nat -> b6 -> Bool × Nat} (hF : ∀ c s, c <= 60 -> (F c s).2 <= 61 /\ ((F c s).1 = true -> (F c s).2 <= 60)) : ∀ (ss : List b6) (c : Nat), c <= 60 -> (B8 F c ss).2 <= 61 /\ ((B8 F c ss).1 = true -> (B8 F c ss).2 <= 60)
 | [], c, h => ⟨by simp only [B8]; omega, fun _ => by simp only [B8]; omega⟩
 | s :: r, c, h => by
  simp only [B8]
  by_cases h1 : (F c s).1 = true
  ·rw [if_pos h1]; exact aa2 hF r _ ((hF c s h).2 h1)
  rw [if_neg h1]; exact hF c s h
theorem Y5 {nv na : Nat} : ∀ (d c : Nat) (s : b6), c <= 60 -> (w5 nv na d c s).2 <= 61 /\ ((w5 nv na d c s).1 = true -> (w5 nv na d c s).2 <= 60)
 | 0, c, s, h => by simp [w5]; omega
 | d + 1, c, s, h => by
  rw [w5]
  by_cases h1 : 60 < c + 1
  ·rw [if_pos h1]; simp; omega
  rw [if_neg h1]
  by_cases h2 : J4 nv na s = true
  ·rw [if_pos h2]
   have h3 := aa2 (Y5 (nv := nv) (na := na) d) s.body (c + 1) (by omega)
   by_cases h4 : (B8 (w5 nv na d) (c + 1) s.body).1 = true
   ·rw [if_pos h4]; exact aa2 (Y5 d) s.els _ (h3.2 h4)
   rw [if_neg h4]; exact h3
  rw [if_neg h2]; simp; omega
theorem K2 {nv na d c : Nat} {ss : List b6} (h : c <= 60) (h1 : (m8 nv na d c ss).1 = true) : (m8 nv na d c ss).2 <= 60 := (aa2 (Y5 d) ss c h).2 h1
section
variable {nv na d c : Nat} {s : b6}
theorem X0 (h : 60 < c + 1) : w5 nv na d c s = (false, c + 1) := by cases d with
 | zero => rfl
 | succ d => rw [w5, if_pos h]
theorem l6 (h : J4 nv na s = false) : w5 nv na d c s = (false, c + 1) := by cases d with
 | zero => rfl
 | succ d => rw [w5, h]; simp
theorem C5 (h1 : c + 1 <= 60) (h : J4 nv na s = true) (h2 : (m8 nv na d (c + 1) s.body).1 = false) : w5 nv na (d + 1) c s = m8 nv na d (c + 1) s.body := by
 rw [w5, if_neg (by omega), if_pos h, if_neg (by simp [h2])]
theorem E1 (h1 : c + 1 <= 60) (h : J4 nv na s = true) (h2 : (m8 nv na d (c + 1) s.body).1 = true) : w5 nv na (d + 1) c s = m8 nv na d (m8 nv na d (c + 1) s.body).2 s.els := by
 rw [w5, if_neg (by omega), if_pos h, if_pos h2]
end
theorem aa3 {nv na d : Nat} (hF : ∀ c s, c <= 60 -> ((w5 nv na d c s).1 = (n4 nv na d s && decide (c + nS s <= 60))) /\ ((w5 nv na d c s).1 = true -> (w5 nv na d c s).2 = c + nS s)) : ∀ (ss : List b6) (c : Nat), c <= 60 -> ((m8 nv na d c ss).1 = (ss.all (n4 nv na d) && decide (c + O1 ss <= 60))) /\ ((m8 nv na d c ss).1 = true -> (m8 nv na d c ss).2 = c + O1 ss)
 | [], c, h => by simp [B8, O1, h]
 | s :: r, c, h => by
  obtain ⟨h1, h2⟩ := hF c s h
  simp only [m8, B8]
  by_cases h3 : (w5 nv na d c s).1 = true
  ·rw [if_pos h3]
   have e := h2 h3
   have l := (Y5 d c s h).2 h3
   obtain ⟨h4, h5⟩ := aa3 hF r (w5 nv na d c s).2 l
   rw [h1, a05] at h3
   constructor
   ·rw [show B8 (w5 nv na d) (w5 nv na d c s).2 r = m8 nv na d (w5 nv na d c s).2 r from rfl, h4, List.all_cons, h3.1, Bool.true_and, e, O1, Nat.add_assoc]
   intro h6; rw [show B8 (w5 nv na d) (w5 nv na d c s).2 r = m8 nv na d (w5 nv na d c s).2 r from rfl, h5 h6, e, O1]; omega
  rw [if_neg h3]
  refine ⟨?_, fun h => absurd h h3⟩
  have h4 := h3
  rw [h1] at h4
  rw [Bool.eq_false_iff.2 h3, List.all_cons, O1]
  cases ha : n4 nv na d s
  ·simp
  rw [ha, Bool.true_and, decide_eq_true_eq] at h4
  rw [Bool.true_and, show decide (c + (nS s + O1 r) <= 60) = false from decide_eq_false (by omega), Bool.and_false]
theorem ah9 {nv na : Nat} : ∀ (d c : Nat) (s : b6), c <= 60 -> ((w5 nv na d c s).1 = (n4 nv na d s && decide (c + nS s <= 60))) /\ ((w5 nv na d c s).1 = true -> (w5 nv na d c s).2 = c + nS s)
 | 0, c, s, h => by simp [w5, n4]
 | d + 1, c, s, h => by
  have hs := X3 s
  by_cases h1 : 60 < c + 1
  ·rw [X0 h1, show decide (c + nS s <= 60) = false from decide_eq_false (by omega), Bool.and_false]; simp
  cases h2 : J4 nv na s
  ·rw [l6 h2, ai0, h2]; simp
  obtain ⟨b1, b2⟩ := aa3 (ah9 (nv := nv) (na := na) d) s.body (c + 1) (by omega)
  rw [ai0, h2, Bool.true_and]
  cases h3 : (m8 nv na d (c + 1) s.body).1
  ·rw [C5 (by omega) h2 h3, h3]
   refine ⟨?_, fun h => by simp at h⟩
   rw [h3] at b1
   cases h4 : s.body.all (n4 nv na d)
   ·simp
   rw [h4, Bool.true_and] at b1
   have := of_decide_eq_false b1.symm
   rw [show decide (c + nS s <= 60) = false from decide_eq_false (by omega), Bool.and_false]
  rw [E1 (by omega) h2 h3]
  have e := b2 h3
  have l := K2 (nv := nv) (na := na) (d := d) (c := c + 1) (by omega) h3
  obtain ⟨e1, e2⟩ := aa3 (ah9 (nv := nv) (na := na) d) s.els _ l
  rw [h3] at b1
  have b3 := b1.symm
  rw [a05] at b3
  rw [b3.1, Bool.true_and, e1, e]
  refine ⟨by rw [show c + 1 + O1 s.body + O1 s.els = c + nS s by omega], fun h => ?_⟩
  have h' : (m8 nv na d (m8 nv na d (c + 1) s.body).2 s.els).1 = true := by rw [e1, e]; exact h
  have := e2 h'
  rw [e] at this
  rw [this]; omega
theorem as4 {p : p8} (h : F0 p.vars p.arrays = true) : (m8 p.vars.length p.arrays.length 5 0 p.body).1 = F1 p := by
 rw [(aa3 (ah9 5) p.body 0 (by omega)).1, F1, h, Bool.true_and, X9]; simp
theorem aQ8 (p : p8) (s : b6) (c : Nat) (hc : c <= 60) (n : Int) (hn : n = 6) : B5.ok Tryd.prog ⟨82, [pA 0, sA s 4, iA n, .ptr 3 0], pS p ++ [.box [iA c]] ++ sS s, pS p ++ [.box [iA (w5 p.vars.length p.arrays.length 0 c s).2]] ++ sS s, bA false⟩ := by
 have h100 : decide (n > 5) = true := by simp; omega
 refine Y9 149 Tryd.func82 [dI p.vars, dI p.arrays, dT p.body, .box [iA c], dE s.index.kids, dE s.value.kids, dT s.body, dT s.els] [(0, pA 0), (1, sA s 4), (2, iA n), (3, .ptr 3 0)] fun G => ?_; refine wp_seq (H0 G s3 [0, 1, 2, 3, 4, 5, 6, 7, 8, 16] [dI p.vars, dI p.arrays, dT p.body, .box [iA c], dE s.index.kids, dE s.value.kids, dT s.body, dT s.els, .box (pL 0), .box (sL s 4)] [(2, iA n), (3, .ptr 3 0), (4, .ptr 8 0), (5, .ptr 9 0), (8, bA false)] fun G => b7 (wp_seq (rA1 G s3 (rg 10) [dI p.vars, dI p.arrays, dT p.body, .box [iA ((c : Int) + 1)], dE s.index.kids, dE s.value.kids, dT s.body, dT s.els, .box (pL 0), .box (sL s 4)] [(2, iA n), (3, .ptr 3 0), (4, .ptr 8 0), (5, .ptr 9 0), (8, bA false)] [wO ((c : Int) + 1)] (o1 (by omega)) fun G => b7 (wp_seq (wp_seq ?_))))); cases h0 : (decide ((c : Int) + 1 > 60))
 ·have q0 := dFf h0; refine t8 G (P1 (fc h0 fz) [(5, 0), (6, 0), (1007, 0)]) [(27, bA (decide (n > 5)))] fun G => b7 (rT G (decide (n > 5)) (by assumption) (wp_seq (t8 G s3 [] fun G => b7 (wp_ret (s9 ?_))))); exact rxr G (rg 8)
 have q0 := dTt h0; refine t8 G (P1 (fc h0 fz) [(5, 0), (6, 0), (1007, 0)]) [(27, bA true)] fun G => b7 (rT G true (by kernel_rfl) (wp_seq (t8 G s3 [] fun G => b7 (wp_ret (s9 ?_))))); exact rxr G (rg 8)
theorem aA5 : B5.ok Tryd.prog (N9 24 [.ref 0] [dT []] (tA (e7 []))) := by
 refine Y9 97 Tryd.func24 [dT []] [(0, .ref 0)] fun G => ?_; refine wp_seq (t8 G s3 [(2, .v (.string (ByteArray.mk #[])))] fun G => b7 (wp_seq (t8 G s3 [(3, .v (.string (ByteArray.mk #[])))] fun G => b7 (wp_seq (wp_seq (Z1 G s3 [(0, .ref 0), (2, .v (.string (ByteArray.mk #[]))), (3, .v (.string (ByteArray.mk #[]))), (4, iA 0)] fun G => b7 (wp_block ?_))))))); refine N5 (κ := Nat) (fun k => k = 0) (fun k => 0) (fun k => [dT []]) (fun k => [(0, .ref 0), (2, .v (.string (ByteArray.mk #[]))), (3, .v (.string (m0 []))), (4, iA k)]) 0 (by kernel_rfl) (E6.at G _ _) ?_; clear G; intro k ρ a w hp G; refine wp_seq (wp_seq (t8 G s3 [(9, bA false)] fun G => b7 (rF G false (by kernel_rfl) (wp_exit (M4 (M4 (L2 (b7 (wp_seq (t8 G s3 [(2, .v (.string (m0 [])))] fun G => b7 (wp_ret ?_))))))))))); exact rxr G [0]
theorem au4 (nv na : Nat) (hnv : nv <= 12) (hna : na <= 2) : ∀ (d : Nat) (ss : List b6), (∀ s ∈ ss, n4 nv na d s = true) -> O1 ss <= 60 -> B5.ok Tryd.prog (N9 24 [.ref 0] [dT ss] (tA (e7 ss)))
 | 0, [], _, _ => aA5
 | 0, s :: r, h, _ => by have := h s a22; simp [n4] at this
 | d + 1, ss, h, hn => aF3 nv na d hnv hna (au4 nv na hnv hna d) ss h hn
theorem au2 {ls : List Int} (k : Nat) : (t6 (ls.take k)).length <= ls.length := by
 unfold t6; rw [List.length_map]; exact List.length_take_le' k ls
theorem an5 {l : Int} (h : A8 l = true) : 0 <= l /\ l <= 3 := by
 unfold A8 at h
 simpa only [a05, decide_eq_true_eq] using h
theorem aL0 {ls : List Int} (h : ls.all A8 = true) {k : Nat} (hk : k < ls.length) : A8 (ls.getD k 0) = true := by
 rw [A7 hk]; exact a19.1 h _ (a11 hk)
theorem aZ8 {ls : List Int} {k : Nat} (hk : k < ls.length) (h : A8 (ls.getD k 0) = true) : m0 (t6 (ls.take k)) ++ ByteArray.extract ⟨#[76, 72, 85, 88]⟩ (ls.getD k 0).toNat (ls.getD k 0 + 1).toNat = m0 (t6 (ls.take (k + 1))) := by
 rw [aQ2 h, aj5 hk, H8]
abbrev am4 : AV := .v (.string (ByteArray.mk #[]))
theorem U7 (ls : List Int) (h : ls.all A8 = true) (hl : ls.length <= 1000) : B5.ok Tryd.prog (N9 23 [.ref 0] [dI ls] (tA (t6 ls))) := by
 refine Y9 30 Tryd.func23 [dI ls] [(0, .ref 0)] fun G => ?_; refine wp_seq (t8 G s3 [(2, am4)] fun G => b7 (wp_seq (t8 G s3 [(3, am4)] fun G => b7 (wp_seq (wp_seq (Z1 G s3 [(0, .ref 0), (2, am4), (3, am4), (4, iA 0)] fun G => b7 (wp_block ?_))))))); refine N5 (κ := Nat) (fun k => k <= ls.length) (fun k => ls.length - k) (fun k => [dI ls]) (fun k => [(0, .ref 0), (2, .v (.string (ByteArray.mk #[]))), (3, .v (.string (m0 (t6 (ls.take k))))), (4, iA k)]) 0 (by omega) (E6.at G _ _) ?_; clear G; intro k ρ a w hp G; replace G := E6.at G [dI ls] [(0, .ref 0), (2, am4), (3, .v (.string (m0 (t6 (a13 k ls))))), (4, iA k)]; have ht := au2 (ls := ls) k; refine wp_seq (wp_seq (Z1 G s3 [(0, .ref 0), (2, am4), (3, .v (.string (m0 (t6 (a13 k ls))))), (4, iA k), (8, bA (decide ((k : Int) < ls.length)))] fun G => b7 ?_)); cases h0 : (decide ((k : Int) < ls.length))
 ·have q0 := dFf h0; refine rF G _ h0 (wp_exit (M4 (M4 (L2 (b7 (wp_seq (t8 G s3 [(2, .v (.string (m0 (t6 (a13 k ls)))))] fun G => b7 (wp_ret ?_)))))))); exact rxv (.v (.string (m0 (t6 (a13 k ls))))) G [0] (by show _ = AV.ren (nth [0]) (.v (.string (m0 (t6 ls)))); have e1 : (m0 (t6 ls) : ByteArray) = (m0 (t6 (a13 k ls))) := (by rw [a16 (by omega)]); (first | rw [e1] | simp only [e1]) <;> rfl)
 have q0 := dTt h0; have hb := aL0 h (show k < ls.length by omega); have hb2 := an5 hb; refine rT G _ h0 (wp_skip (b7 (wp_seq (wp_block (wp_seq (wp_seq (T7 G (hhC 4 [] (ar5 (ls.getD k 0))) [(16, .v (.bool !A8 (ls.getD k 0)))] (iX k k ls.length []) (iK (by omega) a18) fun G => b7 (rF G (!A8 (ls.getD k (0 : Int))) (by rw [hb]; rfl) (wp_skip (b7 (aJ7 G s3 [0, 0, 0, 6, 14, 0, 0, 96, 224, 480, 1022, 2047, 4095] [(3, .v (.string (m0 (t6 (a13 k ls)) ++ (ByteArray.mk #[76, 72, 85, 88]).extract (ls.getD k 0).toNat (ls.getD k 0 + 1).toNat)))] (iX k k ls.length (iX k k ls.length ((wO (ls.getD k (0 : Int) + 1)) :: (((0 : Int) <= ls.getD k (0 : Int)) :: ((ls.getD k (0 : Int) <= ls.getD k (0 : Int) + 1) :: ((ls.getD k (0 : Int) + 1 <= ((ByteArray.mk #[(76 : UInt8), (72 : UInt8), (85 : UInt8), (88 : UInt8)]).size : Int)) :: (((↑((m0 (t6 (a13 k ls))).size + ((ByteArray.mk #[(76 : UInt8), (72 : UInt8), (85 : UInt8), (88 : UInt8)]).extract (ls.getD k (0 : Int)).toNat (ls.getD k (0 : Int) + 1).toNat).size) : Int) <= 9223372036854775807) :: []))))))) (iK (by omega) (iK (by omega) ⟨oW (by omega), ⟨(by omega), ⟨(by omega), ⟨(by simp only [ByteArray.size_append, ByteArray.size_extract, l8, l9, a08, a04, a09]; omega), ⟨(by simp only [ByteArray.size_append, ByteArray.size_extract, l8, l9, a08, a04, a09]; omega), a18⟩⟩⟩⟩⟩)) fun G => G2 (b7 (T7 G s3 [(4, iA ((k : Int) + 1))] [wO ((k : Int) + 1)] (o1 (by omega)) fun G => b7 ?_))))))))))))); exact rxn G (k + 1) (by omega) (by omega) [0] (ht := by have e1 : (m0 (t6 (a13 (k + 1) ls)) : ByteArray) = (m0 (t6 (a13 k ls)) ++ (ByteArray.mk #[76, 72, 85, 88]).extract (ls.getD k 0).toNat (ls.getD k 0 + 1).toNat) := ((aZ8 (by omega) hb).symm); (first | rw [e1] | simp only [e1]) <;> rfl)
theorem aA9 (l m : List UInt8) : Lib.byteCells (l ++ m) = Lib.byteCells l ++ Lib.byteCells m := by simp [Lib.byteCells]
theorem aK9 {l : Int} (h : A8 l = true) : ∃ n : Nat, l = n /\ n < 4 /\ ((⟨#[76, 72, 85, 88]⟩ : ByteArray).data.toList.getD n 0) = aF8 l := by
 obtain ⟨h0, h1⟩ := an5 h
 have : l = 0 \/ l = 1 \/ l = 2 \/ l = 3 := by omega
 rcases this with rfl | rfl | rfl | rfl
 ·exact ⟨0, rfl, by omega, by decide +kernel⟩
 ·exact ⟨1, rfl, by omega, by decide +kernel⟩
 ·exact ⟨2, rfl, by omega, by decide +kernel⟩
 exact ⟨3, rfl, by omega, by decide +kernel⟩
theorem aa1 (v : Value) (ls : List Int) (w : World) (h : K0 w v ls.length 1 (ints ls)) (hok : ls.all A8 = true) (hl : ls.length <= 1000) :
  Calls Tryd.prog 16 #[v] w fun e w' => e = .returned (.string ⟨(t6 ls).toArray⟩) /\ Below w.heap.size w w' := by
 obtain ⟨a, cap, rfl, hcap, hn, hcm, hc⟩ := h.open1
 have HR : Hid (K0 w (.slice a ls.length cap) ls.length 1 (ints ls)) := h
 have HAL : Hid (∀ w' : World, K0 w' (.slice a ls.length cap) ls.length 1 (ints ls) -> Calls Tryd.prog 38 #[.slice a ls.length cap] w' fun e w'' => e = .returned (.bool true) /\ w' = w'') := fun w' h' => by
  have HA := J3 _ ls w' h'
  rw [hok] at HA
  exact HA
 have HOK := show Hid _ from hok
 clear h hok
 have hB0 : Lib.IsBuilder 61 5 w.heap.size w.heap.size (Lib.byteCells (t6 (ls.take 0))) (w.alloc (.cells #[.pointer none, .slice none 0 0] 61)) := Lib.fresh_isBuilder _ _ _
 have HB := show Hid _ from hB0
 clear hB0
 go_enter Tryd.func16, Tryd.ntmps16
 go_wp2_with fail
 refine (HAL.out _ HR.out).mono ?_
 rintro e w1 ⟨rfl, rfl⟩
 go_wp2_with fail
 go_loopw [5, 11] (fun _ i wr => ∃ (k : Nat), k <= ls.length /\ i = .int .i64 k /\ Lib.IsBuilder 61 5 w.heap.size w.heap.size (Lib.byteCells (t6 (ls.take k))) wr /\ Below w.heap.size w wr) (fun _ i _ => ls.length - (intOf i).toNat)
 case atStart => exact ⟨0, a34 _, rfl, HB.out, (Below.refl _ _).alloc (a14 _) _⟩
 case round =>
  obtain ⟨k, hk, rfl, hbd, hbw⟩ := hrel
  have HBD := show Hid _ from hbd
  clear hbd HB
  by_cases hlt : k < ls.length
  ·obtain ⟨b, off, rfl, hb1, hx⟩ := hc k hlt
   have hlo := aL0 HOK.out hlt
   rw [A7 hlt] at hlo
   obtain ⟨n, hn1, hn4, hn2⟩ := aK9 hlo
   have hxk : (ints ls)[k]? = some (.int .i64 n) := by simp [ints, hlt, hn1]
   rw [hxk, <- (v6 hbw).1 _ _ hb1] at hx
   have HN := show Hid _ from hn2
   have HLN := aj5 hlt
   rw [A7 hlt] at HLN
   have H1 := show Hid _ from HLN
   have hlen : Hid ((Lib.byteCells (t6 (ls.take k))).length + 1 <= 140737488355328) := by
    have h2 := au2 (ls := ls) k
    show _ + 1 <= _
    simp only [Lib.byteCells, List.length_map]
    omega
   clear hc hxk hn2 HLN hlo hn1
   go_wp2_with fail
   refine (ab2 w.heap.size w.heap.size _ _ _ HBD.out hlen.out hbw.size).mono ?_
   rintro e w1 ⟨rfl, hba, hbb⟩
   have HBA := show Hid _ from hba
   clear hba
   go_wp2_with fail
   refine ⟨⟨k + 1, by omega, by go_num, ?_, hbw.trans hbb⟩, by simp [intOf]; omega⟩
   rw [H1.out, aA9]
   have h9 := HBA.out
   rw [show (Lib.byteCells [aF8 ls[k]]) = [.int .u8 ((aF8 ls[k]).toNat : Int)] from rfl, <- HN.out]
   have h4 : n = 0 \/ n = 1 \/ n = 2 \/ n = 3 := by omega
   rcases h4 with rfl | rfl | rfl | rfl <;> exact .inr h9
  go_wp2_with fail
  refine (ak9 w.heap.size w.heap.size _ _ HBD.out hbw.size).mono ?_
  rintro e w1 ⟨rfl, hb9⟩
  go_wp2_with fail
  go_ret
  rw [a16 (by omega)]
  exact ⟨rfl, hbw.trans hb9⟩
theorem T4 (ls : List Int) (h : ls.all A8 = true) (hl : ls.length <= 1000) : B5.ok Tryd.prog (N9 16 [.ref 0] [dI ls] (tA (t6 ls))) :=
 J0 fun φ w ρ hd => aa1 (ρ 0) ls w (B4.row (hd 0 _ rfl)) h hl
section
variable {ss : List b6} {k : Nat} (hk : k < ss.length)
include hk
theorem aZ2 (hq : (ss.getD k a03).kind = 1) : m0 (e7 (ss.take k)) ++ (m0 [UInt8.ofNat (97 + (ss.getD k a03).target.toNat)] ++ ⟨#[58, 61]⟩ ++ m0 (k8 (ss.getD k a03).value) ++ ⟨#[59]⟩) = m0 (e7 (ss.take (k + 1))) := by
 rw [D7 hk, F9, stT, if_pos hq]; show _ = m0 _; simp only [J2, H8, a38]
theorem aY8 (hq : (ss.getD k a03).kind = 5) : m0 (e7 (ss.take k)) ++ (m0 [UInt8.ofNat (97 + (ss.getD k a03).target.toNat)] ++ ⟨#[33, 61]⟩ ++ m0 (k8 (ss.getD k a03).value) ++ ⟨#[59]⟩) = m0 (e7 (ss.take (k + 1))) := by
 rw [D7 hk, F9, stT, if_neg (by omega), if_pos hq]; show _ = m0 _; simp only [J2, H8, a38]
theorem aZ1 (hq : (ss.getD k a03).kind = 2) : m0 (e7 (ss.take k)) ++ (m0 [UInt8.ofNat (80 + (ss.getD k a03).target.toNat)] ++ ⟨#[91]⟩ ++ m0 (k8 (ss.getD k a03).index) ++ ⟨#[93, 58, 61]⟩ ++ m0 (k8 (ss.getD k a03).value) ++ ⟨#[59]⟩) = m0 (e7 (ss.take (k + 1))) := by
 rw [D7 hk, F9, stT, if_neg (by omega), if_neg (by omega), if_pos hq]; show _ = m0 _; simp only [J2, H8, a38]
theorem aZ0 (hq : (ss.getD k a03).kind = 3) : m0 (e7 (ss.take k)) ++ (⟨#[105, 102]⟩ ++ m0 (k8 (ss.getD k a03).value) ++ ⟨#[123]⟩ ++ m0 (e7 (ss.getD k a03).body) ++ ⟨#[125, 123]⟩ ++ m0 (e7 (ss.getD k a03).els) ++ ⟨#[125]⟩) = m0 (e7 (ss.take (k + 1))) := by
 rw [D7 hk, F9, stT, if_neg (by omega), if_neg (by omega), if_neg (by omega), if_pos hq]; show _ = m0 _; simp only [J2, H8, a38]
theorem aY9 (hq : (ss.getD k a03).kind = 4) : m0 (e7 (ss.take k)) ++ (⟨#[114, 101, 112, 101, 97, 116]⟩ ++ m0 (Lib.decDigits (ss.getD k a03).count.toNat) ++ ⟨#[123]⟩ ++ m0 (e7 (ss.getD k a03).body) ++ ⟨#[125]⟩) = m0 (e7 (ss.take (k + 1))) := by
 rw [D7 hk, F9, stT, if_neg (by omega), if_neg (by omega), if_neg (by omega), if_neg (by omega)]; show _ = m0 _; simp only [J2, H8, a38]
end
theorem ai4 {p : p8} (h : F1 p = true) : F0 p.vars p.arrays = true /\ (∀ s ∈ p.body, n4 p.vars.length p.arrays.length 5 s = true) /\ O1 p.body <= 60 := by
 unfold F1 at h
 simp only [a05, decide_eq_true_eq] at h
 exact ⟨h.1.1, a19.1 h.1.2, h.2⟩
theorem ae9 {vs ars : List Int} (h : F0 vs ars = true) : vs.all A8 = true /\ ars.all A8 = true /\ 1 <= vs.length /\ vs.length <= 12 /\ ars.length <= 2 := by
 unfold F0 at h
 simp only [a05, decide_eq_true_eq] at h
 exact ⟨h.1.1.1.1, h.1.1.1.2, h.1.1.2, h.1.2, h.2⟩
theorem Z7 (ls : List Int) : (t6 ls).length = ls.length := by simp [t6]
theorem aZ9 {p : p8} (h : F1 p = true) : m0 (t6 p.vars) ++ ⟨#[47]⟩ ++ m0 (t6 p.arrays) ++ ⟨#[47]⟩ ++ m0 (e7 p.body) = m0 (N1 p) := by
 unfold N1; rw [if_pos h, ai5]; show _ = m0 _; simp only [J2, H8]
theorem aW6 {p : p8} (h : F1 p = false) : (⟨#[]⟩ : ByteArray) = m0 (N1 p) := by
 unfold N1; rw [h]; rfl
abbrev aR2 (p : p8) (d c : Nat) (s : b6) (n : Int) : B5 := ⟨82, [pA 0, sA s 4, iA n, .ptr 3 0], pS p ++ [.box [iA c]] ++ sS s, pS p ++ [.box [iA (w5 p.vars.length p.arrays.length d c s).2]] ++ sS s, bA (w5 p.vars.length p.arrays.length d c s).1⟩
abbrev ax6 (p : p8) (d c : Nat) (ss : List b6) (n : Int) : B5 := ⟨56, [pA 0, .ref 4, iA n, .ptr 3 0], pS p ++ [.box [iA c]] ++ [.dat (.stmts ss)], pS p ++ [.box [iA (m8 p.vars.length p.arrays.length d c ss).2]] ++ [.dat (.stmts ss)], bA (m8 p.vars.length p.arrays.length d c ss).1⟩
theorem av7 (p : p8) (d : Nat) (hd : d <= 5) (ih : ∀ (s : b6) (c : Nat) (n : Int), c <= 60 -> n = 6 - (d : Int) -> B5.ok Tryd.prog (aR2 p d c s n))
    (ss : List b6) (c : Nat) (n : Int) (hc : c <= 60) (hn : n = 6 - (d : Int)) : B5.ok Tryd.prog (ax6 p d c ss n) := by
  refine Y9 24 Tryd.func56 [dI p.vars, dI p.arrays, dT p.body, .box [iA c], dT ss] [(0, pA 0), (1, .ref 4), (2, iA n), (3, .ptr 3 0)] fun G => ?_; refine wp_seq (H0 G s3 (rg 6) [dI p.vars, dI p.arrays, dT p.body, .box [iA c], dT ss, .box (pL 0)] [(1, .ref 4), (2, iA n), (3, .ptr 3 0), (4, .ptr 5 0), (8, bA false)] fun G => b7 (wp_seq (wp_seq (Z1 G s3 [(2, iA n), (3, .ptr 3 0), (4, .ptr 5 0), (8, bA false), (11, .ref 4), (12, iA (ss.length : Int)), (13, iA 0)] fun G => b7 (wp_block ?_))))); have hlen : ss.length <= 9223372036854775807 := G.len 4 (d := .stmts ss) (by kernel_rfl); refine N5 (κ := Nat) (fun k => k <= ss.length /\ (m8 p.vars.length p.arrays.length d c (ss.take k)).1 = true) (fun k => ss.length - k) (fun k => [dI p.vars, dI p.arrays, dT p.body, .box [iA (m8 p.vars.length p.arrays.length d c (ss.take k)).2], dT ss, .box (pL 0)]) (fun k => [(2, iA n), (3, .ptr 3 0), (4, .ptr 5 0), (8, bA false), (11, .ref 4), (12, iA (ss.length : Int)), (13, iA k)]) 0 (by simp [m8, B8]; done) (E6.at G _ _) ?_; clear G; intro k ρ a w hp G; replace G := E6.at G [dI p.vars, dI p.arrays, dT p.body, .box [iA ((m8 p.vars.length p.arrays.length d c (a13 k ss)).snd : Int)], dT ss, .box (pL 0)] [(2, iA n), (3, .ptr 3 0), (4, .ptr 5 0), (8, bA false), (11, .ref 4), (12, iA (ss.length : Int)), (13, iA k)]; refine wp_seq (t8 G s3 [(14, bA (decide ((k : Int) < ss.length)))] fun G => b7 (wp_seq (rcD G (fun h0 q0 => ?_) fun h0 q0 => ?_)))
  · refine wp_exit (M4 (M4 (L2 (b7 (wp_seq (H0 G s3 (rg 5) [dI p.vars, dI p.arrays, dT p.body, .box [iA ((m8 p.vars.length p.arrays.length d c (a13 k ss)).snd : Int)], dT ss] [(8, bA true)] fun G => b7 (wp_ret ?_))))))); exact C4 true G (rg 5) (by rw [m8, <- aj8 (k := k) (by omega)]; exact hp.2) (by show _ = mR (rg 5) [dI p.vars, dI p.arrays, dT p.body, .box [iA ((m8 p.vars.length p.arrays.length d c ss).snd : Int)], dT ss]; have e1 : (((m8 p.vars.length p.arrays.length d c ss).snd : Int) : Int) = (((m8 p.vars.length p.arrays.length d c (a13 k ss)).snd : Int)) := (by rw [m8, <- aj8 (k := k) (by omega)]); (first | rw [e1] | simp only [e1]) <;> rfl)
  refine wp_skip (b7 (wp_seq (wp_block (wp_seq (rA1 G s3 [0, 1, 2, 3, 4, 5, 14, 15, 16, 17, 22] [dI p.vars, dI p.arrays, dT p.body, .box [iA ((m8 p.vars.length p.arrays.length d c (a13 k ss)).snd : Int)], dT ss, .box (pL 0), dE (ss.getD k a03).index.kids, dE (ss.getD k a03).value.kids, dT (ss.getD k a03).body, dT (ss.getD k a03).els, .box (sL (ss.getD k a03) 6)] [(2, iA n), (3, .ptr 3 0), (4, .ptr 5 0), (8, bA false), (10, .ptr 10 0), (11, .ref 4), (12, iA (ss.length : Int)), (13, iA k)] (iX k k ss.length []) (iK (by omega) a18) fun G => b7 (wp_seq (H0 G (hhC 4 [0, 1, 2, 3, 6, 7, 8, 9] (ih (ss.getD k a03) ((m8 p.vars.length p.arrays.length d c (a13 k ss)).snd) n (K2 (by omega) hp.2) (by assumption))) (rg 6) [dI p.vars, dI p.arrays, dT p.body, .box [iA ((w5 p.vars.length p.arrays.length d (m8 p.vars.length p.arrays.length d c (a13 k ss)).snd (ss.getD k a03)).snd : Int)], dT ss, .box (pL 0)] [(2, iA n), (3, .ptr 3 0), (4, .ptr 5 0), (8, bA false), (11, .ref 4), (12, iA (ss.length : Int)), (13, iA k), (22, .v (.bool !(w5 p.vars.length p.arrays.length d (m8 p.vars.length p.arrays.length d c (a13 k ss)).snd (ss.getD k a03)).fst))] fun G => b7 ?_))))))); cases h1 : (!(w5 p.vars.length p.arrays.length d (m8 p.vars.length p.arrays.length d c (a13 k ss)).snd (ss.getD k a03)).fst)
  · have q1 : ((w5 p.vars.length p.arrays.length d (m8 p.vars.length p.arrays.length d c (a13 k ss)).snd (ss.getD k a03)).fst) = true := (Eq.mp (a27 _) h1); refine rF G _ h1 (wp_skip (G2 (b7 (T7 G s3 [(13, iA ((k : Int) + 1))] [wO ((k : Int) + 1)] (o1 (by omega)) fun G => b7 ?_)))); exact rxn G (k + 1) (⟨by omega, by rw [m8, X5 hp.2 (by omega)]; assumption⟩) (by omega) (rg 6) (by have e1 : (((m8 p.vars.length p.arrays.length d c (a13 (k + 1) ss)).snd : Int) : Int) = (((w5 p.vars.length p.arrays.length d (m8 p.vars.length p.arrays.length d c (a13 k ss)).snd (ss.getD k a03)).snd : Int)) := (by rw [m8, X5 hp.2 (by omega)]); (first | rw [e1] | simp only [e1]) <;> rfl)
  have q1 : ((w5 p.vars.length p.arrays.length d (m8 p.vars.length p.arrays.length d c (a13 k ss)).snd (ss.getD k a03)).fst) = false := (Eq.mp (a23 _) h1); refine rT G _ h1 (wp_seq (t8 G s3 [] fun G => b7 (wp_ret (I5 (s9 (s9 (I5 (s9 ?_)))))))); exact C4 false G (rg 5) (by rw [m8, aj7 hp.2 (by omega) (by assumption)]; assumption) (by show _ = mR (rg 5) [dI p.vars, dI p.arrays, dT p.body, .box [iA ((m8 p.vars.length p.arrays.length d c ss).snd : Int)], dT ss]; have e1 : (((m8 p.vars.length p.arrays.length d c ss).snd : Int) : Int) = (((w5 p.vars.length p.arrays.length d (m8 p.vars.length p.arrays.length d c (a13 k ss)).snd (ss.getD k a03)).snd : Int)) := (by rw [m8, aj7 hp.2 (by omega) (by assumption)]); (first | rw [e1] | simp only [e1]) <;> rfl)
section
variable {nv na : Nat} {s : b6}
theorem C3 (k : s.kind = 1 \/ s.kind = 5) : J4 nv na s = (decide (0 <= s.target /\ s.target < nv /\ s.body.length = 0 /\ s.els.length = 0 /\ s.count = 0) && (noneB s.index && n5 nv na s.value)) := by
 rw [J4, p9, if_pos k, if_neg (by omega), show decide (s.kind = 2) = false from decide_eq_false (by omega), a31]
 simp only [a05, decide_eq_true_eq, Bool.false_or]
 constructor
 ·rintro ⟨⟨⟨⟨a, b⟩, c⟩, d⟩, ⟨e, f⟩, g⟩; exact ⟨⟨e, f, a, b, c⟩, d, g⟩
 rintro ⟨⟨e, f, a, b, c⟩, d, g⟩; exact ⟨⟨⟨⟨a, b⟩, c⟩, d⟩, ⟨e, f⟩, g⟩
theorem J9 (k : s.kind = 2) : J4 nv na s = (decide (0 <= s.target /\ s.target < na /\ s.body.length = 0 /\ s.els.length = 0 /\ s.count = 0) && (n5 nv na s.index && (H7 s.index && n5 nv na s.value))) := by
 rw [J4, p9, if_neg (by omega), if_pos k, if_neg (by omega), show decide (s.kind = 2) = true from decide_eq_true k, a31]
 simp only [a05, decide_eq_true_eq, Bool.true_or]
 constructor
 ·rintro ⟨⟨⟨⟨a, b⟩, c⟩, -⟩, ⟨⟨⟨e, f⟩, i⟩, j⟩, g⟩; exact ⟨⟨e, f, a, b, c⟩, i, j, g⟩
 rintro ⟨⟨e, f, a, b, c⟩, i, j, g⟩; exact ⟨⟨⟨⟨a, b⟩, c⟩, a18⟩, ⟨⟨⟨e, f⟩, i⟩, j⟩, g⟩
theorem T3 (k : s.kind = 3) : J4 nv na s = (decide (s.target = 0 /\ s.count = 0) && (noneB s.index && n5 nv na s.value)) := by
 rw [J4, p9, if_pos (show s.kind = 3 \/ s.kind = 4 from .inl k), if_neg (show ¬ s.kind = 4 by omega), if_neg (by omega), if_neg (by omega), if_pos k, a31]
 simp only [a05, decide_eq_true_eq]
 constructor
 ·rintro ⟨⟨a, b, c⟩, d⟩; exact ⟨⟨a, b⟩, c, d⟩
 rintro ⟨⟨a, b⟩, c, d⟩; exact ⟨⟨a, b, c⟩, d⟩
theorem P2 (k : s.kind = 4) : J4 nv na s = (decide (s.target = 0 /\ s.els.length = 0 /\ 1 <= s.count /\ s.count <= 3) && (noneB s.index && noneB s.value)) := by
 rw [J4, p9, if_pos (show s.kind = 3 \/ s.kind = 4 from .inr k), if_pos k, if_neg (by omega), if_neg (by omega), if_neg (by omega), show decide (s.kind = 4) = true from decide_eq_true k, a31]
 simp only [a05, decide_eq_true_eq]
 constructor
 ·rintro ⟨⟨a, ⟨⟨⟨b, c⟩, d⟩, e⟩, f⟩, -⟩; exact ⟨⟨a, b, c, d⟩, e, f⟩
 rintro ⟨⟨a, b, c, d⟩, e, f⟩; exact ⟨⟨a, ⟨⟨⟨b, c⟩, d⟩, e⟩, f⟩, a18⟩
theorem aS1 (k : ¬ s.kind = 1 /\ ¬ s.kind = 2 /\ ¬ s.kind = 3 /\ ¬ s.kind = 4 /\ ¬ s.kind = 5) : J4 nv na s = false := by
 rw [J4, if_neg (by omega), if_neg (by omega), if_neg (by omega), show decide (s.kind = 4) = false from decide_eq_false (by omega), Bool.and_false]
theorem L7 {p : Prop} [Decidable p] {a b : Bool} (hp : p) (ha : a = true) (hb : b = true) : (decide p && (a && b)) = true := by rw [ha, hb, decide_eq_true hp]; rfl
theorem ar7 {p : Prop} [Decidable p] {a b c : Bool} (hp : p) (ha : a = true) (hb : b = true) (hc : c = true) : (decide p && (a && (b && c))) = true := by rw [ha, hb, hc, decide_eq_true hp]; rfl
end
abbrev W2 (p : p8) (d : Nat) (s : b6) (c : Nat) := m8 p.vars.length p.arrays.length d (m8 p.vars.length p.arrays.length d (c + 1) s.body).snd s.els
abbrev W0 (p : p8) (d : Nat) (s : b6) (c : Nat) := m8 p.vars.length p.arrays.length d (c + 1) s.body
abbrev n7 (p : p8) (d : Nat) (s : b6) (c : Nat) : List It := [dI p.vars, dI p.arrays, dT p.body, .box [iA ((w5 p.vars.length p.arrays.length (d + 1) c s).snd : Int)], dE s.index.kids, dE s.value.kids, dT s.body, dT s.els]
abbrev Q3 (s : b6) (r0 : List It) : List It := dE s.index.kids :: dE s.value.kids :: dT s.body :: dT s.els :: r0
abbrev Q1 (p : p8) (r0 : List It) : List It := dI p.vars :: dI p.arrays :: dT p.body :: r0
theorem aQ7 (p : p8) (d : Nat) (hd : d <= 4) (ih : ∀ (ss : List b6) (c : Nat) (n : Int), c <= 60 -> n = 6 - (d : Int) -> B5.ok Tryd.prog (ax6 p d c ss n))
    (s : b6) (c : Nat) (n : Int) (hc : c <= 60) (hn : n = 5 - (d : Int)) : B5.ok Tryd.prog (aR2 p (d + 1) c s n) := by
  have h100 : decide (n > 5) = false := by simp; omega
  refine Y9 149 Tryd.func82 (Q1 p (.box [iA c] :: (Q3 s []))) [(0, pA 0), (1, sA s 4), (2, iA n), (3, .ptr 3 0)] fun G => ?_; have hl0 : p.vars.length <= 9223372036854775807 := G.len 0 (d := .ints p.vars) (by kernel_rfl); have hl1 : p.arrays.length <= 9223372036854775807 := G.len 1 (d := .ints p.arrays) (by kernel_rfl); refine wp_seq (H0 G s3 [0, 1, 2, 3, 4, 5, 6, 7, 8, 16] (Q1 p (.box [iA c] :: (Q3 s [.box (pL 0), .box (sL s 4)]))) [(2, iA n), (3, .ptr 3 0), (4, .ptr 8 0), (5, .ptr 9 0), (8, bA false)] fun G => b7 (wp_seq (rA1 G s3 (rg 10) (Q1 p (.box [iA ((c : Int) + 1)] :: (Q3 s [.box (pL 0), .box (sL s 4)]))) [(2, iA n), (3, .ptr 3 0), (4, .ptr 8 0), (5, .ptr 9 0), (8, bA false)] [wO ((c : Int) + 1)] (o1 (by omega)) fun G => b7 (wp_seq (wp_seq ?_))))); cases h0 : (decide ((c : Int) + 1 > 60))
  ·
   have q0 := dFf h0; refine t8 G (P1 (fc h0 fz) [(5, 0), (6, 0), (1007, 0)]) [(27, bA (decide (n > 5)))] fun G => b7 (rF G (decide (n > 5)) (by assumption) (wp_skip (b7 (wp_seq (t8 G s3 [(9, iA 1), (10, bA false), (11, bA true), (12, bA false), (13, bA false), (14, bA false)] fun G => b7 (wp_seq (wp_seq (t8 G s3 [(29, iA s.kind)] fun G => b7 (wp_block (wp_seq (wp_seq (t8 G s3 [(30, bA (s.kind == 1))] fun G => b7 (rcE G (fun h1 q1 => ?_) fun h1 q1 => ?_)))))))))))))
   ·
    refine t8 G s3 [(30, bA (s.kind == 5))] fun G => b7 (rcE G (fun h2 q2 => ?_) fun h2 q2 => ?_)
    ·
     refine wp_seq (t8 G s3 [(36, bA (s.kind == 2))] fun G => b7 (rcE G (fun h3 q3 => ?_) fun h3 q3 => ?_))
     ·
      refine wp_seq (t8 G s3 [(41, bA (s.kind == 3))] fun G => b7 (rcE G (fun h4 q4 => ?_) fun h4 q4 => ?_))
      ·
       refine wp_seq (t8 G s3 [(43, bA (s.kind == 4))] fun G => b7 (rcE G (fun h5 q5 => ?_) fun h5 q5 => ?_))
       · refine wp_seq (t8 G s3 [] fun G => b7 (wp_ret (I5 (s9 ?_)))); exact C4 false G (rg 8) (by rw [l6 (aS1 (by omega))]; done) (by show _ = mR (rg 8) (n7 p d s c); unfold n7; rw [l6 (aS1 (by omega))] <;> rfl)
       refine t8 G s3 [(11, bA false), (12, bA true), (13, bA true)] fun G => G2 (b7 (wp_seq (wp_seq ?_))); cases h6 : (!(decide ((0 : Int) <= s.target) && decide (s.target <= 0)))
       ·
        have q6 : (0 <= s.target) /\ (s.target <= 0) := (fun hq => And.imp (fun hq => of_decide_eq_true hq) (fun hq => of_decide_eq_true hq) (Bool.and_eq_true_iff.1 hq)) (Eq.mp (a27 _) h6); cases h7 : (!(decide ((1 : Int) <= s.count) && decide (s.count <= 3)))
        ·
         have q7 : (1 <= s.count) /\ (s.count <= 3) := (fun hq => And.imp (fun hq => of_decide_eq_true hq) (fun hq => of_decide_eq_true hq) (Bool.and_eq_true_iff.1 hq)) (Eq.mp (a27 _) h7); refine T7 G (E8 (A1 4 [] (A5 s.target 0 0) (A1 11 [] (A5 s.count 1 3) E7)) (fc h6 (fc (b := true) rfl (fc h7 (fc (b := false) rfl fz)))) (us [(7, 8, 0), (9, 12, 1), (13, 13, 0), (1013, 1013, 1), (1014, 1014, 0), (16, 18, 2), (19, 21, 3), (22, 22, 2), (1022, 1022, 3), (1023, 1023, 2), (25, 32, 3), (1032, 1033, 3), (35, 37, 3), (38, 41, 1), (42, 42, 3), (1042, 1042, 1), (1043, 1043, 3)])) [(88, bA (decide ((s.els.length : Int) > 0)))] [IntKind.i64.wrap ((1 : Int) - 1) = 1 - 1] ⟨(by kernel_rfl), a18⟩ fun G => b7 (rcD G (fun h8 q8 => ?_) fun h8 q8 => ?_)
         ·
          refine wp_skip (b7 (wp_seq (wp_seq ?_))); cases h9 : (!noneB s.index)
          ·
           have q9 : (noneB s.index) = true := (Eq.mp (a27 _) h9); refine t8 G (E8 (A1 20 [4] (F2 s.index) (A1 40 [5] (F2 s.value) E7)) (fc (b := false) rfl (fc (b := true) rfl (fc h9 fz))) (us [(2, 7, 0), (12, 12, 0), (1013, 1013, 0), (15, 17, 0), (18, 21, 1), (22, 22, 0), (1022, 1022, 1), (1023, 1023, 0), (25, 26, 2), (27, 31, 0), (32, 32, 2), (1032, 1032, 0), (1033, 1033, 2), (35, 37, 0), (38, 41, 1), (42, 42, 0), (1042, 1042, 1), (1043, 1043, 0)])) [(132, .v (.bool !noneB s.value))] fun G => b7 ?_; cases h10 : (!noneB s.value)
           ·
            have q10 : (noneB s.value) = true := (Eq.mp (a27 _) h10); refine rF G _ h10 (wp_skip (b7 (wp_seq ?_))); cases h11 : ((m8 p.vars.length p.arrays.length d (c + (1 : Nat)) s.body).fst)
            · refine rA1 G (E8 (A1 6 [0, 1, 2, 3, 6] (ih s.body (c + 1) (n + 1) (by simp; omega) (by omega)) E7) (fc h11 fz) (us [(8, 14, 0), (1015, 1015, 0)])) (rg 8) (Q1 p (.box [iA ((W0 p d s c).snd : Int)] :: (Q3 s []))) [(8, bA false)] [wO (n + 1)] (o1 (by omega)) fun G => b7 (wp_ret ?_); exact C4 false G (rg 8) (by rw [C5 (by omega) (by (rw [P2 (by omega)]; exact L7 (by omega) (by assumption) (by assumption))) (by assumption)]; assumption) (by show _ = mR (rg 8) (n7 p d s c); unfold n7; rw [C5 (by omega) (by (rw [P2 (by omega)]; exact L7 (by omega) (by assumption) (by assumption))) (by assumption)] <;> rfl)
            refine rA1 G (E8 (A1 6 [0, 1, 2, 3, 6] (ih s.body (c + 1) (n + 1) (by simp; omega) (by omega)) (A1 14 [0, 1, 2, 3, 7] (ih s.els ((W0 p d s c).snd) (n + 1) (K2 (by omega) (by assumption)) (by omega)) E7)) (fc h11 fz) (us [(8, 14, 0), (1015, 1015, 0)])) (rg 8) (Q1 p (.box [iA ((W2 p d s c).snd : Int)] :: (Q3 s []))) [(8, bA (W2 p d s c).fst)] [wO (n + 1), wO (n + 1)] (o2 (by omega)) fun G => b7 (wp_ret ?_); exact C4 ((m8 p.vars.length p.arrays.length d (m8 p.vars.length p.arrays.length d (c + 1) s.body).snd s.els).fst) G (rg 8) (by rw [E1 (by omega) (by (rw [P2 (by omega)]; exact L7 (by omega) (by assumption) (by assumption))) (by assumption)]; done) (by show _ = mR (rg 8) (n7 p d s c); unfold n7; rw [E1 (by omega) (by (rw [P2 (by omega)]; exact L7 (by omega) (by assumption) (by assumption))) (by assumption)] <;> rfl)
           have q10 : (noneB s.value) = false := (Eq.mp (a23 _) h10); refine rT G _ h10 (wp_seq (t8 G s3 [] fun G => b7 (wp_ret (s9 ?_)))); exact C4 false G (rg 8) (by rw [l6 (by (rw [P2 (by omega)]; simp [h100, h0, q0, h1, q1, h2, q2, h3, q3, h4, q4, h5, q5, h6, q6, h7, q7, h8, q8, h9, q9, h10, q10]; done))]; done) (by show _ = mR (rg 8) (n7 p d s c); unfold n7; rw [l6 (by (rw [P2 (by omega)]; simp [h100, h0, q0, h1, q1, h2, q2, h3, q3, h4, q4, h5, q5, h6, q6, h7, q7, h8, q8, h9, q9, h10, q10]; done))] <;> rfl)
          have q9 : (noneB s.index) = false := (Eq.mp (a23 _) h9); refine t8 G (E8 (A1 20 [4] (F2 s.index) E7) (fc (b := false) rfl (fc (b := true) rfl (fc h9 fz))) (us [(2, 7, 0), (12, 12, 0), (1013, 1013, 0), (15, 17, 0), (18, 21, 1), (22, 22, 0), (1022, 1022, 1), (1023, 1023, 0), (25, 26, 2), (32, 32, 2), (1033, 1033, 2), (35, 37, 1), (42, 42, 1), (1043, 1043, 1)])) [(132, bA true)] fun G => b7 (rT G true (by kernel_rfl) (wp_seq (t8 G s3 [] fun G => b7 (wp_ret (s9 ?_))))); exact C4 false G (rg 8) (by rw [l6 (by (rw [P2 (by omega)]; simp [h100, h0, q0, h1, q1, h2, q2, h3, q3, h4, q4, h5, q5, h6, q6, h7, q7, h8, q8, h9, q9]; done))]; done) (by show _ = mR (rg 8) (n7 p d s c); unfold n7; rw [l6 (by (rw [P2 (by omega)]; simp [h100, h0, q0, h1, q1, h2, q2, h3, q3, h4, q4, h5, q5, h6, q6, h7, q7, h8, q8, h9, q9]; done))] <;> rfl)
         refine wp_seq (t8 G s3 [] fun G => b7 (wp_ret (s9 ?_))); exact C4 false G (rg 8) (by rw [l6 (by (rw [P2 (by omega), decide_eq_false (by omega)]; rfl))]; done) (by show _ = mR (rg 8) (n7 p d s c); unfold n7; rw [l6 (by (rw [P2 (by omega), decide_eq_false (by omega)]; rfl))] <;> rfl)
        have q7 : (¬ (1 <= s.count)) \/ (¬ (s.count <= 3)) := (fun hq => Or.imp (fun hq => of_decide_eq_false hq) (fun hq => of_decide_eq_false hq) (Bool.and_eq_false_iff.1 hq)) (Eq.mp (a23 _) h7); refine T7 G (E8 (A1 4 [] (A5 s.target 0 0) (A1 11 [] (A5 s.count 1 3) E7)) (fc h6 (fc (b := true) rfl (fc h7 fz))) (us [(7, 8, 0), (9, 12, 1), (13, 13, 0), (1013, 1013, 1), (1014, 1014, 0), (16, 18, 2), (22, 22, 2), (1023, 1023, 2), (25, 27, 1), (32, 32, 1), (1033, 1033, 1), (35, 37, 1), (42, 42, 1), (1043, 1043, 1)])) [(88, bA true)] [IntKind.i64.wrap ((1 : Int) - 1) = 1 - 1] ⟨(by kernel_rfl), a18⟩ fun G => b7 (rT G true (by kernel_rfl) (wp_seq (t8 G s3 [] fun G => b7 (wp_ret (s9 ?_))))); exact C4 false G (rg 8) (by rw [l6 (by (rw [P2 (by omega), decide_eq_false (by omega)]; rfl))]; done) (by show _ = mR (rg 8) (n7 p d s c); unfold n7; rw [l6 (by (rw [P2 (by omega), decide_eq_false (by omega)]; rfl))] <;> rfl)
       have q6 : (¬ (0 <= s.target)) \/ (¬ (s.target <= 0)) := (fun hq => Or.imp (fun hq => of_decide_eq_false hq) (fun hq => of_decide_eq_false hq) (Bool.and_eq_false_iff.1 hq)) (Eq.mp (a23 _) h6); refine T7 G (E8 (A1 4 [] (A5 s.target 0 0) E7) (fc h6 (fc (b := true) rfl fz)) [(7, 0), (8, 0), (13, 0), (1014, 0), (16, 1), (17, 1), (18, 1), (22, 1), (1023, 1), (25, 1), (26, 1), (27, 1), (32, 1), (1033, 1), (35, 1), (36, 1), (37, 1), (42, 1), (1043, 1)]) [(88, bA true)] [IntKind.i64.wrap ((1 : Int) - 1) = 1 - 1] ⟨(by kernel_rfl), a18⟩ fun G => b7 (rT G true (by kernel_rfl) (wp_seq (t8 G s3 [] fun G => b7 (wp_ret (s9 ?_))))); exact C4 false G (rg 8) (by rw [l6 (by (rw [P2 (by omega), decide_eq_false (by omega)]; rfl))]; done) (by show _ = mR (rg 8) (n7 p d s c); unfold n7; rw [l6 (by (rw [P2 (by omega), decide_eq_false (by omega)]; rfl))] <;> rfl)
      refine t8 G s3 [(13, bA true), (14, bA true)] fun G => G2 (b7 (wp_seq (wp_seq ?_))); cases h12 : (!(decide ((0 : Int) <= s.target) && decide (s.target <= 0)))
      ·
       have q12 : (0 <= s.target) /\ (s.target <= 0) := (fun hq => And.imp (fun hq => of_decide_eq_true hq) (fun hq => of_decide_eq_true hq) (Bool.and_eq_true_iff.1 hq)) (Eq.mp (a27 _) h12); cases h13 : (s.count != 0)
       ·
        have q13 := bne_eq_false_iff_eq.1 h13; refine T7 G (E8 (A1 4 [] (A5 s.target 0 0) E7) (fc h12 (fc (b := false) rfl (fc (b := true) rfl (fc h13 fz)))) (us [(7, 8, 0), (9, 12, 1), (13, 13, 0), (1013, 1013, 1), (1014, 1014, 0), (16, 18, 1), (19, 21, 2), (22, 22, 1), (1022, 1022, 2), (1023, 1023, 1), (25, 27, 3), (28, 31, 1), (32, 32, 3), (1032, 1032, 1), (1033, 1033, 3), (35, 42, 1), (1042, 1043, 1)])) [(88, bA false)] [IntKind.i64.wrap ((1 : Int) - 1) = 1 - 1] ⟨(by kernel_rfl), a18⟩ fun G => b7 (rF G false (by kernel_rfl) (wp_skip (b7 (wp_seq (wp_seq ?_))))); cases h14 : (!noneB s.index)
        ·
         have q14 : (noneB s.index) = true := (Eq.mp (a27 _) h14); cases h15 : (!n5 p.vars.length p.arrays.length s.value)
         ·
          have q15 : (n5 p.vars.length p.arrays.length s.value) = true := (Eq.mp (a27 _) h15); refine t8 G (E8 (A1 20 [4] (F2 s.index) (A1 30 [0, 1, 2, 5] (L1 p s.value) E7)) (fc (b := false) rfl (fc (b := true) rfl (fc h14 (fc h15 fz)))) (us [(2, 7, 0), (12, 12, 0), (1013, 1013, 0), (15, 17, 0), (18, 21, 1), (22, 22, 0), (1022, 1022, 1), (1023, 1023, 0), (25, 26, 2), (27, 31, 1), (32, 32, 2), (1032, 1032, 1), (1033, 1033, 2), (35, 37, 3), (38, 41, 0), (42, 42, 3), (1042, 1042, 0), (1043, 1043, 3)])) [(132, bA false)] fun G => b7 (rF G false (by kernel_rfl) (wp_skip (b7 (wp_seq ?_)))); cases h16 : ((m8 p.vars.length p.arrays.length d (c + (1 : Nat)) s.body).fst)
          · refine rA1 G (E8 (A1 6 [0, 1, 2, 3, 6] (ih s.body (c + 1) (n + 1) (by simp; omega) (by omega)) E7) (fc h16 fz) (us [(8, 14, 0), (1015, 1015, 0)])) (rg 8) (Q1 p (.box [iA ((W0 p d s c).snd : Int)] :: (Q3 s []))) [(8, bA false)] [wO (n + 1)] (o1 (by omega)) fun G => b7 (wp_ret ?_); exact C4 false G (rg 8) (by rw [C5 (by omega) (by (rw [T3 (by omega)]; exact L7 (by omega) (by assumption) (by assumption))) (by assumption)]; assumption) (by show _ = mR (rg 8) (n7 p d s c); unfold n7; rw [C5 (by omega) (by (rw [T3 (by omega)]; exact L7 (by omega) (by assumption) (by assumption))) (by assumption)] <;> rfl)
          refine rA1 G (E8 (A1 6 [0, 1, 2, 3, 6] (ih s.body (c + 1) (n + 1) (by simp; omega) (by omega)) (A1 14 [0, 1, 2, 3, 7] (ih s.els ((W0 p d s c).snd) (n + 1) (K2 (by omega) (by assumption)) (by omega)) E7)) (fc h16 fz) (us [(8, 14, 0), (1015, 1015, 0)])) (rg 8) (Q1 p (.box [iA ((W2 p d s c).snd : Int)] :: (Q3 s []))) [(8, bA (W2 p d s c).fst)] [wO (n + 1), wO (n + 1)] (o2 (by omega)) fun G => b7 (wp_ret ?_); exact C4 ((m8 p.vars.length p.arrays.length d (m8 p.vars.length p.arrays.length d (c + 1) s.body).snd s.els).fst) G (rg 8) (by rw [E1 (by omega) (by (rw [T3 (by omega)]; exact L7 (by omega) (by assumption) (by assumption))) (by assumption)]; done) (by show _ = mR (rg 8) (n7 p d s c); unfold n7; rw [E1 (by omega) (by (rw [T3 (by omega)]; exact L7 (by omega) (by assumption) (by assumption))) (by assumption)] <;> rfl)
         have q15 : (n5 p.vars.length p.arrays.length s.value) = false := (Eq.mp (a23 _) h15); refine t8 G (E8 (A1 20 [4] (F2 s.index) (A1 30 [0, 1, 2, 5] (L1 p s.value) E7)) (fc (b := false) rfl (fc (b := true) rfl (fc h14 (fc h15 fz)))) (us [(2, 7, 0), (12, 12, 0), (1013, 1013, 0), (15, 17, 0), (18, 21, 1), (22, 22, 0), (1022, 1022, 1), (1023, 1023, 0), (25, 26, 2), (27, 31, 1), (32, 32, 2), (1032, 1032, 1), (1033, 1033, 2), (35, 37, 3), (42, 42, 3), (1043, 1043, 3)])) [(132, bA true)] fun G => b7 (rT G true (by kernel_rfl) (wp_seq (t8 G s3 [] fun G => b7 (wp_ret (s9 ?_))))); exact C4 false G (rg 8) (by rw [l6 (by (rw [T3 (by omega)]; simp [h100, h0, q0, h1, q1, h2, q2, h3, q3, h4, q4, h12, q12, h13, q13, h14, q14, h15, q15]; done))]; done) (by show _ = mR (rg 8) (n7 p d s c); unfold n7; rw [l6 (by (rw [T3 (by omega)]; simp [h100, h0, q0, h1, q1, h2, q2, h3, q3, h4, q4, h12, q12, h13, q13, h14, q14, h15, q15]; done))] <;> rfl)
        have q14 : (noneB s.index) = false := (Eq.mp (a23 _) h14); refine t8 G (E8 (A1 20 [4] (F2 s.index) E7) (fc (b := false) rfl (fc (b := true) rfl (fc h14 fz))) (us [(2, 7, 0), (12, 12, 0), (1013, 1013, 0), (15, 17, 0), (18, 21, 1), (22, 22, 0), (1022, 1022, 1), (1023, 1023, 0), (25, 26, 2), (32, 32, 2), (1033, 1033, 2), (35, 37, 1), (42, 42, 1), (1043, 1043, 1)])) [(132, bA true)] fun G => b7 (rT G true (by kernel_rfl) (wp_seq (t8 G s3 [] fun G => b7 (wp_ret (s9 ?_))))); exact C4 false G (rg 8) (by rw [l6 (by (rw [T3 (by omega)]; simp [h100, h0, q0, h1, q1, h2, q2, h3, q3, h4, q4, h12, q12, h13, q13, h14, q14]; done))]; done) (by show _ = mR (rg 8) (n7 p d s c); unfold n7; rw [l6 (by (rw [T3 (by omega)]; simp [h100, h0, q0, h1, q1, h2, q2, h3, q3, h4, q4, h12, q12, h13, q13, h14, q14]; done))] <;> rfl)
       have q13 := bne_iff_ne.1 h13; refine T7 G (E8 (A1 4 [] (A5 s.target 0 0) E7) (fc h12 (fc (b := false) rfl (fc (b := true) rfl (fc h13 fz)))) (us [(7, 8, 0), (9, 12, 1), (13, 13, 0), (1013, 1013, 1), (1014, 1014, 0), (16, 18, 1), (19, 21, 2), (22, 22, 1), (1022, 1022, 2), (1023, 1023, 1), (25, 27, 3), (32, 32, 3), (1033, 1033, 3), (35, 37, 2), (42, 42, 2), (1043, 1043, 2)])) [(88, bA true)] [IntKind.i64.wrap ((1 : Int) - 1) = 1 - 1] ⟨(by kernel_rfl), a18⟩ fun G => b7 (rT G true (by kernel_rfl) (wp_seq (t8 G s3 [] fun G => b7 (wp_ret (s9 ?_))))); exact C4 false G (rg 8) (by rw [l6 (by (rw [T3 (by omega), decide_eq_false (by omega)]; rfl))]; done) (by show _ = mR (rg 8) (n7 p d s c); unfold n7; rw [l6 (by (rw [T3 (by omega), decide_eq_false (by omega)]; rfl))] <;> rfl)
      have q12 : (¬ (0 <= s.target)) \/ (¬ (s.target <= 0)) := (fun hq => Or.imp (fun hq => of_decide_eq_false hq) (fun hq => of_decide_eq_false hq) (Bool.and_eq_false_iff.1 hq)) (Eq.mp (a23 _) h12); refine T7 G (E8 (A1 4 [] (A5 s.target 0 0) E7) (fc h12 (fc (b := true) rfl fz)) [(7, 0), (8, 0), (13, 0), (1014, 0), (16, 1), (17, 1), (18, 1), (22, 1), (1023, 1), (25, 1), (26, 1), (27, 1), (32, 1), (1033, 1), (35, 1), (36, 1), (37, 1), (42, 1), (1043, 1)]) [(88, bA true)] [IntKind.i64.wrap ((1 : Int) - 1) = 1 - 1] ⟨(by kernel_rfl), a18⟩ fun G => b7 (rT G true (by kernel_rfl) (wp_seq (t8 G s3 [] fun G => b7 (wp_ret (s9 ?_))))); exact C4 false G (rg 8) (by rw [l6 (by (rw [T3 (by omega), decide_eq_false (by omega)]; rfl))]; done) (by show _ = mR (rg 8) (n7 p d s c); unfold n7; rw [l6 (by (rw [T3 (by omega), decide_eq_false (by omega)]; rfl))] <;> rfl)
     refine t8 G s3 [(9, iA (p.arrays.length : Int)), (10, bA true)] fun G => G2 (b7 (wp_seq (wp_seq ?_))); cases h17 : (!(decide ((0 : Int) <= s.target) && decide (s.target <= (p.arrays.length : Int) - 1)))
     ·
      have q17 : (0 <= s.target) /\ (s.target <= (p.arrays.length : Int) - 1) := (fun hq => And.imp (fun hq => of_decide_eq_true hq) (fun hq => of_decide_eq_true hq) (Bool.and_eq_true_iff.1 hq)) (Eq.mp (a27 _) h17); cases h18 : (s.count != 0)
      ·
       have q18 := bne_eq_false_iff_eq.1 h18; cases h19 : (decide ((s.body.length : Int) > 0))
       ·
        have q19 := dFf h19; refine T7 G (E8 (A1 4 [] (A5 s.target 0 ((p.arrays.length : Int) - 1)) E7) (fc h17 (fc (b := false) rfl (fc (b := true) rfl (fc h18 (fc h19 fz))))) (us [(7, 8, 0), (9, 12, 1), (13, 13, 0), (1013, 1013, 1), (1014, 1014, 0), (16, 18, 1), (19, 21, 2), (22, 22, 1), (1022, 1022, 2), (1023, 1023, 1), (25, 27, 3), (28, 31, 2), (32, 32, 3), (1032, 1032, 2), (1033, 1033, 3), (35, 37, 4), (38, 41, 2), (42, 42, 4), (1042, 1042, 2), (1043, 1043, 4)])) [(88, bA (decide ((s.els.length : Int) > 0)))] [wO ((p.arrays.length : Int) - 1)] (o1 (by omega)) fun G => b7 (rcD G (fun h20 q20 => ?_) fun h20 q20 => ?_)
        ·
         refine wp_skip (b7 (wp_seq (wp_seq ?_))); cases h21 : (!n5 p.vars.length p.arrays.length s.index)
         ·
          have q21 : (n5 p.vars.length p.arrays.length s.index) = true := (Eq.mp (a27 _) h21); cases h22 : (!H7 s.index)
          ·
           have q22 : (H7 s.index) = true := (Eq.mp (a27 _) h22); cases h23 : (!n5 p.vars.length p.arrays.length s.value)
           ·
            have q23 : (n5 p.vars.length p.arrays.length s.value) = true := (Eq.mp (a27 _) h23); refine t8 G (E8 (A1 5 [0, 1, 2, 4] (L1 p s.index) (A1 10 [4] (ad0 s.index) (A1 30 [0, 1, 2, 5] (L1 p s.value) E7))) (fc (b := true) rfl (fc h21 (fc h22 (fc (b := false) rfl (fc h23 fz))))) (us [(2, 7, 0), (8, 11, 1), (12, 12, 0), (1012, 1012, 1), (1013, 1013, 0), (15, 17, 2), (18, 21, 3), (22, 22, 2), (1022, 1022, 3), (1023, 1023, 2), (25, 26, 3), (27, 31, 0), (32, 32, 3), (1032, 1032, 0), (1033, 1033, 3), (35, 37, 4), (38, 41, 3), (42, 42, 4), (1042, 1042, 3), (1043, 1043, 4)])) [(132, bA false)] fun G => b7 (rF G false (by kernel_rfl) (wp_skip (b7 (wp_seq ?_)))); cases h24 : ((m8 p.vars.length p.arrays.length d (c + (1 : Nat)) s.body).fst)
            · refine rA1 G (E8 (A1 6 [0, 1, 2, 3, 6] (ih s.body (c + 1) (n + 1) (by simp; omega) (by omega)) E7) (fc h24 fz) (us [(8, 14, 0), (1015, 1015, 0)])) (rg 8) (Q1 p (.box [iA ((W0 p d s c).snd : Int)] :: (Q3 s []))) [(8, bA false)] [wO (n + 1)] (o1 (by omega)) fun G => b7 (wp_ret ?_); exact C4 false G (rg 8) (by rw [C5 (by omega) (by (rw [J9 (by omega)]; exact ar7 (by omega) (by assumption) (by assumption) (by assumption))) (by assumption)]; assumption) (by show _ = mR (rg 8) (n7 p d s c); unfold n7; rw [C5 (by omega) (by (rw [J9 (by omega)]; exact ar7 (by omega) (by assumption) (by assumption) (by assumption))) (by assumption)] <;> rfl)
            refine rA1 G (E8 (A1 6 [0, 1, 2, 3, 6] (ih s.body (c + 1) (n + 1) (by simp; omega) (by omega)) (A1 14 [0, 1, 2, 3, 7] (ih s.els ((W0 p d s c).snd) (n + 1) (K2 (by omega) (by assumption)) (by omega)) E7)) (fc h24 fz) (us [(8, 14, 0), (1015, 1015, 0)])) (rg 8) (Q1 p (.box [iA ((W2 p d s c).snd : Int)] :: (Q3 s []))) [(8, bA (W2 p d s c).fst)] [wO (n + 1), wO (n + 1)] (o2 (by omega)) fun G => b7 (wp_ret ?_); exact C4 ((m8 p.vars.length p.arrays.length d (m8 p.vars.length p.arrays.length d (c + 1) s.body).snd s.els).fst) G (rg 8) (by rw [E1 (by omega) (by (rw [J9 (by omega)]; exact ar7 (by omega) (by assumption) (by assumption) (by assumption))) (by assumption)]; done) (by show _ = mR (rg 8) (n7 p d s c); unfold n7; rw [E1 (by omega) (by (rw [J9 (by omega)]; exact ar7 (by omega) (by assumption) (by assumption) (by assumption))) (by assumption)] <;> rfl)
           have q23 : (n5 p.vars.length p.arrays.length s.value) = false := (Eq.mp (a23 _) h23); refine t8 G (E8 (A1 5 [0, 1, 2, 4] (L1 p s.index) (A1 10 [4] (ad0 s.index) (A1 30 [0, 1, 2, 5] (L1 p s.value) E7))) (fc (b := true) rfl (fc h21 (fc h22 (fc (b := false) rfl (fc h23 fz))))) (us [(2, 7, 0), (8, 11, 1), (12, 12, 0), (1012, 1012, 1), (1013, 1013, 0), (15, 17, 2), (18, 21, 3), (22, 22, 2), (1022, 1022, 3), (1023, 1023, 2), (25, 26, 3), (27, 31, 0), (32, 32, 3), (1032, 1032, 0), (1033, 1033, 3), (35, 37, 4), (42, 42, 4), (1043, 1043, 4)])) [(132, bA true)] fun G => b7 (rT G true (by kernel_rfl) (wp_seq (t8 G s3 [] fun G => b7 (wp_ret (s9 ?_))))); exact C4 false G (rg 8) (by rw [l6 (by (rw [J9 (by omega)]; simp [h100, h0, q0, h1, q1, h2, q2, h3, q3, h17, q17, h18, q18, h19, q19, h20, q20, h21, q21, h22, q22, h23, q23]; done))]; done) (by show _ = mR (rg 8) (n7 p d s c); unfold n7; rw [l6 (by (rw [J9 (by omega)]; simp [h100, h0, q0, h1, q1, h2, q2, h3, q3, h17, q17, h18, q18, h19, q19, h20, q20, h21, q21, h22, q22, h23, q23]; done))] <;> rfl)
          have q22 : (H7 s.index) = false := (Eq.mp (a23 _) h22); refine t8 G (E8 (A1 5 [0, 1, 2, 4] (L1 p s.index) (A1 10 [4] (ad0 s.index) E7)) (fc (b := true) rfl (fc h21 (fc h22 fz))) (us [(2, 7, 0), (8, 11, 1), (12, 12, 0), (1012, 1012, 1), (1013, 1013, 0), (15, 17, 2), (22, 22, 2), (1023, 1023, 2), (25, 26, 0), (32, 32, 0), (1033, 1033, 0), (35, 37, 0), (42, 42, 0), (1043, 1043, 0)])) [(132, bA true)] fun G => b7 (rT G true (by kernel_rfl) (wp_seq (t8 G s3 [] fun G => b7 (wp_ret (s9 ?_))))); exact C4 false G (rg 8) (by rw [l6 (by (rw [J9 (by omega)]; simp [h100, h0, q0, h1, q1, h2, q2, h3, q3, h17, q17, h18, q18, h19, q19, h20, q20, h21, q21, h22, q22]; done))]; done) (by show _ = mR (rg 8) (n7 p d s c); unfold n7; rw [l6 (by (rw [J9 (by omega)]; simp [h100, h0, q0, h1, q1, h2, q2, h3, q3, h17, q17, h18, q18, h19, q19, h20, q20, h21, q21, h22, q22]; done))] <;> rfl)
         have q21 : (n5 p.vars.length p.arrays.length s.index) = false := (Eq.mp (a23 _) h21); refine t8 G (E8 (A1 5 [0, 1, 2, 4] (L1 p s.index) E7) (fc (b := true) rfl (fc h21 fz)) (us [(2, 7, 0), (8, 11, 1), (12, 12, 0), (1012, 1012, 1), (1013, 1013, 0), (15, 17, 0), (22, 22, 0), (1023, 1023, 0), (25, 26, 0), (32, 32, 0), (1033, 1033, 0), (35, 37, 0), (42, 42, 0), (1043, 1043, 0)])) [(132, bA true)] fun G => b7 (rT G true (by kernel_rfl) (wp_seq (t8 G s3 [] fun G => b7 (wp_ret (s9 ?_))))); exact C4 false G (rg 8) (by rw [l6 (by (rw [J9 (by omega)]; simp [h100, h0, q0, h1, q1, h2, q2, h3, q3, h17, q17, h18, q18, h19, q19, h20, q20, h21, q21]; done))]; done) (by show _ = mR (rg 8) (n7 p d s c); unfold n7; rw [l6 (by (rw [J9 (by omega)]; simp [h100, h0, q0, h1, q1, h2, q2, h3, q3, h17, q17, h18, q18, h19, q19, h20, q20, h21, q21]; done))] <;> rfl)
        refine wp_seq (t8 G s3 [] fun G => b7 (wp_ret (s9 ?_))); exact C4 false G (rg 8) (by rw [l6 (by (rw [J9 (by omega), decide_eq_false (by omega)]; rfl))]; done) (by show _ = mR (rg 8) (n7 p d s c); unfold n7; rw [l6 (by (rw [J9 (by omega), decide_eq_false (by omega)]; rfl))] <;> rfl)
       have q19 := dTt h19; refine T7 G (E8 (A1 4 [] (A5 s.target 0 ((p.arrays.length : Int) - 1)) E7) (fc h17 (fc (b := false) rfl (fc (b := true) rfl (fc h18 (fc h19 fz))))) (us [(7, 8, 0), (9, 12, 1), (13, 13, 0), (1013, 1013, 1), (1014, 1014, 0), (16, 18, 1), (19, 21, 2), (22, 22, 1), (1022, 1022, 2), (1023, 1023, 1), (25, 27, 3), (28, 31, 2), (32, 32, 3), (1032, 1032, 2), (1033, 1033, 3), (35, 37, 4), (42, 42, 4), (1043, 1043, 4)])) [(88, bA true)] [wO ((p.arrays.length : Int) - 1)] (o1 (by omega)) fun G => b7 (rT G true (by kernel_rfl) (wp_seq (t8 G s3 [] fun G => b7 (wp_ret (s9 ?_))))); exact C4 false G (rg 8) (by rw [l6 (by (rw [J9 (by omega), decide_eq_false (by omega)]; rfl))]; done) (by show _ = mR (rg 8) (n7 p d s c); unfold n7; rw [l6 (by (rw [J9 (by omega), decide_eq_false (by omega)]; rfl))] <;> rfl)
      have q18 := bne_iff_ne.1 h18; refine T7 G (E8 (A1 4 [] (A5 s.target 0 ((p.arrays.length : Int) - 1)) E7) (fc h17 (fc (b := false) rfl (fc (b := true) rfl (fc h18 fz)))) (us [(7, 8, 0), (9, 12, 1), (13, 13, 0), (1013, 1013, 1), (1014, 1014, 0), (16, 18, 1), (19, 21, 2), (22, 22, 1), (1022, 1022, 2), (1023, 1023, 1), (25, 27, 3), (32, 32, 3), (1033, 1033, 3), (35, 37, 2), (42, 42, 2), (1043, 1043, 2)])) [(88, bA true)] [wO ((p.arrays.length : Int) - 1)] (o1 (by omega)) fun G => b7 (rT G true (by kernel_rfl) (wp_seq (t8 G s3 [] fun G => b7 (wp_ret (s9 ?_))))); exact C4 false G (rg 8) (by rw [l6 (by (rw [J9 (by omega), decide_eq_false (by omega)]; rfl))]; done) (by show _ = mR (rg 8) (n7 p d s c); unfold n7; rw [l6 (by (rw [J9 (by omega), decide_eq_false (by omega)]; rfl))] <;> rfl)
     have q17 : (¬ (0 <= s.target)) \/ (¬ (s.target <= (p.arrays.length : Int) - 1)) := (fun hq => Or.imp (fun hq => of_decide_eq_false hq) (fun hq => of_decide_eq_false hq) (Bool.and_eq_false_iff.1 hq)) (Eq.mp (a23 _) h17); refine T7 G (E8 (A1 4 [] (A5 s.target 0 ((p.arrays.length : Int) - 1)) E7) (fc h17 (fc (b := true) rfl fz)) [(7, 0), (8, 0), (13, 0), (1014, 0), (16, 1), (17, 1), (18, 1), (22, 1), (1023, 1), (25, 1), (26, 1), (27, 1), (32, 1), (1033, 1), (35, 1), (36, 1), (37, 1), (42, 1), (1043, 1)]) [(88, bA true)] [wO ((p.arrays.length : Int) - 1)] (o1 (by omega)) fun G => b7 (rT G true (by kernel_rfl) (wp_seq (t8 G s3 [] fun G => b7 (wp_ret (s9 ?_))))); exact C4 false G (rg 8) (by rw [l6 (by (rw [J9 (by omega), decide_eq_false (by omega)]; rfl))]; done) (by show _ = mR (rg 8) (n7 p d s c); unfold n7; rw [l6 (by (rw [J9 (by omega), decide_eq_false (by omega)]; rfl))] <;> rfl)
    refine t8 G s3 [(9, iA (p.vars.length : Int))] fun G => G2 (b7 (wp_seq (wp_seq ?_))); cases h25 : (!(decide ((0 : Int) <= s.target) && decide (s.target <= (p.vars.length : Int) - 1)))
    ·
     have q25 : (0 <= s.target) /\ (s.target <= (p.vars.length : Int) - 1) := (fun hq => And.imp (fun hq => of_decide_eq_true hq) (fun hq => of_decide_eq_true hq) (Bool.and_eq_true_iff.1 hq)) (Eq.mp (a27 _) h25); cases h26 : (s.count != 0)
     ·
      have q26 := bne_eq_false_iff_eq.1 h26; cases h27 : (decide ((s.body.length : Int) > 0))
      ·
       have q27 := dFf h27; refine T7 G (E8 (A1 4 [] (A5 s.target 0 ((p.vars.length : Int) - 1)) E7) (fc h25 (fc (b := false) rfl (fc (b := true) rfl (fc h26 (fc h27 fz))))) (us [(7, 8, 0), (9, 12, 1), (13, 13, 0), (1013, 1013, 1), (1014, 1014, 0), (16, 18, 1), (19, 21, 2), (22, 22, 1), (1022, 1022, 2), (1023, 1023, 1), (25, 27, 3), (28, 31, 2), (32, 32, 3), (1032, 1032, 2), (1033, 1033, 3), (35, 37, 4), (38, 41, 2), (42, 42, 4), (1042, 1042, 2), (1043, 1043, 4)])) [(88, bA (decide ((s.els.length : Int) > 0)))] [wO ((p.vars.length : Int) - 1)] (o1 (by omega)) fun G => b7 (rcD G (fun h28 q28 => ?_) fun h28 q28 => ?_)
       ·
        refine wp_skip (b7 (wp_seq (wp_seq ?_))); cases h29 : (!noneB s.index)
        ·
         have q29 : (noneB s.index) = true := (Eq.mp (a27 _) h29); cases h30 : (!n5 p.vars.length p.arrays.length s.value)
         ·
          have q30 : (n5 p.vars.length p.arrays.length s.value) = true := (Eq.mp (a27 _) h30); refine t8 G (E8 (A1 20 [4] (F2 s.index) (A1 30 [0, 1, 2, 5] (L1 p s.value) E7)) (fc (b := false) rfl (fc (b := true) rfl (fc h29 (fc h30 fz)))) (us [(2, 7, 0), (12, 12, 0), (1013, 1013, 0), (15, 17, 0), (18, 21, 1), (22, 22, 0), (1022, 1022, 1), (1023, 1023, 0), (25, 26, 2), (27, 31, 1), (32, 32, 2), (1032, 1032, 1), (1033, 1033, 2), (35, 37, 3), (38, 41, 0), (42, 42, 3), (1042, 1042, 0), (1043, 1043, 3)])) [(132, bA false)] fun G => b7 (rF G false (by kernel_rfl) (wp_skip (b7 (wp_seq ?_)))); cases h31 : ((m8 p.vars.length p.arrays.length d (c + (1 : Nat)) s.body).fst)
          · refine rA1 G (E8 (A1 6 [0, 1, 2, 3, 6] (ih s.body (c + 1) (n + 1) (by simp; omega) (by omega)) E7) (fc h31 fz) (us [(8, 14, 0), (1015, 1015, 0)])) (rg 8) (Q1 p (.box [iA ((W0 p d s c).snd : Int)] :: (Q3 s []))) [(8, bA false)] [wO (n + 1)] (o1 (by omega)) fun G => b7 (wp_ret ?_); exact C4 false G (rg 8) (by rw [C5 (by omega) (by (rw [C3 (by omega)]; exact L7 (by omega) (by assumption) (by assumption))) (by assumption)]; assumption) (by show _ = mR (rg 8) (n7 p d s c); unfold n7; rw [C5 (by omega) (by (rw [C3 (by omega)]; exact L7 (by omega) (by assumption) (by assumption))) (by assumption)] <;> rfl)
          refine rA1 G (E8 (A1 6 [0, 1, 2, 3, 6] (ih s.body (c + 1) (n + 1) (by simp; omega) (by omega)) (A1 14 [0, 1, 2, 3, 7] (ih s.els ((W0 p d s c).snd) (n + 1) (K2 (by omega) (by assumption)) (by omega)) E7)) (fc h31 fz) (us [(8, 14, 0), (1015, 1015, 0)])) (rg 8) (Q1 p (.box [iA ((W2 p d s c).snd : Int)] :: (Q3 s []))) [(8, bA (W2 p d s c).fst)] [wO (n + 1), wO (n + 1)] (o2 (by omega)) fun G => b7 (wp_ret ?_); exact C4 ((m8 p.vars.length p.arrays.length d (m8 p.vars.length p.arrays.length d (c + 1) s.body).snd s.els).fst) G (rg 8) (by rw [E1 (by omega) (by (rw [C3 (by omega)]; exact L7 (by omega) (by assumption) (by assumption))) (by assumption)]; done) (by show _ = mR (rg 8) (n7 p d s c); unfold n7; rw [E1 (by omega) (by (rw [C3 (by omega)]; exact L7 (by omega) (by assumption) (by assumption))) (by assumption)] <;> rfl)
         have q30 : (n5 p.vars.length p.arrays.length s.value) = false := (Eq.mp (a23 _) h30); refine t8 G (E8 (A1 20 [4] (F2 s.index) (A1 30 [0, 1, 2, 5] (L1 p s.value) E7)) (fc (b := false) rfl (fc (b := true) rfl (fc h29 (fc h30 fz)))) (us [(2, 7, 0), (12, 12, 0), (1013, 1013, 0), (15, 17, 0), (18, 21, 1), (22, 22, 0), (1022, 1022, 1), (1023, 1023, 0), (25, 26, 2), (27, 31, 1), (32, 32, 2), (1032, 1032, 1), (1033, 1033, 2), (35, 37, 3), (42, 42, 3), (1043, 1043, 3)])) [(132, bA true)] fun G => b7 (rT G true (by kernel_rfl) (wp_seq (t8 G s3 [] fun G => b7 (wp_ret (s9 ?_))))); exact C4 false G (rg 8) (by rw [l6 (by (rw [C3 (by omega)]; simp [h100, h0, q0, h1, q1, h2, q2, h25, q25, h26, q26, h27, q27, h28, q28, h29, q29, h30, q30]; done))]; done) (by show _ = mR (rg 8) (n7 p d s c); unfold n7; rw [l6 (by (rw [C3 (by omega)]; simp [h100, h0, q0, h1, q1, h2, q2, h25, q25, h26, q26, h27, q27, h28, q28, h29, q29, h30, q30]; done))] <;> rfl)
        have q29 : (noneB s.index) = false := (Eq.mp (a23 _) h29); refine t8 G (E8 (A1 20 [4] (F2 s.index) E7) (fc (b := false) rfl (fc (b := true) rfl (fc h29 fz))) (us [(2, 7, 0), (12, 12, 0), (1013, 1013, 0), (15, 17, 0), (18, 21, 1), (22, 22, 0), (1022, 1022, 1), (1023, 1023, 0), (25, 26, 2), (32, 32, 2), (1033, 1033, 2), (35, 37, 1), (42, 42, 1), (1043, 1043, 1)])) [(132, bA true)] fun G => b7 (rT G true (by kernel_rfl) (wp_seq (t8 G s3 [] fun G => b7 (wp_ret (s9 ?_))))); exact C4 false G (rg 8) (by rw [l6 (by (rw [C3 (by omega)]; simp [h100, h0, q0, h1, q1, h2, q2, h25, q25, h26, q26, h27, q27, h28, q28, h29, q29]; done))]; done) (by show _ = mR (rg 8) (n7 p d s c); unfold n7; rw [l6 (by (rw [C3 (by omega)]; simp [h100, h0, q0, h1, q1, h2, q2, h25, q25, h26, q26, h27, q27, h28, q28, h29, q29]; done))] <;> rfl)
       refine wp_seq (t8 G s3 [] fun G => b7 (wp_ret (s9 ?_))); exact C4 false G (rg 8) (by rw [l6 (by (rw [C3 (by omega), decide_eq_false (by omega)]; rfl))]; done) (by show _ = mR (rg 8) (n7 p d s c); unfold n7; rw [l6 (by (rw [C3 (by omega), decide_eq_false (by omega)]; rfl))] <;> rfl)
      have q27 := dTt h27; refine T7 G (E8 (A1 4 [] (A5 s.target 0 ((p.vars.length : Int) - 1)) E7) (fc h25 (fc (b := false) rfl (fc (b := true) rfl (fc h26 (fc h27 fz))))) (us [(7, 8, 0), (9, 12, 1), (13, 13, 0), (1013, 1013, 1), (1014, 1014, 0), (16, 18, 1), (19, 21, 2), (22, 22, 1), (1022, 1022, 2), (1023, 1023, 1), (25, 27, 3), (28, 31, 2), (32, 32, 3), (1032, 1032, 2), (1033, 1033, 3), (35, 37, 4), (42, 42, 4), (1043, 1043, 4)])) [(88, bA true)] [wO ((p.vars.length : Int) - 1)] (o1 (by omega)) fun G => b7 (rT G true (by kernel_rfl) (wp_seq (t8 G s3 [] fun G => b7 (wp_ret (s9 ?_))))); exact C4 false G (rg 8) (by rw [l6 (by (rw [C3 (by omega), decide_eq_false (by omega)]; rfl))]; done) (by show _ = mR (rg 8) (n7 p d s c); unfold n7; rw [l6 (by (rw [C3 (by omega), decide_eq_false (by omega)]; rfl))] <;> rfl)
     have q26 := bne_iff_ne.1 h26; refine T7 G (E8 (A1 4 [] (A5 s.target 0 ((p.vars.length : Int) - 1)) E7) (fc h25 (fc (b := false) rfl (fc (b := true) rfl (fc h26 fz)))) (us [(7, 8, 0), (9, 12, 1), (13, 13, 0), (1013, 1013, 1), (1014, 1014, 0), (16, 18, 1), (19, 21, 2), (22, 22, 1), (1022, 1022, 2), (1023, 1023, 1), (25, 27, 3), (32, 32, 3), (1033, 1033, 3), (35, 37, 2), (42, 42, 2), (1043, 1043, 2)])) [(88, bA true)] [wO ((p.vars.length : Int) - 1)] (o1 (by omega)) fun G => b7 (rT G true (by kernel_rfl) (wp_seq (t8 G s3 [] fun G => b7 (wp_ret (s9 ?_))))); exact C4 false G (rg 8) (by rw [l6 (by (rw [C3 (by omega), decide_eq_false (by omega)]; rfl))]; done) (by show _ = mR (rg 8) (n7 p d s c); unfold n7; rw [l6 (by (rw [C3 (by omega), decide_eq_false (by omega)]; rfl))] <;> rfl)
    have q25 : (¬ (0 <= s.target)) \/ (¬ (s.target <= (p.vars.length : Int) - 1)) := (fun hq => Or.imp (fun hq => of_decide_eq_false hq) (fun hq => of_decide_eq_false hq) (Bool.and_eq_false_iff.1 hq)) (Eq.mp (a23 _) h25); refine T7 G (E8 (A1 4 [] (A5 s.target 0 ((p.vars.length : Int) - 1)) E7) (fc h25 (fc (b := true) rfl fz)) [(7, 0), (8, 0), (13, 0), (1014, 0), (16, 1), (17, 1), (18, 1), (22, 1), (1023, 1), (25, 1), (26, 1), (27, 1), (32, 1), (1033, 1), (35, 1), (36, 1), (37, 1), (42, 1), (1043, 1)]) [(88, bA true)] [wO ((p.vars.length : Int) - 1)] (o1 (by omega)) fun G => b7 (rT G true (by kernel_rfl) (wp_seq (t8 G s3 [] fun G => b7 (wp_ret (s9 ?_))))); exact C4 false G (rg 8) (by rw [l6 (by (rw [C3 (by omega), decide_eq_false (by omega)]; rfl))]; done) (by show _ = mR (rg 8) (n7 p d s c); unfold n7; rw [l6 (by (rw [C3 (by omega), decide_eq_false (by omega)]; rfl))] <;> rfl)
   refine wp_skip (b7 (rT G _ h1 (t8 G s3 [(9, iA (p.vars.length : Int))] fun G => G2 (b7 (wp_seq (wp_seq ?_)))))); cases h32 : (!(decide ((0 : Int) <= s.target) && decide (s.target <= (p.vars.length : Int) - 1)))
   ·
    have q32 : (0 <= s.target) /\ (s.target <= (p.vars.length : Int) - 1) := (fun hq => And.imp (fun hq => of_decide_eq_true hq) (fun hq => of_decide_eq_true hq) (Bool.and_eq_true_iff.1 hq)) (Eq.mp (a27 _) h32); cases h33 : (s.count != 0)
    ·
     have q33 := bne_eq_false_iff_eq.1 h33; cases h34 : (decide ((s.body.length : Int) > 0))
     ·
      have q34 := dFf h34; refine T7 G (E8 (A1 4 [] (A5 s.target 0 ((p.vars.length : Int) - 1)) E7) (fc h32 (fc (b := false) rfl (fc (b := true) rfl (fc h33 (fc h34 fz))))) (us [(7, 8, 0), (9, 12, 1), (13, 13, 0), (1013, 1013, 1), (1014, 1014, 0), (16, 18, 1), (19, 21, 2), (22, 22, 1), (1022, 1022, 2), (1023, 1023, 1), (25, 27, 3), (28, 31, 2), (32, 32, 3), (1032, 1032, 2), (1033, 1033, 3), (35, 37, 4), (38, 41, 2), (42, 42, 4), (1042, 1042, 2), (1043, 1043, 4)])) [(88, bA (decide ((s.els.length : Int) > 0)))] [wO ((p.vars.length : Int) - 1)] (o1 (by omega)) fun G => b7 (rcD G (fun h35 q35 => ?_) fun h35 q35 => ?_)
      ·
       refine wp_skip (b7 (wp_seq (wp_seq ?_))); cases h36 : (!noneB s.index)
       ·
        have q36 : (noneB s.index) = true := (Eq.mp (a27 _) h36); cases h37 : (!n5 p.vars.length p.arrays.length s.value)
        ·
         have q37 : (n5 p.vars.length p.arrays.length s.value) = true := (Eq.mp (a27 _) h37); refine t8 G (E8 (A1 20 [4] (F2 s.index) (A1 30 [0, 1, 2, 5] (L1 p s.value) E7)) (fc (b := false) rfl (fc (b := true) rfl (fc h36 (fc h37 fz)))) (us [(2, 7, 0), (12, 12, 0), (1013, 1013, 0), (15, 17, 0), (18, 21, 1), (22, 22, 0), (1022, 1022, 1), (1023, 1023, 0), (25, 26, 2), (27, 31, 1), (32, 32, 2), (1032, 1032, 1), (1033, 1033, 2), (35, 37, 3), (38, 41, 0), (42, 42, 3), (1042, 1042, 0), (1043, 1043, 3)])) [(132, bA false)] fun G => b7 (rF G false (by kernel_rfl) (wp_skip (b7 (wp_seq ?_)))); cases h38 : ((m8 p.vars.length p.arrays.length d (c + (1 : Nat)) s.body).fst)
         · refine rA1 G (E8 (A1 6 [0, 1, 2, 3, 6] (ih s.body (c + 1) (n + 1) (by simp; omega) (by omega)) E7) (fc h38 fz) (us [(8, 14, 0), (1015, 1015, 0)])) (rg 8) (Q1 p (.box [iA ((W0 p d s c).snd : Int)] :: (Q3 s []))) [(8, bA false)] [wO (n + 1)] (o1 (by omega)) fun G => b7 (wp_ret ?_); exact C4 false G (rg 8) (by rw [C5 (by omega) (by (rw [C3 (by omega)]; exact L7 (by omega) (by assumption) (by assumption))) (by assumption)]; assumption) (by show _ = mR (rg 8) (n7 p d s c); unfold n7; rw [C5 (by omega) (by (rw [C3 (by omega)]; exact L7 (by omega) (by assumption) (by assumption))) (by assumption)] <;> rfl)
         refine rA1 G (E8 (A1 6 [0, 1, 2, 3, 6] (ih s.body (c + 1) (n + 1) (by simp; omega) (by omega)) (A1 14 [0, 1, 2, 3, 7] (ih s.els ((W0 p d s c).snd) (n + 1) (K2 (by omega) (by assumption)) (by omega)) E7)) (fc h38 fz) (us [(8, 14, 0), (1015, 1015, 0)])) (rg 8) (Q1 p (.box [iA ((W2 p d s c).snd : Int)] :: (Q3 s []))) [(8, bA (W2 p d s c).fst)] [wO (n + 1), wO (n + 1)] (o2 (by omega)) fun G => b7 (wp_ret ?_); exact C4 ((m8 p.vars.length p.arrays.length d (m8 p.vars.length p.arrays.length d (c + 1) s.body).snd s.els).fst) G (rg 8) (by rw [E1 (by omega) (by (rw [C3 (by omega)]; exact L7 (by omega) (by assumption) (by assumption))) (by assumption)]; done) (by show _ = mR (rg 8) (n7 p d s c); unfold n7; rw [E1 (by omega) (by (rw [C3 (by omega)]; exact L7 (by omega) (by assumption) (by assumption))) (by assumption)] <;> rfl)
        have q37 : (n5 p.vars.length p.arrays.length s.value) = false := (Eq.mp (a23 _) h37); refine t8 G (E8 (A1 20 [4] (F2 s.index) (A1 30 [0, 1, 2, 5] (L1 p s.value) E7)) (fc (b := false) rfl (fc (b := true) rfl (fc h36 (fc h37 fz)))) (us [(2, 7, 0), (12, 12, 0), (1013, 1013, 0), (15, 17, 0), (18, 21, 1), (22, 22, 0), (1022, 1022, 1), (1023, 1023, 0), (25, 26, 2), (27, 31, 1), (32, 32, 2), (1032, 1032, 1), (1033, 1033, 2), (35, 37, 3), (42, 42, 3), (1043, 1043, 3)])) [(132, bA true)] fun G => b7 (rT G true (by kernel_rfl) (wp_seq (t8 G s3 [] fun G => b7 (wp_ret (s9 ?_))))); exact C4 false G (rg 8) (by rw [l6 (by (rw [C3 (by omega)]; simp [h100, h0, q0, h1, q1, h32, q32, h33, q33, h34, q34, h35, q35, h36, q36, h37, q37]; done))]; done) (by show _ = mR (rg 8) (n7 p d s c); unfold n7; rw [l6 (by (rw [C3 (by omega)]; simp [h100, h0, q0, h1, q1, h32, q32, h33, q33, h34, q34, h35, q35, h36, q36, h37, q37]; done))] <;> rfl)
       have q36 : (noneB s.index) = false := (Eq.mp (a23 _) h36); refine t8 G (E8 (A1 20 [4] (F2 s.index) E7) (fc (b := false) rfl (fc (b := true) rfl (fc h36 fz))) (us [(2, 7, 0), (12, 12, 0), (1013, 1013, 0), (15, 17, 0), (18, 21, 1), (22, 22, 0), (1022, 1022, 1), (1023, 1023, 0), (25, 26, 2), (32, 32, 2), (1033, 1033, 2), (35, 37, 1), (42, 42, 1), (1043, 1043, 1)])) [(132, bA true)] fun G => b7 (rT G true (by kernel_rfl) (wp_seq (t8 G s3 [] fun G => b7 (wp_ret (s9 ?_))))); exact C4 false G (rg 8) (by rw [l6 (by (rw [C3 (by omega)]; simp [h100, h0, q0, h1, q1, h32, q32, h33, q33, h34, q34, h35, q35, h36, q36]; done))]; done) (by show _ = mR (rg 8) (n7 p d s c); unfold n7; rw [l6 (by (rw [C3 (by omega)]; simp [h100, h0, q0, h1, q1, h32, q32, h33, q33, h34, q34, h35, q35, h36, q36]; done))] <;> rfl)
      refine wp_seq (t8 G s3 [] fun G => b7 (wp_ret (s9 ?_))); exact C4 false G (rg 8) (by rw [l6 (by (rw [C3 (by omega), decide_eq_false (by omega)]; rfl))]; done) (by show _ = mR (rg 8) (n7 p d s c); unfold n7; rw [l6 (by (rw [C3 (by omega), decide_eq_false (by omega)]; rfl))] <;> rfl)
     have q34 := dTt h34; refine T7 G (E8 (A1 4 [] (A5 s.target 0 ((p.vars.length : Int) - 1)) E7) (fc h32 (fc (b := false) rfl (fc (b := true) rfl (fc h33 (fc h34 fz))))) (us [(7, 8, 0), (9, 12, 1), (13, 13, 0), (1013, 1013, 1), (1014, 1014, 0), (16, 18, 1), (19, 21, 2), (22, 22, 1), (1022, 1022, 2), (1023, 1023, 1), (25, 27, 3), (28, 31, 2), (32, 32, 3), (1032, 1032, 2), (1033, 1033, 3), (35, 37, 4), (42, 42, 4), (1043, 1043, 4)])) [(88, bA true)] [wO ((p.vars.length : Int) - 1)] (o1 (by omega)) fun G => b7 (rT G true (by kernel_rfl) (wp_seq (t8 G s3 [] fun G => b7 (wp_ret (s9 ?_))))); exact C4 false G (rg 8) (by rw [l6 (by (rw [C3 (by omega), decide_eq_false (by omega)]; rfl))]; done) (by show _ = mR (rg 8) (n7 p d s c); unfold n7; rw [l6 (by (rw [C3 (by omega), decide_eq_false (by omega)]; rfl))] <;> rfl)
    have q33 := bne_iff_ne.1 h33; refine T7 G (E8 (A1 4 [] (A5 s.target 0 ((p.vars.length : Int) - 1)) E7) (fc h32 (fc (b := false) rfl (fc (b := true) rfl (fc h33 fz)))) (us [(7, 8, 0), (9, 12, 1), (13, 13, 0), (1013, 1013, 1), (1014, 1014, 0), (16, 18, 1), (19, 21, 2), (22, 22, 1), (1022, 1022, 2), (1023, 1023, 1), (25, 27, 3), (32, 32, 3), (1033, 1033, 3), (35, 37, 2), (42, 42, 2), (1043, 1043, 2)])) [(88, bA true)] [wO ((p.vars.length : Int) - 1)] (o1 (by omega)) fun G => b7 (rT G true (by kernel_rfl) (wp_seq (t8 G s3 [] fun G => b7 (wp_ret (s9 ?_))))); exact C4 false G (rg 8) (by rw [l6 (by (rw [C3 (by omega), decide_eq_false (by omega)]; rfl))]; done) (by show _ = mR (rg 8) (n7 p d s c); unfold n7; rw [l6 (by (rw [C3 (by omega), decide_eq_false (by omega)]; rfl))] <;> rfl)
   have q32 : (¬ (0 <= s.target)) \/ (¬ (s.target <= (p.vars.length : Int) - 1)) := (fun hq => Or.imp (fun hq => of_decide_eq_false hq) (fun hq => of_decide_eq_false hq) (Bool.and_eq_false_iff.1 hq)) (Eq.mp (a23 _) h32); refine T7 G (E8 (A1 4 [] (A5 s.target 0 ((p.vars.length : Int) - 1)) E7) (fc h32 (fc (b := true) rfl fz)) [(7, 0), (8, 0), (13, 0), (1014, 0), (16, 1), (17, 1), (18, 1), (22, 1), (1023, 1), (25, 1), (26, 1), (27, 1), (32, 1), (1033, 1), (35, 1), (36, 1), (37, 1), (42, 1), (1043, 1)]) [(88, bA true)] [wO ((p.vars.length : Int) - 1)] (o1 (by omega)) fun G => b7 (rT G true (by kernel_rfl) (wp_seq (t8 G s3 [] fun G => b7 (wp_ret (s9 ?_))))); exact C4 false G (rg 8) (by rw [l6 (by (rw [C3 (by omega), decide_eq_false (by omega)]; rfl))]; done) (by show _ = mR (rg 8) (n7 p d s c); unfold n7; rw [l6 (by (rw [C3 (by omega), decide_eq_false (by omega)]; rfl))] <;> rfl)
  have q0 := dTt h0; refine t8 G (P1 (fc h0 fz) [(5, 0), (6, 0), (1007, 0)]) [(27, bA true)] fun G => b7 (rT G true (by kernel_rfl) (wp_seq (t8 G s3 [] fun G => b7 (wp_ret (s9 ?_))))); exact C4 false G (rg 8) (by simp [X0 (d := d + 1) (s := s) (show 60 < c + 1 by omega)]; done) (by show _ = mR (rg 8) (n7 p d s c); unfold n7; have e1 : (((w5 p.vars.length p.arrays.length (d + 1) c s).snd : Int) : Int) = ((c : Int) + 1) := (by simp [X0 (d := d + 1) (s := s) (show 60 < c + 1 by omega)]; done); (first | rw [e1] | simp only [e1]) <;> rfl)
theorem aM5 (p : p8) : ∀ (d : Nat), d <= 5 -> ∀ (ss : List b6) (c : Nat) (n : Int), c <= 60 -> n = 6 - (d : Int) -> B5.ok Tryd.prog (ax6 p d c ss n) := by
 intro d
 induction d with
 | zero => intro hd ss c n hc hn; exact av7 p 0 hd (fun s c n hc hn => aQ8 p s c hc n (by omega)) ss c n hc hn
 | succ d ih => intro hd ss c n hc hn; exact av7 p (d + 1) hd (fun s c n hc hn => aQ7 p d (by omega) (ih (by omega)) s c n hc (by omega)) ss c n hc hn
theorem av8 (p : p8) (n : Int) (hn : n = 1) : B5.ok Tryd.prog ⟨56, [pA 0, .ref 2, iA n, .ptr 3 0], pS p ++ [.box [iA 0]], pS p ++ [.box [iA (m8 p.vars.length p.arrays.length 5 0 p.body).2]], bA (m8 p.vars.length p.arrays.length 5 0 p.body).1⟩ :=
 B5.dup (S := pS p ++ [.box [iA 0]]) (S' := pS p ++ [.box [iA (m8 p.vars.length p.arrays.length 5 0 p.body).2]]) (d := .stmts p.body) (i := 2) (aM5 p 5 (by omega) p.body 0 n (by omega) (by omega)) rfl rfl rfl (fun ρ h => by simp only [AV.vals, AV.val]; rw [show ρ 4 = ρ 2 from h]) rfl
theorem af4 (p : p8) : B5.ok Tryd.prog (N9 27 [pA 0] (pS p) (bA (F1 p))) := by
 refine Y9 15 Tryd.func27 [dI p.vars, dI p.arrays, dT p.body] [(0, pA 0)] fun G => ?_; refine wp_seq (H0 G s3 (rg 4) [dI p.vars, dI p.arrays, dT p.body, .box (pL 0)] [(1, .ptr 3 0), (2, bA false)] fun G => b7 (wp_seq (H0 G s3 (rg 5) [dI p.vars, dI p.arrays, dT p.body, .box (pL 0), .box [iA 0]] [(1, .ptr 3 0), (2, bA false), (3, .ptr 4 0)] fun G => b7 (wp_seq ?_)))); cases h0 : (F0 p.vars p.arrays)
 ·refine H0 G (E8 (A1 4 [0, 1] (ak7 p.vars p.arrays) E7) (fc h0 fz) (us [(6, 9, 0), (1010, 1010, 0)])) [0, 1, 2] [dI p.vars, dI p.arrays, dT p.body] [(2, bA false)] fun G => b7 (wp_ret ?_); exact C4 false G [0, 1, 2] (ae5 (by assumption))
 refine H0 G (E8 (A1 4 [0, 1] (ak7 p.vars p.arrays) (A1 9 [0, 1, 2, 4] (av8 p 1 (by kernel_rfl)) E7)) (fc h0 fz) (us [(6, 9, 0), (1010, 1010, 0)])) [0, 1, 2] [dI p.vars, dI p.arrays, dT p.body] [(2, bA (m8 p.vars.length p.arrays.length 5 0 p.body).fst)] fun G => b7 (wp_ret ?_); exact C4 ((m8 p.vars.length p.arrays.length 5 0 p.body).fst) G [0, 1, 2] (by rw [<- as4 (p := p) (by assumption)])
end Go.Proofs.YtcahndjigkledaaDoor
