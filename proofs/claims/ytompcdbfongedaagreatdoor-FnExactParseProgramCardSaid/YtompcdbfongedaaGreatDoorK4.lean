/- Part 4: functions on the way, plain laws. Conditions: as said. -/
import Derived.Deep.LoopGhost
import Derived.IntWalk
import Derived.Lib.AtoiAll
import Derived.Shelf.Strings.Search1
import Derived.Shelf.Strconv.AtoiAll
import Derived.Test.YtompcdbfongedaaGreatDoorK1
import Derived.Test.YtompcdbfongedaaGreatDoorK2
import Derived.Test.YtompcdbfongedaaGreatDoorK3
set_option maxRecDepth 100000
set_option maxHeartbeats 16000000
set_option linter.unusedVariables false
set_option linter.unusedSimpArgs false
open Bool renaming and_eq_true → bO8, not_eq_false' → bQ2, not_eq_true' → bQ1
open Inhabited renaming default → bP0
open List renaming all_eq_true → bQ0, append_assoc → bR5, eq_nil_of_length_eq_zero → bR4, getD_eq_getElem?_getD → bP1, getElem?_append_left → bS6, getElem?_cons_zero → bQ6, getElem?_eq_getElem → bO7, getElem?_eq_none → bS2, getElem?_eq_some_iff → bP8, getElem?_map → bQ8, getElem_mem → bP5, length_append → bQ7, length_cons → bO9, length_nil → bP2, map → bR8, map_cons → bS0, mem_append → bR0, mem_cons → bR2, mem_cons_of_mem → bR1, mem_cons_self → bQ4, mem_of_getElem? → bQ5, range → bS1, replicate → bS9
open Nat renaming le_refl → bP9, le_trans → bO6, lt_of_lt_of_le → bS7, lt_or_ge → bR6, zero_add → bS8
open Option renaming isSome_iff_exists → bT0, map_eq_some_iff → bP3, map_some → bR7
open True renaming intro → bP7

namespace Go.Proofs.YtompcdbfongedaaGreatDoor
open Go Go.RowKit
def pf {β : Type} (wr : Ac -> Option β) : List Ac -> Nat -> (Nat -> Bool) -> β -> β
 | [], _, _, v => v
 | a :: r, k, B, v => pf wr r (k + 1) B (match wr a with | some x => if B k then x else v | none => v)
theorem Q9 {β : Type} {wr : Ac -> Option β} {B B' : Nat -> Bool} : ∀ {az : List Ac} {k : Nat} {v : β}, (∀ j a, az[j]? = some a -> (wr a).isSome = true -> B (k + j) = B' (k + j)) -> pf wr az k B v = pf wr az k B' v
 | [], _, _, _ => rfl
 | a :: r, k, v, h => by
  simp only [pf]
  have h0 := h 0 a rfl
  have hr : ∀ j b, r[j]? = some b -> (wr b).isSome = true -> B (k + 1 + j) = B' (k + 1 + j) := fun j b hb hw => by
   have := h (j + 1) b (by simpa using hb) hw
   rw [show k + (j + 1) = k + 1 + j by omega] at this; exact this
  cases hw : wr a with
  | none => exact Q9 hr
  | some x =>
   rw [hw] at h0
   simp only [Nat.add_zero, Option.isSome_some, forall_const] at h0
   rw [h0]
   exact Q9 hr
theorem W3 {β : Type} {wr : Ac -> Option β} {B : Nat -> Bool} : ∀ {az : List Ac} {k : Nat} {v : β}, (∀ j a, az[j]? = some a -> (wr a).isSome = true -> B (k + j) = false) -> pf wr az k B v = v
 | [], _, _, _ => rfl
 | a :: r, k, v, h => by
  simp only [pf]
  have h0 := h 0 a rfl
  have hr : ∀ j b, r[j]? = some b -> (wr b).isSome = true -> B (k + 1 + j) = false := fun j b hb hw => by
   have := h (j + 1) b (by simpa using hb) hw
   rw [show k + (j + 1) = k + 1 + j by omega] at this; exact this
  rw [W3 hr]
  cases hw : wr a with
  | none => rfl
  | some x =>
   rw [hw] at h0
   simp only [Nat.add_zero, Option.isSome_some, forall_const] at h0
   simp [h0]
theorem aJ5 {β : Type} {wr : Ac -> Option β} {B : Nat -> Bool} : ∀ {az : List Ac} {k i : Nat} {v x : β} {a : Ac}, az[i]? = some a -> wr a = some x -> B (k + i) = true -> (∀ j b, i < j -> az[j]? = some b -> (wr b).isSome = true -> B (k + j) = false) -> pf wr az k B v = x
 | [], _, _, _, _, _, h, _, _, _ => by simp at h
 | b :: r, k, 0, v, x, a, h, hw, hB, hn => by
  simp at h; subst h
  simp only [pf, hw]
  rw [Nat.add_zero] at hB
  rw [hB, if_pos rfl]
  refine W3 fun j c hc hs => ?_
  have := hn (j + 1) c (by omega) (by simpa using hc) hs
  rw [show k + (j + 1) = k + 1 + j by omega] at this; exact this
 | b :: r, k, i + 1, v, x, a, h, hw, hB, hn => by
  simp only [pf]
  refine aJ5 (i := i) (by simpa using h) hw (by rw [show k + 1 + i = k + (i + 1) by omega]; exact hB) fun j c hj hc hs => ?_
  have := hn (j + 1) c (by omega) (by simpa using hc) hs
  rw [show k + (j + 1) = k + 1 + j by omega] at this; exact this
theorem aj8 {β : Type} {wr : Ac -> Option β} {B : Nat -> Bool} (p : β -> Prop) : ∀ {az : List Ac} {k : Nat} {v : β}, p v -> (∀ j a x, az[j]? = some a -> B (k + j) = true -> wr a = some x -> p x) -> p (pf wr az k B v)
 | [], _, _, h, _ => h
 | a :: r, k, v, h, hs => by
  simp only [pf]
  refine aj8 p ?_ fun j b x hb hB hw => hs (j + 1) b x (by simpa using hb) (by rw [show k + (j + 1) = k + 1 + j by omega]; exact hB) hw
  cases hw : wr a with
  | none => exact h
  | some x =>
   simp only
   split
   ·rename_i hB; exact hs 0 a x rfl (by simpa using hB) hw
   exact h
def az1 : List (Nat × It) -> Nat -> Option It
 | [], _ => none
 | (k, x) :: r, i => if i = k then some x else az1 r i
theorem an0 (S : Nat -> It) (i : Nat) : ∀ (l : List (Nat × It)), p9 S l i = match az1 l i with | some x => x | none => S i
 | [] => rfl
 | (k, x) :: r => by simp only [p9, az1]; split; rfl; exact an0 S i r
theorem P9 {l : List (Nat × It)} {i : Nat} {x : It} (h : az1 l i = some x) : (i, x) ∈ l := by
 induction l with
 | nil => cases h
 | cons p r ih =>
  obtain ⟨k, y⟩ := p
  simp only [az1] at h
  split at h
  ·rename_i e; cases h; rw [e]; exact bQ4
  exact bR1 _ (ih h)
def wrT (t : Nat) (a : Ac) : Option (Option AV) := if a.dst = some t then some (some a.t.res) else none
def wrS (i : Nat) (a : Ac) : Option It := az1 a.t.new i
def tmD (az : List Ac) (B : Nat -> Bool) (tm : Nat -> Option AV) : Nat -> Option AV := fun t => pf (wrT t) az 0 B (tm t)
def sD (az : List Ac) (B : Nat -> Bool) (S : Nat -> It) : Nat -> It := fun i => pf (wrS i) az 0 B (S i)
def bef (ms : List Nat) (j i : Nat) : Bool := (nth ms i).testBit j
def aX6 (ms : List Nat) (o : Oper) : Nat := o.after.foldl (fun s e => if Region.binds .any e then s ||| (2 ^ e.on ||| nth ms e.on) else s) 0
def aK3 (ms : List Nat) (l : List Oper) : Bool := (bS1 l.length).all fun i => match l[i]? with | some o => natEq (nth ms i) (aX6 ms o) | none => false
def ab8 (a b : Ac) : Bool :=
 (match b.dst with | some t => memN t a.rt || (match a.dst with | some s => natEq s t | none => false) | none => false) ||
 b.t.new.any (fun p => memN p.1 a.ri || a.t.new.any fun q => natEq q.1 p.1)
def bz3 (ms : List Nat) (az : List Ac) : Bool :=
 (bS1 az.length).all fun i => (bS1 az.length).all fun j =>
  match az[i]?, az[j]? with
  | some a, some b => natEq i j || !ab8 a b || (if decide (j < i) then bef ms j i else bef ms i j)
  | _, _ => false
def br1 (S : Nat -> It) (az : List Ac) (j : Nat) : Nat := match az.findSome? (wrS j) with
 | some x => knd x
 | none => knd (S j)
def bb9 (ms : List Nat) (S : Nat -> It) (az : List Ac) : Bool :=
 (bS1 az.length).all fun i =>
  match az[i]? with
  | some a => a.rk.all fun j => az.all (fun b => match wrS j b with | some x => natEq (knd x) (br1 S az j) | none => true) && (natEq (knd (S j)) (br1 S az j) || (bS1 i).any fun k => bef ms k i && match az[k]? with | some b => (wrS j b).isSome | none => false)
  | none => true
theorem a26 {β : Type} {wr : Ac -> Option β} {B : Nat -> Bool} (p : β -> Prop) : ∀ {az : List Ac} {k : Nat} {v : β}, (∀ (j : Nat) (a : Ac) (x : β), az[j]? = some a -> wr a = some x -> p x) -> (p v \/ ∃ (j : Nat) (a : Ac), az[j]? = some a /\ (wr a).isSome = true /\ B (k + j) = true) -> p (pf wr az k B v)
 | [], _, _, _, h => by rcases h with h | ⟨j, a, h, _⟩; exact h; simp at h
 | a :: r, k, v, hs, h => by
  simp only [pf]
  refine a26 p (fun j b x hb => hs (j + 1) b x (by simpa using hb)) ?_
  rcases h with h | ⟨j, b, h1, h2, h3⟩
  ·left
   cases hw : wr a with
   | none => exact h
   | some x =>
    simp only
    split
    ·exact hs 0 a x rfl hw
    exact h
  cases j with
  | zero =>
   left
   simp at h1; subst h1
   obtain ⟨x, hx⟩ := bT0.1 h2
   rw [hx]
   rw [Nat.add_zero] at h3
   simp only [h3, if_true]
   exact hs 0 _ x rfl hx
  | succ j =>
   right
   exact ⟨j, b, by simpa using h1, h2, by rw [show k + 1 + j = k + (j + 1) by omega]; exact h3⟩
theorem a06 {ms : List Nat} {S : Nat -> It} {az : List Ac} (h : bb9 ms S az = true) {i : Nat} {a : Ac} (ha : az[i]? = some a) {j : Nat} (hj : j ∈ a.rk) {B : Nat -> Bool} (hB : ∀ k, k < i -> bef ms k i = true -> B k = true) : knd (pf (wrS j) az 0 B (S j)) = br1 S az j := by
 have hi := (bP8.1 ha).1
 have h1 := bQ0.1 h i (List.mem_range.2 hi)
 rw [ha] at h1
 have h2 := bQ0.1 h1 j hj
 simp only [bO8, Bool.or_eq_true] at h2
 refine a26 (fun x => knd x = br1 S az j) (fun q b x hb hx => ?_) ?_
 ·have := bQ0.1 h2.1 b (bQ5 hb)
  rw [hx] at this
  simpa [natEq] using this
 rcases h2.2 with h3 | h3
 ·left; simpa [natEq] using h3
 right
 obtain ⟨k, hk, h4⟩ := List.any_eq_true.1 h3
 rw [List.mem_range] at hk
 simp only [bO8] at h4
 cases hb : az[k]? with
 | none => rw [hb] at h4; cases h4.2
 | some b =>
  rw [hb] at h4
  exact ⟨k, b, hb, h4.2, by rw [bS8]; exact hB k hk h4.1⟩
def bh4 (ms : List Nat) (n0 : Nat) (az : List Ac) : Bool :=
 (bS1 az.length).all fun i =>
  match az[i]? with
  | some a => (a.t.res.ids ++ a.t.new.map (·.1) ++ a.t.new.flatMap (fun p => p.2.ids)).all fun id => decide (id < n0) || natEq ((id - n0) / 8) i || bef ms ((id - n0) / 8) i
  | none => false
section
variable {P : Program} {ι : Type} {φ ψ : Nat -> Prop} {w0 w w' : World} {F : ι -> Rs} {ρ : Nat -> Value} {S : Nat -> It} {N n : Nat}
theorem ai5 {α β : Type} {f g : α -> Option β} : ∀ {l : List α}, (∀ x ∈ l, f x = g x) -> l.filterMap f = l.filterMap g
 | [], _ => rfl
 | a :: r, h => by rw [List.filterMap_cons, List.filterMap_cons, h a bQ4, ai5 fun x hx => h x (bR1 _ hx)]
theorem aq7 {ops : List Oper} {H : Q1} {tm tm' : Nat -> Option AV} {i : Nat} {o : Oper} (h : ∀ t ∈ aL1 ops o, tm' t = tm t) : av1 ops H tm' i o = av1 ops H tm i o := by
 unfold av1
 unfold aL1 at h
 cases hg : o.guard with
 | none => rfl
 | some q =>
  obtain ⟨j, want⟩ := q
  rw [hg] at h
  simp only at h ⊢
  cases hd : (ops[j]?).bind (·.dst) with
  | none => rfl
  | some t =>
   rw [hd] at h
   simp only at h ⊢
   rw [h t (by simp)]
theorem a78 {dk : TypeId -> Nat} {H : Q1} {ops : List Oper} {i : Nat} {o : Oper} {tm tm' : Nat -> Option AV} {S S' : Nat -> It} {ac : Ac} {ob : List Prop} (h : opA P dk N ops H i o tm S n = some (ac, ob)) (ht : ∀ t ∈ ac.rt, tm' t = tm t) (hs : ∀ j ∈ ac.ri, S' j = S j) (hk : ∀ j ∈ ac.rk, knd (S' j) = knd (S j)) : opA P dk N ops H i o tm' S' n = some (ac, ob) := by
 unfold opA at h ⊢
 split at h
 case isFalse => cases h
 rename_i hd
 rw [if_pos hd]
 cases hw : av1 ops H tm i o with
 | none => rw [hw] at h; cases h
 | some q =>
  obtain ⟨b, lq, rq⟩ := q
  rw [hw] at h
  cases b
  ·simp only at h
   cases h
   rw [aq7 (tm := tm) ht, hw]
  simp only at h
  cases hr : aw6 P dk H tm S n i o.op with
  | none => rw [hr] at h; cases h
  | some t =>
   rw [hr] at h
   simp only at h
   split at h
   case isFalse => cases h
   rename_i hf
   cases h
   simp only at ht hs hk
   rw [aq7 (tm := tm) fun t ht' => ht t (List.mem_append_right _ ht'), hw]
   have e1 : rtm tm' (opT o.op) = rtm tm (opT o.op) := by
    funext t
    unfold rtm
    split
    ·rename_i hm; exact ht t (List.mem_append_left _ (t8.1 hm))
    rfl
   have e2 : tch tm' o.op = tch tm o.op := by
    have e9 : S6 tm' (opT o.op) = S6 tm (opT o.op) := by
     unfold S6
     congr 1
     exact ai5 fun t ht' => ht t (List.mem_append_left _ ht')
    cases ho' : o.op <;> simp only [tch] <;> rw [<- ho'] <;> first | rw [e1, e9] | exact e9
   have e8 : wk tm' o.op = wk tm o.op := by
    have e9 : S6 tm' (opT o.op) = S6 tm (opT o.op) := by
     unfold S6
     congr 1
     exact ai5 fun t ht' => ht t (List.mem_append_left _ ht')
    cases ho' : o.op <;> simp only [wk] <;> rw [<- ho', e1, e9]
   have e3 : aw6 P dk H tm' S' n i o.op = aw6 P dk H tm S n i o.op := by
    unfold aw6
    cases hc : K5 H.calls i with
    | none =>
     simp only
     rw [e1, e2, e8, bd4 (fun j hj => hs j (List.mem_append_left _ hj)) hk]
    | some q =>
     obtain ⟨c, τ⟩ := q
     simp only
     rw [e1, e2]
     congr 1
     funext j
     unfold rS
     split
     ·rename_i hm
      refine hs j ?_
      unfold a56
      rw [hc]; exact t8.1 hm
     rfl
   have e4 : aX1 H tm' S' n i o.op = aX1 H tm S n i o.op := by
    unfold aX1
    cases hc : K5 H.calls i with
    | none => simp only; rw [e1]
    | some q =>
     obtain ⟨c, τ⟩ := q
     simp only
     rw [e1, e2]
     congr 1
     funext j
     unfold rS
     split
     ·rename_i hm
      refine hs j ?_
      unfold a56
      rw [hc]; exact t8.1 hm
     rfl
   rw [e3, hr, e4]
   simp only
   rw [e2, e8, if_pos hf]
theorem bp2 {dk : TypeId -> Nat} {H : Q1} (hH : ∀ i c τ, K5 H.calls i = some (c, τ) -> c.ok P) (hF : O1 H.facts) {ops : List Oper} {i : Nat} {o : Oper} {tm : Nat -> Option AV} {a : Act} (hv : ∀ t x, tm t = some x -> a.tmps[t]? = some (x.val ρ)) (M : n9 φ ψ w0 w (s6 F ρ S)) {ac : Ac} {obs : List Prop} (h : opA P dk N ops H i o tm S n = some (ac, obs)) (ho : x4 obs) (he : ac.eqs.1 = ac.eqs.2) (hw' : ac.eqw.1 = ac.eqw.2)
  (hmk : ∀ j ∈ ac.t.made, S j = .none) (hi : Inv S ρ ac.t.made)
  {Q : Exit -> Act -> World -> Prop} {rest : List Oper} (hk : ∀ ρ' w', C9 ac.t.made ρ ρ' -> n9 φ ψ w0 w' (s6 F ρ' (p9 S ac.t.new)) -> wpList P ops.toArray Q rest (a.put o.dst (ac.t.res.val ρ')) w') : wpList P ops.toArray Q (o :: rest) a w := by
 unfold opA at h
 split at h
 case isFalse => cases h
 rename_i hd
 split at h
 case h_1 => cases h
 ·rename_i l r hw
  cases h
  refine a17 (aj2 (ρ := ρ) hF hw hw' fun t y _ hy => hv t y hy) ?_
  exact hk ρ w (C9.refl _ _) (by simpa [bA3, p9] using M)
 rename_i l r hw
 split at h
 case h_1 => cases h
 rename_i t ht
 split at h
 case isFalse => cases h
 rename_i hf
 cases h
 simp only [bO8] at hf
 refine K1.wp (aj2 (ρ := ρ) hF hw hw' fun t y _ hy => hv t y hy) ?_
 refine (aP6 M hH hF (fun t y _ hy => hv t y hy) ht ho he hmk hi (fun j hj => ?_)).mono ?_
 ·obtain ⟨p, hp, rfl⟩ := List.mem_map.1 hj
  have := bQ0.1 hf.2 p hp
  simp only [Bool.or_eq_true] at this
  exact this.imp t8.1 t8.1
 rintro v w' ⟨ρ', p1, p2, rfl⟩
 exact hk ρ' w' p1 p2
theorem a22 {dk : TypeId -> Nat} {H : Q1} {ops : List Oper} : ∀ (l : List Oper) (i n : Nat) {tm : List (Nat × AV)} {S : Nat -> It} {r : RS}, T5 P dk N ops H l i tm S n = some r -> x4 r.obs ->
  r.acts.length = l.length /\ (∀ t, C3 r.tm t = pf (wrT t) r.acts i (fun _ => true) (C3 tm t)) /\ (∀ j, r.S j = pf (wrS j) r.acts i (fun _ => true) (S j)) /\
  ∀ k o, l[k]? = some o -> ∃ ac ob, r.acts[k]? = some ac /\ x4 ob /\ opA P dk N ops H (i + k) o (fun t => pf (wrT t) r.acts i (fun j => decide (j < i + k)) (C3 tm t)) (fun j => pf (wrS j) r.acts i (fun q => decide (q < i + k)) (S j)) (n + 8 * k) = some (ac, ob)
 | [], i, n, tm, S, r, h, _ => by cases h; exact ⟨rfl, fun _ => rfl, fun _ => rfl, fun k o h => by simp at h⟩
 | o :: l, i, n, tm, S, r, h, ho => by
  simp only [T5] at h
  split at h
  case h_1 => cases h
  rename_i ac ob h1
  split at h
  case h_1 => cases h
  rename_i s h2
  cases h
  simp only [x4.append] at ho
  obtain ⟨k1, k2, k3, k4⟩ := a22 l (i + 1) (n + 8) h2 ho.2
  have eT : ∀ t, C3 (aW4 ac.dst ac.t.res tm) t = match wrT t ac with | some x => x | none => C3 tm t := fun t => by
   rw [aF0]
   simp only [aB1, wrT]
   split <;> rfl
  have eS : ∀ j, p9 S ac.t.new j = match wrS j ac with | some x => x | none => S j := fun j => an0 S j _
  refine ⟨by simp [k1], fun t => ?_, fun j => ?_, fun k o' hk => ?_⟩
  ·rw [k2 t, eT]; simp only [pf]; cases wrT t ac <;> rfl
  ·rw [k3 j, eS]; simp only [pf]; cases wrS j ac <;> rfl
  cases k with
  | zero =>
   simp at hk; subst hk
   refine ⟨ac, ob, rfl, ho.1, ?_⟩
   have e1 : (fun t => pf (wrT t) (ac :: s.acts) i (fun j => decide (j < i + 0)) (C3 tm t)) = C3 tm := by
    funext t; exact W3 fun j a _ _ => by simp
   have e2 : (fun j => pf (wrS j) (ac :: s.acts) i (fun q => decide (q < i + 0)) (S j)) = S := by
    funext j; exact W3 fun j a _ _ => by simp
   rw [e1, e2]; exact h1
  | succ k =>
   obtain ⟨ac', ob', m1, m2, m3⟩ := k4 k o' (by simpa using hk)
   refine ⟨ac', ob', by simpa using m1, m2, ?_⟩
   have hi : decide (i < i + (k + 1)) = true := by simp
   have e1 : (fun t => pf (wrT t) (ac :: s.acts) i (fun j => decide (j < i + (k + 1))) (C3 tm t)) = fun t => pf (wrT t) s.acts (i + 1) (fun j => decide (j < i + 1 + k)) (C3 (aW4 ac.dst ac.t.res tm) t) := by
    funext t
    rw [eT]
    simp only [pf, hi, if_true]
    rw [show i + (k + 1) = i + 1 + k by omega]
    cases wrT t ac <;> rfl
   have e2 : (fun j => pf (wrS j) (ac :: s.acts) i (fun q => decide (q < i + (k + 1))) (S j)) = fun j => pf (wrS j) s.acts (i + 1) (fun q => decide (q < i + 1 + k)) (p9 S ac.t.new j) := by
    funext j
    rw [eS]
    simp only [pf, hi, if_true]
    rw [show i + (k + 1) = i + 1 + k by omega]
    cases wrS j ac <;> rfl
   rw [e1, e2, show i + (k + 1) = i + 1 + k by omega, show n + 8 * (k + 1) = n + 8 + 8 * k by omega]
   exact m3
def bm7 (l : List Oper) (B : Nat -> Bool) : Prop := ∀ j o, l[j]? = some o -> B j = true -> ∀ e ∈ o.after, Region.binds .any e = true -> B e.on = true
theorem ax6 {ms : List Nat} {o : Oper} {j : Nat} (h : (aX6 ms o).testBit j = true) : ∃ e ∈ o.after, Region.binds .any e = true /\ (e.on = j \/ bef ms j e.on = true) := by
 unfold aX6 at h
 rw [<- Array.foldl_toList] at h
 have key : ∀ (es : List Edge) (s : Nat), (es.foldl (fun s e => if Region.binds .any e then s ||| (2 ^ e.on ||| nth ms e.on) else s) s).testBit j = true -> s.testBit j = true \/ ∃ e ∈ es, Region.binds .any e = true /\ (e.on = j \/ bef ms j e.on = true) := by
  intro es
  induction es with
  | nil => intro s h; exact .inl h
  | cons e r ih =>
   intro s h
   simp only [List.foldl_cons] at h
   rcases ih _ h with h1 | ⟨e', he', h2⟩
   ·split at h1
    ·rename_i hb
     simp only [Nat.testBit_or, Bool.or_eq_true, Nat.testBit_two_pow, decide_eq_true_eq] at h1
     rcases h1 with h1 | h1 | h1
     ·exact .inl h1
     ·exact .inr ⟨e, bQ4, hb, .inl h1⟩
     exact .inr ⟨e, bQ4, hb, .inr h1⟩
    exact .inl h1
   exact .inr ⟨e', bR1 _ he', h2⟩
 rcases key _ _ h with h1 | ⟨e, he, h2⟩
 ·simp at h1
 exact ⟨e, by simpa using he, h2⟩
theorem aA7 {ms : List Nat} {l : List Oper} (hm : aK3 ms l = true) (hb : ae3 l.toArray = true) {B : Nat -> Bool} (hc : bm7 l B) : ∀ i, i < l.length -> B i = true -> ∀ j, bef ms j i = true -> B j = true := by
 intro i
 induction i using Nat.strongRecOn with
 | _ i ih =>
  intro hi hB j hj
  have h1 := bQ0.1 hm i (List.mem_range.2 hi)
  rw [bO7 hi] at h1
  simp only [natEq, beq_iff_eq] at h1
  unfold bef at hj
  rw [h1] at hj
  obtain ⟨e, he, h2, h3⟩ := ax6 hj
  have h4 := hc i _ (bO7 hi) hB e he h2
  have h5 := aA8 hb (show i < l.toArray.size by simpa using hi) (show l.toArray[i]? = some l[i] by simp [hi]) he h2
  rcases h3 with rfl | h3
  ·exact h4
  exact ih e.on h5 (by omega) h4 j h3
theorem ba2 {ms : List Nat} {l : List Oper} (hm : aK3 ms l = true) (hb : ae3 l.toArray = true) {B : Nat -> Bool} (hc : bm7 l B) {i : Nat} {o : Oper} (ho : l[i]? = some o) (hr : ∀ e ∈ o.after, Region.binds .any e = true -> B e.on = true) {j : Nat} (hj : bef ms j i = true) : B j = true := by
 have hi := (bP8.1 ho).1
 have h1 := bQ0.1 hm i (List.mem_range.2 hi)
 rw [ho] at h1
 simp only [natEq, beq_iff_eq] at h1
 unfold bef at hj
 rw [h1] at hj
 obtain ⟨e, he, h2, h3⟩ := ax6 hj
 have h5 := aA8 hb (show i < l.toArray.size by simpa using hi) (show l.toArray[i]? = some o by simpa using ho) he h2
 rcases h3 with rfl | h3
 ·exact hr e he h2
 exact aA7 hm hb hc e.on (by omega) (hr e he h2) j h3
end
section
variable {P : Program} {ι : Type} {φ ψ : Nat -> Prop} {w0 w w' : World} {F : ι -> Rs} {ρ : Nat -> Value} {S : Nat -> It} {N m n : Nat} {ρ0 : Nat -> Value}
theorem aV0 {l : List Oper} {Q : Exit -> Act -> World -> Prop} (I : Array Bool -> Act -> World -> Prop) (hb : ae3 l.toArray = true)
  (step : ∀ listed a w, I listed a w -> ∀ i o, l[i]? = some o -> listed.getD i true = false -> (∀ e ∈ o.after, Region.binds .any e = true -> listed.getD e.on false = true) ->
   ∀ Q' : Exit -> Act -> World -> Prop, (∀ a w, I (listed.setIfInBounds i true) a w -> Q' .normal a w) -> wpList P l.toArray Q' [o] a w)
  (done : ∀ listed a w, I listed a w -> (∀ j, j < l.length -> listed.getD j true = true) -> Q .normal a w) :
  ∀ (fuel : Nat) (listed : Array Bool) (a : Act) (w : World), listed.size = l.toArray.size -> listed.toList.count false = fuel -> I listed a w -> wpAny P .any l.toArray Q fuel listed a w := by
 have hfin : ∀ (listed : Array Bool) (a : Act) (w : World), listed.size = l.toArray.size -> Region.ready .any l.toArray listed = [] -> I listed a w -> Q .normal a w := by
  intro listed a w hsz hr hI
  refine done listed a w hI fun j hj => ?_
  cases hl : listed.getD j true
  ·exact absurd hr (aO1 hb hsz j (by simpa using hj) hl)
  rfl
 intro fuel
 induction fuel with
 | zero =>
  intro listed a w hsz hc hI
  have hr : Region.ready .any l.toArray listed = [] := by
   rw [List.eq_nil_iff_forall_not_mem]
   intro j hj
   have := al5 (mem_ready.1 hj).1
   omega
  exact ⟨hr, hfin listed a w hsz hr hI⟩
 | succ f ih =>
  intro listed a w hsz hc hI
  refine ⟨fun hr => hfin listed a w hsz hr hI, fun i hi => ?_⟩
  obtain ⟨h1, o, ho, h2⟩ := mem_ready.1 hi
  have ho' : l[i]? = some o := by simpa using ho
  have hcl := al5 h1
  have hs := step listed a w hI i o ho' h1 h2 (fun e a w => e = .normal /\ I (listed.setIfInBounds i true) a w) fun a w h => ⟨rfl, h⟩
  unfold wpOp
  rw [ho]
  simp only
  unfold wpList at hs
  split
  ·rename_i hw
   rw [if_pos hw] at hs
   rcases hs with hs | ⟨_, a, w, he, _⟩
   ·exact .inl (a62 (fun _ _ _ h => h.1) (Oper.wp_mono (fun a' w' h => ih _ a' w' (by simpa using hsz) (by omega) h.2) hs))
   cases he
  rename_i hw
  rw [if_neg hw] at hs
  exact ih _ _ _ (by simpa using hsz) (by omega) hs.2
theorem av0 {id : Nat} {l : List Oper} {Q : Exit -> Act -> World -> Prop} {a : Act} {w : World} (I : Array Bool -> Act -> World -> Prop) (hm : P.follows .mixedOrders = true) (hb : ae3 l.toArray = true)
  (h0 : I (Array.replicate l.length false) a w.drew)
  (step : ∀ listed a w, I listed a w -> ∀ i o, l[i]? = some o -> listed.getD i true = false -> (∀ e ∈ o.after, Region.binds .any e = true -> listed.getD e.on false = true) ->
   ∀ Q' : Exit -> Act -> World -> Prop, (∀ a w, I (listed.setIfInBounds i true) a w -> Q' .normal a w) -> wpList P l.toArray Q' [o] a w)
  (done : ∀ listed a w, I listed a w -> (∀ j, j < l.length -> listed.getD j true = true) -> Q .normal a w) : (Code.region id l.toArray true).wp P Q a w :=
 wp_region_any hm (aV0 I hb step done _ _ _ _ (by simp) (by simp) (by simpa using h0))
def RI (φ ψ : Nat -> Prop) (w0 : World) (F : ι -> Rs) (N m : Nat) (ρ0 : Nat -> Value) (l : List Oper) (az : List Ac) (tm : Nat -> Option AV) (S : Nat -> It) (listed : Array Bool) (a : Act) (w : World) : Prop :=
 listed.size = l.length /\ bm7 l (fun j => listed.getD j false) /\ ∃ ρ, (∀ i, i < m -> ρ i = ρ0 i) /\ a.tmps.size = N /\ a.defers = [] /\ (∀ t x, tmD az (fun j => listed.getD j false) tm t = some x -> a.tmps[t]? = some (x.val ρ)) /\ n9 φ ψ w0 w (s6 F ρ (sD az (fun j => listed.getD j false) S))
theorem aX0 {ms : List Nat} {az : List Ac} (h : bz3 ms az = true) {i j : Nat} {a b : Ac} (ha : az[i]? = some a) (hb : az[j]? = some b) (hij : i ≠ j) (hm : ab8 a b = true) : (j < i -> bef ms j i = true) /\ (i < j -> bef ms i j = true) := by
 have hi := (bP8.1 ha).1
 have hj := (bP8.1 hb).1
 have h1 := bQ0.1 (bQ0.1 h i (List.mem_range.2 hi)) j (List.mem_range.2 hj)
 rw [ha, hb] at h1
 have hne : natEq i j = false := by simp [natEq, hij]
 simp only [hne, hm, Bool.not_true, Bool.false_or] at h1
 constructor
 ·intro hlt; rw [if_pos (by simpa using hlt)] at h1; exact h1
 intro hlt; rw [if_neg (by simp; omega)] at h1; exact h1
theorem a35 {ms : List Nat} {n0 : Nat} {az : List Ac} (h : bh4 ms n0 az = true) {i : Nat} {a : Ac} (ha : az[i]? = some a) : ∀ id, (id ∈ a.t.res.ids \/ id ∈ a.t.new.map (·.1) \/ ∃ p ∈ a.t.new, id ∈ p.2.ids) -> id < n0 \/ (id - n0) / 8 = i \/ bef ms ((id - n0) / 8) i = true := by
 intro id hid
 have hi := (bP8.1 ha).1
 have h1 := bQ0.1 h i (List.mem_range.2 hi)
 rw [ha] at h1
 have h2 := bQ0.1 h1 id (by
  rcases hid with h | h | ⟨p, hp, h⟩
  ·exact List.mem_append_left _ (List.mem_append_left _ h)
  ·exact List.mem_append_left _ (List.mem_append_right _ h)
  exact List.mem_append_right _ (List.mem_flatMap.2 ⟨p, hp, h⟩))
 simp only [Bool.or_eq_true, decide_eq_true_eq, natEq, beq_iff_eq] at h2
 rcases h2 with (h2 | h2) | h2
 ·exact .inl h2
 ·exact .inr (.inl h2)
 exact .inr (.inr h2)
theorem aH5 {dk : TypeId -> Nat} {H : Q1} (hH : ∀ i c τ, K5 H.calls i = some (c, τ) -> c.ok P) (hF : O1 H.facts) {l : List Oper} {id : Nat} {Q : Exit -> Act -> World -> Prop} {tm : List (Nat × AV)} {a : Act} {wr : World} (I0 : Inn φ ψ w0 F N m ρ0 n ρ (C3 tm) S a wr) {r : RS} (hrun : T5 P dk N l H l 0 tm S n = some r) (ho : x4 r.obs) (heq : r.acts.map (·.eqs.1) = r.acts.map (·.eqs.2)) (hew : r.acts.map (·.eqw.1) = r.acts.map (·.eqw.2))
  (ms : List Nat) (hm : P.follows .mixedOrders = true) (hb : ae3 l.toArray = true) (hms : aK3 ms l = true) (hord : bz3 ms r.acts = true) (hment : bh4 ms n r.acts = true) (hweak : bb9 ms S r.acts = true)
  (done : ∀ ρ' a' w' n', Inn φ ψ w0 F N m ρ0 n' ρ' (C3 r.tm) r.S a' w' -> Q .normal a' w') : (Code.region id l.toArray true).wp P Q a wr := by
 obtain ⟨hlen, hfT, hfS, hat⟩ := a22 l 0 n hrun ho
 have hmt : ∀ (i : Nat) ac, r.acts[i]? = some ac -> ∀ t b, b.dst = some t -> t ∈ ac.rt -> ab8 ac b = true := fun i ac _ t b hb ht => by
  simp [ab8, hb, t8.2 ht]
 have hmd : ∀ ac b t, ac.dst = some t -> b.dst = some t -> ab8 ac b = true := fun ac b t h1 h2 => by
  simp [ab8, h1, h2, natEq]
 have hms' : ∀ (ac b : Ac) (j : Nat), j ∈ ac.ri -> j ∈ b.t.new.map (·.1) -> ab8 ac b = true := fun ac b j h1 h2 => by
  obtain ⟨p, hp, rfl⟩ := List.mem_map.1 h2
  unfold ab8
  have : b.t.new.any (fun p => memN p.1 ac.ri || ac.t.new.any fun q => natEq q.1 p.1) = true := List.any_eq_true.2 ⟨p, hp, by simp [t8.2 h1]⟩
  rw [this]; simp
 have hmn : ∀ (ac b : Ac) (j : Nat), j ∈ ac.t.new.map (·.1) -> j ∈ b.t.new.map (·.1) -> ab8 ac b = true := fun ac b j h1 h2 => by
  obtain ⟨p, hp, rfl⟩ := List.mem_map.1 h2
  obtain ⟨q, hq, e⟩ := List.mem_map.1 h1
  unfold ab8
  have : b.t.new.any (fun p => memN p.1 ac.ri || ac.t.new.any fun q => natEq q.1 p.1) = true := List.any_eq_true.2 ⟨p, hp, by
   have : ac.t.new.any (fun q => natEq q.1 p.1) = true := List.any_eq_true.2 ⟨q, hq, by simp [natEq, e]⟩
   rw [this]; simp⟩
  rw [this]; simp
 refine av0 (RI φ ψ w0 F N m ρ0 l r.acts (C3 tm) S) hm hb ?_ ?_ ?_
 ·refine ⟨by simp, fun j o _ hj => ?_, ρ, I0.old, I0.size, I0.defs, fun t x hx => ?_, ?_⟩
  ·have hj' : (Array.replicate l.length false).getD j false = true := hj
   rw [getD_replicate_false] at hj'; cases hj'
  ·refine I0.tmv t x ?_
   rw [<- hx]
   exact (W3 fun j b _ _ => getD_replicate_false _ _).symm
  have e : sD r.acts (fun j => (Array.replicate l.length false).getD j false) S = S := by
   funext j; exact W3 fun j b _ _ => getD_replicate_false _ _
  rw [e]; exact I0.mem.drew
 ·rintro listed a w ⟨hsz, hdn, ρ, hold, hN, hdf, hv, M⟩ i o hoi hun hdep Q' hQ
  generalize hB : (fun j => listed.getD j false) = B at *
  have hBj : ∀ j, B j = listed.getD j false := fun j => by rw [<- hB]
  have hil := (bP8.1 hoi).1
  have hBi : B i = false := by
   rw [hBj, <- a43 (by omega)]; exact hun
  obtain ⟨ac, ob, hac, hob, hop⟩ := hat i o hoi
  simp only [bS8] at hop
  have heqi : ac.eqs.1 = ac.eqs.2 := by
   have := congrArg (·[i]?) heq
   simpa [hac] using this
  have hewi : ac.eqw.1 = ac.eqw.2 := by
   have := congrArg (·[i]?) hew
   simpa [hac] using this
  obtain ⟨hdst, hdN, hfine⟩ := aK0 hop
  obtain ⟨hf1, hf2, hf3⟩ := aa4 hfine
  have hdep' : ∀ e ∈ o.after, Region.binds .any e = true -> B e.on = true := fun e he hbi => by rw [hBj]; exact hdep e he hbi
  have ahead : ∀ j, bef ms j i = true -> B j = true := fun j hj => ba2 hms hb hdn hoi hdep' hj
  have behind : ∀ j, j < l.length -> bef ms i j = true -> B j = false := fun j hjl hj => by
   cases h : B j
   ·rfl
   have := aA7 hms hb hdn j hjl h i hj
   rw [hBi] at this; cases this
  have hagree : ∀ (j : Nat) b, r.acts[j]? = some b -> ab8 ac b = true -> B j = decide (j < i) := fun j b hj hmm => by
   have hjl : j < l.length := by have := (bP8.1 hj).1; omega
   rcases Nat.lt_trichotomy j i with h | h | h
   ·rw [ahead j ((aX0 hord hac hj (by omega) hmm).1 h)]; simp [h]
   ·subst h; rw [hBi]; simp
   rw [behind j hjl ((aX0 hord hac hj (by omega) hmm).2 h)]
   have : ¬ j < i := by omega
   simp [this]
  have hop2 := a78 hop (tm' := tmD r.acts B (C3 tm)) (S' := sD r.acts B S) (fun t ht => Q9 fun j b hj hw => by
    rw [bS8]
    refine hagree j b hj (hmt i ac hac t b ?_ ht)
    unfold wrT at hw
    split at hw
    ·assumption
    cases hw)
   (fun q hq => Q9 fun j b hj hw => by
    rw [bS8]
    obtain ⟨x, hx⟩ := bT0.1 hw
    exact hagree j b hj (hms' ac b q hq (List.mem_map.2 ⟨_, P9 hx, rfl⟩)))
   (fun q hq => by
    show knd (pf (wrS q) r.acts 0 B (S q)) = _
    rw [a06 hweak hac hq fun k _ hk => ahead k hk, a06 hweak hac hq fun k hk _ => by simpa using hk])
  have hrange : ∀ id, n + 8 * i <= id -> id < n + 8 * i + 8 -> (id - n) / 8 = i := fun id h1 h2 => by omega
  have hmk : ∀ j ∈ ac.t.made, sD r.acts B S j = .none := fun j hj => by
   obtain ⟨g1, g2⟩ := hf2 j hj
   have e : sD r.acts B S j = S j := W3 fun k b hk hw => by
    rw [bS8]
    obtain ⟨x, hx⟩ := bT0.1 hw
    have hkl : k < l.length := by have := (bP8.1 hk).1; omega
    rcases a35 hment hk j (.inr (.inl (List.mem_map.2 ⟨_, P9 hx, rfl⟩))) with h | h | h
    ·omega
    ·rw [hrange j g1 g2] at h; subst h; exact hBi
    rw [hrange j g1 g2] at h; exact behind k hkl h
   rw [e]; exact (I0.bd j).2 (by omega)
  have hnot : ∀ (k : Nat) b, r.acts[k]? = some b -> B k = true -> ∀ id, (id ∈ b.t.res.ids \/ id ∈ b.t.new.map (·.1) \/ ∃ p ∈ b.t.new, id ∈ p.2.ids) -> id ∉ ac.t.made := fun k b hk hBk id hid hm => by
   obtain ⟨g1, g2⟩ := hf2 id hm
   have hkl : k < l.length := by have := (bP8.1 hk).1; omega
   rcases a35 hment hk id hid with h | h | h
   ·omega
   ·rw [hrange id g1 g2] at h; subst h; rw [hBi] at hBk; cases hBk
   rw [hrange id g1 g2] at h; rw [behind k hkl h] at hBk; cases hBk
  have hitem : ∀ j, ∀ id ∈ (sD r.acts B S j).ids, id ∉ ac.t.made := fun j => by
   refine aj8 (fun x : It => ∀ id ∈ x.ids, id ∉ ac.t.made) (fun id hid hm => ?_) fun k b x hk hBk hw id hid => ?_
   ·have := (I0.bd j).1 id hid; have := (hf2 id hm).1; omega
   rw [bS8] at hBk
   exact hnot k b hk hBk id (.inr (.inr ⟨_, P9 hw, hid⟩))
  have htm : ∀ t x, tmD r.acts B (C3 tm) t = some x -> ∀ id ∈ x.ids, id ∉ ac.t.made := fun t => by
   refine aj8 (fun y : Option AV => ∀ x, y = some x -> ∀ id ∈ x.ids, id ∉ ac.t.made) (fun x hx id hid hm => ?_) fun k b y hk hBk hw x hx id hid => ?_
   ·have := I0.tmi t x hx id hid; have := (hf2 id hm).1; omega
   rw [bS8] at hBk
   unfold wrT at hw
   split at hw
   ·cases hw; cases hx
    exact hnot k b hk hBk id (.inl hid)
   cases hw
  have hinv : Inv (sD r.acts B S) ρ ac.t.made := fun ρ' ha j => by
   refine It.res_congr _ (fun id hid => ha id (hitem j id hid)) ?_
   by_cases hj : j ∈ ac.t.made
   ·exact .inl (hmk j hj)
   exact .inr (.inr (ha j hj))
  refine bp2 hH hF hv M hop2 hob heqi hewi hmk hinv fun ρ' w' ha M' => ?_
  refine hQ _ _ ?_
  have hB' : ∀ j, (listed.setIfInBounds i true).getD j false = if j = i then true else B j := fun j => by
   by_cases e : j = i
   ·subst e
    have : j < listed.size := by omega
    simp [this]
   rw [if_neg e, getD_set_ne false (fun h => e h.symm), hBj]
  have hBe : (fun j => (listed.setIfInBounds i true).getD j false) = fun j => if j = i then true else B j := funext hB'
  have later : ∀ (j : Nat) b, i < j -> r.acts[j]? = some b -> ab8 ac b = true -> (if j = i then true else B j) = false := fun j b hij hj hmm => by
   have hjl : j < l.length := by have := (bP8.1 hj).1; omega
   rw [if_neg (by omega)]
   exact behind j hjl ((aX0 hord hac hj (by omega) hmm).2 hij)
  have eT : tmD r.acts (fun j => if j = i then true else B j) (C3 tm) = aB1 ac.dst ac.t.res (tmD r.acts B (C3 tm)) := by
   funext t
   simp only [aB1]
   by_cases e : ac.dst = some t
   ·rw [if_pos e]
    refine aJ5 (i := i) hac (by simp [wrT, e]) (by simp) fun j b hij hj hw => ?_
    rw [bS8]
    refine later j b hij hj (hmd ac b t e ?_)
    unfold wrT at hw
    split at hw
    ·assumption
    cases hw
   rw [if_neg e]
   refine Q9 fun j b hj hw => ?_
   have : j ≠ i := fun h => by
    subst h
    rw [hac] at hj; cases hj
    simp [wrT, e] at hw
   simp [this]
  have eS : sD r.acts (fun j => if j = i then true else B j) S = p9 (sD r.acts B S) ac.t.new := by
   funext q
   rw [an0]
   cases hx : az1 ac.t.new q with
   | some x =>
    refine aJ5 (i := i) hac hx (by simp) fun j b hij hj hw => ?_
    rw [bS8]
    obtain ⟨y, hy⟩ := bT0.1 hw
    exact later j b hij hj (hmn ac b q (List.mem_map.2 ⟨_, P9 hx, rfl⟩) (List.mem_map.2 ⟨_, P9 hy, rfl⟩))
   | none =>
    refine Q9 fun j b hj hw => ?_
    have : j ≠ i := fun h => by
     subst h
     rw [hac] at hj; cases hj
     unfold wrS at hw
     rw [hx] at hw; cases hw
    simp [this]
  refine ⟨by simpa using hsz, ?_, ρ', fun j hj => (ha j fun hm => by have := (hf2 j hm).1; have := I0.le; omega).trans (hold j hj), (aP1 _ _ _).trans hN, (aP2 _ _ _).trans hdf, ?_, ?_⟩
  ·rw [hBe]
   intro j oj hj hBj' e he hbi
   show (if e.on = i then true else B e.on) = true
   by_cases e1 : e.on = i
   ·simp [e1]
   rw [if_neg e1]
   by_cases e2 : j = i
   ·subst e2
    rw [hoi] at hj; cases hj
    exact hdep' e he hbi
   simp only [if_neg e2] at hBj'
   exact hdn j oj hj hBj' e he hbi
  ·rw [hBe, eT, hdst]
   intro t x hx
   rw [bf3 (by rw [hN]; exact hdN)]
   simp only [aB1] at hx
   split
   ·rename_i e; rw [if_pos e] at hx; cases hx; rfl
   rename_i e
   rw [if_neg e] at hx
   rw [hv t x hx, AV.val_congr x fun id hid => ha id (htm t x hx id hid)]
  rw [hBe, eS]; exact M'
 rintro listed a w ⟨hsz, hdn, ρ, hold, hN, hdf, hv, M⟩ hall
 have hall' : ∀ j, j < l.length -> listed.getD j false = true := fun j hj => by rw [<- a43 (by omega)]; exact hall j hj
 have eT : tmD r.acts (fun j => listed.getD j false) (C3 tm) = C3 r.tm := by
  funext t
  rw [hfT t]
  refine Q9 fun j b hj _ => ?_
  rw [bS8]
  exact hall' j (by have := (bP8.1 hj).1; omega)
 have eS : sD r.acts (fun j => listed.getD j false) S = r.S := by
  funext q
  rw [hfS q]
  refine Q9 fun j b hj _ => ?_
  rw [bS8]
  exact hall' j (by have := (bP8.1 hj).1; omega)
 have hids : ∀ (k : Nat) b, r.acts[k]? = some b -> ∀ id, (id ∈ b.t.res.ids \/ id ∈ b.t.new.map (·.1) \/ ∃ p ∈ b.t.new, id ∈ p.2.ids) -> id < n + 8 * l.length := fun k b hk id hid => by
  have hkl : k < l.length := by have := (bP8.1 hk).1; omega
  obtain ⟨o, ho'⟩ : ∃ o, l[k]? = some o := ⟨_, bO7 hkl⟩
  obtain ⟨ac, ob, hac, _, hop⟩ := hat k o ho'
  rw [hk] at hac; cases hac
  obtain ⟨_, _, hfine⟩ := aK0 hop
  obtain ⟨hf1, hf2, hf3⟩ := aa4 hfine
  rcases hid with h | h | ⟨p, hp, h⟩
  ·have := hf3 id h; omega
  ·obtain ⟨p, hp, rfl⟩ := List.mem_map.1 h
   have := (hf1 p hp).1; omega
  have := (hf1 p hp).2 id h; omega
 refine done ρ a w (n + 8 * l.length) ⟨hN, hdf, by rw [<- eT]; exact hv, fun t x hx => ?_, fun j => ?_, by rw [<- eS]; exact M, by have := I0.le; omega, hold⟩
 ·rw [hfT t] at hx
  revert x
  refine aj8 (fun y : Option AV => ∀ x, y = some x -> ∀ id ∈ x.ids, id < n + 8 * l.length) (fun x hx id hid => ?_) fun k b y hk _ hw x hx id hid => ?_
  ·have := I0.tmi t x hx id hid; omega
  unfold wrT at hw
  split at hw
  ·cases hw; cases hx
   exact hids k b hk id (.inl hid)
  cases hw
 refine ⟨?_, fun hj => ?_⟩
 ·rw [hfS j]
  refine aj8 (fun x : It => ∀ id ∈ x.ids, id < n + 8 * l.length) (fun id hid => ?_) fun k b x hk _ hw id hid => ?_
  ·have := (I0.bd j).1 id hid; omega
  exact hids k b hk id (.inr (.inr ⟨_, P9 hw, hid⟩))
 rw [hfS j, W3 fun k b hk hw => ?_]
 ·exact (I0.bd j).2 (by omega)
 obtain ⟨x, hx⟩ := bT0.1 hw
 have := hids k b hk j (.inr (.inl (List.mem_map.2 ⟨_, P9 hx, rfl⟩)))
 omega
end
def C2 {ι : Type} (φ ψ : Nat -> Prop) (w0 : World) (F : ι -> Rs) (N m : Nat) (ρ0 ρ : Nat -> Value) (S : List It) (tm : List (Nat × AV)) (a : Act) (w : World) : Prop := Inn φ ψ w0 F N m ρ0 S.length ρ (C3 tm) (v7 S) a w
def wfB (S : List It) (tm : List (Nat × AV)) : Bool := S.all (fun x => ad6 S.length x.ids) && tm.all (fun p => ad6 S.length p.2.ids)
def bG9 (m : Nat) (js : List Nat) : Bool := (bS1 m).all fun i => natEq (nth js i) i && decide (i < js.length)
def ac5 (m : Nat) (js : List Nat) (S : List It) (tm : List (Nat × AV)) : Bool := nodupB js && natEq js.length S.length && wfB S tm && bG9 m js
section
variable {P : Program} {ι : Type} {φ ψ : Nat -> Prop} {w0 w w' : World} {F : ι -> Rs} {ρ ρ0 : Nat -> Value} {N m n : Nat} {S : List It} {tm : List (Nat × AV)} {a : Act} {Q : Exit -> Act -> World -> Prop}
theorem ax9 : ∀ {tm : List (Nat × AV)} {t : Nat} {x : AV}, C3 tm t = some x -> (t, x) ∈ tm
 | [], _, _, h => by cases h
 | (k, y) :: r, t, x, h => by
  simp only [C3, natEq, beq_iff_eq] at h
  split at h
  ·rename_i e; subst e; cases h; exact bQ4
  exact bR1 _ (ax9 h)
theorem ax8 {l : List It} {i : Nat} (h : i < l.length) : v7 l i = l[i] := by simp [v7, bP1, h]
theorem B5 {l : List It} {i : Nat} (h : l.length <= i) : v7 l i = .none := by simp [v7, bP1, h]
theorem bt5 {S : List It} {tm : List (Nat × AV)} (h : wfB S tm = true) : (∀ j, (∀ id ∈ (v7 S j).ids, id < S.length) /\ (S.length <= j -> v7 S j = .none)) /\ ∀ t x, C3 tm t = some x -> ∀ id ∈ x.ids, id < S.length := by
 simp only [wfB, bO8] at h
 refine ⟨fun j => ⟨fun id hid => ?_, fun hj => B5 hj⟩, fun t x hx id hid => ?_⟩
 ·rcases bR6 j S.length with hj | hj
  ·rw [ax8 hj] at hid
   exact M9 (bQ0.1 h.1 _ (bP5 hj)) id hid
  rw [B5 hj] at hid; cases hid
 exact M9 (bQ0.1 h.2 _ (ax9 hx)) id hid
theorem Inn.sel {tf : Nat -> Option AV} {Sf : Nat -> It} (I : Inn φ ψ w0 F N m ρ0 n ρ tf Sf a w) (js : List Nat) (S1 : List It) (tm1 : List (Nat × AV)) (hb : ac5 m js S1 tm1 = true) (hS : js.map Sf = S1.map (It.ren (nth js))) (ht : (tm1.map (·.1)).map tf = tm1.map fun p => some (p.2.ren (nth js))) :
  C2 φ ψ w0 F N m ρ0 (fun i => ρ (nth js i)) S1 tm1 a w := by
 simp only [ac5, bO8, natEq, beq_iff_eq] at hb
 obtain ⟨⟨⟨hnd, hl⟩, hwf⟩, hkeep⟩ := hb
 have hn := aw9 hnd
 obtain ⟨b1, b2⟩ := bt5 hwf
 have hk : ∀ i, i < m -> nth js i = i /\ i < js.length := fun i hi => by
  have := bQ0.1 hkeep i (List.mem_range.2 hi)
  simpa [natEq] using this
 refine ⟨I.size, I.defs, fun t x hx => ?_, b2, b1, ?_, ?_, fun i hi => ?_⟩
 ·obtain ⟨i, hi⟩ := List.mem_iff_getElem?.1 (ax9 hx)
  have h1 := congrArg (·[i]?) ht
  simp only [bQ8, hi, bR7] at h1
  rw [I.tmv t _ (Option.some.inj h1), AV.val_ren]
 ·refine I.mem.map (fun k : ι ⊕ Nat => (match k with | .inl i => some (.inl i) | .inr i => if i < js.length then some (.inr (nth js i)) else none : Option (ι ⊕ Nat))) ?_ ?_
  ·intro k k' x h1 h2
   match k, k' with
   | .inl i, .inl i' => simp at h1 h2; rw [<- h1] at h2; simpa using h2.symm
   | .inl i, .inr j => simp only at h1 h2; cases h1; split at h2 <;> simp at h2
   | .inr j, .inl i => simp only at h1 h2; cases h2; split at h1 <;> simp at h1
   | .inr j, .inr j' =>
    simp at h1 h2
    obtain ⟨f1, f2⟩ := h1
    obtain ⟨g1, g2⟩ := h2
    rw [<- f2] at g2
    have hj := Sum.inr.inj g2
    have e1 := bO7 f1
    have e2 := bO7 g1
    rw [L9 e2, L9 e1] at hj
    have := (List.getElem?_inj f1 hn).1 (e1.trans (by rw [<- hj]; exact e2.symm))
    rw [this]
  intro k
  match k with
  | .inl i => exact .inl ⟨_, rfl, rfl⟩
  | .inr i =>
   by_cases hlt : i < js.length
   ·refine .inl ⟨.inr (nth js i), by simp [hlt], ?_⟩
    have h1 := congrArg (·[i]?) hS
    have hlt' : i < S1.length := by omega
    simp only [bQ8, bO7 hlt, bO7 hlt', bR7, Option.some.injEq] at h1
    simp only [s6]
    rw [ax8 hlt', L9 (bO7 hlt), h1, <- It.res_ren, L9 (bO7 hlt)]
   refine .inr ?_
   simp only [s6]
   rw [B5 (by omega)]
   rfl
 ·rcases bR6 S1.length m with h | h
  ·have := (hk S1.length h).2; omega
  exact h
 rw [(hk i hi).1]; exact I.old i hi
def aP5 (o : Option RS) (js ts : List Nat) : Option (List Prop × List It × List (Option AV) × List (List (List AV × List It)) × List (List AV)) := o.map fun r => (r.obs, js.map r.S, ts.map (C3 r.tm), r.acts.map (·.eqs.1), r.acts.map (·.eqw.1))
def aW9 (o : Option RS) (obs : List Prop) (js : List Nat) (S : List It) (tm : List (Nat × AV)) : Option (List Prop × List It × List (Option AV) × List (List (List AV × List It)) × List (List AV)) := o.map fun r => (obs, S.map (It.ren (nth js)), tm.map (fun p => some (p.2.ren (nth js))), r.acts.map (·.eqs.2), r.acts.map (·.eqw.2))
def a48 (l : List Oper) (ms : List Nat) (n : Nat) (S : Nat -> It) (o : Option RS) : Bool := aK3 ms l && ae3 l.toArray && match o with
 | some r => bz3 ms r.acts && bh4 ms n r.acts && bb9 ms S r.acts
 | none => false
theorem by6 {dk : TypeId -> Nat} {l : List Oper} {id : Nat} (G : C2 φ ψ w0 F N m ρ0 ρ S tm a w) (H : Q1) (hH : ∀ i c τ, K5 H.calls i = some (c, τ) -> c.ok P) (hF : O1 H.facts) (js : List Nat) (S1 : List It) (tm1 : List (Nat × AV)) (obs : List Prop)
  (hs : ((T5 P dk N l H l 0 tm (v7 S) S.length).isSome && ac5 m js S1 tm1) = true)
  (hc : aP5 (T5 P dk N l H l 0 tm (v7 S) S.length) js (tm1.map (·.1)) = aW9 (T5 P dk N l H l 0 tm (v7 S) S.length) obs js S1 tm1)
  (ho : x4 obs) (k : ∀ ρ' a' w', C2 φ ψ w0 F N m ρ0 ρ' S1 tm1 a' w' -> Q .normal a' w') : (Code.region id l.toArray false).wp P Q a w := by
 simp only [bO8] at hs
 obtain ⟨r, hr⟩ := bT0.1 hs.1
 rw [hr] at hc
 simp only [aP5, aW9, bR7, Option.some.injEq, Prod.mk.injEq] at hc
 obtain ⟨h1, h2, h3, h4, h5⟩ := hc
 refine wp_region_lit (a19 hH hF l 0 S.length G hr (by rw [h1]; exact ho) h4 h5 fun ρ' a' w' n' I => ?_)
 exact k _ a' w' (I.sel js S1 tm1 hs.2 h2 h3)
theorem bo6 {dk : TypeId -> Nat} {l : List Oper} {id : Nat} (G : C2 φ ψ w0 F N m ρ0 ρ S tm a w) (H : Q1) (hH : ∀ i c τ, K5 H.calls i = some (c, τ) -> c.ok P) (hF : O1 H.facts) (ms : List Nat) (js : List Nat) (S1 : List It) (tm1 : List (Nat × AV)) (obs : List Prop) (hm : P.follows .mixedOrders = true)
  (hs : (a48 l ms S.length (v7 S) (T5 P dk N l H l 0 tm (v7 S) S.length) && ac5 m js S1 tm1) = true)
  (hc : aP5 (T5 P dk N l H l 0 tm (v7 S) S.length) js (tm1.map (·.1)) = aW9 (T5 P dk N l H l 0 tm (v7 S) S.length) obs js S1 tm1)
  (ho : x4 obs) (k : ∀ ρ' a' w', C2 φ ψ w0 F N m ρ0 ρ' S1 tm1 a' w' -> Q .normal a' w') : (Code.region id l.toArray true).wp P Q a w := by
 simp only [bO8, a48] at hs
 obtain ⟨⟨⟨q1, q2⟩, q3⟩, q4⟩ := hs
 cases hr : T5 P dk N l H l 0 tm (v7 S) S.length with
 | none => rw [hr] at q3; cases q3
 | some r =>
  rw [hr] at q3 hc
  simp only [bO8] at q3
  simp only [aP5, aW9, bR7, Option.some.injEq, Prod.mk.injEq] at hc
  obtain ⟨h1, h2, h3, h4, h5⟩ := hc
  refine aH5 hH hF G hr (by rw [h1]; exact ho) h4 h5 ms hm q2 q1 q3.1.1 q3.1.2 q3.2 fun ρ' a' w' n' I => ?_
  exact k _ a' w' (I.sel js S1 tm1 q4 h2 h3)
theorem rs1 {dk : TypeId -> Nat} {l : List Oper} {id : Nat} (G : C2 φ ψ w0 F N m ρ0 ρ S tm a w) (H : Q1) (hH : ∀ i c τ, K5 H.calls i = some (c, τ) -> c.ok P) (hF : O1 H.facts) (js : List Nat) (S1 : List It) (tm1 : List (Nat × AV)) (obs : List Prop)
  (ho : x4 obs) (k : ∀ ρ' a' w', C2 φ ψ w0 F N m ρ0 ρ' S1 tm1 a' w' -> Q .normal a' w')
  (hs : ((T5 P dk N l H l 0 tm (v7 S) S.length).isSome && ac5 m js S1 tm1) = true := by kernel_rfl)
  (hc : aP5 (T5 P dk N l H l 0 tm (v7 S) S.length) js (tm1.map (·.1)) = aW9 (T5 P dk N l H l 0 tm (v7 S) S.length) obs js S1 tm1 := by kernel_rfl) : (Code.region id l.toArray false).wp P Q a w := by6 G H hH hF js S1 tm1 obs hs hc ho k
theorem rd1 {dk : TypeId -> Nat} {l : List Oper} {id : Nat} (G : C2 φ ψ w0 F N m ρ0 ρ S tm a w) (H : Q1) (hH : ∀ i c τ, K5 H.calls i = some (c, τ) -> c.ok P) (hF : O1 H.facts) (ms : List Nat) (js : List Nat) (S1 : List It) (tm1 : List (Nat × AV)) (obs : List Prop)
  (ho : x4 obs) (k : ∀ ρ' a' w', C2 φ ψ w0 F N m ρ0 ρ' S1 tm1 a' w' -> Q .normal a' w') (hm : P.follows .mixedOrders = true := by kernel_rfl)
  (hs : (a48 l ms S.length (v7 S) (T5 P dk N l H l 0 tm (v7 S) S.length) && ac5 m js S1 tm1) = true := by kernel_rfl)
  (hc : aP5 (T5 P dk N l H l 0 tm (v7 S) S.length) js (tm1.map (·.1)) = aW9 (T5 P dk N l H l 0 tm (v7 S) S.length) obs js S1 tm1 := by kernel_rfl) : (Code.region id l.toArray true).wp P Q a w := bo6 G H hH hF ms js S1 tm1 obs hm hs hc ho k
theorem af5 : ∀ i c τ, K5 [] i = some (c, τ) -> r7.ok P c := fun i c τ h => by cases h
theorem aA0 {i0 : Nat} {c0 : r7} {τ0 : List Nat} {r : List (Nat × r7 × List Nat)} (h0 : c0.ok P) (hr : ∀ i c τ, K5 r i = some (c, τ) -> r7.ok P c) : ∀ i c τ, K5 ((i0, c0, τ0) :: r) i = some (c, τ) -> r7.ok P c := fun i c τ h => by
 simp only [K5] at h
 split at h
 ·cases h; exact h0
 exact hr i c τ h
theorem C2.sel (G : C2 φ ψ w0 F N m ρ0 ρ S tm a w) (js : List Nat) (S1 : List It) (tm1 : List (Nat × AV)) (hb : ac5 m js S1 tm1 = true) (hS : js.map (v7 S) = S1.map (It.ren (nth js))) (ht : (tm1.map (·.1)).map (C3 tm) = tm1.map fun p => some (p.2.ren (nth js))) : ∃ ρ', C2 φ ψ w0 F N m ρ0 ρ' S1 tm1 a w := ⟨_, Inn.sel G js S1 tm1 hb hS ht⟩
theorem C2.as (G : C2 φ ψ w0 F N m ρ0 ρ S tm a w) (S1 : List It) (tm1 : List (Nat × AV)) (hS : S = S1) (ht : tm = tm1) : C2 φ ψ w0 F N m ρ0 ρ S1 tm1 a w := by subst hS; subst ht; exact G
theorem C2.at (G : C2 φ ψ w0 F N m ρ0 ρ S tm a w) (S1 : List It) (tm1 : List (Nat × AV)) (hS : S = S1 := by kernel_rfl) (ht : tm = tm1 := by kernel_rfl) : C2 φ ψ w0 F N m ρ0 ρ S1 tm1 a w := G.as S1 tm1 hS ht
theorem ae7 {c : Nat} {x y : Code} (G : C2 φ ψ w0 F N m ρ0 ρ S tm a w) (b : Bool) (hc : C3 tm c = some (.v (.bool b))) (ht : b = true -> x.wp P Q a w) (hf : b = false -> y.wp P Q a w) : (Code.cond (.tmp c) x y).wp P Q a w := by
 have h := G.tmv c _ hc
 refine wp_cond_split (t := b) ?_ ht hf
 simp [Act.eval, Array.getD_eq_getD_getElem?, h, AV.val]
theorem be7 {c : Nat} {x y : Code} (G : C2 φ ψ w0 F N m ρ0 ρ S tm a w) (b : Bool) (hc : C3 tm c = some (.v (.bool b))) (hb : b = true) (h : x.wp P Q a w) : (Code.cond (.tmp c) x y).wp P Q a w := ae7 G b hc (fun _ => h) fun hf => by rw [hb] at hf; cases hf
theorem be8 {c : Nat} {x y : Code} (G : C2 φ ψ w0 F N m ρ0 ρ S tm a w) (b : Bool) (hc : C3 tm c = some (.v (.bool b))) (hb : b = false) (h : y.wp P Q a w) : (Code.cond (.tmp c) x y).wp P Q a w := ae7 G b hc (fun ht => by rw [hb] at ht; cases ht) fun _ => h
def aW3 (P : Program) (tm : Nat -> Option AV) (S : Nat -> It) : List ResultVar -> Option (List AV)
 | [] => some []
 | .tmp t :: r =>
  match tm t, aW3 P tm S r with
  | some x, some l => some (x :: l)
  | _, _ => none
 | .cell t ty :: r =>
  match tm t, aW3 P tm S r with
  | some (.ptr b off), some l =>
   match S b with
   | .box cs => (aT8 P ty ((cs.drop off).take (aq8 P ty))).map fun x => x :: l
   | _ => none
  | _, _ => none
def aP0 (P : Program) (fn : Func) (tm : List (Nat × AV)) (S : List It) : Option AV :=
 match aW3 P (C3 tm) (v7 S) fn.results.toList with
 | some [x] => some x
 | some l => some (.tup l)
 | none => none
theorem bm4 {cs : List AV} {ty : TypeId} {b off : Nat} {x : AV} (hB : V3 w b (AV.vals ρ cs)) (h : aT8 P ty ((cs.drop off).take (aq8 P ty)) = some x) : (loadVar ty ⟨b, off, none⟩).run P w = .ok (x.val ρ) w :=
 af7 h ⟨b, off, none⟩ fun j u hj => by
  rw [AV.vals_take, AV.vals_drop] at hj
  have hadd : (⟨b, off, none⟩ : Addr).add j = ⟨b, off + j, none⟩ := by unfold Addr.add; split <;> simp_all
  rw [hadd, hB.cell]
  rw [List.getElem?_take] at hj
  split at hj
  ·rw [List.getElem?_drop] at hj; exact hj
  cases hj
theorem aJ0 (G : C2 φ ψ w0 F N m ρ0 ρ S tm a w) : ∀ {rs : List ResultVar} {l : List AV}, aW3 P (C3 tm) (v7 S) rs = some l ->
  (rs.mapM (fun r => (match r with | .tmp t => pure (a.tmps.getD t undef) | .cell b t => do loadVar t (<- asAddr (a.tmps.getD b undef)) : Sem Value))).run P w = .ok (AV.vals ρ l) w
 | [], l, h => by cases h; simp [AV.vals]
 | .tmp t :: r, l, h => by
  simp only [aW3] at h
  split at h
  case h_2 => cases h
  rename_i x l' h1 h2
  cases h
  have ht := G.tmv t x h1
  have ih := aJ0 G h2
  have e : (pure (a.tmps.getD t undef) : Sem Value).run P w = .ok (x.val ρ) w := by simp [Array.getD_eq_getD_getElem?, ht]
  rw [List.mapM_cons, Sem.run_bind, e, Result.andThen_ok, Sem.run_bind, ih]
  rfl
 | .cell t ty :: r, l, h => by
  simp only [aW3] at h
  split at h
  case h_2 => cases h
  rename_i b off l' h1 h2
  split at h
  case h_2 => cases h
  rename_i cs hS
  obtain ⟨x, h3, h4⟩ := bP3.1 h
  subst h4
  have ht := G.tmv t _ h1
  have ih := aJ0 G h2
  have hl := bm4 (P := P) (G.mem.boxAt hS) h3
  have e : (do loadVar ty (<- asAddr (a.tmps.getD t undef)) : Sem Value).run P w = .ok (x.val ρ) w := by
   rw [show a.tmps.getD t undef = .pointer (some ⟨S9 (ρ b), off, none⟩) by simp [Array.getD_eq_getD_getElem?, ht, AV.val]]
   simp [asAddr, hl]
  rw [List.mapM_cons, Sem.run_bind, e, Result.andThen_ok, Sem.run_bind, ih]
  rfl
theorem by7 {fn : Func} {R : Ending -> World -> Prop} {v : AV} (G : C2 φ ψ w0 F N m ρ0 ρ S tm a w) (h : aP0 P fn tm S = some v) (hR : R (.returned (v.val ρ)) w) : bodyPost P fn R .ret a w := by
 refine ⟨G.defs, v.val ρ, ?_, hR⟩
 unfold aP0 at h
 cases hl : aW3 P (C3 tm) (v7 S) fn.results.toList with
 | none => rw [hl] at h; cases h
 | some l =>
  rw [hl] at h
  have := aJ0 G hl
  unfold results
  rw [Sem.run_bind, Array.mapM_eq_mapM_toList, Sem.run_map]
  erw [this]
  simp only [Result.andThen_ok, Sem.run_pure]
  match l, h with
  | [], h => cases h; rfl
  | [x], h => cases h; rfl
  | x :: y :: r, h => cases h; rfl
def aA9 (i : Nat) : List AV -> List (Nat × AV)
 | [] => []
 | x :: r => (i, x) :: aA9 (i + 1) r
theorem aU0 (ρ : Nat -> Value) : ∀ {l : List AV} {i t : Nat} {x : AV}, C3 (aA9 i l) t = some x -> i <= t /\ (AV.vals ρ l)[t - i]? = some (x.val ρ)
 | [], _, _, _, h => by cases h
 | y :: r, i, t, x, h => by
  simp only [aA9, C3, natEq, beq_iff_eq] at h
  split at h
  ·rename_i e; subst e; cases h; exact ⟨bP9 _, by simp [AV.vals]⟩
  obtain ⟨h1, h2⟩ := aU0 ρ h
  refine ⟨by omega, ?_⟩
  rw [show t - i = (t - (i + 1)) + 1 by omega]
  simpa [AV.vals] using h2
def aU5 (φ ψ : Nat -> Prop) (w0 : World) (F : ι -> Rs) (ρ0 : Nat -> Value) (c : r7) (x : Ending) (w' : World) : Prop := ∃ ρ', (∀ i, i < c.pre.length -> ρ' i = ρ0 i) /\ x = .returned (c.res.val ρ') /\ n9 φ ψ w0 w' (s6 F ρ' (v7 c.post))
theorem be6 {c : r7} {fn : Func} {code : Code} (N : Nat) (hf : P.funcs[c.f]? = some fn) (hb : fn.body = some code) (hN : fn.ntmps = N) (hw : (wfB c.pre (aA9 0 c.args) && decide (c.args.length <= N)) = true)
  (k : ∀ {ι : Type} (φ ψ : Nat -> Prop) (w0 w : World) (F : ι -> Rs) (ρ0 ρ : Nat -> Value) (a : Act), C2 φ ψ w0 F N c.pre.length ρ0 ρ c.pre (aA9 0 c.args) a w -> code.wp P (bodyPost P fn (aU5 φ ψ w0 F ρ0 c)) a w) : c.ok P := by
 intro ι φ ψ w0 w F ρ M
 simp only [bO8, decide_eq_true_eq] at hw
 obtain ⟨b1, b2⟩ := bt5 hw.1
 refine calls_of_wp hf hb (k φ ψ w0 w F ρ ρ _ ⟨?_, rfl, fun t x hx => ?_, b2, b1, M, bP9 _, fun _ _ => rfl⟩)
 ·simp [AV.vals_length, hN]; omega
 obtain ⟨_, h1⟩ := aU0 ρ hx
 rw [Nat.sub_zero] at h1
 have hlt := (bP8.1 h1).1
 rw [Array.getElem?_append_left (by simpa using hlt)]
 simpa using h1
theorem aw3 {fn : Func} {c : r7} {v : AV} (G : C2 φ ψ w0 F N c.pre.length ρ0 ρ S tm a w) (js : List Nat) (h : aP0 P fn tm S = some v) (hb : ac5 c.pre.length js c.post [] = true) (hS : js.map (v7 S) = c.post.map (It.ren (nth js))) (hv : v = c.res.ren (nth js)) : bodyPost P fn (aU5 φ ψ w0 F ρ0 c) .ret a w := by
 have G1 := Inn.sel G js c.post [] hb hS rfl
 refine by7 G h ⟨fun i => ρ (nth js i), G1.old, ?_, G1.mem⟩
 rw [hv, AV.val_ren]
theorem b0 {K : Act -> World -> Prop} (h : K a w) : Exit.then K Q .normal a w := h
theorem z7 {K : Act -> World -> Prop} {id : Nat} (h : Q (.exit id) a w) : Exit.then K Q (.exit id) a w := h
theorem n8 {K : Act -> World -> Prop} (h : Q .ret a w) : Exit.then K Q .ret a w := h
theorem B9 {id : Nat} (h : Q .normal a w) : Exit.inBlock id Q .normal a w := h
theorem E6 {id : Nat} (h : Q .ret a w) : Exit.inBlock id Q .ret a w := h
theorem y9 {id : Nat} (h : Q .normal a w) : Exit.inBlock id Q (.exit id) a w := by simp only [Exit.inBlock, if_true]; exact h
theorem w64 {x : Int} (h1 : -9223372036854775808 <= x) (h2 : x <= 9223372036854775807) : IntKind.i64.wrap x = x := IntWalk.i64_in x ⟨h1, h2⟩
theorem rT {c : Nat} {x y : Code} (G : C2 φ ψ w0 F N m ρ0 ρ S tm a w) (b : Bool) (hb : b = true) (h : x.wp P Q a w) (hc : C3 tm c = some (.v (.bool b)) := by kernel_rfl) : (Code.cond (.tmp c) x y).wp P Q a w := be7 G b hc hb h
theorem rF {c : Nat} {x y : Code} (G : C2 φ ψ w0 F N m ρ0 ρ S tm a w) (b : Bool) (hb : b = false) (h : y.wp P Q a w) (hc : C3 tm c = some (.v (.bool b)) := by kernel_rfl) : (Code.cond (.tmp c) x y).wp P Q a w := be8 G b hc hb h
theorem G5 {κ : Type} {c : Code} (pre : κ -> Prop) (μ : κ -> Nat) (Sk : κ -> List It) (Tk : κ -> List (Nat × AV)) (k0 : κ) (hp : pre k0) (G : C2 φ ψ w0 F N m ρ0 ρ (Sk k0) (Tk k0) a w)
  (round : ∀ k ρ a w, pre k -> C2 φ ψ w0 F N m ρ0 ρ (Sk k) (Tk k) a w -> c.wp P (Exit.then (fun a' w' => ∃ k' ρ', pre k' /\ μ k' < μ k /\ C2 φ ψ w0 F N m ρ0 ρ' (Sk k') (Tk k') a' w') Q) a w) : (Code.loop c).wp P Q a w := by
 refine wp_loop_ghost (fun n a w => ∃ k ρ, μ k = n /\ pre k /\ C2 φ ψ w0 F N m ρ0 ρ (Sk k) (Tk k) a w) (μ k0) ⟨k0, ρ, rfl, hp, G⟩ ?_
 rintro n a w ⟨k, ρ, rfl, hk, Gk⟩
 refine wp_mono (round k ρ a w hk Gk) ?_
 intro e a' w' hq
 cases e with
 | normal =>
  obtain ⟨k', ρ', h1, h2, h3⟩ := hq
  exact ⟨μ k', h2, k', ρ', rfl, h1, h3⟩
 | _ => exact hq
theorem bo5 {κ : Type} {pre : κ -> Prop} {μ : κ -> Nat} {Sk : κ -> List It} {Tk : κ -> List (Nat × AV)} {k : κ} (G : C2 φ ψ w0 F N m ρ0 ρ S tm a w) (k' : κ) (hp : pre k') (hμ : μ k' < μ k) (js : List Nat) (S1 : List It) (tm1 : List (Nat × AV)) (hs1 : Sk k' = S1) (ht1 : Tk k' = tm1)
  (hb : ac5 m js S1 tm1 = true) (hS : js.map (v7 S) = S1.map (It.ren (nth js))) (ht : (tm1.map (·.1)).map (C3 tm) = tm1.map fun p => some (p.2.ren (nth js))) :
  ∃ k' ρ', pre k' /\ μ k' < μ k /\ C2 φ ψ w0 F N m ρ0 ρ' (Sk k') (Tk k') a w := by
 subst hs1; subst ht1
 exact ⟨k', _, hp, hμ, Inn.sel G js _ _ hb hS ht⟩
theorem C2.len (G : C2 φ ψ w0 F N m ρ0 ρ S tm a w) (i : Nat) {d : D} (h : itD (v7 S i) = some d) : d.len <= 9223372036854775807 := by
 obtain ⟨_, cap, _, h1, h2, _⟩ := G.mem.sliceAt h
 unfold maxLen at h2; omega
end
def dkP (t : TypeId) : Nat :=
 if natEq t 3 then 1 else
 if natEq t 4 then 2 else
 if natEq t 5 then 3 else
 if natEq t 9 then 4 else
 if natEq t 22 then 7 else
if natEq t 67 then 9 else
if natEq t 69 then 10 else
 0
abbrev eA (e : b9) (r : Nat) : AV := .agg [.v (.int .i64 e.kind), .v (.int .i64 e.value), .ref r]
abbrev eS (e : b9) : List It := [.dat (.exprs e.kids)]
abbrev sA (s : b7) (r : Nat) : AV := .agg [.v (.int .i64 s.kind), .v (.int .i64 s.target), .v (.int .i64 s.index.kind), .v (.int .i64 s.index.value), .ref r, .v (.int .i64 s.value.kind), .v (.int .i64 s.value.value), .ref (r + 1), .v (.int .i64 s.count), .ref (r + 2), .ref (r + 3)]
abbrev sS (s : b7) : List It := [.dat (.exprs s.index.kids), .dat (.exprs s.value.kids), .dat (.stmts s.body), .dat (.stmts s.els)]
abbrev pA (r : Nat) : AV := .agg [.ref r, .ref (r + 1), .ref (r + 2)]
abbrev pS (p : o6) : List It := [.dat (.ints p.vars), .dat (.ints p.arrays), .dat (.stmts p.body)]
abbrev iA (n : Int) : AV := .v (.int .i64 n)
abbrev bA (b : Bool) : AV := .v (.bool b)
abbrev N8 (f : FuncId) (args : List AV) (S : List It) (res : AV) : r7 := ⟨f, args, S, S, res⟩
abbrev dI (l : List Int) : It := .dat (.ints l)
abbrev dE (l : List b9) : It := .dat (.exprs l)
abbrev dT (l : List b7) : It := .dat (.stmts l)
abbrev eL (e : b9) (r : Nat) : List AV := [.v (.int .i64 e.kind), .v (.int .i64 e.value), .ref r]
abbrev sL (s : b7) (r : Nat) : List AV := [.v (.int .i64 s.kind), .v (.int .i64 s.target), .v (.int .i64 s.index.kind), .v (.int .i64 s.index.value), .ref r, .v (.int .i64 s.value.kind), .v (.int .i64 s.value.value), .ref (r + 1), .v (.int .i64 s.count), .ref (r + 2), .ref (r + 3)]
abbrev pL (r : Nat) : List AV := [.ref r, .ref (r + 1), .ref (r + 2)]
section
variable {P : Program} {ι : Type} {φ ψ : Nat -> Prop} {w0 w w' : World} {F : ι -> Rs} {ρ ρ0 : Nat -> Value} {N m n : Nat} {S : List It} {tm : List (Nat × AV)} {a : Act} {Q : Exit -> Act -> World -> Prop}
end
theorem b9.eta (e : b9) : (⟨e.kind, e.value, e.kids⟩ : b9) = e := by cases e; rfl
theorem b7.eta (s : b7) : (⟨s.kind, s.target, s.index, s.value, s.count, s.body, s.els⟩ : b7) = s := by cases s; rfl
section
variable {ι : Type} {P : Program} {φ ψ : Nat -> Prop} {w0 w : World} {F : ι -> Rs} {N m : Nat} {ρ0 ρ : Nat -> Value} {S : List It} {tm : List (Nat × AV)} {a : Act}
theorem Z0 {fn : Func} {c : r7} (G : C2 φ ψ w0 F N c.pre.length ρ0 ρ S tm a w) (js : List Nat) (hS : js.map (v7 S) = c.post.map (It.ren (nth js)) := by kernel_rfl) (h : aP0 P fn tm S = some (c.res.ren (nth js)) := by kernel_rfl) (hb : ac5 c.pre.length js c.post [] = true := by kernel_rfl) : bodyPost P fn (aU5 φ ψ w0 F ρ0 c) .ret a w := aw3 G js h hb hS rfl
theorem bF7 {fn : Func} {c : r7} (G : C2 φ ψ w0 F N c.pre.length ρ0 ρ S tm a w) (js : List Nat) (hS : js.map (v7 S) = c.post.map (It.ren (nth js)) := by kernel_rfl) (h : aP0 P fn tm S = some (c.res.ren (nth js)) := by kernel_rfl) (hb : ac5 c.pre.length js c.post [] = true := by kernel_rfl) : bodyPost P fn (aU5 φ ψ w0 F ρ0 c) .normal a w := aw3 G js h hb hS rfl
theorem K2 {fn : Func} {c : r7} (v : AV) (G : C2 φ ψ w0 F N c.pre.length ρ0 ρ S tm a w) (js : List Nat) (hv : v = c.res.ren (nth js)) (hS : js.map (v7 S) = c.post.map (It.ren (nth js)) := by kernel_rfl) (h : aP0 P fn tm S = some v := by kernel_rfl) (hb : ac5 c.pre.length js c.post [] = true := by kernel_rfl) : bodyPost P fn (aU5 φ ψ w0 F ρ0 c) .ret a w := aw3 G js h hb hS hv
theorem rxn {κ : Type} {pre : κ -> Prop} {μ : κ -> Nat} {Sk : κ -> List It} {Tk : κ -> List (Nat × AV)} {k : κ} (G : C2 φ ψ w0 F N m ρ0 ρ S tm a w) (k' : κ) (hp : pre k') (hμ : μ k' < μ k) (js : List Nat) (hS : js.map (v7 S) = (Sk k').map (It.ren (nth js)) := by kernel_rfl) (ht : ((Tk k').map (·.1)).map (C3 tm) = (Tk k').map (fun p => some (p.2.ren (nth js))) := by kernel_rfl) (hb : ac5 m js (Sk k') (Tk k') = true := by kernel_rfl) : ∃ k' ρ', pre k' /\ μ k' < μ k /\ C2 φ ψ w0 F N m ρ0 ρ' (Sk k') (Tk k') a w := bo5 G k' hp hμ js _ _ rfl rfl hb hS ht
theorem E1 {fn : Func} {f : FuncId} {args : List AV} {pre post : List It} {x : Bool} (y : Bool) (G : C2 φ ψ w0 F N pre.length ρ0 ρ S tm a w) (js : List Nat) (e : x = y) (hS : js.map (v7 S) = post.map (It.ren (nth js)) := by kernel_rfl) (h : aP0 P fn tm S = some (bA y) := by kernel_rfl) (hb : ac5 pre.length js post [] = true := by kernel_rfl) : bodyPost P fn (aU5 φ ψ w0 F ρ0 ⟨f, args, pre, post, bA x⟩) .ret a w := aw3 (c := ⟨f, args, pre, post, bA x⟩) G js h hb hS (by rw [e]; rfl)
theorem rxI {fn : Func} {f : FuncId} {args : List AV} {pre post : List It} {x : Int} (y : Int) (G : C2 φ ψ w0 F N pre.length ρ0 ρ S tm a w) (js : List Nat) (e : x = y) (hS : js.map (v7 S) = post.map (It.ren (nth js)) := by kernel_rfl) (h : aP0 P fn tm S = some (iA y) := by kernel_rfl) (hb : ac5 pre.length js post [] = true := by kernel_rfl) : bodyPost P fn (aU5 φ ψ w0 F ρ0 ⟨f, args, pre, post, iA x⟩) .ret a w := aw3 (c := ⟨f, args, pre, post, iA x⟩) G js h hb hS (by rw [e]; rfl)
end
abbrev wO (x : Int) : Prop := IntKind.i64.wrap x = x
theorem oW {x : Int} (h : -9223372036854775808 <= x /\ x <= 9223372036854775807) : wO x := w64 h.1 h.2
theorem o1 {x : Int} (h : -9223372036854775808 <= x /\ x <= 9223372036854775807) : x4 [wO x] := ⟨oW h, bP7⟩
theorem o2 {x y : Int} (h : (-9223372036854775808 <= x /\ x <= 9223372036854775807) /\ -9223372036854775808 <= y /\ y <= 9223372036854775807) : x4 [wO x, wO y] := ⟨oW h.1, oW h.2, bP7⟩
theorem o3 {x y z : Int} (h : (-9223372036854775808 <= x /\ x <= 9223372036854775807) /\ (-9223372036854775808 <= y /\ y <= 9223372036854775807) /\ -9223372036854775808 <= z /\ z <= 9223372036854775807) : x4 [wO x, wO y, wO z] := ⟨oW h.1, oW h.2.1, oW h.2.2, bP7⟩
theorem o4 {x y z u : Int} (h : (-9223372036854775808 <= x /\ x <= 9223372036854775807) /\ (-9223372036854775808 <= y /\ y <= 9223372036854775807) /\ (-9223372036854775808 <= z /\ z <= 9223372036854775807) /\ -9223372036854775808 <= u /\ u <= 9223372036854775807) : x4 [wO x, wO y, wO z, wO u] := ⟨oW h.1, oW h.2.1, oW h.2.2.1, oW h.2.2.2, bP7⟩
abbrev aP (n b : Nat) (r : List Prop) : List Prop := (n <= 9223372036854775807) :: (n * b <= 140737488355328) :: r
theorem aK {n b : Nat} {r : List Prop} (h : n <= 100000000000) (k : x4 r) (hb : b <= 1000 := by decide) : x4 (aP n b r) := ⟨by omega, bO6 (Nat.mul_le_mul h hb) (by decide), k⟩
abbrev iX (x : Int) (n l : Nat) (r : List Prop) : List Prop := (0 <= x) :: (x < (l : Int)) :: (n < l) :: r
theorem iK {x : Int} {n l : Nat} {r : List Prop} (h : 0 <= x /\ x < (l : Int) /\ n < l) (k : x4 r) : x4 (iX x n l r) := ⟨h.1, h.2.1, h.2.2, k⟩
abbrev mR (js : List Nat) (l : List It) : List It := bR8 (It.ren (nth js)) l
theorem fz : O1 [] := bP7
theorem fc {a b : Bool} {r : List (Bool × Bool)} (h : a = b) (k : O1 r) : O1 ((a, b) :: r) := ⟨h, k⟩
abbrev H6 (e : b9) : b9 := b9.mk e.kind e.value e.kids
abbrev qzS (s : b7) : b7 := b7.mk s.kind s.target (b9.mk s.index.kind s.index.value s.index.kids) (b9.mk s.value.kind s.value.value s.value.kids) s.count s.body s.els
def kL (P : Program) (N m : Nat) (l : List Oper) (H : Q1) (tm : List (Nat × AV)) (S : List It) (js : List Nat) (S1 : List It) (t1 : List (Nat × AV)) := ((T5 P dkP N l H l 0 tm (v7 S) S.length).isSome && ac5 m js S1 t1, aP5 (T5 P dkP N l H l 0 tm (v7 S) S.length) js (t1.map (·.1)))
def kR (P : Program) (N : Nat) (l : List Oper) (H : Q1) (tm : List (Nat × AV)) (S : List It) (o : List Prop) (js : List Nat) (S1 : List It) (t1 : List (Nat × AV)) := (true, aW9 (T5 P dkP N l H l 0 tm (v7 S) S.length) o js S1 t1)
def kM (P : Program) (N m : Nat) (l : List Oper) (H : Q1) (ms : List Nat) (tm : List (Nat × AV)) (S : List It) (js : List Nat) (S1 : List It) (t1 : List (Nat × AV)) := (a48 l ms S.length (v7 S) (T5 P dkP N l H l 0 tm (v7 S) S.length) && ac5 m js S1 t1, aP5 (T5 P dkP N l H l 0 tm (v7 S) S.length) js (t1.map (·.1)))
theorem M7 {P : Program} {c : r7} {fn : Func} {code : Code} (N : Nat) (hf : P.funcs[c.f]? = some fn) (S : List It) (tm : List (Nat × AV)) (k : ∀ {ι : Type} {φ ψ : Nat -> Prop} {w0 w : World} {F : ι -> Rs} {ρ0 ρ : Nat -> Value} {a : Act}, C2 φ ψ w0 F N c.pre.length ρ0 ρ S tm a w -> code.wp P (bodyPost P fn (aU5 φ ψ w0 F ρ0 c)) a w) (hb : fn.body = some code := by rfl) (hN : (fn.ntmps, c.pre, aA9 0 c.args) = (N, S, tm) := by kernel_rfl) (hw : (wfB c.pre (aA9 0 c.args) && decide (c.args.length <= N)) = true := by kernel_rfl) : c.ok P := by
 simp only [Prod.mk.injEq] at hN
 obtain ⟨h1, h2, h3⟩ := hN
 exact be6 N hf hb h1 hw fun φ ψ w0 w F ρ0 ρ a G => k (ρ := ρ) (G.as S tm h2 h3)
def aT (x y : List (Nat × AV)) : List (Nat × AV) := x ++ y.filter fun p => !(x.any fun q => natEq q.1 p.1)
def HH (P : Program) (H : Q1) : Prop := (∀ i c τ, K5 H.calls i = some (c, τ) -> c.ok P) /\ O1 H.facts
theorem m0 {P : Program} : HH P ⟨[], [], []⟩ := ⟨af5, bP7⟩
theorem x8 {P : Program} {c : r7} (i : Nat) (σ : List Nat) (h : c.ok P) : HH P ⟨[(i, c, σ)], [], []⟩ := ⟨aA0 h af5, bP7⟩
theorem D7 {P : Program} {f : List (Bool × Bool)} (h : O1 f) (u : List (Nat × Nat)) : HH P ⟨[], f, u⟩ := ⟨af5, h⟩
def Cs (P : Program) (r : List (Nat × r7 × List Nat)) : Prop := ∀ i c τ, K5 r i = some (c, τ) -> c.ok P
theorem E2 {P : Program} : Cs P [] := af5
theorem v6 {P : Program} {c : r7} {r : List (Nat × r7 × List Nat)} (i : Nat) (σ : List Nat) (h : c.ok P) (k : Cs P r) : Cs P ((i, c, σ) :: r) := aA0 h k
theorem E3 {P : Program} {r : List (Nat × r7 × List Nat)} {f : List (Bool × Bool)} (h : Cs P r) (h' : O1 f) (u : List (Nat × Nat)) : HH P ⟨r, f, u⟩ := ⟨h, h'⟩
section
variable {ι : Type} {P : Program} {φ ψ : Nat -> Prop} {w0 w : World} {F : ι -> Rs} {N m : Nat} {ρ0 ρ : Nat -> Value} {S : List It} {tm : List (Nat × AV)} {a : Act} {l : List Oper} {id : Nat} {Q : Exit -> Act -> World -> Prop} {H : Q1}
theorem K9 (G : C2 φ ψ w0 F N m ρ0 ρ S tm a w) (hh : HH P H) (js : List Nat) (S1 : List It) (t1 : List (Nat × AV)) (o : List Prop) (ho : x4 o) (k : ∀ {ρ' a' w'}, C2 φ ψ w0 F N m ρ0 ρ' S1 t1 a' w' -> Q .normal a' w') (h : kL P N m l H tm S js S1 t1 = kR P N l H tm S o js S1 t1 := by kernel_rfl) : (Code.region id l.toArray false).wp P Q a w := rs1 (dk := dkP) G H hh.1 hh.2 js S1 t1 o ho (fun _ _ _ => k) (congrArg Prod.fst h) (congrArg Prod.snd h)
theorem r8 (G : C2 φ ψ w0 F N m ρ0 ρ S tm a w) (hh : HH P H) (js : List Nat) (S1 : List It) (t1 : List (Nat × AV)) (k : ∀ {ρ' a' w'}, C2 φ ψ w0 F N m ρ0 ρ' S1 t1 a' w' -> Q .normal a' w') (h : kL P N m l H tm S js S1 t1 = kR P N l H tm S [] js S1 t1 := by kernel_rfl) : (Code.region id l.toArray false).wp P Q a w := K9 G hh js S1 t1 [] bP7 k h
theorem rB1 (G : C2 φ ψ w0 F N m ρ0 ρ S tm a w) (hh : HH P H) (t1 : List (Nat × AV)) (o : List Prop) (ho : x4 o) (k : ∀ {ρ' a' w'}, C2 φ ψ w0 F N m ρ0 ρ' S t1 a' w' -> Q .normal a' w') (h : kL P N m l H tm S (bS1 S.length) S t1 = kR P N l H tm S o (bS1 S.length) S t1 := by kernel_rfl) : (Code.region id l.toArray false).wp P Q a w := rs1 (dk := dkP) G H hh.1 hh.2 (bS1 S.length) S t1 o ho (fun _ _ _ => k) (congrArg Prod.fst h) (congrArg Prod.snd h)
theorem H8 (G : C2 φ ψ w0 F N m ρ0 ρ S tm a w) (hh : HH P H) (t1 : List (Nat × AV)) (k : ∀ {ρ' a' w'}, C2 φ ψ w0 F N m ρ0 ρ' S t1 a' w' -> Q .normal a' w') (h : kL P N m l H tm S (bS1 S.length) S t1 = kR P N l H tm S [] (bS1 S.length) S t1 := by kernel_rfl) : (Code.region id l.toArray false).wp P Q a w := rB1 G hh t1 [] bP7 k h
theorem L0 (G : C2 φ ψ w0 F N m ρ0 ρ S tm a w) (hh : HH P H) (t1 : List (Nat × AV)) (o : List Prop) (ho : x4 o) (k : ∀ {ρ' a' w'}, C2 φ ψ w0 F N m ρ0 ρ' S (aT t1 tm) a' w' -> Q .normal a' w') (h : kL P N m l H tm S (bS1 S.length) S (aT t1 tm) = kR P N l H tm S o (bS1 S.length) S (aT t1 tm) := by kernel_rfl) : (Code.region id l.toArray false).wp P Q a w := rs1 (dk := dkP) G H hh.1 hh.2 (bS1 S.length) S (aT t1 tm) o ho (fun _ _ _ => k) (congrArg Prod.fst h) (congrArg Prod.snd h)
theorem o0 (G : C2 φ ψ w0 F N m ρ0 ρ S tm a w) (hh : HH P H) (t1 : List (Nat × AV)) (k : ∀ {ρ' a' w'}, C2 φ ψ w0 F N m ρ0 ρ' S (aT t1 tm) a' w' -> Q .normal a' w') (h : kL P N m l H tm S (bS1 S.length) S (aT t1 tm) = kR P N l H tm S [] (bS1 S.length) S (aT t1 tm) := by kernel_rfl) : (Code.region id l.toArray false).wp P Q a w := L0 G hh t1 [] bP7 k h
theorem I4 (G : C2 φ ψ w0 F N m ρ0 ρ S tm a w) (hh : HH P H) (ms : List Nat) (js : List Nat) (S1 : List It) (t1 : List (Nat × AV)) (o : List Prop) (ho : x4 o) (k : ∀ {ρ' a' w'}, C2 φ ψ w0 F N m ρ0 ρ' S1 t1 a' w' -> Q .normal a' w') (hm : P.follows .mixedOrders = true := by kernel_rfl) (h : kM P N m l H ms tm S js S1 t1 = kR P N l H tm S o js S1 t1 := by kernel_rfl) : (Code.region id l.toArray true).wp P Q a w := rd1 (dk := dkP) G H hh.1 hh.2 ms js S1 t1 o ho (fun _ _ _ => k) hm (congrArg Prod.fst h) (congrArg Prod.snd h)
theorem as1 (G : C2 φ ψ w0 F N m ρ0 ρ S tm a w) (hh : HH P H) (ms : List Nat) (js : List Nat) (S1 : List It) (t1 : List (Nat × AV)) (k : ∀ {ρ' a' w'}, C2 φ ψ w0 F N m ρ0 ρ' S1 t1 a' w' -> Q .normal a' w') (hm : P.follows .mixedOrders = true := by kernel_rfl) (h : kM P N m l H ms tm S js S1 t1 = kR P N l H tm S [] js S1 t1 := by kernel_rfl) : (Code.region id l.toArray true).wp P Q a w := I4 G hh ms js S1 t1 [] bP7 k hm h
theorem a74 (G : C2 φ ψ w0 F N m ρ0 ρ S tm a w) (hh : HH P H) (ms : List Nat) (t1 : List (Nat × AV)) (o : List Prop) (ho : x4 o) (k : ∀ {ρ' a' w'}, C2 φ ψ w0 F N m ρ0 ρ' S (aT t1 tm) a' w' -> Q .normal a' w') (hm : P.follows .mixedOrders = true := by kernel_rfl) (h : kM P N m l H ms tm S (bS1 S.length) S (aT t1 tm) = kR P N l H tm S o (bS1 S.length) S (aT t1 tm) := by kernel_rfl) : (Code.region id l.toArray true).wp P Q a w := rd1 (dk := dkP) G H hh.1 hh.2 ms (bS1 S.length) S (aT t1 tm) o ho (fun _ _ _ => k) hm (congrArg Prod.fst h) (congrArg Prod.snd h)
theorem bo7 (G : C2 φ ψ w0 F N m ρ0 ρ S tm a w) (hh : HH P H) (ms : List Nat) (t1 : List (Nat × AV)) (k : ∀ {ρ' a' w'}, C2 φ ψ w0 F N m ρ0 ρ' S (aT t1 tm) a' w' -> Q .normal a' w') (hm : P.follows .mixedOrders = true := by kernel_rfl) (h : kM P N m l H ms tm S (bS1 S.length) S (aT t1 tm) = kR P N l H tm S [] (bS1 S.length) S (aT t1 tm) := by kernel_rfl) : (Code.region id l.toArray true).wp P Q a w := a74 G hh ms t1 [] bP7 k hm h
variable {c : Nat} {x y : Code}
theorem rcB {b : Bool} (G : C2 φ ψ w0 F N m ρ0 ρ S tm a w) (f : b = false -> y.wp P Q a w) (t : b = true -> x.wp P Q a w) (h : C3 tm c = some (.v (.bool b)) := by rfl) : (Code.cond (.tmp c) x y).wp P Q a w := ae7 G b h t f
theorem rcE {α : Type} [BEq α] [LawfulBEq α] {u v : α} (G : C2 φ ψ w0 F N m ρ0 ρ S tm a w) (f : (u == v) = false -> u ≠ v -> y.wp P Q a w) (t : (u == v) = true -> u = v -> x.wp P Q a w) (h : C3 tm c = some (.v (.bool (u == v))) := by rfl) : (Code.cond (.tmp c) x y).wp P Q a w := ae7 G _ h (fun q => t q (eq_of_beq q)) fun q => f q (ne_of_beq_false q)
theorem rcN {α : Type} [BEq α] [LawfulBEq α] {u v : α} (G : C2 φ ψ w0 F N m ρ0 ρ S tm a w) (f : (u != v) = false -> u = v -> y.wp P Q a w) (t : (u != v) = true -> u ≠ v -> x.wp P Q a w) (h : C3 tm c = some (.v (.bool (u != v))) := by rfl) : (Code.cond (.tmp c) x y).wp P Q a w := ae7 G _ h (fun q => t q (bne_iff_ne.1 q)) fun q => f q (bne_eq_false_iff_eq.1 q)
theorem rcD {p : Prop} [Decidable p] (G : C2 φ ψ w0 F N m ρ0 ρ S tm a w) (f : decide p = false -> ¬ p -> y.wp P Q a w) (t : decide p = true -> p -> x.wp P Q a w) (h : C3 tm c = some (.v (.bool (decide p))) := by rfl) : (Code.cond (.tmp c) x y).wp P Q a w := ae7 G _ h (fun q => t q (R4 q)) fun q => f q (R5 q)
end
section
variable {P : Program} {f : FuncId}
theorem L8 {args : List AV} {S : List It} {x : Value} (h : ∀ (φ : Nat -> Prop) (w : World) (ρ : Nat -> Value), (∀ i d, v7 S i = .dat d -> RD w φ d (ρ i)) -> Calls P f (AV.vals ρ args).toArray w fun e w' => e = .returned x /\ Below w.heap.size w w') : r7.ok P (N8 f args S (.v x)) := by
 intro ι φ ψ w0 w F ρ M
 refine (h (U0 φ (s6 F ρ (v7 S))) w ρ fun i d hi => M.datAt hi).mono ?_
 rintro e w' ⟨rfl, hb⟩
 exact ⟨ρ, fun _ _ => rfl, rfl, M.call hb⟩
end
theorem a23 {w : World} {φ : Nat -> Prop} {d : D} {v : Value} (h : RD w φ d v) : ∃ a cap, v = .slice a d.len cap /\ d.len <= 9223372036854775807 := by
 obtain ⟨a, cap, h1, h2, h3, _⟩ := h.open
 unfold maxLen at h3
 exact ⟨a, cap, h1, by omega⟩
theorem aM0 (l : Int) : r7.ok Tryz.prog (N8 57 [iA l] [] (bA (w9 l))) :=
 L8 fun φ w ρ _ => (R7 l w).mono fun e w' h => ⟨h.1, h.2 ▸ Below.refl _ _⟩
theorem A9 (n lo hi : Int) : r7.ok Tryz.prog (N8 61 [iA n, iA lo, iA hi] [] (bA (decide (lo <= n) && decide (n <= hi)))) :=
 L8 fun φ w ρ _ => (D4 n lo hi w).mono fun e w' h => ⟨h.1, h.2 ▸ Below.refl _ _⟩
theorem ap5 (p : o6) : r7.ok Tryz.prog (N8 35 [pA 0] (pS p) (bA (F7 p.vars p.arrays))) :=
 L8 fun φ w ρ h => aI3 (ρ 0) (ρ 1) (ρ 2) _ _ w (C4.row (h 0 _ rfl)) (C4.row (h 1 _ rfl))
theorem aA5 (vs ars : List Int) : r7.ok Tryz.prog (N8 33 [.ref 0, .ref 1] [.dat (.ints vs), .dat (.ints ars)] (bA (F7 vs ars))) :=
 L8 fun φ w ρ h => (aB7 (ρ 0) (ρ 1) _ _ w (C4.row (h 0 _ rfl)) (C4.row (h 1 _ rfl))).mono fun e w' h => ⟨h.1, h.2 ▸ Below.refl _ _⟩
theorem R8 (p : o6) (e : b9) : r7.ok Tryz.prog (N8 98 [pA 0, eA e 3] (pS p ++ eS e) (bA (n7 p.vars.length p.arrays.length e))) :=
 L8 fun φ w ρ h => by
  obtain ⟨a1, c1, h1, l1⟩ := a23 (h 0 _ rfl)
  obtain ⟨a2, c2, h2, l2⟩ := a23 (h 1 _ rfl)
  simp only [AV.vals, AV.val, h1, h2]
  exact a84 a1 a2 _ c1 _ c2 (ρ 2) l1 l2 e φ _ w ⟨_, rfl, h 3 _ rfl⟩
theorem ap7 (e : b9) : r7.ok Tryz.prog (N8 99 [eA e 0] (eS e) (bA (J9 e))) :=
 L8 fun φ w ρ h => ak8 e.kind e.value (ρ 0) w
theorem ax2 (a b : List b7) : T6 (a ++ b) = T6 a + T6 b := by
 induction a with
 | nil => simp [T6]
 | cons x r ih => simp [T6, ih]; omega
theorem a81 {ss : List b7} {k : Nat} (h : k < ss.length) : T6 (ss.take (k + 1)) = T6 (ss.take k) + nS ss[k] := by
 rw [A1 _ _ h, ax2]; simp [T6]
theorem ar5 (ss : List b7) (k : Nat) : T6 (ss.take k) <= T6 ss := by
 have := ax2 (ss.take k) (ss.drop k)
 rw [List.take_append_drop] at this
 omega
theorem Z7 (s : b7) : nS s = 1 + T6 s.body + T6 s.els := by cases s; simp only [nS]; rfl
theorem T3 {nv na d : Nat} {s : b7} (h : m8 nv na (d + 1) s = true) : s.body.all (m8 nv na d) = true /\ s.els.all (m8 nv na d) = true := by
 rw [m8, bO8] at h
 obtain ⟨h1, h2⟩ := h
 unfold p8 at h1
 by_cases k3 : s.kind = 3
 ·rw [if_neg (by omega), if_neg (by omega), if_pos k3] at h2
  simp only [bO8] at h2
  exact ⟨h2.1.2, h2.2⟩
 by_cases k4 : s.kind = 4
 ·rw [if_neg (by omega), if_neg (by omega), if_neg (by omega), if_pos k4] at h2
  rw [if_pos (.inr k4), if_pos k4] at h1
  simp only [bO8, decide_eq_true_eq] at h1
  exact ⟨h2, by rw [bR4 h1.2.1.1.1.1]; rfl⟩
 rw [if_neg (by omega)] at h1
 simp only [bO8, decide_eq_true_eq] at h1
 exact ⟨by rw [bR4 h1.1.1.1]; rfl, by rw [bR4 h1.1.1.2]; rfl⟩
theorem aE1 (s : b7) : B7 s.body <= szS s /\ B7 s.els <= szS s := by
 rcases s with ⟨_, _, _, _, _, b, e⟩
 simp only [szS, b7.body, b7.els]
 omega
theorem aR7 {nv na : Nat} : ∀ {ss : List b7}, (∀ s ∈ ss, m8 nv na 1 s = true) -> T6 ss = ss.length
 | [], _ => rfl
 | s :: r, h => by
  have h1 := T3 (h s bQ4)
  have key : ∀ l : List b7, l.all (m8 nv na 0) = true -> l = [] := fun l hl => by
   cases l with
   | nil => rfl
   | cons a r => simp [m8] at hl
  have h2 := aR7 (ss := r) fun x hx => h x (bR1 _ hx)
  rw [T6, Z7, key _ h1.1, key _ h1.2, h2]
  simp [T6]; omega
end Go.Proofs.YtompcdbfongedaaGreatDoor

namespace Go.Proofs.YtompcdbfongedaaGreatDoor
open Go
def b5 (l : List UInt8) : ByteArray := ⟨l.toArray⟩
theorem l8 (l : List UInt8) : (b5 l).size = l.length := rfl
theorem E5 (l : List UInt8) : (b5 l).toList = l := by
 simp [b5, ByteArray.toList_eq]
theorem L6 (l m : List UInt8) : b5 l ++ b5 m = b5 (l ++ m) := by
 apply ByteArray.ext; simp [b5]
def stT (k t c : Int) (ix v b e : List UInt8) : List UInt8 :=
 if k = 1 then [UInt8.ofNat (97 + t.toNat)] ++ [58, 61] ++ v ++ [59]
 else if k = 5 then [UInt8.ofNat (97 + t.toNat)] ++ [33, 61] ++ v ++ [59]
 else if k = 2 then [UInt8.ofNat (80 + t.toNat)] ++ [91] ++ ix ++ [93, 58, 61] ++ v ++ [59]
 else if k = 3 then [105, 102] ++ v ++ [123] ++ b ++ [125, 123] ++ e ++ [125]
 else [114, 101, 112, 101, 97, 116] ++ Lib.decDigits c.toNat ++ [123] ++ b ++ [125]
mutual
def Q6 : b7 -> List UInt8
 | ⟨k, t, ix, v, c, b, e⟩ => stT k t c (k6 ix) (k6 v) (f9 b) (f9 e)
def f9 : List b7 -> List UInt8
 | [] => []
 | s :: r => Q6 s ++ f9 r
end
theorem x9 (s : b7) : Q6 s = stT s.kind s.target s.count (k6 s.index) (k6 s.value) (f9 s.body) (f9 s.els) := by
 cases s; simp only [Q6]; rfl
theorem aH7 (a b : List b7) : f9 (a ++ b) = f9 a ++ f9 b := by
 induction a with
 | nil => simp [f9]
 | cons x r ih => simp [f9, ih]
theorem H3 {ss : List b7} {k : Nat} (h : k < ss.length) : f9 (ss.take (k + 1)) = f9 (ss.take k) ++ Q6 (ss.getD k bP0) := by
 rw [D0 ss k h, aH7, t7 h]; simp [f9]
theorem G8 {nv na : Nat} {e : b9} (h : n7 nv na e = true) : (k6 e).length <= 8192 := by
 unfold n7 at h
 simp only [bO8] at h
 exact o9 nv na 5 e h.1
theorem bn3 {k t c : Int} {ix v b e : List UInt8} (hi : k = 2 -> ix.length <= 8192) (hv : k ≠ 4 -> v.length <= 8192) (hc : k = 4 -> c < 1000) (hk : k = 1 \/ k = 2 \/ k = 3 \/ k = 4 \/ k = 5) :
  (stT k t c ix v b e).length <= 20000 + b.length + e.length := by
 unfold stT
 repeat' split
 all_goals (simp only [bQ7, bO9, bP2])
 ·have := hv (by omega); omega
 ·have := hv (by omega); omega
 ·have := hv (by omega); have := hi (by omega); omega
 ·have := hv (by omega); omega
 have := af3 (n := c.toNat) (by have := hc (by omega); omega); omega
theorem B8 {nv na d : Nat} {s : b7} (h : m8 nv na (d + 1) s = true) : (s.kind = 1 \/ s.kind = 2 \/ s.kind = 3 \/ s.kind = 4 \/ s.kind = 5) /\
    ((s.kind = 1 \/ s.kind = 5) -> 0 <= s.target /\ s.target < nv) /\ (s.kind = 2 -> 0 <= s.target /\ s.target < na /\ n7 nv na s.index = true /\ J9 s.index = true) /\
    (s.kind ≠ 4 -> n7 nv na s.value = true) /\ (s.kind = 4 -> 1 <= s.count /\ s.count <= 3) /\ (∀ x ∈ s.body, m8 nv na d x = true) /\ (∀ x ∈ s.els, m8 nv na d x = true) := by
  have hb := T3 h
  rw [m8, bO8] at h
  obtain ⟨h0, h⟩ := h
  refine ⟨?_, ?_, ?_, ?_, ?_, bQ0.1 hb.1, bQ0.1 hb.2⟩
  all_goals
    by_cases k1 : s.kind = 1 \/ s.kind = 5
    · rw [if_pos k1] at h
      simp only [bO8, decide_eq_true_eq] at h
      first | omega | exact fun _ => ⟨h.1.1, h.1.2⟩ | (intro h2; omega) | exact fun _ => h.2
    rw [if_neg k1] at h
    by_cases k2 : s.kind = 2
    · rw [if_pos k2] at h
      simp only [bO8, decide_eq_true_eq] at h
      first | omega | exact fun _ => ⟨h.1.1.1.1, h.1.1.1.2, h.1.1.2, h.1.2⟩ | (intro h2; omega) | exact fun _ => h.2
    rw [if_neg k2] at h
    by_cases k3 : s.kind = 3
    · rw [if_pos k3] at h
      simp only [bO8] at h
      first | omega | (intro h2; omega) | exact fun _ => h.1.1
    rw [if_neg k3] at h
    by_cases k4 : s.kind = 4
    · first
        | omega
        | (intro h2; omega)
        | (intro _
           unfold p8 at h0
           rw [if_pos (.inr k4), if_pos k4] at h0
           simp only [bO8, decide_eq_true_eq] at h0
           exact ⟨h0.2.1.1.1.2, h0.2.1.1.2⟩)
    rw [if_neg k4] at h; cases h
mutual
theorem bc6 (nv na : Nat) : ∀ (d : Nat) (s : b7), m8 nv na d s = true -> (Q6 s).length <= 20000 * nS s
 | 0, s, h => by simp [m8] at h
 | d + 1, s, h => by
  obtain ⟨h1, h2, h3, h4, h5, h6, h7⟩ := B8 h
  have b1 := G7 nv na d s.body h6
  have b2 := G7 nv na d s.els h7
  have hl := bn3 (k := s.kind) (t := s.target) (c := s.count) (ix := k6 s.index) (v := k6 s.value) (b := f9 s.body) (e := f9 s.els) (fun hk => G8 (h3 hk).2.2.1) (fun hk => G8 (h4 hk)) (fun hk => by have := h5 hk; omega) h1
  rw [x9, Z7]
  omega
termination_by d s => (d, 0)
theorem G7 (nv na : Nat) : ∀ (d : Nat) (ss : List b7), (∀ s ∈ ss, m8 nv na d s = true) -> (f9 ss).length <= 20000 * T6 ss
 | _, [], _ => by simp [f9]
 | d, s :: r, h => by
  have b1 := bc6 nv na d s (h s bQ4)
  have b2 := G7 nv na d r fun x hx => h x (bR1 _ hx)
  rw [f9, T6, bQ7]
  omega
termination_by d ss => (d, ss.length + 1)
end
def aK9 (l : Int) : UInt8 := [76, 72, 85, 88].getD l.toNat 0
def s2 (ls : List Int) : List UInt8 := ls.map aK9
theorem ay3 {ls : List Int} {k : Nat} (h : k < ls.length) : s2 (ls.take (k + 1)) = s2 (ls.take k) ++ [aK9 (ls.getD k 0)] := by
 unfold s2
 rw [D0 ls k h, List.map_append, t7 h]; rfl
def O7 (p : o6) : List UInt8 := s2 p.vars ++ [47] ++ s2 p.arrays ++ [47] ++ f9 p.body
def aa3 (p : o6) : List UInt8 := if A7 p then O7 p else []
def I5 (x : UInt8) : List UInt8 -> Int -> Int
 | [], _ => -1
 | y :: r, i => if x = y then i else I5 x r (i + 1)
def x5 (s : List UInt8) (n : Int) (w : List UInt8) : Bool := decide (0 <= n) && (decide (n + w.length <= s.length) && ((s.drop n.toNat).take w.length == w))
def k8 (s : List UInt8) (n : Int) (w : List UInt8) : Int := if x5 s n w then n + w.length else -1
def v8 (s : List UInt8) (n : Int) (ls : List UInt8) : Int := if n < 0 \/ n >= s.length then -1 else I5 (s.getD n.toNat 0) ls 0
abbrev as9 : List UInt8 := [48, 49, 50, 51, 52, 53, 54, 55, 56, 57]
abbrev aH6 : List UInt8 := [97, 98, 99, 100, 101, 102, 103, 104, 105, 106, 107, 108]
abbrev aZ8 : List UInt8 := [80, 81]
abbrev opW : List UInt8 := [43, 45, 42, 38, 94, 61, 60]
def dgL (s : List UInt8) (n : Int) : Nat -> Int × Int -> Int × Int
 | 0, x => x
 | f + 1, x => if x.2 < 3 /\ v8 s (n + x.2) as9 >= 0 then dgL s n f (x.1 * 10 + v8 s (n + x.2) as9, x.2 + 1) else x
def J7 (s : List UInt8) (n : Int) : Int × Int := if (dgL s n 3 (0, 0)).2 = 0 then (0, -1) else ((dgL s n 3 (0, 0)).1, n + (dgL s n 3 (0, 0)).2)
def pE (s : List UInt8) : Nat -> Int -> b9 × Int
 | 0, _ => (⟨0, 0, []⟩, -1)
 | d + 1, n => if n < 0 then (⟨0, 0, []⟩, -1) else
  if v8 s n aH6 >= 0 then (⟨2, v8 s n aH6, []⟩, n + 1) else
  if v8 s n aZ8 >= 0 then (⟨3, v8 s n aZ8, [(pE s d (k8 s (n + 1) [91])).1]⟩, k8 s (pE s d (k8 s (n + 1) [91])).2 [93]) else
  if x5 s n [40] = false then (⟨1, (J7 s n).1, []⟩, (J7 s n).2) else
  let a := pE s d (k8 s n [40])
  if x5 s a.2 [63] then
   let b := pE s d (k8 s a.2 [63])
   let c := pE s d (k8 s b.2 [58])
   (⟨11, 0, [a.1, b.1, c.1]⟩, k8 s c.2 [41])
  else if v8 s a.2 opW < 0 then (⟨0, 0, []⟩, -1) else
   let b := pE s d (a.2 + 1)
   (⟨4 + v8 s a.2 opW, 0, [a.1, b.1]⟩, k8 s b.2 [41])
abbrev zE : b9 := ⟨0, 0, []⟩
def aJ7 (s : List UInt8) (B : Int -> List b7 × Int) (n : Int) : b7 × Int :=
 if x5 s n [105, 102] then
  let v := pE s 5 (k8 s n [105, 102])
  let b := B (k8 s v.2 [123])
  let e := B (k8 s b.2 [125, 123])
  (⟨3, 0, zE, v.1, 0, b.1, e.1⟩, k8 s e.2 [125])
 else if x5 s n [114, 101, 112, 101, 97, 116] then
  let c := J7 s (k8 s n [114, 101, 112, 101, 97, 116])
  let b := B (k8 s c.2 [123])
  (⟨4, 0, zE, zE, c.1, b.1, []⟩, k8 s b.2 [125])
 else if v8 s n aZ8 >= 0 then
  let i := pE s 1 (k8 s (n + 1) [91])
  let v := pE s 5 (k8 s i.2 [93, 58, 61])
  (⟨2, v8 s n aZ8, i.1, v.1, 0, [], []⟩, k8 s v.2 [59])
 else if v8 s n aH6 < 0 then (⟨0, v8 s n aH6, zE, zE, 0, [], []⟩, -1)
 else if x5 s (n + 1) [33, 61] then
  let v := pE s 5 (k8 s (n + 1) [33, 61])
  (⟨5, v8 s n aH6, zE, v.1, 0, [], []⟩, k8 s v.2 [59])
 else
  let v := pE s 5 (k8 s (n + 1) [58, 61])
  (⟨1, v8 s n aH6, zE, v.1, 0, [], []⟩, k8 s v.2 [59])
def pBk (s : List UInt8) (R : Int -> b7 × Int) : Nat -> List b7 × Int -> List b7 × Int
 | 0, x => x
 | f + 1, x => if 0 <= x.2 /\ x.2 < s.length /\ x5 s x.2 [125] = false then
   (if x.1.length + 1 > 60 then (x.1 ++ [(R x.2).1], -1) else pBk s R f (x.1 ++ [(R x.2).1], (R x.2).2)) else x
def C5 (s : List UInt8) : Nat -> Int -> b7 × Int
 | 0, _ => (⟨0, 0, zE, zE, 0, [], []⟩, -1)
 | d + 1, n => aJ7 s (fun n => pBk s (C5 s d) 61 ([], n)) n
def E4 (s : List UInt8) (d : Nat) (n : Int) : List b7 × Int := pBk s (C5 s d) 61 ([], n)
section
variable {a b r w : List UInt8} {x : UInt8}
theorem bw1 (h : (b.take w.length == w) = true) : x5 (a ++ b) (a.length : Int) w = true := by
 unfold x5
 simp only [bO8, decide_eq_true_eq, Int.toNat_natCast, List.drop_left, bQ7]
 refine ⟨by omega, ?_, h⟩
 have h1 : (b.take w.length).length = w.length := by rw [eq_of_beq h]
 rw [List.length_take] at h1
 omega
theorem bH7 (h : (b.take w.length == w) = false) : x5 (a ++ b) (a.length : Int) w = false := by
 unfold x5
 simp only [Int.toNat_natCast, List.drop_left, h, Bool.and_false]
theorem bE4 : k8 (a ++ (w ++ r)) (a.length : Int) w = (a.length : Int) + w.length := by
 unfold k8
 rw [if_pos (bw1 (by simp))]
theorem aX4 (ls : List UInt8) : v8 (a ++ x :: r) (a.length : Int) ls = I5 x ls 0 := by
 unfold v8
 rw [if_neg (by simp only [bQ7, bO9]; omega)]
 simp
theorem bA7 (ls : List UInt8) : v8 a (a.length : Int) ls = -1 := by
 unfold v8
 rw [if_pos (.inr (by omega))]
end
def ab7 (r : List UInt8) : Prop := ∀ x ∈ r.head?, I5 x as9 0 = -1
theorem bA6 {a r : List UInt8} (h : ab7 r) : v8 (a ++ r) (a.length : Int) as9 = -1 := by
 cases r with
 | nil => rw [List.append_nil]; exact bA7 _
 | cons x r => rw [aX4]; exact h x rfl
theorem bk6 : ∀ d : Fin 10, I5 (UInt8.ofNat (48 + d)) as9 0 = (d : Nat) /\ I5 (UInt8.ofNat (48 + d)) aH6 0 = -1 /\ I5 (UInt8.ofNat (48 + d)) aZ8 0 = -1 /\ UInt8.ofNat (48 + d) ≠ 40 := by decide +kernel
theorem bc1 : ∀ v : Fin 12, I5 (UInt8.ofNat (97 + v)) aH6 0 = (v : Nat) /\ I5 (UInt8.ofNat (97 + v)) aZ8 0 = -1 /\ UInt8.ofNat (97 + v) ≠ 114 := by decide +kernel
theorem bx0 : ∀ v : Fin 2, I5 (UInt8.ofNat (80 + v)) aZ8 0 = (v : Nat) /\ I5 (UInt8.ofNat (80 + v)) aH6 0 = -1 /\ UInt8.ofNat (80 + v) ≠ 114 /\ UInt8.ofNat (80 + v) ≠ 105 := by decide +kernel
theorem bu9 : ∀ k : Fin 7, I5 (t6 (4 + k)) opW 0 = (k : Nat) /\ t6 (4 + k) ≠ 63 /\ I5 (t6 (4 + k)) as9 0 = -1 := by decide +kernel
theorem a55 {n : Nat} (h : n < 10) : Lib.decDigits n = [UInt8.ofNat (48 + n)] := by rw [Lib.decDigits, dif_pos (by omega)]
theorem a54 {n : Nat} (h : 9 < n) (h2 : n < 100) : Lib.decDigits n = [UInt8.ofNat (48 + n / 10), UInt8.ofNat (48 + n % 10)] := by
 rw [Lib.decDigits, dif_neg (by omega), a55 (by omega)]; rfl
theorem bk8 {n : Nat} (h : 99 < n) (h2 : n < 1000) : Lib.decDigits n = [UInt8.ofNat (48 + n / 10 / 10), UInt8.ofNat (48 + n / 10 % 10), UInt8.ofNat (48 + n % 10)] := by
 rw [Lib.decDigits, dif_neg (by omega), a54 (by omega) (by omega)]; rfl
theorem aG0 {d : Nat} (h : d < 10) : I5 (UInt8.ofNat (48 + d)) as9 0 = d := (bk6 ⟨d, h⟩).1
theorem az8 {s : List UInt8} {n : Int} {f : Nat} {x : Int × Int} (h : ¬ x.2 < 3 \/ v8 s (n + x.2) as9 < 0) : dgL s n f x = x := by
 cases f with
 | zero => rfl
 | succ f => rw [dgL, if_neg (by omega)]
theorem ao8 {s : List UInt8} {n : Int} {f : Nat} {x : Int × Int} {d : Int} (h : x.2 < 3) (hd : v8 s (n + x.2) as9 = d) (h0 : 0 <= d) : dgL s n (f + 1) x = dgL s n f (x.1 * 10 + d, x.2 + 1) := by
 rw [dgL, if_pos ⟨h, by omega⟩, hd]
theorem aF1 {a p r : List UInt8} {x : UInt8} {n : Int} (hn : n = (a.length : Int) + p.length) (ls : List UInt8) : v8 (a ++ (p ++ x :: r)) n ls = I5 x ls 0 := by
 have := aX4 (a := a ++ p) (x := x) (r := r) ls
 rw [bR5, bQ7] at this
 rw [hn, <- this]; rfl
theorem bg7 {a p r : List UInt8} {n : Int} (hr : ab7 r) (hn : n = (a.length : Int) + p.length) : v8 (a ++ (p ++ r)) n as9 < 0 := by
 have := bA6 (a := a ++ p) hr
 rw [bR5, bQ7] at this
 rw [hn, show (a.length : Int) + p.length = ((a.length + p.length : Nat) : Int) from rfl, this]; decide
theorem bC8 {n : Nat} (hn : n < 1000) (a r : List UInt8) (hr : ab7 r) : J7 (a ++ (Lib.decDigits n ++ r)) (a.length : Int) = ((n : Int), (a.length : Int) + (Lib.decDigits n).length) := by
 have key : dgL (a ++ (Lib.decDigits n ++ r)) (a.length : Int) 3 (0, 0) = ((n : Int), ((Lib.decDigits n).length : Int)) := by
  rcases bR6 n 10 with h1 | h1
  ·rw [a55 h1]
   refine Eq.trans (ao8 (d := (n : Nat)) (by simp) (by exact (aF1 (p := []) (by simp) _).trans (aG0 h1)) (by omega)) ?_
   refine Eq.trans (az8 (.inr (by exact bg7 hr (by simp)))) ?_
   simp
  rcases bR6 n 100 with h2 | h2
  ·rw [a54 (by omega) h2]
   refine Eq.trans (ao8 (d := (n / 10 : Nat)) (by simp) (by exact (aF1 (p := []) (by simp) _).trans (aG0 (by omega))) (by omega)) ?_
   refine Eq.trans (ao8 (d := (n % 10 : Nat)) (by simp) (by exact (aF1 (p := [UInt8.ofNat (48 + n / 10)]) (by simp) _).trans (aG0 (by omega))) (by omega)) ?_
   refine Eq.trans (az8 (.inr (by exact bg7 hr (by simp)))) ?_
   simp
   omega
  rw [bk8 (by omega) hn]
  refine Eq.trans (ao8 (d := (n / 10 / 10 : Nat)) (by simp) (by exact (aF1 (p := []) (by simp) _).trans (aG0 (by omega))) (by omega)) ?_
  refine Eq.trans (ao8 (d := (n / 10 % 10 : Nat)) (by simp) (by exact (aF1 (p := [UInt8.ofNat (48 + n / 10 / 10)]) (by simp) _).trans (aG0 (by omega))) (by omega)) ?_
  refine Eq.trans (ao8 (d := (n % 10 : Nat)) (by simp) (by exact (aF1 (p := [UInt8.ofNat (48 + n / 10 / 10), UInt8.ofNat (48 + n / 10 % 10)]) (by simp) _).trans (aG0 (by omega))) (by omega)) ?_
  simp only [dgL]
  simp
  omega
 unfold J7
 rw [key]
 have hl : (Lib.decDigits n).length ≠ 0 := by
  rw [Lib.decDigits]; split <;> simp
 rw [if_neg (by simpa using hl)]
def At (s : List UInt8) (n : Int) (b : List UInt8) : Prop := ∃ a, s = a ++ b /\ n = (a.length : Int)
section
variable {s b r w p : List UInt8} {n : Int} {x : UInt8}
theorem At.skip (h : At s n (p ++ b)) : At s (n + p.length) b := by
 obtain ⟨a, h1, h2⟩ := h
 exact ⟨a ++ p, by rw [h1, bR5], by rw [h2, bQ7]; rfl⟩
theorem At.skip1 (h : At s n (x :: b)) : At s (n + 1) b := At.skip (p := [x]) h
theorem At.le (h : At s n b) : 0 <= n /\ n + b.length = s.length := by
 obtain ⟨a, h1, h2⟩ := h
 rw [h1, h2, bQ7]; omega
theorem At.has (h : At s n b) (hw : (b.take w.length == w) = true) : x5 s n w = true := by
 obtain ⟨a, rfl, rfl⟩ := h; exact bw1 hw
theorem At.hasN (h : At s n b) (hw : (b.take w.length == w) = false) : x5 s n w = false := by
 obtain ⟨a, rfl, rfl⟩ := h; exact bH7 hw
theorem At.sk (h : At s n (w ++ r)) : k8 s n w = n + w.length := by
 obtain ⟨a, rfl, rfl⟩ := h; exact bE4
theorem At.nm (h : At s n (x :: r)) (ls : List UInt8) : v8 s n ls = I5 x ls 0 := by
 obtain ⟨a, rfl, rfl⟩ := h; exact aX4 ls
theorem At.dg {m : Nat} (h : At s n (Lib.decDigits m ++ r)) (hm : m < 1000) (hr : ab7 r) : J7 s n = ((m : Int), n + (Lib.decDigits m).length) := by
 obtain ⟨a, rfl, rfl⟩ := h; exact bC8 hm a r hr
theorem At.sk2 (h : At s n (w ++ r)) : At s (k8 s n w) r := by rw [h.sk]; exact h.skip
end
theorem aS5 (m : Nat) (h : m < 1000) : ∃ (d : Nat) (t : List UInt8), d < 10 /\ Lib.decDigits m = UInt8.ofNat (48 + d) :: t := by
 rcases bR6 m 10 with h1 | h1
 ·exact ⟨m, [], h1, a55 h1⟩
 rcases bR6 m 100 with h2 | h2
 ·exact ⟨m / 10, _, by omega, a54 (by omega) h2⟩
 exact ⟨m / 10 / 10, _, by omega, bk8 (by omega) h⟩
theorem s5 {x : UInt8} (h : I5 x as9 0 = -1) (r : List UInt8) : ab7 (x :: r) := fun y hy => by
 simp at hy; subst hy; exact h
theorem b9.mk_eq {e : b9} {k n : Int} {ks : List b9} (h1 : e.kind = k) (h2 : e.value = n) (h3 : e.kids = ks) : (⟨k, n, ks⟩ : b9) = e := by
 subst h1 h2 h3; cases e; rfl
theorem bv5 {ks : List b9} (h : ks.length = 1) : ∃ x, ks = [x] := List.length_eq_one_iff.1 h
theorem bv4 {ks : List b9} (h : ks.length = 2) : ∃ x y, ks = [x, y] := by
 match ks, h with
 | [x, y], _ => exact ⟨x, y, rfl⟩
theorem bv3 {ks : List b9} (h : ks.length = 3) : ∃ x y z, ks = [x, y, z] := by
 match ks, h with
 | [x, y, z], _ => exact ⟨x, y, z, rfl⟩
theorem ar3 (nv na : Nat) (hnv : nv <= 12) (hna : na <= 2) : ∀ (d : Nat) (e : b9), m9 nv na d e = true -> ∀ (s r : List UInt8) (n : Int), At s n (k6 e ++ r) -> ab7 r -> pE s d n = (e, n + (k6 e).length)
 | 0, e, h => by simp [m9] at h
 | d + 1, e, h => by
  intro s r n hat hr
  have hk := (K0 h).2
  have hn : D2 nv na e = true := by
   unfold m9 at h
   simp only [bO8] at h
   exact h.1.1
  obtain ⟨hl, hv0, hvl⟩ := J8 hn
  obtain ⟨m, hm⟩ : ∃ m : Nat, e.value = m := ⟨e.value.toNat, by omega⟩
  have hn0 := hat.le.1
  have ht := X9 e
  rw [hm] at hvl ht
  have hK : e.kind = 1 \/ e.kind = 2 \/ e.kind = 3 \/ (4 <= e.kind /\ e.kind <= 10) \/ e.kind = 11 := by
   unfold s7 at hl
   split at hl
   ·omega
   split at hl
   ·omega
   split at hl
   ·omega
   split at hl <;> omega
  rw [pE, if_neg (by omega)]
  rcases hK with k1 | k2 | k3 | k4 | k5
  ·rw [k1] at hvl ht
   have hm' : m < 256 := by simp [A8] at hvl; omega
   have ht' : k6 e = Lib.decDigits m := ht
   rw [ht'] at hat ⊢
   obtain ⟨dd, t, hd, hdt⟩ := aS5 m (by omega)
   have hat2 := hat
   rw [hdt, List.cons_append] at hat2
   obtain ⟨f1, f2, f3, f4⟩ := bk6 ⟨dd, hd⟩
   rw [if_neg (by rw [hat2.nm, f2]; decide), if_neg (by rw [hat2.nm, f3]; decide), if_pos (hat2.hasN (by simpa using f4)), hat.dg (by omega) hr]
   have e0 : e.kids = [] := by
    rw [k1] at hl; simp [s7] at hl; exact hl
   rw [b9.mk_eq k1 hm e0]
  ·rw [k2] at hvl ht
   have hm' : m < 12 := by simp [A8] at hvl; omega
   have ht' : k6 e = [UInt8.ofNat (97 + m)] := ht
   rw [ht'] at hat ⊢
   obtain ⟨f1, f2, f3⟩ := bc1 ⟨m, hm'⟩
   have hat2 : At s n (UInt8.ofNat (97 + m) :: r) := hat
   rw [hat2.nm, f1, if_pos (by simp)]
   have e0 : e.kids = [] := by
    rw [k2] at hl; simp [s7] at hl; exact hl
   rw [b9.mk_eq k2 hm e0]; rfl
  ·rw [k3] at hvl ht
   have hm' : m < 2 := by simp [A8] at hvl; omega
   obtain ⟨x, hx⟩ := bv5 (ks := e.kids) (by rw [k3] at hl; simp [s7] at hl; omega)
   have ht' : k6 e = [UInt8.ofNat (80 + m)] ++ [91] ++ k6 x ++ [93] := by rw [ht, hx]; rfl
   rw [ht'] at hat ⊢
   obtain ⟨f1, f2, f3⟩ := bx0 ⟨m, hm'⟩
   have hat2 : At s n (UInt8.ofNat (80 + m) :: ([91] ++ (k6 x ++ ([93] ++ r)))) := by simpa using hat
   rw [hat2.nm, hat2.nm, f2, f1, if_neg (by decide), if_pos (by simp)]
   have h1 := hat2.skip1
   have h2 := h1.sk2
   have h3 := ar3 nv na hnv hna d x (hk x (by rw [hx]; simp)) _ _ _ h2 (s5 (by decide) _)
   rw [h3]
   have h4 := h2.skip
   rw [h4.sk, h1.sk, b9.mk_eq k3 hm hx]
   simp; omega
  ·obtain ⟨x, y, hx⟩ := bv4 (ks := e.kids) (by
    unfold s7 at hl
    rw [if_neg (by omega), if_neg (by omega), if_pos (by omega)] at hl; omega)
   have ht' : k6 e = [40] ++ k6 x ++ [t6 e.kind] ++ k6 y ++ [41] := by
    rw [ht, ar4, if_neg (by omega), if_neg (by omega), if_neg (by omega), if_neg (by omega), hx]; rfl
   have hm0 : m = 0 := by
    unfold A8 at hvl
    rw [if_neg (by omega), if_neg (by omega), if_neg (by omega)] at hvl; omega
   obtain ⟨j, hj, hj7⟩ : ∃ j : Nat, e.kind = 4 + (j : Int) /\ j < 7 := ⟨(e.kind - 4).toNat, by omega, by omega⟩
   obtain ⟨f1, f2, f3⟩ := bu9 ⟨j, hj7⟩
   rw [ht'] at hat ⊢
   have hat2 : At s n ([40] ++ (k6 x ++ ([t6 e.kind] ++ (k6 y ++ ([41] ++ r))))) := by simpa using hat
   have hat3 : At s n (40 :: (k6 x ++ ([t6 e.kind] ++ (k6 y ++ ([41] ++ r))))) := hat2
   rw [hat3.nm, hat3.nm, if_neg (by decide), if_neg (by decide), if_neg (by rw [hat3.has (w := [40]) (by simp)]; decide)]
   have h2 := hat2.sk2
   have hf : I5 (t6 e.kind) as9 0 = -1 := by rw [hj]; exact f3
   have h3 := ar3 nv na hnv hna d x (hk x (by rw [hx]; simp)) _ _ _ h2 (s5 hf _)
   rw [h3]
   dsimp only
   have h4 := h2.skip
   have h4' : At s (k8 s n [40] + (k6 x).length) (t6 e.kind :: (k6 y ++ ([41] ++ r))) := h4
   have f2' : t6 e.kind ≠ 63 := by rw [hj]; exact f2
   have f1' : I5 (t6 e.kind) opW 0 = j := by rw [hj]; exact f1
   rw [if_neg (by rw [h4'.hasN (w := [63]) (by simpa using f2')]; decide), h4'.nm, f1', if_neg (by omega)]
   have h5 := h4'.skip1
   have h6 := ar3 nv na hnv hna d y (hk y (by rw [hx]; simp)) _ _ _ h5 (s5 (by decide) _)
   rw [h6]
   have h7 := h5.skip
   rw [h7.sk, hat2.sk, b9.mk_eq (e := e) hj (by rw [hm, hm0]; rfl) hx]
   simp; omega
  obtain ⟨x, y, z, hx⟩ := bv3 (ks := e.kids) (by
   unfold s7 at hl
   rw [if_neg (by omega), if_neg (by omega), if_neg (by omega), if_pos (by omega)] at hl; omega)
  have ht' : k6 e = [40] ++ k6 x ++ [63] ++ k6 y ++ [58] ++ k6 z ++ [41] := by
   rw [ht, ar4, if_neg (by omega), if_neg (by omega), if_neg (by omega), if_pos (by omega), hx]; rfl
  have hm0 : m = 0 := by
   unfold A8 at hvl
   rw [if_neg (by omega), if_neg (by omega), if_neg (by omega)] at hvl; omega
  rw [ht'] at hat ⊢
  have hat2 : At s n ([40] ++ (k6 x ++ ([63] ++ (k6 y ++ ([58] ++ (k6 z ++ ([41] ++ r))))))) := by simpa using hat
  have hat3 : At s n (40 :: (k6 x ++ ([63] ++ (k6 y ++ ([58] ++ (k6 z ++ ([41] ++ r))))))) := hat2
  rw [hat3.nm, hat3.nm, if_neg (by decide), if_neg (by decide), if_neg (by rw [hat3.has (w := [40]) (by simp)]; decide)]
  have h2 := hat2.sk2
  have h3 := ar3 nv na hnv hna d x (hk x (by rw [hx]; simp)) _ _ _ h2 (s5 (by decide) _)
  rw [h3]
  dsimp only
  have h4 := h2.skip
  rw [if_pos (h4.has (w := [63]) (by simp))]
  have h5 := h4.sk2
  have h6 := ar3 nv na hnv hna d y (hk y (by rw [hx]; simp)) _ _ _ h5 (s5 (by decide) _)
  rw [h6]
  dsimp only
  have h7 := h5.skip
  have h8 := h7.sk2
  have h9 := ar3 nv na hnv hna d z (hk z (by rw [hx]; simp)) _ _ _ h8 (s5 (by decide) _)
  rw [h9]
  dsimp only
  have h10 := h8.skip
  rw [h10.sk, h7.sk, h4.sk, hat2.sk, b9.mk_eq (e := e) k5 (by rw [hm, hm0]; rfl) hx]
  simp; omega
theorem b7.mk_eq {s : b7} {k t c : Int} {i v : b9} {b e : List b7} (h1 : s.kind = k) (h2 : s.target = t) (h3 : s.index = i) (h4 : s.value = v) (h5 : s.count = c) (h6 : s.body = b) (h7 : s.els = e) : (⟨k, t, i, v, c, b, e⟩ : b7) = s := by
 subst h1 h2 h3 h4 h5 h6 h7; cases s; rfl
theorem ak1 {e : b9} (h : noneB e = true) : e = zE := by
 unfold noneB at h
 simp only [bO8, decide_eq_true_eq] at h
 exact (b9.mk_eq h.1.1 h.1.2 (bR4 h.2)).symm
section
variable {s : b7} (h : p8 s = true)
include h
theorem a24 (hk : s.kind = 1 \/ s.kind = 5) : s.index = zE /\ s.count = 0 /\ s.body = [] /\ s.els = [] := by
 unfold p8 at h
 rw [if_neg (by omega)] at h
 simp only [bO8, Bool.or_eq_true, decide_eq_true_eq] at h
 obtain ⟨⟨⟨h1, h2⟩, h3⟩, h4⟩ := h
 exact ⟨ak1 (by rcases h4 with h | h; omega; exact h), h3, bR4 h1, bR4 h2⟩
theorem bG1 (hk : s.kind = 2) : s.count = 0 /\ s.body = [] /\ s.els = [] := by
 unfold p8 at h
 rw [if_neg (by omega)] at h
 simp only [bO8, Bool.or_eq_true, decide_eq_true_eq] at h
 obtain ⟨⟨⟨h1, h2⟩, h3⟩, h4⟩ := h
 exact ⟨h3, bR4 h1, bR4 h2⟩
theorem bG0 (hk : s.kind = 3) : s.target = 0 /\ s.index = zE /\ s.count = 0 := by
 unfold p8 at h
 rw [if_pos (.inl hk), if_neg (by omega)] at h
 simp only [bO8, decide_eq_true_eq] at h
 exact ⟨h.1, ak1 h.2.2, h.2.1⟩
theorem bF9 (hk : s.kind = 4) : s.target = 0 /\ s.index = zE /\ s.value = zE /\ s.els = [] /\ 1 <= s.count /\ s.count <= 3 := by
 unfold p8 at h
 rw [if_pos (.inr hk), if_pos hk] at h
 simp only [bO8, decide_eq_true_eq] at h
 obtain ⟨h0, ⟨⟨⟨⟨h1, h2⟩, h3⟩, h4⟩, h5⟩⟩ := h
 exact ⟨h0, ak1 h4, ak1 h5, bR4 h1, h2, h3⟩
end
def aF7 (r : List UInt8) : Prop := r = [] \/ ∃ t, r = 125 :: t
theorem aI2 {nv na d : Nat} {s : b7} (hnv : nv <= 12) (hna : na <= 2) (h : m8 nv na (d + 1) s = true) : ∃ x t, Q6 s = x :: t /\ x ≠ 125 := by
 obtain ⟨h1, h2, h3, -⟩ := B8 h
 rw [x9]
 have hv : ∀ m : Fin 12, UInt8.ofNat (97 + m) ≠ 125 := by decide +kernel
 have ha : ∀ m : Fin 2, UInt8.ofNat (80 + m) ≠ 125 := by decide +kernel
 rcases h1 with k | k | k | k | k
 ·obtain ⟨a, b⟩ := h2 (.inl k)
  rw [stT, if_pos k]
  exact ⟨_, _, rfl, hv ⟨s.target.toNat, by omega⟩⟩
 ·obtain ⟨a, b, -⟩ := h3 k
  rw [stT, if_neg (by omega), if_neg (by omega), if_pos k]
  exact ⟨_, _, rfl, ha ⟨s.target.toNat, by omega⟩⟩
 ·rw [stT, if_neg (by omega), if_neg (by omega), if_neg (by omega), if_pos k]
  exact ⟨_, _, rfl, by decide⟩
 ·rw [stT, if_neg (by omega), if_neg (by omega), if_neg (by omega), if_neg (by omega)]
  exact ⟨_, _, rfl, by decide⟩
 obtain ⟨a, b⟩ := h2 (.inr k)
 rw [stT, if_neg (by omega), if_pos k]
 exact ⟨_, _, rfl, hv ⟨s.target.toNat, by omega⟩⟩
theorem aJ9 (nv na d : Nat) (hnv : nv <= 12) (hna : na <= 2) (t : List UInt8) (ih : ∀ s : b7, m8 nv na d s = true -> nS s <= 60 -> ∀ (r : List UInt8) (n : Int), At t n (Q6 s ++ r) -> C5 t d n = (s, n + (Q6 s).length)) :
  ∀ (ss : List b7), (∀ s ∈ ss, m8 nv na d s = true /\ nS s <= 60) -> ∀ (r : List UInt8), aF7 r -> ∀ (acc : List b7) (f : Nat) (n : Int), acc.length + ss.length <= 60 -> ss.length < f -> At t n (f9 ss ++ r) -> pBk t (C5 t d) f (acc, n) = (acc ++ ss, n + (f9 ss).length)
 | [], _, r, hr, acc, f, n, _, hf, hat => by
  cases f with
  | zero => simp at hf
  | succ f =>
   have hat : At t n r := hat
   rw [pBk, if_neg]
   ·simp [f9]
   rintro ⟨h1, h2, h3⟩
   rcases hr with rfl | ⟨q, rfl⟩
   ·have := hat.le; simp at this; simp only at h2; omega
   rw [hat.has (w := [125]) (by simp)] at h3; cases h3
 | x :: ss, hs, r, hr, acc, f, n, ha, hf, hat => by
  cases f with
  | zero => simp at hf
  | succ f =>
   obtain ⟨h1, h2⟩ := hs x bQ4
   have hat1 : At t n (Q6 x ++ (f9 ss ++ r)) := by rw [f9, bR5] at hat; exact hat
   have hp := ih x h1 h2 _ n hat1
   obtain ⟨dd, rfl⟩ : ∃ dd, d = dd + 1 := by
    cases d with
    | zero => simp [m8] at h1
    | succ dd => exact ⟨dd, rfl⟩
   obtain ⟨c, q, hc, hc2⟩ := aI2 hnv hna h1
   have hlt := hat1.le
   have hat2 := hat1
   rw [hc, List.cons_append] at hat2
   rw [pBk, if_pos]
   ·dsimp only
    rw [hp, if_neg (by simp at ha ⊢; omega)]
    dsimp only
    rw [aJ9 nv na (dd + 1) hnv hna t ih ss (fun s h => hs s (bR1 _ h)) r hr (acc ++ [x]) f _ (by simp at ha ⊢; omega) (by simp at hf; omega) hat1.skip]
    simp [f9]
    omega
   refine ⟨hlt.1, ?_, hat2.hasN (by simpa using hc2)⟩
   have := hat2.le
   simp at this
   show n < _
   omega
theorem psN {x : b7} {ss : List b7} (h : x ∈ ss) : nS x <= T6 ss := by
 induction ss with
 | nil => cases h
 | cons a r ih =>
  rw [T6]
  rcases bR2.1 h with rfl | h
  ·omega
  have := ih h; omega
theorem psL : ∀ ss : List b7, ss.length <= T6 ss
 | [] => bP9 _
 | s :: r => by
  have h1 := Z7 s
  have h2 := psL r
  simp only [T6, bO9]; omega
theorem psA {nv na : Nat} {e : b9} (h : n7 nv na e = true) (ha : J9 e = true) : m9 nv na 1 e = true := by
 unfold n7 at h
 simp only [bO8] at h
 have h1 := h.1
 unfold m9 at h1 ⊢
 simp only [bO8] at h1 ⊢
 refine ⟨⟨h1.1.1, ?_⟩, h1.2⟩
 have hl := (J8 h1.1.1).1
 unfold J9 at ha
 simp only [Bool.or_eq_true, decide_eq_true_eq] at ha
 rw [s7, if_pos ha] at hl
 rw [show e.kids = [] from bR4 (by omega)]; rfl
theorem aW6 (nv na : Nat) (hnv : nv <= 12) (hna : na <= 2) (t : List UInt8) : ∀ (d : Nat) (s : b7), m8 nv na d s = true -> nS s <= 60 -> ∀ (r : List UInt8) (n : Int), At t n (Q6 s ++ r) -> C5 t d n = (s, n + (Q6 s).length)
 | 0, s, h => by simp [m8] at h
 | d + 1, s, h => by
  intro hz r n hat
  have hpt : p8 s = true := by rw [m8, bO8] at h; exact h.1
  obtain ⟨h1, h2, h3, h4, -, h6, h7⟩ := B8 h
  have hn := Z7 s
  have hb : ∀ x ∈ s.body, m8 nv na d x = true /\ nS x <= 60 := fun x hx => ⟨h6 x hx, by have := psN hx; omega⟩
  have he : ∀ x ∈ s.els, m8 nv na d x = true /\ nS x <= 60 := fun x hx => ⟨h7 x hx, by have := psN hx; omega⟩
  have lb := psL s.body
  have le := psL s.els
  have hB := fun (r : List UInt8) (hr : aF7 r) (n : Int) (ha : At t n (f9 s.body ++ r)) => aJ9 nv na d hnv hna t (aW6 nv na hnv hna t d) s.body hb r hr [] 61 n (by simp; omega) (by omega) ha
  have hE := fun (r : List UInt8) (hr : aF7 r) (n : Int) (ha : At t n (f9 s.els ++ r)) => aJ9 nv na d hnv hna t (aW6 nv na hnv hna t d) s.els he r hr [] 61 n (by simp; omega) (by omega) ha
  have hV := fun (e : b9) (hr : n7 nv na e = true) (r : List UInt8) (n : Int) (ha : At t n (k6 e ++ r)) (hd : ab7 r) => ar3 nv na hnv hna 5 e (by unfold n7 at hr; simp only [bO8] at hr; exact hr.1) t r n ha hd
  rw [C5, aJ7]
  rcases h1 with k | k | k | k | k
  ·obtain ⟨a0, a1⟩ := h2 (.inl k)
   obtain ⟨p1, p2, p3, p4⟩ := a24 hpt (.inl k)
   obtain ⟨m, hm⟩ : ∃ m : Nat, s.target = m := ⟨s.target.toNat, by omega⟩
   have ht : Q6 s = [UInt8.ofNat (97 + m)] ++ [58, 61] ++ k6 s.value ++ [59] := by rw [x9, stT, if_pos k, hm]; rfl
   rw [ht] at hat ⊢
   obtain ⟨f1, f2, f3⟩ := bc1 ⟨m, by omega⟩
   have q1 : At t n (UInt8.ofNat (97 + m) :: 58 :: 61 :: (k6 s.value ++ ([59] ++ r))) := by simpa using hat
   rw [if_neg (by rw [q1.hasN (w := [105, 102]) (by simp)]; decide), if_neg (by rw [q1.hasN (w := [114, 101, 112, 101, 97, 116]) (by simp [f3])]; decide), q1.nm, q1.nm, f2, f1, if_neg (by decide), if_neg (by omega)]
   have q2 := q1.skip1
   rw [if_neg (by rw [q2.hasN (w := [33, 61]) (by simp)]; decide)]
   have q3 : At t (n + 1) ([58, 61] ++ (k6 s.value ++ ([59] ++ r))) := q2
   have q4 := q3.sk2
   rw [hV _ (h4 (by omega)) _ _ q4 (s5 (by decide) _)]
   dsimp only
   rw [q4.skip.sk, q3.sk, b7.mk_eq k hm p1 rfl p2 p3 p4]
   simp; omega
  ·obtain ⟨a0, a1, a2, a3⟩ := h3 k
   obtain ⟨p2, p3, p4⟩ := bG1 hpt k
   obtain ⟨m, hm⟩ : ∃ m : Nat, s.target = m := ⟨s.target.toNat, by omega⟩
   have ht : Q6 s = [UInt8.ofNat (80 + m)] ++ [91] ++ k6 s.index ++ [93, 58, 61] ++ k6 s.value ++ [59] := by rw [x9, stT, if_neg (by omega), if_neg (by omega), if_pos k, hm]; rfl
   rw [ht] at hat ⊢
   obtain ⟨f1, f2, f3, f4⟩ := bx0 ⟨m, by omega⟩
   have q1 : At t n (UInt8.ofNat (80 + m) :: ([91] ++ (k6 s.index ++ ([93, 58, 61] ++ (k6 s.value ++ ([59] ++ r)))))) := by simpa using hat
   rw [if_neg (by rw [q1.hasN (w := [105, 102]) (by simp [f4])]; decide), if_neg (by rw [q1.hasN (w := [114, 101, 112, 101, 97, 116]) (by simp [f3])]; decide), q1.nm, f1, if_pos (by omega)]
   have q2 := q1.skip1
   have q3 := q2.sk2
   have hi1 : m9 nv na 1 s.index = true := psA a2 a3
   rw [ar3 nv na hnv hna 1 s.index hi1 t _ _ q3 (s5 (by decide) _)]
   dsimp only
   have q4 := q3.skip
   have q5 := q4.sk2
   rw [hV _ (h4 (by omega)) _ _ q5 (s5 (by decide) _)]
   dsimp only
   rw [q5.skip.sk, q4.sk, q2.sk, b7.mk_eq k hm rfl rfl p2 p3 p4]
   simp; omega
  ·obtain ⟨p1, p2, p3⟩ := bG0 hpt k
   have ht : Q6 s = [105, 102] ++ k6 s.value ++ [123] ++ f9 s.body ++ [125, 123] ++ f9 s.els ++ [125] := by rw [x9, stT, if_neg (by omega), if_neg (by omega), if_neg (by omega), if_pos k]
   rw [ht] at hat ⊢
   have q1 : At t n ([105, 102] ++ (k6 s.value ++ ([123] ++ (f9 s.body ++ ([125, 123] ++ (f9 s.els ++ ([125] ++ r))))))) := by simpa using hat
   rw [if_pos (q1.has (w := [105, 102]) (by simp))]
   have q2 := q1.sk2
   rw [hV _ (h4 (by omega)) _ _ q2 (s5 (by decide) _)]
   dsimp only
   have q3 := q2.skip
   have q4 := q3.sk2
   rw [hB _ (.inr ⟨_, rfl⟩) _ q4]
   dsimp only
   have q5 := q4.skip
   have q6 := q5.sk2
   rw [hE _ (.inr ⟨_, rfl⟩) _ q6]
   dsimp only
   have q7 := q6.skip
   rw [q7.sk, q5.sk, q3.sk, q1.sk, List.nil_append, List.nil_append, b7.mk_eq k p1 p2 rfl p3 rfl rfl]
   simp; omega
  ·obtain ⟨p1, p2, p3, p4, p5, p6⟩ := bF9 hpt k
   obtain ⟨m, hm⟩ : ∃ m : Nat, s.count = m := ⟨s.count.toNat, by omega⟩
   have ht : Q6 s = [114, 101, 112, 101, 97, 116] ++ Lib.decDigits m ++ [123] ++ f9 s.body ++ [125] := by rw [x9, stT, if_neg (by omega), if_neg (by omega), if_neg (by omega), if_neg (by omega), hm]; rfl
   rw [ht] at hat ⊢
   have q1 : At t n ([114, 101, 112, 101, 97, 116] ++ (Lib.decDigits m ++ ([123] ++ (f9 s.body ++ ([125] ++ r))))) := by simpa using hat
   rw [if_neg (by rw [q1.hasN (w := [105, 102]) (by simp)]; decide), if_pos (q1.has (w := [114, 101, 112, 101, 97, 116]) (by simp))]
   have q2 := q1.sk2
   rw [q2.dg (by omega) (s5 (by decide) _)]
   dsimp only
   have q3 := q2.skip
   have q4 := q3.sk2
   rw [hB _ (.inr ⟨_, rfl⟩) _ q4]
   dsimp only
   have q5 := q4.skip
   rw [q5.sk, q3.sk, q1.sk, List.nil_append, b7.mk_eq k p1 p2 p3 hm rfl p4]
   simp; omega
  obtain ⟨a0, a1⟩ := h2 (.inr k)
  obtain ⟨p1, p2, p3, p4⟩ := a24 hpt (.inr k)
  obtain ⟨m, hm⟩ : ∃ m : Nat, s.target = m := ⟨s.target.toNat, by omega⟩
  have ht : Q6 s = [UInt8.ofNat (97 + m)] ++ [33, 61] ++ k6 s.value ++ [59] := by rw [x9, stT, if_neg (by omega), if_pos k, hm]; rfl
  rw [ht] at hat ⊢
  obtain ⟨f1, f2, f3⟩ := bc1 ⟨m, by omega⟩
  have q1 : At t n (UInt8.ofNat (97 + m) :: 33 :: 61 :: (k6 s.value ++ ([59] ++ r))) := by simpa using hat
  rw [if_neg (by rw [q1.hasN (w := [105, 102]) (by simp)]; decide), if_neg (by rw [q1.hasN (w := [114, 101, 112, 101, 97, 116]) (by simp [f3])]; decide), q1.nm, q1.nm, f2, f1, if_neg (by decide), if_neg (by omega)]
  have q2 := q1.skip1
  have q3 : At t (n + 1) ([33, 61] ++ (k6 s.value ++ ([59] ++ r))) := q2
  rw [if_pos (q3.has (w := [33, 61]) (by simp))]
  have q4 := q3.sk2
  rw [hV _ (h4 (by omega)) _ _ q4 (s5 (by decide) _)]
  dsimp only
  rw [q4.skip.sk, q3.sk, b7.mk_eq k hm p1 rfl p2 p3 p4]
  simp; omega
theorem bg0 {p : o6} (h : A7 p = true) : E4 (f9 p.body) 5 0 = (p.body, ((f9 p.body).length : Int)) := by
 unfold A7 at h
 simp only [bO8, decide_eq_true_eq] at h
 obtain ⟨⟨h1, h2⟩, h3⟩ := h
 unfold F7 at h1
 simp only [bO8, decide_eq_true_eq] at h1
 unfold E4
 rw [aJ9 p.vars.length p.arrays.length 5 (by omega) (by omega) _ (aW6 _ _ (by omega) (by omega) _ 5) p.body (fun s hs => ⟨bQ0.1 h2 s hs, by have := psN hs; omega⟩) [] (.inl rfl) [] 61 0 (by have := psL p.body; simp; omega) (by have := psL p.body; omega) ⟨[], by simp, rfl⟩]
 simp
abbrev IR := List UInt8 × Bool
def I7 (r : IR) : UInt8 := if r.2 = true \/ r.1 = [] then 0 else r.1.getD 0 0
def Q5 (s w : List UInt8) : Bool := s.take w.length == w
def f8 (r : IR) (w : List UInt8) : IR := if Q5 r.1 w then (r.1.drop w.length, r.2) else (r.1, true)
def l0 (r : IR) : UInt8 × IR := if I7 r = 0 then (0, (r.1, true)) else (I7 r, (r.1.drop 1, r.2))
def R2 (x : UInt8) : Bool := decide (48 <= x.toNat) && decide (x.toNat <= 57)
def dnI (s : List UInt8) : Nat := (s.takeWhile R2).length
def atV (l : List UInt8) : Int × Bool := match Lib.atoiAll l with
 | .ok v => (v, false)
 | .syntax => (0, true)
 | .range => (Lib.atoiSat l, true)
def I9 (r : IR) : Int × IR := ((atV (r.1.take (dnI r.1))).1, (r.1.drop (dnI r.1), r.2 || (atV (r.1.take (dnI r.1))).2))
def ak6 (x : UInt8) : Bool := decide (97 <= x.toNat) && decide (x.toNat <= 108)
def ay6 (x : UInt8) : Bool := decide (x.toNat = 80) || decide (x.toNat = 81)
def iE : Nat -> IR -> b9 × IR
 | 0, r => (zE, f8 (r.1, true) [40])
 | f + 1, r =>
  if R2 (I7 r) then (⟨1, (I9 r).1, []⟩, (I9 r).2)
  else if ak6 (I7 r) then (⟨2, (((l0 r).1.toNat - 97 : Nat) : Int), []⟩, (l0 r).2)
  else if ay6 (I7 r) then
   let k := iE f (f8 (l0 r).2 [91])
   (⟨3, (((l0 r).1.toNat - 80 : Nat) : Int), [k.1]⟩, f8 k.2 [93])
  else if (f8 r [40]).2 then (zE, f8 r [40]) else
   let a := iE f (f8 r [40])
   let o := l0 a.2
   if o.1 = 63 then
    let b := iE f o.2
    let c := iE f (f8 b.2 [58])
    (⟨11, 0, [a.1, b.1, c.1]⟩, f8 c.2 [41])
   else
    let b := iE f o.2
    (⟨4 + I5 o.1 opW 0, 0, [a.1, b.1]⟩, f8 b.2 [41])
def iSF (B : IR -> List b7 × IR) (r : IR) : b7 × IR :=
 if Q5 r.1 [105, 102] then
  let v := iE 5 (f8 r [105, 102])
  let b := B (f8 v.2 [123])
  let e := B (f8 (f8 b.2 [125]) [123])
  (⟨3, 0, zE, v.1, 0, b.1, e.1⟩, f8 e.2 [125])
 else if Q5 r.1 repL then
  let c := I9 (f8 r repL)
  let b := B (f8 c.2 [123])
  (⟨4, 0, zE, zE, c.1, b.1, []⟩, f8 b.2 [125])
 else if ak6 (l0 r).1 then
  if I7 (l0 r).2 = 33 then
   let v := iE 5 (f8 (l0 r).2 [33, 61])
   (⟨5, (((l0 r).1.toNat - 97 : Nat) : Int), zE, v.1, 0, [], []⟩, f8 v.2 [59])
  else
   let v := iE 5 (f8 (l0 r).2 [58, 61])
   (⟨1, (((l0 r).1.toNat - 97 : Nat) : Int), zE, v.1, 0, [], []⟩, f8 v.2 [59])
 else if ay6 (l0 r).1 then
  let i := iE 5 (f8 (l0 r).2 [91])
  let v := iE 5 (f8 i.2 [93, 58, 61])
  (⟨2, (((l0 r).1.toNat - 80 : Nat) : Int), i.1, v.1, 0, [], []⟩, f8 v.2 [59])
 else
  let v := iE 5 ((l0 r).2.1, true)
  (⟨1, 0, zE, v.1, 0, [], []⟩, f8 v.2 [59])
where repL : List UInt8 := [114, 101, 112, 101, 97, 116]
def iSs (R : IR -> b7 × IR) : Nat -> List b7 × IR -> List b7 × IR
 | 0, x => x
 | g + 1, x => if x.2.2 = false /\ x.2.1 ≠ [] /\ I7 x.2 ≠ 125 then iSs R g (x.1 ++ [(R x.2).1], (R x.2).2) else x
def iS0 (r : IR) : List b7 × IR := if r.2 = false /\ r.1 ≠ [] /\ I7 r ≠ 125 then ([], (r.1, true)) else ([], r)
def C1 : Nat -> IR -> b7 × IR
 | 0, r => iSF iS0 r
 | d + 1, r => iSF (fun r => iSs (C1 d) (r.1.length + 1) ([], r)) r
def E0 : Nat -> IR -> List b7 × IR
 | 0, r => iS0 r
 | d + 1, r => iSs (C1 d) (r.1.length + 1) ([], r)
theorem T8 (d : Nat) (r : IR) : C1 d r = iSF (E0 d) r := by cases d <;> rfl
section
variable {w b r : List UInt8} {x : UInt8}
theorem G4 : f8 (w ++ r, false) w = (r, false) := by
 unfold f8 Q5; rw [if_pos (by simp)]; simp
theorem U9 : I7 (x :: r, false) = x := by unfold I7; rw [if_neg (by simp)]; rfl
theorem ah9 (h : x ≠ 0) : l0 (x :: r, false) = (x, (r, false)) := by
 unfold l0; rw [U9, if_neg h]; rfl
end
theorem bA2 {r : List UInt8} (h : ab7 r) : ∀ x ∈ r.head?, R2 x = false := fun x hx => by
 have h1 := h x hx
 cases hd : R2 x with
 | false => rfl
 | true =>
  unfold R2 at hd
  simp only [bO8, decide_eq_true_eq] at hd
  have h2 := (bk6 ⟨x.toNat - 48, by omega⟩).1
  have e : UInt8.ofNat (48 + (x.toNat - 48)) = x := by
   apply UInt8.toNat_inj.1
   rw [UInt8.toNat_ofNat']; omega
  simp only at h2
  rw [e, h1] at h2
  omega
theorem bC7 {a r : List UInt8} (ha : ∀ x ∈ a, R2 x = true) (hr : ab7 r) : dnI (a ++ r) = a.length := by
 unfold dnI
 rw [List.takeWhile_append_of_pos ha]
 cases r with
 | nil => simp
 | cons x r => rw [List.takeWhile_cons_of_neg (by rw [bA2 hr x rfl]; decide)]; simp
theorem az7 : ∀ d : Fin 10, R2 (UInt8.ofNat (48 + d)) = true := by decide +kernel
theorem bJ7 : ∀ a : Fin 10, Lib.atoiAll [UInt8.ofNat (48 + a)] = .ok ((a : Nat) : Int) := by decide +kernel
theorem bJ6 : ∀ a b : Fin 10, Lib.atoiAll [UInt8.ofNat (48 + a), UInt8.ofNat (48 + b)] = .ok ((a * 10 + b : Nat) : Int) := by decide +kernel
theorem bJ5 : ∀ a b c : Fin 10, Lib.atoiAll [UInt8.ofNat (48 + a), UInt8.ofNat (48 + b), UInt8.ofNat (48 + c)] = .ok (((a * 10 + b) * 10 + c : Nat) : Int) := by decide +kernel
theorem bm3 {m : Nat} (h : m < 1000) : atV (Lib.decDigits m) = ((m : Int), false) /\ ∀ x ∈ Lib.decDigits m, R2 x = true := by
 unfold atV
 rcases bR6 m 10 with h1 | h1
 ·rw [a55 h1, bJ7 ⟨m, h1⟩]
  exact ⟨rfl, fun x hx => by simp only [List.mem_singleton] at hx; rw [hx]; exact az7 ⟨m, h1⟩⟩
 rcases bR6 m 100 with h2 | h2
 ·rw [a54 (by omega) h2, bJ6 ⟨m / 10, by omega⟩ ⟨m % 10, by omega⟩]
  refine ⟨?_, fun x hx => ?_⟩
  ·show (((m / 10 * 10 + m % 10 : Nat) : Int), false) = _
   rw [show m / 10 * 10 + m % 10 = m by omega]
  simp only [bR2, List.not_mem_nil, or_false] at hx
  rcases hx with rfl | rfl
  ·exact az7 ⟨m / 10, by omega⟩
  exact az7 ⟨m % 10, by omega⟩
 rw [bk8 (by omega) h, bJ5 ⟨m / 10 / 10, by omega⟩ ⟨m / 10 % 10, by omega⟩ ⟨m % 10, by omega⟩]
 refine ⟨?_, fun x hx => ?_⟩
 ·show ((((m / 10 / 10 * 10 + m / 10 % 10) * 10 + m % 10 : Nat) : Int), false) = _
  rw [show (m / 10 / 10 * 10 + m / 10 % 10) * 10 + m % 10 = m by omega]
 simp only [bR2, List.not_mem_nil, or_false] at hx
 rcases hx with rfl | rfl | rfl
 ·exact az7 ⟨m / 10 / 10, by omega⟩
 ·exact az7 ⟨m / 10 % 10, by omega⟩
 exact az7 ⟨m % 10, by omega⟩
theorem bg5 {m : Nat} (h : m < 1000) {r : List UInt8} (hr : ab7 r) : I9 (Lib.decDigits m ++ r, false) = ((m : Int), (r, false)) := by
 obtain ⟨h1, h2⟩ := bm3 h
 unfold I9
 simp only [bC7 h2 hr, List.take_left, List.drop_left, h1]
 rfl
theorem bc0 : ∀ v : Fin 12, R2 (UInt8.ofNat (97 + v)) = false /\ ak6 (UInt8.ofNat (97 + v)) = true /\ UInt8.ofNat (97 + v) ≠ 0 /\ (UInt8.ofNat (97 + v)).toNat = 97 + v /\ UInt8.ofNat (97 + v) ≠ 114 /\ UInt8.ofNat (97 + v) ≠ 125 := by decide +kernel
theorem bw9 : ∀ v : Fin 2, R2 (UInt8.ofNat (80 + v)) = false /\ ak6 (UInt8.ofNat (80 + v)) = false /\ ay6 (UInt8.ofNat (80 + v)) = true /\ UInt8.ofNat (80 + v) ≠ 0 /\ (UInt8.ofNat (80 + v)).toNat = 80 + v /\ UInt8.ofNat (80 + v) ≠ 114 /\ UInt8.ofNat (80 + v) ≠ 105 := by decide +kernel
theorem bG3 : ∀ k : Fin 7, t6 (4 + k) ≠ 0 := by decide +kernel
theorem ay7 (nv na : Nat) (hnv : nv <= 12) (hna : na <= 2) : ∀ (d : Nat) (e : b9), m9 nv na d e = true -> ∀ (f : Nat) (r : List UInt8), d <= f -> ab7 r -> iE f (k6 e ++ r, false) = (e, (r, false))
 | 0, e, h => by simp [m9] at h
 | d + 1, e, h => by
  intro f0 r hf hr
  obtain ⟨f, rfl⟩ : ∃ f, f0 = f + 1 := ⟨f0 - 1, by omega⟩
  have hf' : d <= f := by omega
  have hk := (K0 h).2
  have hn : D2 nv na e = true := by
   unfold m9 at h
   simp only [bO8] at h
   exact h.1.1
  obtain ⟨hl, hv0, hvl⟩ := J8 hn
  obtain ⟨m, hm⟩ : ∃ m : Nat, e.value = m := ⟨e.value.toNat, by omega⟩
  have ht := X9 e
  rw [hm] at hvl ht
  have hK : e.kind = 1 \/ e.kind = 2 \/ e.kind = 3 \/ (4 <= e.kind /\ e.kind <= 10) \/ e.kind = 11 := by
   unfold s7 at hl
   split at hl
   ·omega
   split at hl
   ·omega
   split at hl
   ·omega
   split at hl <;> omega
  rw [iE]
  rcases hK with k1 | k2 | k3 | k4 | k5
  ·rw [k1] at hvl ht
   have hm' : m < 256 := by simp [A8] at hvl; omega
   have ht' : k6 e = Lib.decDigits m := ht
   rw [ht']
   obtain ⟨dd, t, hd, hdt⟩ := aS5 m (by omega)
   rw [if_pos (by rw [hdt, List.cons_append, U9]; exact az7 ⟨dd, hd⟩), bg5 (by omega) hr]
   have e0 : e.kids = [] := by
    rw [k1] at hl; simp [s7] at hl; exact hl
   rw [b9.mk_eq k1 hm e0]
  ·rw [k2] at hvl ht
   have hm' : m < 12 := by simp [A8] at hvl; omega
   have ht' : k6 e = [UInt8.ofNat (97 + m)] := ht
   obtain ⟨f1, f2, f3, f4, -, -⟩ := bc0 ⟨m, hm'⟩
   simp only at f1 f2 f3 f4
   rw [ht', List.singleton_append, U9, f1, f2, ah9 f3, if_neg (by decide), if_pos rfl]
   have e0 : e.kids = [] := by
    rw [k2] at hl; simp [s7] at hl; exact hl
   simp only [f4, Nat.add_sub_cancel_left]
   rw [b9.mk_eq k2 hm e0]
  ·rw [k3] at hvl ht
   have hm' : m < 2 := by simp [A8] at hvl; omega
   obtain ⟨x, hx⟩ := bv5 (ks := e.kids) (by rw [k3] at hl; simp [s7] at hl; omega)
   have ht' : k6 e = [UInt8.ofNat (80 + m)] ++ [91] ++ k6 x ++ [93] := by rw [ht, hx]; rfl
   obtain ⟨f1, f2, f3, f4, f5, -, -⟩ := bw9 ⟨m, hm'⟩
   simp only at f1 f2 f3 f4 f5
   have e1 : k6 e ++ r = UInt8.ofNat (80 + m) :: ([91] ++ (k6 x ++ ([93] ++ r))) := by rw [ht']; simp
   rw [e1, U9, f1, f2, f3, ah9 f4, if_neg (by decide), if_neg (by decide), if_pos rfl, G4, ay7 nv na hnv hna d x (hk x (by rw [hx]; simp)) f ([93] ++ r) hf' (s5 (x := 93) (by decide) r)]
   simp only [f5, Nat.add_sub_cancel_left, G4]
   rw [b9.mk_eq k3 hm hx]
  ·obtain ⟨x, y, hx⟩ := bv4 (ks := e.kids) (by
    unfold s7 at hl
    rw [if_neg (by omega), if_neg (by omega), if_pos (by omega)] at hl; omega)
   have ht' : k6 e = [40] ++ k6 x ++ [t6 e.kind] ++ k6 y ++ [41] := by
    rw [ht, ar4, if_neg (by omega), if_neg (by omega), if_neg (by omega), if_neg (by omega), hx]; rfl
   have hm0 : m = 0 := by
    unfold A8 at hvl
    rw [if_neg (by omega), if_neg (by omega), if_neg (by omega)] at hvl; omega
   obtain ⟨j, hj, hj7⟩ : ∃ j : Nat, e.kind = 4 + (j : Int) /\ j < 7 := ⟨(e.kind - 4).toNat, by omega, by omega⟩
   obtain ⟨f1, f2, f3⟩ := bu9 ⟨j, hj7⟩
   have f4 := bG3 ⟨j, hj7⟩
   simp only at f1 f2 f3 f4
   rw [<- hj] at f1 f2 f3 f4
   have e1 : k6 e ++ r = [40] ++ (k6 x ++ (t6 e.kind :: (k6 y ++ ([41] ++ r)))) := by rw [ht']; simp
   rw [e1, G4, show I7 ([40] ++ (k6 x ++ (t6 e.kind :: (k6 y ++ ([41] ++ r)))), false) = 40 from U9, if_neg (by decide), if_neg (by decide), if_neg (by decide), if_neg (by simp)]
   rw [ay7 nv na hnv hna d x (hk x (by rw [hx]; simp)) f _ hf' (s5 f3 _)]
   dsimp only
   rw [ah9 f4]
   dsimp only
   rw [if_neg f2, ay7 nv na hnv hna d y (hk y (by rw [hx]; simp)) f ([41] ++ r) hf' (s5 (x := 41) (by decide) r)]
   dsimp only
   rw [G4, f1, b9.mk_eq (e := e) hj (by rw [hm, hm0]; rfl) hx]
  obtain ⟨x, y, z, hx⟩ := bv3 (ks := e.kids) (by
   unfold s7 at hl
   rw [if_neg (by omega), if_neg (by omega), if_neg (by omega), if_pos (by omega)] at hl; omega)
  have ht' : k6 e = [40] ++ k6 x ++ [63] ++ k6 y ++ [58] ++ k6 z ++ [41] := by
   rw [ht, ar4, if_neg (by omega), if_neg (by omega), if_neg (by omega), if_pos (by omega), hx]; rfl
  have hm0 : m = 0 := by
   unfold A8 at hvl
   rw [if_neg (by omega), if_neg (by omega), if_neg (by omega)] at hvl; omega
  have e1 : k6 e ++ r = [40] ++ (k6 x ++ (63 :: (k6 y ++ ([58] ++ (k6 z ++ ([41] ++ r)))))) := by rw [ht']; simp
  rw [e1, G4, show I7 ([40] ++ (k6 x ++ (63 :: (k6 y ++ ([58] ++ (k6 z ++ ([41] ++ r)))))), false) = 40 from U9, if_neg (by decide), if_neg (by decide), if_neg (by decide), if_neg (by simp)]
  rw [ay7 nv na hnv hna d x (hk x (by rw [hx]; simp)) f _ hf' (s5 (by decide) _)]
  dsimp only
  rw [ah9 (by decide)]
  dsimp only
  rw [if_pos rfl, ay7 nv na hnv hna d y (hk y (by rw [hx]; simp)) f ([58] ++ (k6 z ++ ([41] ++ r))) hf' (s5 (x := 58) (by decide) _)]
  dsimp only
  rw [G4, ay7 nv na hnv hna d z (hk z (by rw [hx]; simp)) f ([41] ++ r) hf' (s5 (x := 41) (by decide) r)]
  dsimp only
  rw [G4, b9.mk_eq (e := e) k5 (by rw [hm, hm0]; rfl) hx]
theorem aY1 (nv na d f : Nat) (hnv : nv <= 12) (hna : na <= 2) (ih : ∀ s : b7, m8 nv na (d + 1) s = true -> ∀ (r : List UInt8), C1 f (Q6 s ++ r, false) = (s, (r, false))) :
  ∀ (ss : List b7), (∀ s ∈ ss, m8 nv na (d + 1) s = true) -> ∀ (r : List UInt8), aF7 r -> ∀ (acc : List b7) (g : Nat), ss.length < g -> iSs (C1 f) g (acc, (f9 ss ++ r, false)) = (acc ++ ss, (r, false))
 | [], _, r, hr, acc, g, hg => by
  cases g with
  | zero => simp at hg
  | succ g =>
   rw [iSs, if_neg]
   ·simp [f9]
   rintro ⟨h1, h2, h3⟩
   rcases hr with rfl | ⟨t, rfl⟩
   ·exact h2 rfl
   exact h3 U9
 | x :: ss, hs, r, hr, acc, g, hg => by
  cases g with
  | zero => simp at hg
  | succ g =>
   have h1 := hs x bQ4
   obtain ⟨c, q, hc, hc2⟩ := aI2 hnv hna h1
   have e : f9 (x :: ss) ++ r = Q6 x ++ (f9 ss ++ r) := by rw [f9, bR5]
   rw [iSs, if_pos]
   ·dsimp only
    rw [e, ih x h1 _]
    dsimp only
    rw [aY1 nv na d f hnv hna ih ss (fun s h => hs s (bR1 _ h)) r hr (acc ++ [x]) g (by simp at hg; omega)]
    simp
   refine ⟨rfl, ?_, ?_⟩
   ·dsimp only; rw [e, hc]; simp
   rw [e, hc, List.cons_append]; rw [U9]; exact hc2
theorem a07 {nv na d : Nat} (hnv : nv <= 12) (hna : na <= 2) : ∀ ss : List b7, (∀ s ∈ ss, m8 nv na (d + 1) s = true) -> ss.length <= (f9 ss).length
 | [], _ => bP9 _
 | s :: r, h => by
  obtain ⟨x, t, hx, -⟩ := aI2 hnv hna (h s bQ4)
  have := a07 hnv hna r fun y hy => h y (bR1 _ hy)
  rw [f9, hx]
  simp; omega
theorem bC1 (nv na d : Nat) (hnv : nv <= 12) (hna : na <= 2) (B : IR -> List b7 × IR) (ih : ∀ (ss : List b7), (∀ s ∈ ss, m8 nv na d s = true) -> ∀ (r : List UInt8), aF7 r -> B (f9 ss ++ r, false) = (ss, (r, false))) (s : b7) (h : m8 nv na (d + 1) s = true) (r : List UInt8) : iSF B (Q6 s ++ r, false) = (s, (r, false)) := by
 have hpt : p8 s = true := by rw [m8, bO8] at h; exact h.1
 obtain ⟨h1, h2, h3, h4, -, h6, h7⟩ := B8 h
 have hV := fun (e : b9) (hr : n7 nv na e = true) (r : List UInt8) (hd : ab7 r) => ay7 nv na hnv hna 5 e (by unfold n7 at hr; simp only [bO8] at hr; exact hr.1) 5 r (by omega) hd
 rw [iSF]
 rcases h1 with k | k | k | k | k
 ·obtain ⟨a0, a1⟩ := h2 (.inl k)
  obtain ⟨p1, p2, p3, p4⟩ := a24 hpt (.inl k)
  obtain ⟨m, hm⟩ : ∃ m : Nat, s.target = m := ⟨s.target.toNat, by omega⟩
  have ht : Q6 s ++ r = UInt8.ofNat (97 + m) :: ([58, 61] ++ (k6 s.value ++ ([59] ++ r))) := by
   rw [x9, stT, if_pos k, hm]; simp
  obtain ⟨f1, f2, f3, f4, f5, -⟩ := bc0 ⟨m, by omega⟩
  simp only at f1 f2 f3 f4 f5
  rw [ht, if_neg (by simp [Q5]), if_neg (by simp [Q5, iSF.repL, f5]), ah9 f3]
  dsimp only
  rw [f2, if_pos rfl, show I7 ([58, 61] ++ (k6 s.value ++ ([59] ++ r)), false) = 58 from U9, if_neg (by decide), G4, hV _ (h4 (by omega)) ([59] ++ r) (s5 (x := 59) (by decide) r)]
  dsimp only
  rw [G4, f4, Nat.add_sub_cancel_left, b7.mk_eq k hm p1 rfl p2 p3 p4]
 ·obtain ⟨a0, a1, a2, a3⟩ := h3 k
  obtain ⟨p2, p3, p4⟩ := bG1 hpt k
  obtain ⟨m, hm⟩ : ∃ m : Nat, s.target = m := ⟨s.target.toNat, by omega⟩
  have ht : Q6 s ++ r = UInt8.ofNat (80 + m) :: ([91] ++ (k6 s.index ++ ([93, 58, 61] ++ (k6 s.value ++ ([59] ++ r))))) := by
   rw [x9, stT, if_neg (by omega), if_neg (by omega), if_pos k, hm]; simp
  obtain ⟨f1, f2, f3, f4, f5, f6, f7⟩ := bw9 ⟨m, by omega⟩
  simp only at f1 f2 f3 f4 f5 f6 f7
  rw [ht, if_neg (by simp [Q5, f7]), if_neg (by simp [Q5, iSF.repL, f6]), ah9 f4]
  dsimp only
  rw [f2, f3, if_neg (by decide), if_pos rfl, G4, hV _ a2 ([93, 58, 61] ++ (k6 s.value ++ ([59] ++ r))) (s5 (x := 93) (by decide) _)]
  dsimp only
  rw [G4, hV _ (h4 (by omega)) ([59] ++ r) (s5 (x := 59) (by decide) r)]
  dsimp only
  rw [G4, f5, Nat.add_sub_cancel_left, b7.mk_eq k hm rfl rfl p2 p3 p4]
 ·obtain ⟨p1, p2, p3⟩ := bG0 hpt k
  have ht : Q6 s ++ r = [105, 102] ++ (k6 s.value ++ ([123] ++ (f9 s.body ++ ([125] ++ ([123] ++ (f9 s.els ++ ([125] ++ r))))))) := by
   rw [x9, stT, if_neg (by omega), if_neg (by omega), if_neg (by omega), if_pos k]; simp
  rw [ht, if_pos (by simp [Q5]), G4, hV _ (h4 (by omega)) ([123] ++ (f9 s.body ++ ([125] ++ ([123] ++ (f9 s.els ++ ([125] ++ r)))))) (s5 (x := 123) (by decide) _)]
  dsimp only
  rw [G4, ih s.body h6 ([125] ++ ([123] ++ (f9 s.els ++ ([125] ++ r)))) (.inr ⟨_, rfl⟩)]
  dsimp only
  rw [G4, G4, ih s.els h7 ([125] ++ r) (.inr ⟨_, rfl⟩)]
  dsimp only
  rw [G4, b7.mk_eq k p1 p2 rfl p3 rfl rfl]
 ·obtain ⟨p1, p2, p3, p4, p5, p6⟩ := bF9 hpt k
  obtain ⟨m, hm⟩ : ∃ m : Nat, s.count = m := ⟨s.count.toNat, by omega⟩
  have ht : Q6 s ++ r = iSF.repL ++ (Lib.decDigits m ++ ([123] ++ (f9 s.body ++ ([125] ++ r)))) := by
   rw [x9, stT, if_neg (by omega), if_neg (by omega), if_neg (by omega), if_neg (by omega), hm]; simp [iSF.repL]
  rw [ht, if_neg (by simp [Q5, iSF.repL]), if_pos (by simp [Q5]), G4, bg5 (by omega) (r := [123] ++ (f9 s.body ++ ([125] ++ r))) (s5 (x := 123) (by decide) _)]
  dsimp only
  rw [G4, ih s.body h6 ([125] ++ r) (.inr ⟨_, rfl⟩)]
  dsimp only
  rw [G4, b7.mk_eq k p1 p2 p3 hm rfl p4]
 obtain ⟨a0, a1⟩ := h2 (.inr k)
 obtain ⟨p1, p2, p3, p4⟩ := a24 hpt (.inr k)
 obtain ⟨m, hm⟩ : ∃ m : Nat, s.target = m := ⟨s.target.toNat, by omega⟩
 have ht : Q6 s ++ r = UInt8.ofNat (97 + m) :: ([33, 61] ++ (k6 s.value ++ ([59] ++ r))) := by
  rw [x9, stT, if_neg (by omega), if_pos k, hm]; simp
 obtain ⟨f1, f2, f3, f4, f5, -⟩ := bc0 ⟨m, by omega⟩
 simp only at f1 f2 f3 f4 f5
 rw [ht, if_neg (by simp [Q5]), if_neg (by simp [Q5, iSF.repL, f5]), ah9 f3]
 dsimp only
 rw [f2, if_pos rfl, show I7 ([33, 61] ++ (k6 s.value ++ ([59] ++ r)), false) = 33 from U9, if_pos rfl, G4, hV _ (h4 (by omega)) ([59] ++ r) (s5 (x := 59) (by decide) r)]
 dsimp only
 rw [G4, f4, Nat.add_sub_cancel_left, b7.mk_eq k hm p1 rfl p2 p3 p4]
mutual
theorem bj5 (nv na : Nat) (hnv : nv <= 12) (hna : na <= 2) : ∀ (f d : Nat), d <= f -> ∀ (s : b7), m8 nv na (d + 1) s = true -> ∀ (r : List UInt8), C1 f (Q6 s ++ r, false) = (s, (r, false))
 | f, d, hd, s, h, r => by
  rw [T8]
  exact bC1 nv na d hnv hna (E0 f) (fun ss hs r hr => bj6 nv na hnv hna f d hd ss hs r hr) s h r
termination_by f => (f, 1)
theorem bj6 (nv na : Nat) (hnv : nv <= 12) (hna : na <= 2) : ∀ (f d : Nat), d <= f -> ∀ (ss : List b7), (∀ s ∈ ss, m8 nv na d s = true) -> ∀ (r : List UInt8), aF7 r -> E0 f (f9 ss ++ r, false) = (ss, (r, false))
 | f, 0, hd, [], hs, r, hr => by
  cases f with
  | zero =>
   rw [E0, iS0, if_neg]
   ·rfl
   rintro ⟨h1, h2, h3⟩
   rcases hr with rfl | ⟨t, rfl⟩
   ·exact h2 rfl
   exact h3 U9
  | succ f =>
   rw [E0]
   exact aY1 nv na 0 f hnv hna (fun s h r => bj5 nv na hnv hna f 0 (by omega) s h r) [] (fun s h => by cases h) r hr [] _ (by simp)
 | f, 0, hd, s :: ss, hs, r, hr => by have := hs s bQ4; simp [m8] at this
 | 0, d + 1, hd, ss, hs, r, hr => by omega
 | f + 1, d + 1, hd, ss, hs, r, hr => by
  rw [E0]
  have h1 := a07 hnv hna ss hs
  exact aY1 nv na d f hnv hna (fun s h r => bj5 nv na hnv hna f d (by omega) s h r) ss hs r hr [] _ (by simp; omega)
termination_by f => (f, 0)
end
theorem aR5 {p : o6} (h : A7 p = true) : E0 5 (f9 p.body, false) = (p.body, ([], false)) := by
 unfold A7 at h
 simp only [bO8, decide_eq_true_eq] at h
 obtain ⟨⟨h1, h2⟩, h3⟩ := h
 unfold F7 at h1
 simp only [bO8, decide_eq_true_eq] at h1
 have := bj6 p.vars.length p.arrays.length (by omega) (by omega) 5 5 (bP9 _) p.body (fun s hs => bQ0.1 h2 s hs) [] (.inl rfl)
 simpa using this
section
variable {s : List UInt8} {n : Int} {w ls : List UInt8}
theorem aY5 (x : UInt8) : ∀ (ls : List UInt8) (i : Int), I5 x ls i = -1 \/ (i <= I5 x ls i /\ I5 x ls i < i + ls.length)
 | [], i => .inl rfl
 | y :: r, i => by
  unfold I5
  split
  ·exact .inr ⟨by omega, by simp; omega⟩
  rcases aY5 x r (i + 1) with h | h
  ·exact .inl h
  exact .inr ⟨by omega, by simp; omega⟩
theorem V0 (s : List UInt8) (n : Int) (ls : List UInt8) : -1 <= v8 s n ls /\ v8 s n ls < ls.length + 1 /\ (0 <= v8 s n ls -> 0 <= n /\ n < s.length /\ v8 s n ls < ls.length) := by
 unfold v8
 split
 ·exact ⟨by omega, by omega, fun h => by omega⟩
 rcases aY5 (s.getD n.toNat 0) ls 0 with h | h
 ·rw [h]; exact ⟨by omega, by omega, fun h => by omega⟩
 exact ⟨by omega, by omega, fun _ => by omega⟩
theorem a42 (h : x5 s n w = true) : 0 <= n /\ n + w.length <= s.length := by
 unfold x5 at h
 simp only [bO8, decide_eq_true_eq] at h
 exact ⟨h.1, h.2.1⟩
theorem X1 (s : List UInt8) (n : Int) (w : List UInt8) : -1 <= k8 s n w /\ k8 s n w <= s.length := by
 unfold k8
 split
 ·have := a42 (by assumption : x5 s n w = true); omega
 omega
theorem Q7 : -1 <= k8 s n w := (X1 s n w).1
theorem S7 : k8 s n w <= s.length := (X1 s n w).2
theorem by0 (h : x5 s n w = true) : k8 s n w = n + w.length := by unfold k8; rw [if_pos h]
theorem by1 (h : x5 s n w = false) : k8 s n w = -1 := by unfold k8; rw [h]; rfl
def dgP (s : List UInt8) (n : Int) : Nat -> Int
 | 0 => 0
 | k + 1 => dgP s n k * 10 + v8 s (n + k) [48, 49, 50, 51, 52, 53, 54, 55, 56, 57]
theorem bI3 (s : List UInt8) (n : Int) {k : Nat} (h : k <= 3) : -111 <= dgP s n k /\ dgP s n k <= 1110 := by
 have a0 := V0 s (n + (0 : Nat)) [48, 49, 50, 51, 52, 53, 54, 55, 56, 57]
 have a1 := V0 s (n + (1 : Nat)) [48, 49, 50, 51, 52, 53, 54, 55, 56, 57]
 have a2 := V0 s (n + (2 : Nat)) [48, 49, 50, 51, 52, 53, 54, 55, 56, 57]
 simp only [bO9, bP2] at a0 a1 a2
 have : k = 0 \/ k = 1 \/ k = 2 \/ k = 3 := by omega
 rcases this with rfl | rfl | rfl | rfl <;> simp only [dgP] <;> omega
theorem bC9 {k : Nat} (h : k <= 3) (hk : ∀ j : Nat, j < k -> 0 <= v8 s (n + j) [48, 49, 50, 51, 52, 53, 54, 55, 56, 57]) : dgL s n 3 (0, 0) = dgL s n (3 - k) (dgP s n k, k) := by
 induction k with
 | zero => rfl
 | succ k ih =>
  rw [ih (by omega) fun j hj => hk j (by omega)]
  have e : 3 - k = (3 - (k + 1)) + 1 := by omega
  rw [e, dgL, if_pos ⟨by show (k : Int) < 3; omega, hk k (by omega)⟩]
  rfl
theorem a52 {k : Nat} (h : k <= 3) (hk : ∀ j : Nat, j < k -> 0 <= v8 s (n + j) [48, 49, 50, 51, 52, 53, 54, 55, 56, 57]) (he : ¬ (k : Int) < 3 \/ v8 s (n + k) [48, 49, 50, 51, 52, 53, 54, 55, 56, 57] < 0) : dgL s n 3 (0, 0) = (dgP s n k, (k : Int)) := by
 rw [bC9 h hk]
 exact az8 he
theorem bN8 (he : v8 s n [48, 49, 50, 51, 52, 53, 54, 55, 56, 57] < 0) : J7 s n = (0, -1) := by
 have := a52 (s := s) (n := n) (k := 0) (by omega) (fun j hj => by omega) (.inr (by simpa using he))
 unfold J7; rw [this]; exact if_pos rfl
theorem br6 {k : Nat} (h : k <= 3) (h0 : ¬ (k : Int) = 0) (hk : ∀ j : Nat, j < k -> 0 <= v8 s (n + j) [48, 49, 50, 51, 52, 53, 54, 55, 56, 57]) (he : ¬ (k : Int) < 3 \/ v8 s (n + k) [48, 49, 50, 51, 52, 53, 54, 55, 56, 57] < 0) : J7 s n = (dgP s n k, n + k) := by
 have := a52 h hk he
 unfold J7; rw [this]; exact if_neg h0
theorem br7 : ∀ (f : Nat) (x : Int × Int), 0 <= x.2 -> (x.2 = 0 \/ n + x.2 <= s.length) -> 0 <= (dgL s n f x).2 /\ ((dgL s n f x).2 = 0 \/ n + (dgL s n f x).2 <= s.length) := by
 intro f
 induction f with
 | zero => intro x h1 h2; exact ⟨h1, h2⟩
 | succ f ih =>
  intro x h1 h2
  rw [dgL]
  split
  ·rename_i hc
   have := (V0 s (n + x.2) [48, 49, 50, 51, 52, 53, 54, 55, 56, 57]).2.2 hc.2
   exact ih _ (by show 0 <= x.2 + 1; omega) (.inr (by show n + (x.2 + 1) <= _; omega))
  exact ⟨h1, h2⟩
theorem bk5 (h : -1 <= n) : -1 <= (J7 s n).2 /\ (J7 s n).2 <= s.length := by
 have := br7 (s := s) (n := n) 3 (0, 0) (by simp) (.inl rfl)
 unfold J7
 split
 ·exact ⟨by omega, by show (-1 : Int) <= _; omega⟩
 exact ⟨by show -1 <= n + _; omega, by show n + _ <= _; omega⟩
theorem bI2 (h : -1 <= n) : (J7 s n).2 <= s.length := (bk5 h).2
section
variable {d : Nat}
theorem ao0 (h : n < 0) : pE s d n = (⟨0, 0, []⟩, -1) := by
 cases d with
 | zero => rfl
 | succ d => rw [pE, if_pos h]
theorem an7 (h0 : ¬ n < 0) (h : v8 s n [97, 98, 99, 100, 101, 102, 103, 104, 105, 106, 107, 108] >= 0) : pE s (d + 1) n = (⟨2, v8 s n [97, 98, 99, 100, 101, 102, 103, 104, 105, 106, 107, 108], []⟩, n + 1) := by rw [pE, if_neg h0, if_pos h]
theorem ao3 (h0 : ¬ n < 0) (h : ¬ v8 s n [97, 98, 99, 100, 101, 102, 103, 104, 105, 106, 107, 108] >= 0) (h1 : v8 s n [80, 81] >= 0) : pE s (d + 1) n = (⟨3, v8 s n [80, 81], [(pE s d (k8 s (n + 1) [91])).1]⟩, k8 s (pE s d (k8 s (n + 1) [91])).2 [93]) := by rw [pE, if_neg h0, if_neg h, if_pos h1]
theorem an9 (h0 : ¬ n < 0) (h : ¬ v8 s n [97, 98, 99, 100, 101, 102, 103, 104, 105, 106, 107, 108] >= 0) (h1 : ¬ v8 s n [80, 81] >= 0) (h2 : x5 s n [40] = false) : pE s (d + 1) n = (⟨1, (J7 s n).1, []⟩, (J7 s n).2) := by rw [pE, if_neg h0, if_neg h, if_neg h1, if_pos h2]
theorem a33 (h : ¬ v8 s n ls < 0) : n + 1 <= s.length := by have := (V0 s n ls).2.2 (by omega); omega
theorem bv0 (h : v8 s n ls >= 0) : n + 1 <= s.length := by have := (V0 s n ls).2.2 (by omega); omega
def pe1 (s : List UInt8) (d : Nat) (n : Int) : b9 × Int := pE s d (k8 s n [40])
def pe2 (s : List UInt8) (d : Nat) (n : Int) : b9 × Int := pE s d (k8 s (pe1 s d n).2 [63])
def pe3 (s : List UInt8) (d : Nat) (n : Int) : b9 × Int := pE s d (k8 s (pe2 s d n).2 [58])
def pe4 (s : List UInt8) (d : Nat) (n : Int) : b9 × Int := pE s d ((pe1 s d n).2 + 1)
variable (h0 : ¬ n < 0) (h : ¬ v8 s n [97, 98, 99, 100, 101, 102, 103, 104, 105, 106, 107, 108] >= 0) (h1 : ¬ v8 s n [80, 81] >= 0) (h2 : x5 s n [40] = true)
include h0 h h1 h2
theorem an8 (h3 : x5 s (pE s d (k8 s n [40])).2 [63] = true) : pE s (d + 1) n = (⟨11, 0, [(pe1 s d n).1, (pe2 s d n).1, (pe3 s d n).1]⟩, k8 s (pe3 s d n).2 [41]) := by
 rw [pE, if_neg h0, if_neg h, if_neg h1, if_neg (by rw [h2]; decide)]
 exact if_pos h3
theorem ao2 (h3 : x5 s (pE s d (k8 s n [40])).2 [63] = false) (h4 : v8 s (pE s d (k8 s n [40])).2 [43, 45, 42, 38, 94, 61, 60] < 0) : pE s (d + 1) n = (⟨0, 0, []⟩, -1) := by
 rw [pE, if_neg h0, if_neg h, if_neg h1, if_neg (by rw [h2]; decide)]
 exact (if_neg (by rw [show x5 s (pE s d (k8 s n [40])).2 [63] = false from h3]; decide)).trans (if_pos h4)
theorem ao1 (h3 : x5 s (pE s d (k8 s n [40])).2 [63] = false) (h4 : ¬ v8 s (pE s d (k8 s n [40])).2 [43, 45, 42, 38, 94, 61, 60] < 0) : pE s (d + 1) n = (⟨4 + v8 s (pe1 s d n).2 [43, 45, 42, 38, 94, 61, 60], 0, [(pe1 s d n).1, (pe4 s d n).1]⟩, k8 s (pe4 s d n).2 [41]) := by
 rw [pE, if_neg h0, if_neg h, if_neg h1, if_neg (by rw [h2]; decide)]
 exact (if_neg (by rw [show x5 s (pE s d (k8 s n [40])).2 [63] = false from h3]; decide)).trans (if_neg h4)
end
theorem bf8 : ∀ (d : Nat) (n : Int), -1 <= (pE s d n).2 /\ (pE s d n).2 <= s.length
 | 0, n => ⟨by show (-1 : Int) <= -1; omega, by show (-1 : Int) <= _; omega⟩
 | d + 1, n => by
  by_cases h0 : n < 0
  ·rw [ao0 h0]; exact ⟨by show (-1 : Int) <= -1; omega, by show (-1 : Int) <= _; omega⟩
  by_cases h : v8 s n [97, 98, 99, 100, 101, 102, 103, 104, 105, 106, 107, 108] >= 0
  ·rw [an7 h0 h]
   have := (V0 s n [97, 98, 99, 100, 101, 102, 103, 104, 105, 106, 107, 108]).2.2 h
   exact ⟨by show -1 <= n + 1; omega, by show n + 1 <= _; omega⟩
  by_cases h1 : v8 s n [80, 81] >= 0
  ·rw [ao3 h0 h h1]; exact X1 _ _ _
  cases h2 : x5 s n [40] with
  | false => rw [an9 h0 h h1 h2]; exact bk5 (by omega)
  | true =>
   cases h3 : x5 s (pe1 s d n).2 [63] with
   | true => rw [an8 h0 h h1 h2 h3]; exact X1 _ _ _
   | false =>
    by_cases h4 : v8 s (pe1 s d n).2 [43, 45, 42, 38, 94, 61, 60] < 0
    ·rw [ao2 h0 h h1 h2 h3 h4]; exact ⟨by show (-1 : Int) <= -1; omega, by show (-1 : Int) <= _; omega⟩
    rw [ao1 h0 h h1 h2 h3 h4]; exact X1 _ _ _
theorem bG2 (d : Nat) : -1 <= (pE s d n).2 := (bf8 d n).1
theorem ad4 (d : Nat) : (pE s d n).2 <= s.length := (bf8 d n).2
end
end Go.Proofs.YtompcdbfongedaaGreatDoor

namespace Go.Proofs.YtompcdbfongedaaGreatDoor
open Go Go.RowKit
theorem r7.dup {P : Program} {f : FuncId} {args args' : List AV} {S S' : List It} {d : D} {res : AV} {i : Nat} (hc : r7.ok P ⟨f, args, S ++ [.dat d], S' ++ [.dat d], res⟩) (hi : S[i]? = some (.dat d)) (hl : S'.length = S.length)
  (hS : S.all (fun x => ad6 S.length x.ids) = true) (ha : ∀ ρ : Nat -> Value, ρ S.length = ρ i -> AV.vals ρ args = AV.vals ρ args') (hg : ad6 S.length (AV.idsL args') = true) : r7.ok P ⟨f, args', S, S', res⟩ := by
 intro ι φ ψ w0 w F ρ M
 have hi' : v7 S i = .dat d := by simp [v7, hi]
 have hlt : i < S.length := (bP8.1 hi).1
 have hinv : Inv (v7 S) ρ [S.length] := fun ρ' h j => by
  by_cases hj : j < S.length
  ·refine It.res_congr _ (fun k hk => h k ?_) (.inr (.inr (h j (by simp; omega))))
   have h1 := M9 (bQ0.1 hS (S[j]) (bP5 hj)) k (by simpa [v7, bP1, bO7 hj] using hk)
   simp; omega
  rw [show v7 S j = .none by simp only [v7, bP1, bS2 (Nat.le_of_not_lt hj)]; rfl]; rfl
 obtain ⟨ρ', h1, M1, h2⟩ := M.newDat (id := S.length) (by simp [v7]) hinv (M.datAt hi')
 have e : p9 (v7 S) [(S.length, .dat d)] = v7 (S ++ [.dat d]) := by
  funext j
  simp only [p9, v7, bP1]
  by_cases hj : j = S.length
  ·subst hj; simp
  rw [if_neg hj]
  by_cases hj2 : j < S.length
  ·rw [bS6 hj2]
  rw [bS2 (by omega), bS2 (by simp; omega)]
 rw [e] at M1
 have hρ : ρ' i = ρ i := h1 i (by simp; omega)
 have ea : AV.vals ρ args' = AV.vals ρ' args := by
  rw [ha ρ' (by rw [<- h2, hρ])]
  exact (AV.vals_congr _ fun k hk => by
   have := M9 hg k hk
   exact h1 k (by simp; omega)).symm
 simp only
 rw [ea]
 refine (hc ι φ ψ w0 w F ρ' M1).mono ?_
 rintro x w' ⟨ρ2, g1, g2, M2⟩
 refine ⟨ρ2, fun k hk => ?_, g2, ?_⟩
 ·rw [g1 k (by simp; omega)]; exact h1 k (by simp; omega)
 refine M2.map (fun k => match k with | .inl i => some (.inl i) | .inr j => if j < S'.length then some (.inr j) else none) ?_ ?_
 ·intro k k' x h1 h2
  match k, k' with
  | .inl i, .inl i' => simp at h1 h2; rw [h1, h2]
  | .inl i, .inr j => simp at h1; subst h1; simp at h2
  | .inr j, .inl i => simp at h2; subst h2; simp at h1
  | .inr j, .inr j' => simp at h1 h2; rw [<- h1.2] at h2; rw [Sum.inr.inj h2.2]
 intro k
 match k with
 | .inl i => exact .inl ⟨.inl i, rfl, rfl⟩
 | .inr j =>
  by_cases hj : j < S'.length
  ·refine .inl ⟨.inr j, by simp [hj], ?_⟩
   simp only [s6, v7, bP1, bS6 hj]
  refine .inr ?_
  simp only [s6, v7, bP1, bS2 (Nat.le_of_not_lt hj)]
  rfl
abbrev tA (l : List UInt8) : AV := .v (.string (b5 l))
theorem n9.tab {ι : Type} {φ ψ : Nat -> Prop} {w0 w : World} {L : ι -> Rs} (M : n9 φ ψ w0 w L) : aM3 w :=
 ⟨w.heap.size, bP9 _, fun w' hb => (M.env w' (M.kept.trans (z6.of_below hb fun _ h _ => h))).1⟩
theorem a28 {P : Program} {f : FuncId} {args : List AV} {S : List It} {x : Value} (h : ∀ (φ : Nat -> Prop) (w : World) (ρ : Nat -> Value), aM3 w -> (∀ i d, v7 S i = .dat d -> RD w φ d (ρ i)) -> Calls P f (AV.vals ρ args).toArray w fun e w' => e = .returned x /\ Below w.heap.size w w') : r7.ok P (N8 f args S (.v x)) := by
 intro ι φ ψ w0 w F ρ M
 refine (h (U0 φ (s6 F ρ (v7 S))) w ρ M.tab fun i d hi => M.datAt hi).mono ?_
 rintro e w' ⟨rfl, hb⟩
 exact ⟨ρ, fun _ _ => rfl, rfl, M.call hb⟩
theorem ax1 {v : Int} (h : 0 <= v) : ∃ n : Nat, v = n := ⟨v.toNat, by omega⟩
theorem a58 (v : Int) (h0 : 0 <= v) (h1 : v < 12) : r7.ok Tryz.prog (N8 58 [iA v] [] (tA [UInt8.ofNat (97 + v.toNat)])) := by
 obtain ⟨n, rfl⟩ := ax1 h0
 exact L8 fun φ w ρ _ => av9 n (by omega) w
theorem bm0 (v : Int) (h0 : 0 <= v) (h1 : v < 1000000) : r7.ok Tryz.prog (N8 60 [iA v] [] (tA (Lib.decDigits v.toNat))) := by
 obtain ⟨n, rfl⟩ := ax1 h0
 exact L8 fun φ w ρ _ => ar1 n (by omega) w
theorem aG2 (v : Int) (h0 : 0 <= v) (h1 : v < 12) : r7.ok Tryz.prog (N8 88 [iA v] [] (tA [UInt8.ofNat (97 + v.toNat)])) := by
 obtain ⟨n, rfl⟩ := ax1 h0
 exact L8 fun φ w ρ _ => ak7 n (by omega) w
theorem aT4 (v : Int) (h0 : 0 <= v) (h1 : v < 2) : r7.ok Tryz.prog (N8 90 [iA v] [] (tA [UInt8.ofNat (80 + v.toNat)])) := by
 obtain ⟨n, rfl⟩ := ax1 h0
 exact L8 fun φ w ρ _ => ad8 n (by omega) w
theorem bD4 (v : Int) (h0 : 0 <= v) (h1 : v < 1000000) : r7.ok Tryz.prog (N8 91 [iA v] [] (tA (Lib.decDigits v.toNat))) := by
 obtain ⟨n, rfl⟩ := ax1 h0
 exact a28 fun φ w ρ ht _ => a38 n (by omega) w ht.is
theorem aO8 {nv na : Nat} {e : b9} (h : n7 nv na e = true) : m9 nv na 5 e = true := by
 unfold n7 at h
 simp only [bO8] at h
 exact h.1
theorem bl9 (nv na : Nat) (hnv : nv <= 12) (hna : na <= 2) (e : b9) (h : n7 nv na e = true) : r7.ok Tryz.prog (N8 59 [eA e 0] (eS e) (tA (k6 e))) :=
 L8 fun φ w ρ hd => aO0 nv na hnv hna 5 (by omega) e φ _ w ⟨_, rfl, hd 0 _ rfl⟩ (aO8 h)
theorem aZ5 (nv na : Nat) (hnv : nv <= 12) (hna : na <= 2) (e : b9) (h : n7 nv na e = true) : r7.ok Tryz.prog (N8 89 [eA e 0] (eS e) (tA (k6 e))) :=
 a28 fun φ w ρ ht hd => aB6 nv na hnv hna 5 (by omega) e φ _ w ⟨_, rfl, hd 0 _ rfl⟩ (aO8 h) ht
theorem bt9 {nv na d : Nat} {ss : List b7} (h : ∀ s ∈ ss, m8 nv na (d + 1) s = true) {k : Nat} (hk : k < ss.length) : m8 nv na (d + 1) (ss.getD k bP0) = true := by
 rw [t7 hk]; exact h _ (bP5 hk)
theorem bv1 {ss : List b7} {k : Nat} (hk : k < ss.length) : nS (ss.getD k bP0) <= T6 ss := by
 have h1 := a81 hk
 have h2 := ar5 ss (k + 1)
 rw [t7 hk]; omega
theorem bA9 {ss : List b7} (k : Nat) : T6 (ss.take k) <= T6 ss := ar5 ss k
theorem aX8 : ∀ ss : List b7, ss.length <= T6 ss
 | [] => bP9 _
 | s :: r => by
  have h1 := Z7 s
  have h2 := aX8 r
  simp only [T6, bO9]; omega
theorem bc7 {nv na d : Nat} {ss : List b7} (h : ∀ s ∈ ss, m8 nv na d s = true) (k : Nat) : (f9 (ss.take k)).length <= 20000 * T6 ss :=
 bO6 (G7 nv na d _ fun s hs => h s (List.mem_of_mem_take hs)) (Nat.mul_le_mul_left _ (bA9 k))
section
variable {nv na d : Nat} {s : b7} (h : m8 nv na (d + 1) s = true)
include h
theorem a11 (hk : s.kind = 1 \/ s.kind = 5) : 0 <= s.target /\ s.target < nv := (B8 h).2.1 hk
theorem bt8 (hk : s.kind = 2) : 0 <= s.target /\ s.target < na := ⟨((B8 h).2.2.1 hk).1, ((B8 h).2.2.1 hk).2.1⟩
theorem a12 (hk : s.kind = 2) : n7 nv na s.index = true := ((B8 h).2.2.1 hk).2.2.1
theorem K6 (hk : s.kind ≠ 4) : n7 nv na s.value = true := (B8 h).2.2.2.1 hk
theorem bE2 (k1 : ¬ s.kind = 1) (k2 : ¬ s.kind = 2) (k3 : ¬ s.kind = 3) (k5 : ¬ s.kind = 5) : s.kind = 4 /\ 1 <= s.count /\ s.count <= 3 := by
 have h1 := (B8 h).1
 have h4 : s.kind = 4 := by omega
 exact ⟨h4, (B8 h).2.2.2.2.1 h4⟩
theorem ar0 : ∀ x ∈ s.body, m8 nv na d x = true := (B8 h).2.2.2.2.2.1
theorem a13 : ∀ x ∈ s.els, m8 nv na d x = true := (B8 h).2.2.2.2.2.2
end
theorem m5 (a : Array UInt8) : (⟨a⟩ : ByteArray).size = a.size := rfl
theorem N5 (l : List UInt8) : (⟨l.toArray⟩ : ByteArray) = b5 l := rfl
theorem by9 {t : Int} (h0 : 0 <= t) (h1 : t < 2) : ByteArray.extract ⟨#[80, 81]⟩ t.toNat (t + 1).toNat = b5 [UInt8.ofNat (80 + t.toNat)] := by
 have : t = 0 \/ t = 1 := by omega
 rcases this with rfl | rfl <;> decide +kernel
theorem br0 {t : Int} (h : w9 t = true) : ByteArray.extract ⟨#[76, 72, 85, 88]⟩ t.toNat (t + 1).toNat = b5 [aK9 t] := by
 unfold w9 at h
 simp only [bO8, decide_eq_true_eq] at h
 have : t = 0 \/ t = 1 \/ t = 2 \/ t = 3 := by omega
 rcases this with rfl | rfl | rfl | rfl <;> decide +kernel
section
variable {ss : List b7} {k : Nat} (hk : k < ss.length)
include hk
theorem bM9 (hq : (ss.getD k bP0).kind = 1) : b5 (f9 (ss.take k)) ++ b5 [UInt8.ofNat (97 + (ss.getD k bP0).target.toNat)] ++ ⟨#[58, 61]⟩ ++ b5 (k6 (ss.getD k bP0).value) ++ ⟨#[59]⟩ = b5 (f9 (ss.take (k + 1))) := by
 rw [H3 hk, x9, stT, if_pos hq]; show _ = b5 _; simp only [N5, L6, bR5]
theorem bM5 (hq : (ss.getD k bP0).kind = 5) : b5 (f9 (ss.take k)) ++ b5 [UInt8.ofNat (97 + (ss.getD k bP0).target.toNat)] ++ ⟨#[33, 61]⟩ ++ b5 (k6 (ss.getD k bP0).value) ++ ⟨#[59]⟩ = b5 (f9 (ss.take (k + 1))) := by
 rw [H3 hk, x9, stT, if_neg (by omega), if_pos hq]; show _ = b5 _; simp only [N5, L6, bR5]
theorem bM8 (hq : (ss.getD k bP0).kind = 2) (h0 : 0 <= (ss.getD k bP0).target) (h1 : (ss.getD k bP0).target < 2) : b5 (f9 (ss.take k)) ++ ByteArray.extract ⟨#[80, 81]⟩ (ss.getD k bP0).target.toNat ((ss.getD k bP0).target + 1).toNat ++ ⟨#[91]⟩ ++ b5 (k6 (ss.getD k bP0).index) ++ ⟨#[93, 58, 61]⟩ ++ b5 (k6 (ss.getD k bP0).value) ++ ⟨#[59]⟩ = b5 (f9 (ss.take (k + 1))) := by
 rw [H3 hk, x9, stT, if_neg (by omega), if_neg (by omega), if_pos hq]
 rw [by9 h0 h1]
 show _ = b5 _; simp only [N5, L6, bR5]
theorem bM7 (hq : (ss.getD k bP0).kind = 3) : b5 (f9 (ss.take k)) ++ ⟨#[105, 102]⟩ ++ b5 (k6 (ss.getD k bP0).value) ++ ⟨#[123]⟩ ++ b5 (f9 (ss.getD k bP0).body) ++ ⟨#[125, 123]⟩ ++ b5 (f9 (ss.getD k bP0).els) ++ ⟨#[125]⟩ = b5 (f9 (ss.take (k + 1))) := by
 rw [H3 hk, x9, stT, if_neg (by omega), if_neg (by omega), if_neg (by omega), if_pos hq]; show _ = b5 _; simp only [N5, L6, bR5]
theorem bM6 (hq : (ss.getD k bP0).kind = 4) : b5 (f9 (ss.take k)) ++ ⟨#[114, 101, 112, 101, 97, 116]⟩ ++ b5 (Lib.decDigits (ss.getD k bP0).count.toNat) ++ ⟨#[123]⟩ ++ b5 (f9 (ss.getD k bP0).body) ++ ⟨#[125]⟩ = b5 (f9 (ss.take (k + 1))) := by
 rw [H3 hk, x9, stT, if_neg (by omega), if_neg (by omega), if_neg (by omega), if_neg (by omega)]; show _ = b5 _; simp only [N5, L6, bR5]
end
abbrev scA (s : List UInt8) (n : Int) : AV := .agg [.v (.string (b5 s)), iA n]
theorem T2 (s : List UInt8) (a b : Nat) : ByteArray.extract (b5 s) a b = b5 ((s.take b).drop a) := by
 apply ByteArray.ext
 simp [b5, List.drop_take]
section
variable {s w ls : List UInt8} {n : Int} {k : Nat}
theorem bN3 (h : ¬ n >= 0) : x5 s n w = false := by
 unfold x5; rw [decide_eq_false (by omega)]; rfl
theorem bN2 (h : ¬ n + w.length <= s.length) : x5 s n w = false := by
 unfold x5; rw [decide_eq_false (p := n + w.length <= s.length) (by omega)]; simp
theorem bN1 (h0 : n >= 0) (h : n + w.length <= s.length) : x5 s n w = ((ByteArray.extract (b5 s) n.toNat (n + (w.length : Nat)).toNat).toList == (b5 w).toList) := by
 unfold x5
 rw [decide_eq_true (by omega), decide_eq_true h, Bool.true_and, Bool.true_and, T2, E5, E5, show (n + (w.length : Nat)).toNat = n.toNat + w.length by omega, List.drop_take, Nat.add_sub_cancel_left]
theorem bC5 (hk : k < ls.length) (h : I5 (s.getD n.toNat 0) ls 0 = I5 (s.getD n.toNat 0) (ls.drop k) k) (he : ((s.getD n.toNat 0).toNat : Int) = ((ls.getD k 0).toNat : Int)) : I5 (s.getD n.toNat 0) ls 0 = k := by
 rw [h, List.drop_eq_getElem_cons hk, I5, if_pos]
 rw [t7 hk] at he
 exact UInt8.toNat_inj.1 (by omega)
theorem br4 (hk : k < ls.length) (h : I5 (s.getD n.toNat 0) ls 0 = I5 (s.getD n.toNat 0) (ls.drop k) k) (he : ¬ ((s.getD n.toNat 0).toNat : Int) = ((ls.getD k 0).toNat : Int)) : I5 (s.getD n.toNat 0) ls 0 = I5 (s.getD n.toNat 0) (ls.drop (k + 1)) (k + 1 : Nat) := by
 rw [h, List.drop_eq_getElem_cons hk, I5, if_neg]
 ·rfl
 rw [t7 hk] at he
 exact fun e => he (by rw [e])
theorem bC6 (hk : ls.length <= k) (h : I5 (s.getD n.toNat 0) ls 0 = I5 (s.getD n.toNat 0) (ls.drop k) k) : I5 (s.getD n.toNat 0) ls 0 = -1 := by
 rw [h, List.drop_eq_nil_iff.2 hk]; rfl
theorem bp6 (h : n < 0) : v8 s n ls = -1 := by unfold v8; rw [if_pos (.inl h)]
theorem bp5 (h : n >= s.length) : v8 s n ls = -1 := by unfold v8; rw [if_pos (.inr h)]
theorem bg8 (h0 : ¬ n < 0) (h : ¬ n >= s.length) : v8 s n ls = I5 (s.getD n.toNat 0) ls 0 := by unfold v8; rw [if_neg (by omega)]
theorem bI0 (h : (k : Int) = 0) (he : v8 s (n + k) [48, 49, 50, 51, 52, 53, 54, 55, 56, 57] < 0) : J7 s n = (0, -1) := by
 have : k = 0 := by omega
 subst this
 exact bN8 (by simpa using he)
theorem bL9 (s : List UInt8) (n : Int) : -1 <= v8 s n [48, 49, 50, 51, 52, 53, 54, 55, 56, 57] /\ v8 s n [48, 49, 50, 51, 52, 53, 54, 55, 56, 57] <= 9 := by
 have := V0 s n [48, 49, 50, 51, 52, 53, 54, 55, 56, 57]
 simp only [bO9, bP2] at this
 omega
theorem bI1 (h : ∀ j : Nat, j < k -> 0 <= v8 s (n + j) [48, 49, 50, 51, 52, 53, 54, 55, 56, 57]) (hq : v8 s (n + k) [48, 49, 50, 51, 52, 53, 54, 55, 56, 57] >= 0) : ∀ j : Nat, j < k + 1 -> 0 <= v8 s (n + j) [48, 49, 50, 51, 52, 53, 54, 55, 56, 57] := fun j hj => by
 by_cases e : j = k
 ·subst e; exact hq
 exact h j (by omega)
end
end Go.Proofs.YtompcdbfongedaaGreatDoor

namespace Go.Proofs.YtompcdbfongedaaGreatDoor
open Go
def bt6 (x : UInt8) : Int := I5 x [76, 72, 85, 88] 0
theorem aD9 {l : Int} (h : w9 l = true) : bt6 (aK9 l) = l := by
 unfold w9 at h
 simp only [bO8, decide_eq_true_eq] at h
 have : l = 0 \/ l = 1 \/ l = 2 \/ l = 3 := by omega
 rcases this with rfl | rfl | rfl | rfl <;> decide +kernel
theorem a82 {ls : List Int} (h : ls.all w9 = true) : (s2 ls).map bt6 = ls := by
 induction ls with
 | nil => rfl
 | cons a r ih =>
  simp only [List.all_cons, bO8] at h
  rw [s2, bS0, bS0, aD9 h.1]
  exact congrArg _ (ih h.2)
theorem bB4 {l : Int} (h : w9 l = true) : aK9 l ≠ 47 := by
 unfold w9 at h
 simp only [bO8, decide_eq_true_eq] at h
 have : l = 0 \/ l = 1 \/ l = 2 \/ l = 3 := by omega
 rcases this with rfl | rfl | rfl | rfl <;> decide +kernel
theorem at6 {ls : List Int} (h : ls.all w9 = true) : (47 : UInt8) ∉ s2 ls := by
 intro hm
 obtain ⟨l, h1, h2⟩ := List.mem_map.1 hm
 exact bB4 (bQ0.1 h l h1) h2
theorem ah7 {p : o6} (h : A7 p = true) : p.vars.all w9 = true /\ p.arrays.all w9 = true := by
 unfold A7 F7 at h
 simp only [bO8, decide_eq_true_eq] at h
 exact ⟨h.1.1.1.1.1.1, h.1.1.1.1.1.2⟩
theorem P8 {l : List UInt8} (h : ((b5 l).toList == (⟨#[]⟩ : ByteArray).toList) = false) : l ≠ [] := by
 rintro rfl
 have : ((b5 []).toList == (⟨#[]⟩ : ByteArray).toList) = true := by rw [show (⟨#[]⟩ : ByteArray) = b5 [] from rfl]; simp
 rw [this] at h; cases h
end Go.Proofs.YtompcdbfongedaaGreatDoor

namespace Go.Proofs.YtompcdbfongedaaGreatDoor
open Go Go.RowKit
abbrev rdB (s : List UInt8) (b : Bool) : It := .box [.v (.string (b5 s)), .v (.bool b)]
abbrev uA (x : UInt8) : AV := .v (.int .u8 (x.toNat : Int))
section
variable {s u : List UInt8} {b : Bool} {x : UInt8} {k : Nat}
def cpI (s u : List UInt8) : List UInt8 := if Q5 s u then s.drop u.length else s
theorem bL8 (h : ((b5 s).toList == (⟨#[]⟩ : ByteArray).toList) = true) : I7 (s, b) = 0 := by
 have : s = [] := by rw [show (⟨#[]⟩ : ByteArray) = b5 [] from rfl, E5, E5] at h; exact eq_of_beq h
 unfold I7; rw [if_pos (.inr this)]
theorem bL7 (h : b = false) (h1 : ((b5 s).toList == (⟨#[]⟩ : ByteArray).toList) = false) : I7 (s, b) = s.getD 0 0 := by
 have : s ≠ [] := P8 h1
 unfold I7; rw [if_neg (by simp [h, this])]
theorem bz0 (h1 : ((b5 s).toList == (⟨#[]⟩ : ByteArray).toList) = false) : 0 < s.length := List.length_pos_iff.2 (P8 h1)
theorem bH8 (h : ¬ u.length <= s.length) : Q5 s u = false := by
 unfold Q5
 rw [beq_eq_false_iff_ne]
 intro e
 have := congrArg List.length e
 rw [List.length_take] at this; omega
theorem bN4 (h : u.length <= s.length) : Q5 s u = ((ByteArray.extract (b5 s) 0 u.length).toList == (b5 u).toList) := by
 rw [T2, E5, E5, List.drop_zero]; rfl
theorem bN9 (h : Q5 s u = true) : cpI s u = s.drop u.length := by unfold cpI; rw [if_pos h]
theorem bO0 (h : Q5 s u = false) : cpI s u = s := by unfold cpI; rw [h]; rfl
theorem bC2 (h : Q5 s u = true) : u.length <= s.length := by
 rcases bR6 s.length u.length with h1 | h1
 ·rw [bH8 (by omega)] at h; cases h
 exact h1
theorem bl0 (h : u.length <= s.length) : ByteArray.extract (b5 s) u.length s.length = b5 (s.drop u.length) := by
 rw [T2, List.take_length]
theorem bI4 : ByteArray.extract (b5 s) 1 s.length = b5 (s.drop 1) := by
 rw [T2, List.take_length]
theorem bu1 : (f8 (s, b) u).1 = cpI s u := by unfold f8 cpI; split <;> rfl
theorem bu0 : (f8 (s, b) u).2 = (b || !Q5 s u) := by unfold f8; split <;> simp [*]
theorem bz7 (h : I7 (s, b) = 0) : l0 (s, b) = (0, (s, true)) := by unfold l0; rw [if_pos h]
theorem bz8 (h : ¬ I7 (s, b) = 0) : l0 (s, b) = (I7 (s, b), (s.drop 1, b)) := by unfold l0; rw [if_neg h]
theorem aV1 (h : ((x.toNat : Nat) : Int) = 0) : x = 0 := UInt8.toNat_inj.1 (by rw [show (0 : UInt8).toNat = 0 from rfl]; omega)
theorem bm9 (h : ¬ ((x.toNat : Nat) : Int) = 0) : ¬ x = 0 := fun e => h (by rw [e]; rfl)
theorem bA1 (h : ¬ I7 (s, b) = 0) : 0 < s.length /\ b = false := by
 unfold I7 at h
 split at h
 ·exact absurd rfl h
 rename_i h1
 simp only [not_or, Bool.not_eq_true] at h1
 exact ⟨List.length_pos_iff.2 h1.2, h1.1⟩
theorem bC3 {ls : List UInt8} (hk : k < ls.length) (h : I5 x ls 0 = I5 x (ls.drop k) k) (he : ((ls.getD k 0).toNat : Int) = ((x.toNat : Nat) : Int)) : I5 x ls 0 = k := by
 rw [h, List.drop_eq_getElem_cons hk, I5, if_pos]
 rw [t7 hk] at he
 exact UInt8.toNat_inj.1 (by omega)
theorem br3 {ls : List UInt8} (hk : k < ls.length) (h : I5 x ls 0 = I5 x (ls.drop k) k) (he : ¬ ((ls.getD k 0).toNat : Int) = ((x.toNat : Nat) : Int)) : I5 x ls 0 = I5 x (ls.drop (k + 1)) (k + 1 : Nat) := by
 rw [h, List.drop_eq_getElem_cons hk, I5, if_neg]
 ·rfl
 rw [t7 hk] at he
 exact fun e => he (by rw [e])
end
end Go.Proofs.YtompcdbfongedaaGreatDoor

namespace Go.Proofs.YtompcdbfongedaaGreatDoor
open Go Go.RowKit Go.Shelf
def aQ5 : Go.Shelf.Ren := ⟨fun | 217 => 79 | 266 => 110 | n => n, fun | 3 => 3 | 5 => 5 | 9 => 9 | n => n, fun  | n => n⟩
theorem bq5 : Go.Proofs.Lays.n217 Tryz.prog aQ5 := {
 mixed := by kernel_rfl
 f217 := Tryz.func79.trans (congrArg some (by kernel_rfl))
 f266 := Tryz.func110.trans (congrArg some (by kernel_rfl))
 t3 := Tryz.underlying3
 a3 := Tryz.isAgg3
 z3 := Tryz.sizeOf3
 v3 := Tryz.zeroValue3
 t5 := Tryz.underlying5
 a5 := Tryz.isAgg5
 z5 := Tryz.sizeOf5
 v5 := Tryz.zeroValue5
 t9 := Tryz.underlying9
 a9 := Tryz.isAgg9
 z9 := Tryz.sizeOf9
 v9 := Tryz.zeroValue9 }
theorem aS1 (x : UInt8) : ∀ (ls : List UInt8) (i : Int), I5 x ls i = if Lib.indexByte ls x = -1 then -1 else i + Lib.indexByte ls x
 | [], i => rfl
 | y :: r, i => by
  unfold I5 Lib.indexByte
  by_cases h : x = y
  ·subst h; simp
  have h2 : (y == x) = false := by simpa using fun e => h e.symm
  rw [if_neg h, h2, aS1 x r (i + 1)]
  have h3 := Lib.indexByte_ge r x
  by_cases h4 : Lib.indexByte r x = -1
  ·simp [h4]
  have h5 : (Lib.indexByte r x == -1) = false := by simpa using h4
  rw [if_neg h4, h5]
  simp only [Bool.false_eq_true, if_false]
  rw [if_neg (by omega)]
  omega
theorem aC3 (ls : List UInt8) (x : UInt8) : r7.ok Tryz.prog (N8 79 [tA ls, uA x] [] (iA (I5 x ls 0))) :=
 L8 fun φ w ρ _ => (Any.stringslite_IndexByte bq5 (b5 ls) (x.toNat : Int) w).mono fun e w' ⟨he, hw⟩ => by
  subst hw
  refine ⟨?_, Below.refl _ _⟩
  rw [he, aS1, Int.toNat_natCast]
  have e1 : x.toNat.toUInt8 = x := by simp
  have e2 : (b5 ls).data.toList = ls := rfl
  rw [e1, e2]
  by_cases h : Lib.indexByte ls x = -1
  ·rw [h]; rfl
  rw [if_neg h, Int.zero_add]
end Go.Proofs.YtompcdbfongedaaGreatDoor

namespace Go.Proofs.YtompcdbfongedaaGreatDoor
open Go Go.RowKit
theorem ag9 (s u : List UInt8) : r7.ok Tryz.prog (N8 111 [tA s, tA u] [] (bA (Q5 s u))) := by
 have hz : (b5 s).size = s.length := rfl; have hz2 : (b5 u).size = u.length := rfl; refine M7 18 Tryz.func111 [] [(0, .v (.string (b5 s))), (1, .v (.string (b5 u)))] fun G => ?_; refine wp_seq (o0 G m0 [(4, bA false)] fun G => b0 (wp_seq ?_)); cases h0 : (decide (((b5 s).size : Int) >= ((b5 u).size : Int)))
 ·have q0 := R5 h0; refine o0 G (D7 (fc h0 fz) (us [(6, 11, 0), (1012, 1012, 0)])) [] fun G => b0 (wp_ret ?_); exact E1 false G [] (bH8 (by omega))
 have q0 := R4 h0; refine L0 G (D7 (fc h0 fz) (us [(6, 11, 0), (1012, 1012, 0)])) [(4, bA (((b5 s).extract 0 (b5 u).size).toList == (b5 u).toList))] [(0 : Int) <= ((b5 u).size : Int), ((b5 u).size : Int) <= ((b5 s).size : Int)] ⟨(by omega), (by assumption), bP7⟩ fun G => b0 (wp_ret ?_); exact E1 (((b5 s).extract 0 (b5 u).size).toList == (b5 u).toList) G [] (bN4 (by omega))
theorem ar9 (s u : List UInt8) : r7.ok Tryz.prog (N8 80 [tA s, tA u] [] (bA (Q5 s u))) := by
 refine M7 8 Tryz.func80 [] [(0, .v (.string (b5 s))), (1, .v (.string (b5 u)))] fun G => ?_; refine wp_seq (o0 G m0 [(4, bA false)] fun G => b0 (wp_seq (o0 G (x8 2 [] (ag9 s u)) [(4, bA (Q5 s u))] fun G => b0 (wp_ret ?_)))); exact Z0 G []
theorem aC4 (s u : List UInt8) (hs : s.length <= 100000000) : r7.ok Tryz.prog (N8 129 [tA s, tA u] [] (.tup [.v (.string (b5 (cpI s u))), bA (Q5 s u)])) := by
 have hz : (b5 s).size = s.length := rfl; have hz2 : (b5 u).size = u.length := rfl; refine M7 15 Tryz.func129 [] [(0, .v (.string (b5 s))), (1, .v (.string (b5 u)))] fun G => ?_; refine wp_seq (o0 G m0 [(4, .v (.string (ByteArray.mk #[]))), (5, bA false)] fun G => b0 (wp_seq (wp_seq (H8 G (x8 2 [] (ag9 s u)) [(0, .v (.string (b5 s))), (1, .v (.string (b5 u))), (4, .v (.string (ByteArray.mk #[]))), (5, bA false), (9, .v (.bool !Q5 s u))] fun G => b0 ?_)))); cases h0 : (!Q5 s u)
 ·have q0 : (Q5 s u) = true := (Eq.mp (bQ2 _) h0); have hq9 := bC2 (s := s) (u := u) (by assumption); refine rF G _ h0 (wp_skip (b0 (wp_seq (L0 G m0 [(4, .v (.string ((b5 s).extract (b5 u).size (b5 s).size))), (5, bA true)] [(0 : Int) <= ((b5 u).size : Int), ((b5 u).size : Int) <= ((b5 s).size : Int)] ⟨(by omega), (by omega), bP7⟩ fun G => b0 (wp_ret ?_))))); exact K2 (.tup [.v (.string ((b5 s).extract (b5 u).size (b5 s).size)), bA true]) G [] (by have e1 : (b5 (cpI s u) : ByteArray) = ((b5 s).extract (b5 u).size (b5 s).size) := (by rw [bN9 (by assumption)]; exact (bl0 (by omega)).symm); have e2 : (Q5 s u : Bool) = (true) := (by assumption); (first | rw [e1, e2] | simp only [e1, e2]) <;> rfl)
 have q0 : (Q5 s u) = false := (Eq.mp (bQ1 _) h0); refine rT G _ h0 (wp_seq (o0 G m0 [(4, .v (.string (b5 s)))] fun G => b0 (wp_ret (n8 ?_)))); exact K2 (.tup [.v (.string (b5 s)), bA false]) G [] (by have e1 : (b5 (cpI s u) : ByteArray) = (b5 s) := (by rw [bO0 (by assumption)]); have e2 : (Q5 s u : Bool) = (false) := (by assumption); (first | rw [e1, e2] | simp only [e1, e2]) <;> rfl)
theorem aT6 (s u : List UInt8) (hs : s.length <= 100000000) : r7.ok Tryz.prog (N8 112 [tA s, tA u] [] (.tup [.v (.string (b5 (cpI s u))), bA (Q5 s u)])) := by
 refine M7 11 Tryz.func112 [] [(0, .v (.string (b5 s))), (1, .v (.string (b5 u)))] fun G => ?_; refine wp_seq (o0 G m0 [(4, .v (.string (ByteArray.mk #[]))), (5, bA false)] fun G => b0 (wp_seq (o0 G (x8 2 [] (aC4 s u (by assumption))) [(4, .v (.string (b5 (cpI s u)))), (5, bA (Q5 s u))] fun G => b0 (wp_ret ?_)))); exact Z0 G []
theorem ap4 (s : List UInt8) (b : Bool) : r7.ok Tryz.prog ⟨49, [.ptr 0 0], [rdB s b], [rdB s b], uA (I7 (s, b))⟩ := by
  have hz : (b5 s).size = s.length := rfl; refine M7 19 Tryz.func49 [.box [.v (.string (b5 s)), bA b]] [(0, .ptr 0 0)] fun G => ?_; refine wp_seq (o0 G m0 [(2, .v (.int .u8 0))] fun G => b0 (wp_seq (wp_seq ?_))); cases h0 : (b)
  ·
   refine H8 G (D7 (fc h0 fz) (us [(5, 9, 0), (1010, 1010, 0)])) [(0, .ptr 0 0), (2, .v (.int .u8 0)), (13, bA ((b5 s).toList == (ByteArray.mk #[]).toList))] fun G => b0 ?_; cases h1 : ((b5 s).toList == (ByteArray.mk #[]).toList)
   · have hq9 := bz0 (s := s) (by assumption); refine rF G _ h1 (wp_skip (b0 (wp_seq (L0 G m0 [(2, .v (.int .u8 (((b5 s).data.toList.getD (Int.toNat 0) 0).toNat : Int)))] [(0 : Int) <= 0, (0 : Int) < ((b5 s).size : Int)] ⟨(by omega), (by omega), bP7⟩ fun G => b0 (wp_ret ?_))))); exact K2 (.v (.int .u8 (((b5 s).data.toList.getD (Int.toNat 0) 0).toNat : Int))) G [0] (by show _ = AV.ren (nth [0]) (.v (.int .u8 ((I7 (s, false)).toNat : Int))); rw [bL7 rfl (by assumption)] <;> rfl) (by show _ = mR [0] [.box [.v (.string (b5 s)), bA false]]; have e1 : (false : Bool) = (b) := (by simp only [h0, h1]; done); (first | rw [e1] | simp only [e1]) <;> rfl)
   refine rT G _ h1 (wp_seq (o0 G m0 [] fun G => b0 (wp_ret (n8 ?_)))); exact K2 (.v (.int .u8 0)) G [0] (by show _ = AV.ren (nth [0]) (.v (.int .u8 ((I7 (s, false)).toNat : Int))); rw [bL8 (by assumption)] <;> rfl) (by show _ = mR [0] [.box [.v (.string (b5 s)), bA false]]; have e1 : (false : Bool) = (b) := (by simp only [h0, h1]; done); (first | rw [e1] | simp only [e1]) <;> rfl)
  refine o0 G (D7 (fc h0 fz) (us [(5, 9, 0), (1010, 1010, 0)])) [(13, bA true)] fun G => b0 (rT G true (by kernel_rfl) (wp_seq (o0 G m0 [] fun G => b0 (wp_ret (n8 ?_))))); exact Z0 G [0] (by show _ = mR [0] [.box [.v (.string (b5 s)), bA true]]; have e1 : (true : Bool) = (b) := (by simp only [h0]; done); (first | rw [e1] | simp only [e1]) <;> rfl)
theorem I3 (s u : List UInt8) (b : Bool) (hs : s.length <= 100000000) : r7.ok Tryz.prog ⟨81, [.ptr 0 0, tA u], [rdB s b], [rdB (f8 (s, b) u).1 (f8 (s, b) u).2], .tup []⟩ := by
 refine M7 30 Tryz.func81 [.box [.v (.string (b5 s)), bA b]] [(0, .ptr 0 0), (1, .v (.string (b5 u)))] fun G => ?_; refine wp_seq (o0 G (x8 5 [] (aT6 s u (by assumption))) [(4, .v (.string (b5 (cpI s u)))), (5, bA (Q5 s u))] fun G => b0 ?_); cases h0 : (b)
 ·refine r8 G (D7 (fc h0 fz) [(8, 0), (9, 0), (1010, 0)]) [0] [.box [.v (.string (b5 (cpI s u))), .v (.bool !Q5 s u)]] [] fun G => ?_; exact bF7 G [0] (by show _ = mR [0] [.box [.v (.string (b5 (f8 (s, false) u).fst)), bA (f8 (s, false) u).snd]]; have e1 : (b5 (f8 (s, false) u).fst : ByteArray) = (b5 (cpI s u)) := (by rw [bu1]); have e2 : ((f8 (s, false) u).snd : Bool) = (!Q5 s u) := (by rw [bu0]; simp [*]; done); (first | rw [e1, e2] | simp only [e1, e2]) <;> rfl)
 refine r8 G (D7 (fc h0 fz) [(8, 0), (9, 0), (1010, 0)]) [0] [.box [.v (.string (b5 (cpI s u))), bA true]] [] fun G => ?_; exact bF7 G [0] (by show _ = mR [0] [.box [.v (.string (b5 (f8 (s, true) u).fst)), bA (f8 (s, true) u).snd]]; have e1 : (b5 (f8 (s, true) u).fst : ByteArray) = (b5 (cpI s u)) := (by rw [bu1]); have e2 : ((f8 (s, true) u).snd : Bool) = (true) := (by rw [bu0]; simp [*]; done); (first | rw [e1, e2] | simp only [e1, e2]) <;> rfl)
theorem aA1 (s : List UInt8) (b : Bool) (hs : s.length <= 100000000) : r7.ok Tryz.prog ⟨85, [.ptr 0 0], [rdB s b], [rdB (l0 (s, b)).2.1 (l0 (s, b)).2.2], uA (l0 (s, b)).1⟩ := by
 have hz : (b5 s).size = s.length := rfl; refine M7 20 Tryz.func85 [.box [.v (.string (b5 s)), bA b]] [(0, .ptr 0 0)] fun G => ?_; refine wp_seq (o0 G m0 [(2, .v (.int .u8 0))] fun G => b0 (wp_seq (o0 G (x8 1 [0] (ap4 s b)) [(3, .v (.int .u8 ((I7 (s, b)).toNat : Int)))] fun G => b0 (wp_seq (wp_seq (H8 G m0 [(0, .ptr 0 0), (2, .v (.int .u8 0)), (3, .v (.int .u8 ((I7 (s, b)).toNat : Int))), (7, bA (((I7 (s, b)).toNat : Int) == 0))] fun G => b0 ?_)))))); cases h0 : (((I7 (s, b)).toNat : Int) == 0)
 ·have q0 := ne_of_beq_false h0; have hq9 := (bA1 (bm9 (x := I7 (s, b)) (by assumption))).1; refine rF G _ h0 (wp_skip (b0 (wp_seq (K9 G m0 [0] [.box [.v (.string ((b5 s).extract (Int.toNat 1) (b5 s).size)), bA b]] [(2, .v (.int .u8 0)), (3, .v (.int .u8 ((I7 (s, b)).toNat : Int)))] [(0 : Int) <= 1, (1 : Int) <= ((b5 s).size : Int)] ⟨(by omega), (by omega), bP7⟩ fun G => b0 (wp_seq (o0 G m0 [(2, .v (.int .u8 ((I7 (s, b)).toNat : Int)))] fun G => b0 (wp_ret ?_))))))); exact K2 (.v (.int .u8 ((I7 (s, b)).toNat : Int))) G [0] (by show _ = AV.ren (nth [0]) (.v (.int .u8 ((l0 (s, b)).fst.toNat : Int))); have e1 : (((l0 (s, b)).fst.toNat : Int) : Int) = (((I7 (s, b)).toNat : Int)) := (by rw [bz8 (bm9 (by assumption))]); (first | rw [e1] | simp only [e1]) <;> rfl) (by show _ = mR [0] [.box [.v (.string (b5 (l0 (s, b)).snd.fst)), bA (l0 (s, b)).snd.snd]]; have e1 : (b5 (l0 (s, b)).snd.fst : ByteArray) = ((b5 s).extract (Int.toNat 1) (b5 s).size) := (by rw [bz8 (bm9 (by assumption))]; exact bI4.symm); have e2 : ((l0 (s, b)).snd.snd : Bool) = (b) := (by rw [bz8 (bm9 (by assumption))]); (first | rw [e1, e2] | simp only [e1, e2]) <;> rfl)
 have q0 := eq_of_beq h0; refine rT G _ h0 (wp_seq (r8 G m0 [0] [.box [.v (.string (b5 s)), bA true]] [(0, .ptr 0 0), (2, .v (.int .u8 0)), (3, .v (.int .u8 ((I7 (s, b)).toNat : Int)))] fun G => b0 (wp_seq (o0 G m0 [] fun G => b0 (wp_ret (n8 ?_)))))); exact K2 (.v (.int .u8 0)) G [0] (by show _ = AV.ren (nth [0]) (.v (.int .u8 ((l0 (s, b)).fst.toNat : Int))); rw [bz7 (aV1 (by assumption))] <;> rfl) (by show _ = mR [0] [.box [.v (.string (b5 (l0 (s, b)).snd.fst)), bA (l0 (s, b)).snd.snd]]; have e1 : (b5 (l0 (s, b)).snd.fst : ByteArray) = (b5 s) := (by rw [bz7 (aV1 (by assumption))]); have e2 : ((l0 (s, b)).snd.snd : Bool) = (true) := (by rw [bz7 (aV1 (by assumption))]); (first | rw [e1, e2] | simp only [e1, e2]) <;> rfl)
theorem W6 (ls : List UInt8) (x : UInt8) (hs : ls.length <= 100000000) : r7.ok Tryz.prog (N8 48 [tA ls, uA x] [] (iA (I5 x ls 0))) := by
 refine M7 8 Tryz.func48 [] [(0, .v (.string (b5 ls))), (1, .v (.int .u8 (x.toNat : Int)))] fun G => ?_; refine wp_seq (o0 G m0 [(4, iA 0)] fun G => b0 (wp_seq (o0 G (x8 2 [] (aC3 ls x)) [(4, iA (I5 x ls 0))] fun G => b0 (wp_ret ?_)))); exact Z0 G []
end Go.Proofs.YtompcdbfongedaaGreatDoor

namespace Go.Proofs.YtompcdbfongedaaGreatDoor
open Go Go.RowKit Go.Shelf
def ad7 : Go.Shelf.Ren := ⟨fun | 129 => 153 | 171 => 91 | 172 => 113 | 205 => 151 | 243 => 115 | 244 => 130 | 245 => 131 | 246 => 133 | 247 => 140 | 279 => 141 | 280 => 142 | 281 => 143 | 282 => 144 | 283 => 145 | 284 => 146 | 285 => 147 | 286 => 148 | 287 => 149 | 316 => 150 | 317 => 152 | 318 => 154 | 319 => 155 | 320 => 156 | 321 => 157 | 322 => 158 | 337 => 159 | 338 => 160 | n => n, fun | 0 => 0 | 2 => 2 | 3 => 3 | 4 => 4 | 5 => 5 | 9 => 9 | 20 => 20 | 21 => 21 | 37 => 31 | 46 => 137 | 51 => 148 | 53 => 158 | 75 => 111 | 76 => 127 | 80 => 113 | 85 => 152 | 127 => 129 | 143 => 174 | 145 => 176 | 167 => 151 | 168 => 154 | 171 => 157 | 173 => 161 | 175 => 163 | 210 => 167 | 212 => 170 | 213 => 171 | 232 => 178 | 233 => 179 | n => n, fun | 15 => 3 | 16 => 4 | 17 => 5 | 18 => 6 | 19 => 7 | n => n⟩
theorem bq6 : Go.Proofs.Lays.n172 Tryz.prog ad7 := {
 mixed := by kernel_rfl
 f129 := Tryz.func153.trans (congrArg some (by kernel_rfl))
 f171 := Tryz.func91.trans (congrArg some (by kernel_rfl))
 f172 := Tryz.func113.trans (congrArg some (by kernel_rfl))
 f205 := Tryz.func151.trans (congrArg some (by kernel_rfl))
 f243 := Tryz.func115.trans (congrArg some (by kernel_rfl))
 f244 := Tryz.func130.trans (congrArg some (by kernel_rfl))
 f245 := Tryz.func131.trans (congrArg some (by kernel_rfl))
 f246 := Tryz.func133.trans (congrArg some (by kernel_rfl))
 f247 := Tryz.func140.trans (congrArg some (by kernel_rfl))
 f279 := Tryz.func141.trans (congrArg some (by kernel_rfl))
 f280 := Tryz.func142.trans (congrArg some (by kernel_rfl))
 f281 := Tryz.func143.trans (congrArg some (by kernel_rfl))
 f282 := Tryz.func144.trans (congrArg some (by kernel_rfl))
 f283 := Tryz.func145.trans (congrArg some (by kernel_rfl))
 f284 := Tryz.func146.trans (congrArg some (by kernel_rfl))
 f285 := Tryz.func147.trans (congrArg some (by kernel_rfl))
 f286 := Tryz.func148.trans (congrArg some (by kernel_rfl))
 f287 := Tryz.func149.trans (congrArg some (by kernel_rfl))
 f316 := Tryz.func150.trans (congrArg some (by kernel_rfl))
 f317 := Tryz.func152.trans (congrArg some (by kernel_rfl))
 f318 := Tryz.func154.trans (congrArg some (by kernel_rfl))
 f319 := Tryz.func155.trans (congrArg some (by kernel_rfl))
 f320 := Tryz.func156.trans (congrArg some (by kernel_rfl))
 f321 := Tryz.func157.trans (congrArg some (by kernel_rfl))
 f322 := Tryz.func158.trans (congrArg some (by kernel_rfl))
 f337 := Tryz.func159.trans (congrArg some (by kernel_rfl))
 f338 := Tryz.func160.trans (congrArg some (by kernel_rfl))
 t0 := Tryz.underlying0
 a0 := Tryz.isAgg0
 z0 := Tryz.sizeOf0
 v0 := Tryz.zeroValue0
 t2 := Tryz.underlying2
 a2 := Tryz.isAgg2
 z2 := Tryz.sizeOf2
 v2 := Tryz.zeroValue2
 t3 := Tryz.underlying3
 a3 := Tryz.isAgg3
 z3 := Tryz.sizeOf3
 v3 := Tryz.zeroValue3
 t4 := Tryz.underlying4
 a4 := Tryz.isAgg4
 z4 := Tryz.sizeOf4
 v4 := Tryz.zeroValue4
 t5 := Tryz.underlying5
 a5 := Tryz.isAgg5
 z5 := Tryz.sizeOf5
 v5 := Tryz.zeroValue5
 t9 := Tryz.underlying9
 a9 := Tryz.isAgg9
 z9 := Tryz.sizeOf9
 v9 := Tryz.zeroValue9
 t20 := Tryz.underlying20
 a20 := Tryz.isAgg20
 z20 := Tryz.sizeOf20
 v20 := Tryz.zeroValue20
 t21 := Tryz.underlying21
 a21 := Tryz.isAgg21
 z21 := Tryz.sizeOf21
 v21 := Tryz.zeroValue21
 t37 := Tryz.underlying31
 a37 := Tryz.isAgg31
 z37 := Tryz.sizeOf31
 v37 := Tryz.zeroValue31
 t46 := Tryz.underlying137
 a46 := Tryz.isAgg137
 z46 := Tryz.sizeOf137
 v46 := Tryz.zeroValue137
 t51 := Tryz.underlying148
 a51 := Tryz.isAgg148
 z51 := Tryz.sizeOf148
 v51 := Tryz.zeroValue148
 t53 := Tryz.underlying158
 a53 := Tryz.isAgg158
 z53 := Tryz.sizeOf158
 v53 := Tryz.zeroValue158
 t75 := Tryz.underlying111
 a75 := Tryz.isAgg111
 z75 := Tryz.sizeOf111
 v75 := Tryz.zeroValue111
 t76 := Tryz.underlying127
 a76 := Tryz.isAgg127
 z76 := Tryz.sizeOf127
 v76 := Tryz.zeroValue127
 t85 := Tryz.underlying152
 a85 := Tryz.isAgg152
 z85 := Tryz.sizeOf152
 v85 := Tryz.zeroValue152
 t127 := Tryz.underlying129
 a127 := Tryz.isAgg129
 z127 := Tryz.sizeOf129
 v127 := Tryz.zeroValue129
 t143 := Tryz.underlying174
 a143 := Tryz.isAgg174
 z143 := Tryz.sizeOf174
 v143 := Tryz.zeroValue174
 t145 := Tryz.underlying176
 a145 := Tryz.isAgg176
 z145 := Tryz.sizeOf176
 v145 := Tryz.zeroValue176
 t167 := Tryz.underlying151
 a167 := Tryz.isAgg151
 z167 := Tryz.sizeOf151
 v167 := Tryz.zeroValue151
 t168 := Tryz.underlying154
 a168 := Tryz.isAgg154
 z168 := Tryz.sizeOf154
 v168 := Tryz.zeroValue154
 t171 := Tryz.underlying157
 a171 := Tryz.isAgg157
 z171 := Tryz.sizeOf157
 v171 := Tryz.zeroValue157
 t173 := Tryz.underlying161
 a173 := Tryz.isAgg161
 z173 := Tryz.sizeOf161
 v173 := Tryz.zeroValue161
 t175 := Tryz.underlying163
 a175 := Tryz.isAgg163
 z175 := Tryz.sizeOf163
 v175 := Tryz.zeroValue163
 t210 := Tryz.underlying167
 a210 := Tryz.isAgg167
 z210 := Tryz.sizeOf167
 v210 := Tryz.zeroValue167
 t212 := Tryz.underlying170
 a212 := Tryz.isAgg170
 z212 := Tryz.sizeOf170
 v212 := Tryz.zeroValue170
 t213 := Tryz.underlying171
 a213 := Tryz.isAgg171
 z213 := Tryz.sizeOf171
 t232 := Tryz.underlying178
 a232 := Tryz.isAgg178
 z232 := Tryz.sizeOf178
 v232 := Tryz.zeroValue178
 t233 := Tryz.underlying179
 a233 := Tryz.isAgg179
 z233 := Tryz.sizeOf179
 v233 := Tryz.zeroValue179
 g15 := by kernel_rfl
 g16 := by kernel_rfl
 g17 := by kernel_rfl
 g18 := by kernel_rfl
 g19 := by kernel_rfl }
theorem ay1 : Go.Proofs.LaysM.n172 Tryz.prog ad7 := { bq6 with
 t80 := Tryz.underlying113
 a80 := Tryz.isAgg113
 z80 := Tryz.sizeOf113
 v80 := Tryz.zeroValue113
 i0 := by kernel_rfl
 i2 := by kernel_rfl
 i3 := by kernel_rfl
 i4 := by kernel_rfl
 i5 := by kernel_rfl
 i9 := by kernel_rfl
 i20 := by kernel_rfl
 i21 := by kernel_rfl
 i37 := by kernel_rfl
 i46 := by kernel_rfl
 i51 := by kernel_rfl
 i53 := by kernel_rfl
 i75 := by kernel_rfl
 i76 := by kernel_rfl
 i80 := by kernel_rfl
 i85 := by kernel_rfl
 i127 := by kernel_rfl
 i143 := by kernel_rfl
 i145 := by kernel_rfl
 i167 := by kernel_rfl
 i168 := by kernel_rfl
 i171 := by kernel_rfl
 i173 := by kernel_rfl
 i175 := by kernel_rfl
 i210 := by kernel_rfl
 i212 := by kernel_rfl
 i232 := by kernel_rfl
 i233 := by kernel_rfl
 m15 := by kernel_rfl
 m16 := by kernel_rfl
 m17 := by kernel_rfl
 m18 := by kernel_rfl
 m19 := by kernel_rfl }
theorem ay2 : Go.Proofs.LaysC.n172 Tryz.prog ad7 := { ay1 with
 c0 := by kernel_rfl
 c2 := by kernel_rfl
 c3 := by kernel_rfl
 c4 := by kernel_rfl
 c5 := by kernel_rfl
 c9 := by kernel_rfl
 c20 := by kernel_rfl
 c21 := by kernel_rfl
 c37 := by kernel_rfl
 c46 := by kernel_rfl
 c51 := by kernel_rfl
 c53 := by kernel_rfl
 c75 := by kernel_rfl
 c76 := by kernel_rfl
 c80 := by kernel_rfl
 c85 := by kernel_rfl
 c127 := by kernel_rfl
 c143 := by kernel_rfl
 c145 := by kernel_rfl
 c167 := by kernel_rfl
 c168 := by kernel_rfl
 c171 := by kernel_rfl
 c173 := by kernel_rfl
 c175 := by kernel_rfl
 c210 := by kernel_rfl
 c212 := by kernel_rfl
 c213 := by kernel_rfl
 c232 := by kernel_rfl
 c233 := by kernel_rfl }
theorem bs7 (l : List UInt8) (hl : l.length <= 100000000) (v : Int) (h : Lib.atoiAll l = .ok v) (w : World) :
  Calls Tryz.prog 113 #[.string (b5 l)] w fun e w' => e = .returned (.tuple #[.int .i64 v, .nilIface]) /\ Below w.heap.size w w' := by
 refine (Any.strconv_Atoi_ok ay2 (b5 l) (by rw [l8]; omega) v h w).mono ?_
 rintro e w' ⟨rfl, hw⟩
 refine ⟨rfl, ?_⟩
 rcases hw with rfl | ⟨t, rfl⟩
 ·exact Below.refl _ _
 exact Lib.bytesWorld_below _ _ _
theorem aS4 {w : World} {name : String} {g : Nat} (hg : Tryz.prog.globalNamed name = some g) {te : TypeId} {pe : Value} (h : w.var? Tryz.prog name = some #[.iface te pe]) : w.cell? ⟨g, 0, none⟩ = some (.iface te pe) := by
 have := World.var?_cell hg h 0
 simpa using this
theorem bm2 (l : List UInt8) (hl : l.length <= 100000000) (h : (atV l).2 = true) (w : World) (he : bK1 w) :
  Calls Tryz.prog 113 #[.string (b5 l)] w fun e w' => ∃ t p, e = .returned (.tuple #[.int .i64 (atV l).1, .iface t p]) /\ Below w.heap.size w w' := by
 obtain ⟨⟨t1, p1, h1⟩, t2, p2, h2⟩ := he
 unfold atV at h ⊢
 split at h
 ·cases h
 ·rename_i e1
  refine (Any.strconv_Atoi_syntax ay2 (b5 l) (by rw [l8]; omega) e1 (.iface t1 p1) w (aS4 ay1.m15 h1) (.inr ⟨_, _, rfl⟩)).mono ?_
  rintro e w' ⟨N, rfl, _, _, hb⟩
  exact ⟨_, _, rfl, hb⟩
 rename_i e1
 refine (Any.strconv_Atoi_range ay2 (b5 l) (by rw [l8]; omega) e1 (.iface t2 p2) w (aS4 ay1.m16 h2) (.inr ⟨_, _, rfl⟩)).mono ?_
 rintro e w' ⟨N, rfl, _, _, hb⟩
 exact ⟨_, _, rfl, hb⟩
end Go.Proofs.YtompcdbfongedaaGreatDoor

namespace Go.Proofs.YtompcdbfongedaaGreatDoor
open Go Go.RowKit
theorem bm1 (l : List UInt8) (hl : l.length <= 100000000) (h : (atV l).2 = false) : r7.ok Tryz.prog (N8 113 [tA l] [] (.tup [iA (atV l).1, .v .nilIface])) := by
 have key : ∃ v, Lib.atoiAll l = .ok v /\ (atV l).1 = v := by
  unfold atV at h ⊢
  split at h
  ·rename_i v e; exact ⟨v, e, rfl⟩
  ·cases h
  cases h
 obtain ⟨v, e1, e2⟩ := key
 rw [e2]
 intro ι φ ψ w0 w F ρ M
 refine (bs7 l hl v e1 w).mono ?_
 rintro e w' ⟨rfl, hb⟩
 exact ⟨ρ, fun _ _ => rfl, rfl, M.call hb⟩
theorem a88 (l : List UInt8) (hl : l.length <= 100000000) (h : (atV l).2 = true) : r7.ok Tryz.prog ⟨113, [tA l], [], [.err], .tup [iA (atV l).1, .ref 0]⟩ := by
 intro ι φ ψ w0 w F ρ M
 refine (bm2 l hl h w (M.env w M.kept).2).mono ?_
 rintro e w' ⟨t, p, rfl, hb⟩
 have M1 := M.call hb
 have hnone : ∀ j, v7 [] j = It.none := fun j => by simp [v7]
 have hinv : Inv (v7 []) ρ [0] := fun ρ' _ j => by rw [hnone j]; rfl
 have ha : C9 [0] ρ (fun j => if j = 0 then .iface t p else ρ j) := fun j hj => by
  have : j ≠ 0 := by simpa using hj
  simp [this]
 have M2 := M1.one 0 .err [0] hinv ha (z6.refl _ _) (fun g hg => hg.elim) (by
  refine ⟨fun _ _ _ _ _ h => h, ?_⟩
  simp only [if_true]
  exact ⟨t, p, rfl⟩)
 refine ⟨(fun j => if j = 0 then .iface t p else ρ j), fun i hi => absurd hi (Nat.not_lt_zero i), ?_, ?_⟩
 ·simp [AV.val, AV.vals]
 have e : p9 (v7 []) [(0, It.err)] = v7 [It.err] := by
  funext j
  cases j with
  | zero => rfl
  | succ j => simp [p9, v7]
 rw [e] at M2
 exact M2
section
variable {s : List UInt8} {k : Nat}
theorem aH8 {p : UInt8 -> Bool} : ∀ {l : List UInt8} {k : Nat}, k <= l.length -> (l.take k).all p = true -> (k = l.length \/ p (l.getD k 0) = false) -> (l.takeWhile p).length = k
 | [], k, hk, _, _ => by simp at hk; subst hk; rfl
 | x :: r, 0, _, _, h => by
  rcases h with h | h
  ·simp at h
  rw [List.takeWhile_cons_of_neg (by simpa using h)]; rfl
 | x :: r, k + 1, hk, ha, h => by
  simp only [List.take_succ_cons, List.all_cons, bO8] at ha
  rw [List.takeWhile_cons_of_pos ha.1, bO9, aH8 (by simpa using hk) ha.2 (by simpa using h)]
theorem ao7 (h : k <= s.length) (ha : (s.take k).all R2 = true) (he : ¬ (k : Int) < s.length) : dnI s = k := aH8 h ha (.inl (by omega))
theorem aF8 (h : k <= s.length) (ha : (s.take k).all R2 = true) (he : ¬ ((s.getD k 0).toNat : Int) >= 48) : dnI s = k := aH8 h ha (.inr (by unfold R2; rw [decide_eq_false (by omega)]; rfl))
theorem aF9 (h : k <= s.length) (ha : (s.take k).all R2 = true) (he : ¬ ((s.getD k 0).toNat : Int) <= 57) : dnI s = k := aH8 h ha (.inr (by unfold R2; rw [decide_eq_false (p := (s.getD k 0).toNat <= 57) (by omega)]; simp))
theorem a50 (h : k < s.length) (ha : (s.take k).all R2 = true) (h1 : ((s.getD k 0).toNat : Int) >= 48) (h2 : ((s.getD k 0).toNat : Int) <= 57) : (s.take (k + 1)).all R2 = true := by
 rw [D0 s k h, List.all_append, ha, Bool.true_and, List.all_cons, List.all_nil, Bool.and_true]
 rw [t7 h] at h1 h2
 unfold R2
 rw [decide_eq_true (by omega), decide_eq_true (by omega)]; rfl
theorem bw6 : dnI s <= s.length := List.takeWhile_prefix _ |>.length_le
theorem a49 (h : dnI s = k) : ByteArray.extract (b5 s) 0 k = b5 (s.take (dnI s)) := by rw [T2, List.drop_zero, h]
theorem br5 (h : dnI s = k) : ByteArray.extract (b5 s) k s.length = b5 (s.drop (dnI s)) := by rw [T2, List.take_length, h]
abbrev atA (s : List UInt8) : Int × Bool := atV (s.take (dnI s))
theorem bf2 (hl : s.length <= 100000000) (h : (atA s).2 = false) (k : Nat) (hk : dnI s = k) : r7.ok Tryz.prog (N8 113 [.v (.string (ByteArray.extract (b5 s) 0 k))] [] (.tup [iA (atA s).1, .v .nilIface])) := by
 rw [a49 hk]; exact bm1 _ (bO6 (List.length_take_le _ _) (bO6 bw6 hl)) h
theorem a77 (hl : s.length <= 100000000) (h : (atA s).2 = true) (k : Nat) (hk : dnI s = k) : r7.ok Tryz.prog ⟨113, [.v (.string (ByteArray.extract (b5 s) 0 k))], [], [.err], .tup [iA (atA s).1, .ref 0]⟩ := by
 rw [a49 hk]; exact a88 _ (bO6 (List.length_take_le _ _) (bO6 bw6 hl)) h
theorem as3 {b : Bool} (hk : dnI s = k) : b5 (I9 (s, b)).2.1 = ByteArray.extract (b5 s) k s.length := (br5 hk).symm
end
abbrev nuC (s : List UInt8) (b : Bool) : r7 := ⟨84, [.ptr 0 0], [rdB s b], [.box [.v (.string (b5 (I9 (s, b)).2.1)), .v (.bool (I9 (s, b)).2.2)]], iA (I9 (s, b)).1⟩
abbrev aD7 (s : List UInt8) : List It := [.box [.v (.string (b5 (I9 (s, false)).snd.fst)), bA (I9 (s, false)).snd.snd]]
abbrev aD6 (s : List UInt8) : List It := [.box [.v (.string (b5 (I9 (s, true)).snd.fst)), bA (I9 (s, true)).snd.snd]]
theorem a67 (s : List UInt8) (b : Bool) (hs : s.length <= 100000000) (h : (atA s).2 = false) : r7.ok Tryz.prog (nuC s b) := by
  have hz : (b5 s).size = s.length := rfl
  have hA := fun (k : Nat) (hk : dnI s = k) => bf2 hs h k hk
  refine M7 64 Tryz.func84 [.box [.v (.string (b5 s)), bA b]] [(0, .ptr 0 0)] fun G => ?_; refine wp_seq (o0 G m0 [(2, iA 0)] fun G => b0 (wp_seq (H8 G m0 [(0, .ptr 0 0), (2, iA 0), (3, iA 0)] fun G => b0 (wp_seq (wp_block ?_))))); refine G5 (κ := Nat) (fun k => k <= s.length /\ (s.take k).all R2 = true) (fun k => s.length - k) (fun k => [.box [.v (.string (b5 s)), bA b]]) (fun k => [(0, .ptr 0 0), (2, iA 0), (3, iA k)]) 0 (by simp [h]) (C2.at G _ _) ?_; clear G; intro k ρ a w hp G; refine wp_seq (wp_seq ?_); cases h0 : (decide ((k : Int) < ((b5 s).size : Int)))
  ·
   have q0 := R5 h0; refine o0 G (D7 (fc h0 (fc (b := false) rfl fz)) (us [(8, 14, 0), (1015, 1015, 0), (17, 23, 1), (1024, 1024, 1)])) [(30, bA false)] fun G => b0 (rF G false (by kernel_rfl) (wp_exit (z7 (z7 (y9 (b0 (wp_seq (L0 G (x8 6 [] (hA k (ao7 hp.1 hp.2 (by omega)))) [(4, iA (atA s).fst), (5, .v .nilIface)] [(0 : Int) <= (k : Int), (k : Int) <= ((b5 s).size : Int)] ⟨(by omega), (by omega), bP7⟩ fun G => b0 (wp_seq ?_))))))))); cases h1 : (b)
   · refine I4 G (D7 (fc h1 fz) [(13, 0), (14, 0), (1015, 0)]) [0, 0, 0, 4, 12, 28, 0, 124, 0, 256, 768, 1792, 3840, 7936, 16128, 32512, 4093, 69629, 204797, 524287, 1048575, 2097151] [0] [.box [.v (.string ((b5 s).extract k (b5 s).size)), bA false]] [(2, iA 0), (4, iA (atA s).fst)] [(0 : Int) <= (k : Int), (k : Int) <= ((b5 s).size : Int)] ⟨(by omega), (by omega), bP7⟩ fun G => b0 (wp_seq (o0 G m0 [(2, iA (atA s).fst)] fun G => b0 (wp_ret ?_))); exact Z0 G [0] (by show _ = mR [0] (aD7 s); unfold aD7; have e1 : (b5 (I9 (s, false)).snd.fst : ByteArray) = ((b5 s).extract k (b5 s).size) := (as3 (ao7 hp.1 hp.2 (by omega))); have e2 : ((I9 (s, false)).snd.snd : Bool) = (false) := (by assumption); (first | rw [e1, e2] | simp only [e1, e2]) <;> rfl)
   refine I4 G (D7 (fc h1 fz) [(13, 0), (14, 0), (1015, 0)]) [0, 0, 0, 4, 12, 28, 0, 124, 0, 256, 768, 1792, 3840, 7936, 16128, 32512, 4093, 69629, 204797, 524287, 1048575, 2097151] [0] [.box [.v (.string ((b5 s).extract k (b5 s).size)), bA true]] [(2, iA 0), (4, iA (atA s).fst)] [(0 : Int) <= (k : Int), (k : Int) <= ((b5 s).size : Int)] ⟨(by omega), (by omega), bP7⟩ fun G => b0 (wp_seq (o0 G m0 [(2, iA (atA s).fst)] fun G => b0 (wp_ret ?_))); exact Z0 G [0] (by show _ = mR [0] (aD6 s); unfold aD6; have e1 : (b5 (I9 (s, true)).snd.fst : ByteArray) = ((b5 s).extract k (b5 s).size) := (as3 (ao7 hp.1 hp.2 (by omega))); (first | rw [e1] | simp only [e1]) <;> rfl)
  have q0 := R4 h0; cases h2 : (decide ((((b5 s).data.toList.getD k (0 : UInt8)).toNat : Int) >= 48))
  ·
   have q2 := R5 h2; refine L0 G (D7 (fc h0 (fc h2 fz)) (us [(8, 14, 0), (1015, 1015, 0), (17, 23, 1), (1024, 1024, 1)])) [(30, bA false)] [(0 : Int) <= (k : Int), (k : Int) < ((b5 s).size : Int)] ⟨(by omega), (by assumption), bP7⟩ fun G => b0 (rF G false (by kernel_rfl) (wp_exit (z7 (z7 (y9 (b0 (wp_seq (L0 G (x8 6 [] (hA k (aF8 hp.1 hp.2 (by assumption)))) [(4, iA (atA s).fst), (5, .v .nilIface)] [(0 : Int) <= (k : Int), (k : Int) <= ((b5 s).size : Int)] ⟨(by omega), (by omega), bP7⟩ fun G => b0 (wp_seq ?_))))))))); cases h3 : (b)
   · refine I4 G (D7 (fc h3 fz) [(13, 0), (14, 0), (1015, 0)]) [0, 0, 0, 4, 12, 28, 0, 124, 0, 256, 768, 1792, 3840, 7936, 16128, 32512, 4093, 69629, 204797, 524287, 1048575, 2097151] [0] [.box [.v (.string ((b5 s).extract k (b5 s).size)), bA false]] [(2, iA 0), (4, iA (atA s).fst)] [(0 : Int) <= (k : Int), (k : Int) <= ((b5 s).size : Int)] ⟨(by omega), (by omega), bP7⟩ fun G => b0 (wp_seq (o0 G m0 [(2, iA (atA s).fst)] fun G => b0 (wp_ret ?_))); exact Z0 G [0] (by show _ = mR [0] (aD7 s); unfold aD7; have e1 : (b5 (I9 (s, false)).snd.fst : ByteArray) = ((b5 s).extract k (b5 s).size) := (as3 (aF8 hp.1 hp.2 (by assumption))); have e2 : ((I9 (s, false)).snd.snd : Bool) = (false) := (by assumption); (first | rw [e1, e2] | simp only [e1, e2]) <;> rfl)
   refine I4 G (D7 (fc h3 fz) [(13, 0), (14, 0), (1015, 0)]) [0, 0, 0, 4, 12, 28, 0, 124, 0, 256, 768, 1792, 3840, 7936, 16128, 32512, 4093, 69629, 204797, 524287, 1048575, 2097151] [0] [.box [.v (.string ((b5 s).extract k (b5 s).size)), bA true]] [(2, iA 0), (4, iA (atA s).fst)] [(0 : Int) <= (k : Int), (k : Int) <= ((b5 s).size : Int)] ⟨(by omega), (by omega), bP7⟩ fun G => b0 (wp_seq (o0 G m0 [(2, iA (atA s).fst)] fun G => b0 (wp_ret ?_))); exact Z0 G [0] (by show _ = mR [0] (aD6 s); unfold aD6; have e1 : (b5 (I9 (s, true)).snd.fst : ByteArray) = ((b5 s).extract k (b5 s).size) := (as3 (aF8 hp.1 hp.2 (by assumption))); (first | rw [e1] | simp only [e1]) <;> rfl)
  have q2 := R4 h2; refine L0 G (D7 (fc h0 (fc h2 fz)) (us [(8, 14, 0), (1015, 1015, 0), (17, 23, 1), (1024, 1024, 1)])) [(30, bA (decide ((((b5 s).data.toList.getD k 0).toNat : Int) <= 57)))] [(0 : Int) <= (k : Int), (k : Int) < ((b5 s).size : Int), (0 : Int) <= (k : Int), (k : Int) < ((b5 s).size : Int)] ⟨(by omega), (by assumption), (by omega), (by assumption), bP7⟩ fun G => b0 (rcD (p := (((b5 s).data.toList.getD k (0 : UInt8)).toNat : Int) <= 57) G (fun h4 q4 => ?_) fun h4 q4 => ?_)
  ·
   refine wp_exit (z7 (z7 (y9 (b0 (wp_seq (L0 G (x8 6 [] (hA k (aF9 hp.1 hp.2 (by assumption)))) [(4, iA (atA s).fst), (5, .v .nilIface)] [(0 : Int) <= (k : Int), (k : Int) <= ((b5 s).size : Int)] ⟨(by omega), (by omega), bP7⟩ fun G => b0 (wp_seq ?_))))))); cases h5 : (b)
   · refine I4 G (D7 (fc h5 fz) [(13, 0), (14, 0), (1015, 0)]) [0, 0, 0, 4, 12, 28, 0, 124, 0, 256, 768, 1792, 3840, 7936, 16128, 32512, 4093, 69629, 204797, 524287, 1048575, 2097151] [0] [.box [.v (.string ((b5 s).extract k (b5 s).size)), bA false]] [(2, iA 0), (4, iA (atA s).fst)] [(0 : Int) <= (k : Int), (k : Int) <= ((b5 s).size : Int)] ⟨(by omega), (by omega), bP7⟩ fun G => b0 (wp_seq (o0 G m0 [(2, iA (atA s).fst)] fun G => b0 (wp_ret ?_))); exact Z0 G [0] (by show _ = mR [0] (aD7 s); unfold aD7; have e1 : (b5 (I9 (s, false)).snd.fst : ByteArray) = ((b5 s).extract k (b5 s).size) := (as3 (aF9 hp.1 hp.2 (by assumption))); have e2 : ((I9 (s, false)).snd.snd : Bool) = (false) := (by assumption); (first | rw [e1, e2] | simp only [e1, e2]) <;> rfl)
   refine I4 G (D7 (fc h5 fz) [(13, 0), (14, 0), (1015, 0)]) [0, 0, 0, 4, 12, 28, 0, 124, 0, 256, 768, 1792, 3840, 7936, 16128, 32512, 4093, 69629, 204797, 524287, 1048575, 2097151] [0] [.box [.v (.string ((b5 s).extract k (b5 s).size)), bA true]] [(2, iA 0), (4, iA (atA s).fst)] [(0 : Int) <= (k : Int), (k : Int) <= ((b5 s).size : Int)] ⟨(by omega), (by omega), bP7⟩ fun G => b0 (wp_seq (o0 G m0 [(2, iA (atA s).fst)] fun G => b0 (wp_ret ?_))); exact Z0 G [0] (by show _ = mR [0] (aD6 s); unfold aD6; have e1 : (b5 (I9 (s, true)).snd.fst : ByteArray) = ((b5 s).extract k (b5 s).size) := (as3 (aF9 hp.1 hp.2 (by assumption))); (first | rw [e1] | simp only [e1]) <;> rfl)
  refine wp_skip (b0 (wp_block (L0 G m0 [(3, iA ((k : Int) + 1))] [wO ((k : Int) + 1)] (o1 (by omega)) fun G => B9 (b0 ?_)))); exact rxn G (k + 1) (⟨by omega, a50 (by omega) hp.2 (by assumption) (by assumption)⟩) (by omega) [0]
abbrev aD5 (s : List UInt8) : List It := [.box [.v (.string (b5 (I9 (s, false)).snd.fst)), bA (I9 (s, false)).snd.snd]]
abbrev aD4 (s : List UInt8) : List It := [.box [.v (.string (b5 (I9 (s, true)).snd.fst)), bA (I9 (s, true)).snd.snd]]
abbrev aD3 (s : List UInt8) (k : Nat) : It := .box [.v (.string ((b5 s).extract k (b5 s).size)), bA true]
theorem a68 (s : List UInt8) (b : Bool) (hs : s.length <= 100000000) (h : (atA s).2 = true) : r7.ok Tryz.prog (nuC s b) := by
  have hz : (b5 s).size = s.length := rfl
  have hA := fun (k : Nat) (hk : dnI s = k) => a77 hs h k hk
  refine M7 64 Tryz.func84 [.box [.v (.string (b5 s)), bA b]] [(0, .ptr 0 0)] fun G => ?_; refine wp_seq (o0 G m0 [(2, iA 0)] fun G => b0 (wp_seq (H8 G m0 [(0, .ptr 0 0), (2, iA 0), (3, iA 0)] fun G => b0 (wp_seq (wp_block ?_))))); refine G5 (κ := Nat) (fun k => k <= s.length /\ (s.take k).all R2 = true) (fun k => s.length - k) (fun k => [.box [.v (.string (b5 s)), bA b]]) (fun k => [(0, .ptr 0 0), (2, iA 0), (3, iA k)]) 0 (by simp [h]) (C2.at G _ _) ?_; clear G; intro k ρ a w hp G; refine wp_seq (wp_seq ?_); cases h0 : (decide ((k : Int) < ((b5 s).size : Int)))
  ·
   have q0 := R5 h0; refine o0 G (D7 (fc h0 (fc (b := false) rfl fz)) (us [(8, 14, 0), (1015, 1015, 0), (17, 23, 1), (1024, 1024, 1)])) [(30, bA false)] fun G => b0 (rF G false (by kernel_rfl) (wp_exit (z7 (z7 (y9 (b0 (wp_seq (K9 G (x8 6 [] (hA k (ao7 hp.1 hp.2 (by omega)))) [0, 49] [.box [.v (.string (b5 s)), bA b], .err] [(0, .ptr 0 0), (2, iA 0), (3, iA k), (4, iA (atA s).fst), (5, .ref 1)] [(0 : Int) <= (k : Int), (k : Int) <= ((b5 s).size : Int)] ⟨(by omega), (by omega), bP7⟩ fun G => b0 (wp_seq ?_))))))))); cases h1 : (b)
   · refine I4 G (D7 (fc h1 fz) [(13, 0), (14, 0), (1015, 0)]) [0, 0, 0, 4, 12, 28, 0, 124, 0, 256, 768, 1792, 3840, 7936, 16128, 32512, 4093, 69629, 204797, 524287, 1048575, 2097151] [0] [aD3 s k] [(2, iA 0), (4, iA (atA s).fst)] [(0 : Int) <= (k : Int), (k : Int) <= ((b5 s).size : Int)] ⟨(by omega), (by omega), bP7⟩ fun G => b0 (wp_seq (o0 G m0 [(2, iA (atA s).fst)] fun G => b0 (wp_ret ?_))); exact Z0 G [0] (by show _ = mR [0] (aD5 s); unfold aD5; have e1 : (b5 (I9 (s, false)).snd.fst : ByteArray) = ((b5 s).extract k (b5 s).size) := (as3 (ao7 hp.1 hp.2 (by omega))); have e2 : ((I9 (s, false)).snd.snd : Bool) = (true) := (by assumption); (first | rw [e1, e2] | simp only [e1, e2]) <;> rfl)
   refine I4 G (D7 (fc h1 fz) [(13, 0), (14, 0), (1015, 0)]) [0, 0, 0, 4, 12, 28, 0, 124, 0, 256, 768, 1792, 3840, 7936, 16128, 32512, 4093, 69629, 204797, 524287, 1048575, 2097151] [0] [aD3 s k] [(2, iA 0), (4, iA (atA s).fst)] [(0 : Int) <= (k : Int), (k : Int) <= ((b5 s).size : Int)] ⟨(by omega), (by omega), bP7⟩ fun G => b0 (wp_seq (o0 G m0 [(2, iA (atA s).fst)] fun G => b0 (wp_ret ?_))); exact Z0 G [0] (by show _ = mR [0] (aD4 s); unfold aD4; have e1 : (b5 (I9 (s, true)).snd.fst : ByteArray) = ((b5 s).extract k (b5 s).size) := (as3 (ao7 hp.1 hp.2 (by omega))); (first | rw [e1] | simp only [e1]) <;> rfl)
  have q0 := R4 h0; cases h2 : (decide ((((b5 s).data.toList.getD k (0 : UInt8)).toNat : Int) >= 48))
  ·
   have q2 := R5 h2; refine L0 G (D7 (fc h0 (fc h2 fz)) (us [(8, 14, 0), (1015, 1015, 0), (17, 23, 1), (1024, 1024, 1)])) [(30, bA false)] [(0 : Int) <= (k : Int), (k : Int) < ((b5 s).size : Int)] ⟨(by omega), (by assumption), bP7⟩ fun G => b0 (rF G false (by kernel_rfl) (wp_exit (z7 (z7 (y9 (b0 (wp_seq (K9 G (x8 6 [] (hA k (aF8 hp.1 hp.2 (by assumption)))) [0, 49] [.box [.v (.string (b5 s)), bA b], .err] [(0, .ptr 0 0), (2, iA 0), (3, iA k), (4, iA (atA s).fst), (5, .ref 1)] [(0 : Int) <= (k : Int), (k : Int) <= ((b5 s).size : Int)] ⟨(by omega), (by omega), bP7⟩ fun G => b0 (wp_seq ?_))))))))); cases h3 : (b)
   · refine I4 G (D7 (fc h3 fz) [(13, 0), (14, 0), (1015, 0)]) [0, 0, 0, 4, 12, 28, 0, 124, 0, 256, 768, 1792, 3840, 7936, 16128, 32512, 4093, 69629, 204797, 524287, 1048575, 2097151] [0] [aD3 s k] [(2, iA 0), (4, iA (atA s).fst)] [(0 : Int) <= (k : Int), (k : Int) <= ((b5 s).size : Int)] ⟨(by omega), (by omega), bP7⟩ fun G => b0 (wp_seq (o0 G m0 [(2, iA (atA s).fst)] fun G => b0 (wp_ret ?_))); exact Z0 G [0] (by show _ = mR [0] (aD5 s); unfold aD5; have e1 : (b5 (I9 (s, false)).snd.fst : ByteArray) = ((b5 s).extract k (b5 s).size) := (as3 (aF8 hp.1 hp.2 (by assumption))); have e2 : ((I9 (s, false)).snd.snd : Bool) = (true) := (by assumption); (first | rw [e1, e2] | simp only [e1, e2]) <;> rfl)
   refine I4 G (D7 (fc h3 fz) [(13, 0), (14, 0), (1015, 0)]) [0, 0, 0, 4, 12, 28, 0, 124, 0, 256, 768, 1792, 3840, 7936, 16128, 32512, 4093, 69629, 204797, 524287, 1048575, 2097151] [0] [aD3 s k] [(2, iA 0), (4, iA (atA s).fst)] [(0 : Int) <= (k : Int), (k : Int) <= ((b5 s).size : Int)] ⟨(by omega), (by omega), bP7⟩ fun G => b0 (wp_seq (o0 G m0 [(2, iA (atA s).fst)] fun G => b0 (wp_ret ?_))); exact Z0 G [0] (by show _ = mR [0] (aD4 s); unfold aD4; have e1 : (b5 (I9 (s, true)).snd.fst : ByteArray) = ((b5 s).extract k (b5 s).size) := (as3 (aF8 hp.1 hp.2 (by assumption))); (first | rw [e1] | simp only [e1]) <;> rfl)
  have q2 := R4 h2; refine L0 G (D7 (fc h0 (fc h2 fz)) (us [(8, 14, 0), (1015, 1015, 0), (17, 23, 1), (1024, 1024, 1)])) [(30, bA (decide ((((b5 s).data.toList.getD k 0).toNat : Int) <= 57)))] [(0 : Int) <= (k : Int), (k : Int) < ((b5 s).size : Int), (0 : Int) <= (k : Int), (k : Int) < ((b5 s).size : Int)] ⟨(by omega), (by assumption), (by omega), (by assumption), bP7⟩ fun G => b0 (rcD (p := (((b5 s).data.toList.getD k (0 : UInt8)).toNat : Int) <= 57) G (fun h4 q4 => ?_) fun h4 q4 => ?_)
  ·
   refine wp_exit (z7 (z7 (y9 (b0 (wp_seq (K9 G (x8 6 [] (hA k (aF9 hp.1 hp.2 (by assumption)))) [0, 49] [.box [.v (.string (b5 s)), bA b], .err] [(0, .ptr 0 0), (2, iA 0), (3, iA k), (4, iA (atA s).fst), (5, .ref 1)] [(0 : Int) <= (k : Int), (k : Int) <= ((b5 s).size : Int)] ⟨(by omega), (by omega), bP7⟩ fun G => b0 (wp_seq ?_))))))); cases h5 : (b)
   · refine I4 G (D7 (fc h5 fz) [(13, 0), (14, 0), (1015, 0)]) [0, 0, 0, 4, 12, 28, 0, 124, 0, 256, 768, 1792, 3840, 7936, 16128, 32512, 4093, 69629, 204797, 524287, 1048575, 2097151] [0] [aD3 s k] [(2, iA 0), (4, iA (atA s).fst)] [(0 : Int) <= (k : Int), (k : Int) <= ((b5 s).size : Int)] ⟨(by omega), (by omega), bP7⟩ fun G => b0 (wp_seq (o0 G m0 [(2, iA (atA s).fst)] fun G => b0 (wp_ret ?_))); exact Z0 G [0] (by show _ = mR [0] (aD5 s); unfold aD5; have e1 : (b5 (I9 (s, false)).snd.fst : ByteArray) = ((b5 s).extract k (b5 s).size) := (as3 (aF9 hp.1 hp.2 (by assumption))); have e2 : ((I9 (s, false)).snd.snd : Bool) = (true) := (by assumption); (first | rw [e1, e2] | simp only [e1, e2]) <;> rfl)
   refine I4 G (D7 (fc h5 fz) [(13, 0), (14, 0), (1015, 0)]) [0, 0, 0, 4, 12, 28, 0, 124, 0, 256, 768, 1792, 3840, 7936, 16128, 32512, 4093, 69629, 204797, 524287, 1048575, 2097151] [0] [aD3 s k] [(2, iA 0), (4, iA (atA s).fst)] [(0 : Int) <= (k : Int), (k : Int) <= ((b5 s).size : Int)] ⟨(by omega), (by omega), bP7⟩ fun G => b0 (wp_seq (o0 G m0 [(2, iA (atA s).fst)] fun G => b0 (wp_ret ?_))); exact Z0 G [0] (by show _ = mR [0] (aD4 s); unfold aD4; have e1 : (b5 (I9 (s, true)).snd.fst : ByteArray) = ((b5 s).extract k (b5 s).size) := (as3 (aF9 hp.1 hp.2 (by assumption))); (first | rw [e1] | simp only [e1]) <;> rfl)
  refine wp_skip (b0 (wp_block (L0 G m0 [(3, iA ((k : Int) + 1))] [wO ((k : Int) + 1)] (o1 (by omega)) fun G => B9 (b0 ?_)))); exact rxn G (k + 1) (⟨by omega, a50 (by omega) hp.2 (by assumption) (by assumption)⟩) (by omega) [0]
theorem aT1 (s : List UInt8) (b : Bool) (hs : s.length <= 100000000) : r7.ok Tryz.prog (nuC s b) := by
 cases h : (atA s).2 with
 | false => exact a67 s b hs h
 | true => exact a68 s b hs h
end Go.Proofs.YtompcdbfongedaaGreatDoor

namespace Go.Proofs.YtompcdbfongedaaGreatDoor
open Go
section
variable {r : IR} {w : List UInt8} {f : Nat}
theorem n4 : (f8 r w).1.length <= r.1.length := by unfold f8; split <;> simp
theorem o7 : (l0 r).2.1.length <= r.1.length := by unfold l0; split <;> simp
theorem p7 : (I9 r).2.1.length <= r.1.length := by unfold I9; simp
theorem s3 : ∀ (f : Nat) (r : IR), (iE f r).2.1.length <= r.1.length
 | 0, r => by rw [iE]; exact n4 (r := (r.1, true))
 | f + 1, r => by
  rw [iE]
  split
  ·exact p7
  split
  ·exact o7
  split
  ·exact bO6 n4 (bO6 (s3 f _) (bO6 n4 o7))
  split
  ·exact n4
  have h1 := bO6 (s3 f (f8 r [40])) (n4 (r := r) (w := [40]))
  have h2 := bO6 (o7 (r := (iE f (f8 r [40])).2)) h1
  dsimp only
  split
  ·exact bO6 n4 (bO6 (s3 f _) (bO6 n4 (bO6 (s3 f _) h2)))
  exact bO6 n4 (bO6 (s3 f _) h2)
def ia (f : Nat) (r : IR) : b9 × IR := iE f (f8 r [40])
def io (f : Nat) (r : IR) : UInt8 × IR := l0 (ia f r).2
def ib (f : Nat) (r : IR) : b9 × IR := iE f (io f r).2
def ic (f : Nat) (r : IR) : b9 × IR := iE f (f8 (ib f r).2 [58])
def ik (f : Nat) (r : IR) : b9 × IR := iE f (f8 (l0 r).2 [91])
theorem bj3 (h : R2 (I7 r) = true) : iE (f + 1) r = (⟨1, (I9 r).1, []⟩, (I9 r).2) := by rw [iE, if_pos h]
section
variable (h : R2 (I7 r) = false)
include h
theorem bj2 (h1 : ak6 (I7 r) = true) : iE (f + 1) r = (⟨2, (((l0 r).1.toNat - 97 : Nat) : Int), []⟩, (l0 r).2) := by
 rw [iE, if_neg (by rw [h]; decide), if_pos h1]
variable (h1 : ak6 (I7 r) = false)
include h1
theorem aB9 (h2 : ay6 (I7 r) = true) : iE (f + 1) r = (⟨3, (((l0 r).1.toNat - 80 : Nat) : Int), [(ik f r).1]⟩, f8 (ik f r).2 [93]) := by
 rw [iE, if_neg (by rw [h]; decide), if_neg (by rw [h1]; decide), if_pos h2]; rfl
variable (h2 : ay6 (I7 r) = false)
include h2
theorem ai0 (h3 : (f8 r [40]).2 = true) : iE (f + 1) r = (zE, f8 r [40]) := by
 rw [iE, if_neg (by rw [h]; decide), if_neg (by rw [h1]; decide), if_neg (by rw [h2]; decide), if_pos h3]
variable (h3 : (f8 r [40]).2 = false)
include h3
theorem ai1 (h4 : (io f r).1 = 63) : iE (f + 1) r = (⟨11, 0, [(ia f r).1, (ib f r).1, (ic f r).1]⟩, f8 (ic f r).2 [41]) := by
 rw [iE, if_neg (by rw [h]; decide), if_neg (by rw [h1]; decide), if_neg (by rw [h2]; decide), if_neg (by rw [h3]; decide)]
 exact if_pos h4
theorem ai2 (h4 : ¬ (io f r).1 = 63) : iE (f + 1) r = (⟨4 + I5 (io f r).1 [43, 45, 42, 38, 94, 61, 60] 0, 0, [(ia f r).1, (ib f r).1]⟩, f8 (ib f r).2 [41]) := by
 rw [iE, if_neg (by rw [h]; decide), if_neg (by rw [h1]; decide), if_neg (by rw [h2]; decide), if_neg (by rw [h3]; decide)]
 exact if_neg h4
end
end
end Go.Proofs.YtompcdbfongedaaGreatDoor

namespace Go.Proofs.YtompcdbfongedaaGreatDoor
open Go Go.RowKit
section
variable {x : UInt8} {r : IR}
theorem bA0 : (l0 r).1 = I7 r := by
 unfold l0
 split
 ·rename_i h; exact h.symm
 rfl
theorem bz9 : (((l0 r).1.toNat : Nat) : Int) = ((I7 r).toNat : Nat) := by rw [bA0]
theorem az6 (h : (x.toNat : Int) >= 48) (h1 : (x.toNat : Int) <= 57) : R2 x = true := by
 unfold R2; rw [decide_eq_true (by omega), decide_eq_true (by omega)]; rfl
theorem s8 (h : (x.toNat : Int) < 48 \/ 57 < (x.toNat : Int)) : R2 x = false := by
 unfold R2
 rcases h with h | h
 ·rw [decide_eq_false (by omega)]; rfl
 rw [decide_eq_false (p := x.toNat <= 57) (by omega), Bool.and_false]
theorem ah2 (h : (x.toNat : Int) >= 97) (h1 : (x.toNat : Int) <= 108) : ak6 x = true := by
 unfold ak6; rw [decide_eq_true (by omega), decide_eq_true (by omega)]; rfl
theorem s9 (h : (x.toNat : Int) < 97 \/ 108 < (x.toNat : Int)) : ak6 x = false := by
 unfold ak6
 rcases h with h | h
 ·rw [decide_eq_false (by omega)]; rfl
 rw [decide_eq_false (p := x.toNat <= 108) (by omega), Bool.and_false]
theorem R9 (h : (x.toNat : Int) = 80 \/ (x.toNat : Int) = 81) : ay6 x = true := by
 unfold ay6
 rcases h with h | h
 ·rw [decide_eq_true (by omega)]; rfl
 rw [decide_eq_true (p := x.toNat = 81) (by omega), Bool.or_true]
theorem y5 (h : ¬ (x.toNat : Int) = 80) (h1 : ¬ (x.toNat : Int) = 81) : ay6 x = false := by
 unfold ay6; rw [decide_eq_false (by omega), decide_eq_false (by omega)]; rfl
theorem w8 {n : Int} (h : 0 <= n) (h1 : n <= 255) : IntKind.u8.wrap n = n := by
 simp only [IntKind.wrap, IntKind.bits, IntKind.signed]
 simp
 omega
theorem O6 {y : UInt8} (h : (x.toNat : Int) = (y.toNat : Nat)) : x = y := UInt8.toNat_inj.1 (by omega)
theorem S5 {y : UInt8} (h : ¬ (x.toNat : Int) = (y.toNat : Nat)) : ¬ x = y := fun e => h (by rw [e])
theorem bC4 (x : UInt8) : IntKind.i64.wrap (4 + I5 x [43, 45, 42, 38, 94, 61, 60] 0) = 4 + I5 x [43, 45, 42, 38, 94, 61, 60] 0 := by
 have h9 := aY5 x [43, 45, 42, 38, 94, 61, 60] 0
 simp only [bO9, bP2] at h9
 exact w64 (by omega) (by omega)
theorem by2 {s w : List UInt8} : (f8 (s, true) w).2 = true := by unfold f8; split <;> rfl
end
mutual
def AV.den (t : Bool) (n : Nat) : AV -> AV
 | .v x => .v x
 | .ptr a b => .ptr a b
 | .ea a b c d => .ea a b c d
 | .ref i => if !t && natEq i n then .v (.slice none 0 0) else .ref i
 | .agg l => .agg (AV.denL t n l)
 | .tup l => .tup (AV.denL t n l)
 | .fn f l => .fn f (AV.denL t n l)
 | .bm f l => .bm f (AV.denL t n l)
 | .tref i => if t && natEq i n then .v (.slice none 0 0) else .tref i
def AV.denL (t : Bool) (n : Nat) : List AV -> List AV
 | [] => []
 | x :: r => x.den t n :: AV.denL t n r
end
def It.den (t : Bool) (n : Nat) : It -> It
 | .box cs => .box (AV.denL t n cs)
 | x => x
mutual
theorem AV.val_den {ρ : Nat -> Value} {t : Bool} {n : Nat} {z : Value} (hz : if t then F0 z = .slice none 0 0 else z = .slice none 0 0) : ∀ (x : AV), (∀ i ∈ (x.den t n).ids, i < n) -> x.val (fun j => if j = n then z else ρ j) = (x.den t n).val ρ /\ ∀ i ∈ x.ids, i < n + 1
 | .v _, _ => ⟨rfl, fun i hi => by simp [AV.ids] at hi⟩
 | .ptr a b, h => by
  have ha : a < n := h a (by simp [AV.den, AV.ids])
  refine ⟨?_, fun i hi => by simp [AV.ids] at hi; omega⟩
  simp only [AV.den, AV.val]
  rw [if_neg (by omega)]
 | .ea a b c d, h => by
  have ha : a < n := h a (by simp [AV.den, AV.ids])
  refine ⟨?_, fun i hi => by simp [AV.ids] at hi; omega⟩
  simp only [AV.den, AV.val]
  rw [if_neg (by omega)]
 | .ref a, h => by
  by_cases e : t = false /\ a = n
  ·obtain ⟨rfl, rfl⟩ := e
   refine ⟨?_, fun i hi => by simp [AV.ids] at hi; omega⟩
   simp only [Bool.false_eq_true, if_false] at hz
   simp [AV.den, AV.val, natEq, hz]
  have hd : (AV.ref a).den t n = .ref a := by
   simp only [AV.den]
   rw [if_neg]
   simp [natEq]; intro h1 h2; exact e ⟨h1, h2⟩
  rw [hd] at h ⊢
  have ha : a < n := h a (by simp [AV.ids])
  refine ⟨?_, fun i hi => by simp [AV.ids] at hi; omega⟩
  simp only [AV.val]
  rw [if_neg (by omega)]
 | .tref a, h => by
  by_cases e : t = true /\ a = n
  ·obtain ⟨rfl, rfl⟩ := e
   refine ⟨?_, fun i hi => by simp [AV.ids] at hi; omega⟩
   simp only [if_true] at hz
   simp [AV.den, AV.val, natEq, hz]
  have hd : (AV.tref a).den t n = .tref a := by
   simp only [AV.den]
   rw [if_neg]
   simp [natEq]; intro h1 h2; exact e ⟨h1, h2⟩
  rw [hd] at h ⊢
  have ha : a < n := h a (by simp [AV.ids])
  refine ⟨?_, fun i hi => by simp [AV.ids] at hi; omega⟩
  simp only [AV.val]
  rw [if_neg (by omega)]
 | .agg l, h => by
  obtain ⟨h1, h2⟩ := AV.vals_den hz l (by simpa [AV.den, AV.ids] using h)
  exact ⟨by simp only [AV.den, AV.val]; rw [h1], by simpa [AV.ids] using h2⟩
 | .tup l, h => by
  obtain ⟨h1, h2⟩ := AV.vals_den hz l (by simpa [AV.den, AV.ids] using h)
  exact ⟨by simp only [AV.den, AV.val]; rw [h1], by simpa [AV.ids] using h2⟩
 | .fn f l, h => by
  obtain ⟨h1, h2⟩ := AV.vals_den hz l (by simpa [AV.den, AV.ids] using h)
  exact ⟨by simp only [AV.den, AV.val]; rw [h1], by simpa [AV.ids] using h2⟩
 | .bm f l, h => by
  obtain ⟨h1, h2⟩ := AV.vals_den hz l (by simpa [AV.den, AV.ids] using h)
  exact ⟨by simp only [AV.den, AV.val]; rw [h1], by simpa [AV.ids] using h2⟩
theorem AV.vals_den {ρ : Nat -> Value} {t : Bool} {n : Nat} {z : Value} (hz : if t then F0 z = .slice none 0 0 else z = .slice none 0 0) : ∀ (l : List AV), (∀ i ∈ AV.idsL (AV.denL t n l), i < n) -> AV.vals (fun j => if j = n then z else ρ j) l = AV.vals ρ (AV.denL t n l) /\ ∀ i ∈ AV.idsL l, i < n + 1
 | [], _ => ⟨rfl, fun i hi => by simp [AV.idsL] at hi⟩
 | x :: r, h => by
  obtain ⟨h1, h2⟩ := AV.val_den hz x fun i hi => h i (by simp only [AV.denL, AV.idsL, bR0]; exact .inl hi)
  obtain ⟨h3, h4⟩ := AV.vals_den hz r fun i hi => h i (by simp only [AV.denL, AV.idsL, bR0]; exact .inr hi)
  refine ⟨by simp only [AV.denL, AV.vals]; rw [h1, h3], fun i hi => ?_⟩
  simp only [AV.idsL, bR0] at hi
  rcases hi with hi | hi
  ·exact h2 i hi
  exact h4 i hi
end
theorem ay0 {m : Bool} {n : Nat} {t : Nat} {x : AV} : ∀ {tm : List (Nat × AV)}, C3 tm t = some x -> C3 (tm.map fun p => (p.1, p.2.den m n)) t = some (x.den m n)
 | [], h => by cases h
 | (k, y) :: r, h => by
  simp only [C3, bS0] at h ⊢
  split at h
  ·rename_i e; cases h; rw [if_pos e]
  rename_i e; rw [if_neg e]; exact ay0 h
section
variable {P : Program} {ι : Type} {φ ψ : Nat -> Prop} {w0 w : World} {F : ι -> Rs} {ρ ρ0 : Nat -> Value} {N m n : Nat} {S : List It} {tm : List (Nat × AV)} {a : Act}
theorem C2.nilW (G : C2 φ ψ w0 F N m ρ0 ρ S tm a w) (n : Nat) (hn : S.length = n) (b : Bool) (x : It) (z : Value) (hz : if b then F0 z = .slice none 0 0 else z = .slice none 0 0) (hids : x.ids = []) (hb : ∀ g, ¬ (x.res (fun j => if j = n then z else ρ j) n).blk g)
  (hx : ∀ φ', (x.res (fun j => if j = n then z else ρ j) n).holds w φ') (S1 : List It) (tm1 : List (Nat × AV)) (hS : S = S1.map (It.den b n)) (ht : tm = tm1.map fun p => (p.1, p.2.den b n)) :
  ∃ ρ', C2 φ ψ w0 F N m ρ0 ρ' (S1 ++ [x]) tm1 a w := by
 have hl : S1.length = n := by rw [<- hn, hS, List.length_map]
 have hat : ∀ j (hj : j < n), v7 S j = (S1[j]'(by omega)).den b n := fun j hj => by
  rw [ax8 (show j < S.length by omega)]
  have h1 := congrArg (·[j]?) hS
  simp only [bQ8, bO7 (show j < S.length by omega), bO7 (show j < S1.length by omega), bR7, Option.some.injEq] at h1
  exact h1
 have hnew : ∀ j (hj : j < n), v7 (S1 ++ [x]) j = S1[j]'(by omega) := fun j hj => by
  simp [v7, bP1, bS6 (show j < S1.length by omega), bO7 (show j < S1.length by omega)]
 have hlast : v7 (S1 ++ [x]) n = x := by
  simp [v7, bP1, <- hl]
 have hout : ∀ j, n < j -> v7 (S1 ++ [x]) j = .none := fun j hj => B5 (by simp; omega)
 have hbx : ∀ j (hj : j < n), ((S1[j]'(by omega)).res (fun j => if j = n then z else ρ j) j = (v7 S j).res ρ j) /\ ∀ i ∈ (S1[j]'(by omega)).ids, i < n + 1 := fun j hj => by
  rw [hat j hj]
  have hb := (G.bd j).1
  rw [hat j hj, hn] at hb
  generalize S1[j]'(by omega) = x at *
  cases x with
  | box cs =>
   obtain ⟨h1, h2⟩ := AV.vals_den (ρ := ρ) (n := n) hz cs hb
   refine ⟨?_, h2⟩
   simp only [It.res, It.den]
   rw [h1, if_neg (show ¬ j = n by omega)]
  | none => exact ⟨rfl, fun i hi => by cases hi⟩
  | dead => exact ⟨rfl, fun i hi => by cases hi⟩
  | dat d' => exact ⟨by simp only [It.res, It.den]; rw [if_neg (show ¬ j = n by omega)], fun i hi => by cases hi⟩
  | row e' d' => exact ⟨by simp only [It.res, It.den]; rw [if_neg (show ¬ j = n by omega)], fun i hi => by cases hi⟩
  | tree d' => exact ⟨by simp only [It.res, It.den]; rw [if_neg (show ¬ j = n by omega)], fun i hi => by cases hi⟩
  | kept e' d' => exact ⟨by cases e' <;> (simp only [It.res, It.den]; rw [if_neg (show ¬ j = n by omega)]), fun i hi => by cases hi⟩
  | err => exact ⟨by simp only [It.res, It.den]; rw [if_neg (show ¬ j = n by omega)], fun i hi => by cases hi⟩
  | hole k q ls =>
   have hk : k < n := hb k (by simp [It.den, It.ids])
   exact ⟨by simp only [It.res, It.den]; rw [if_neg (show ¬ j = n by omega), if_neg (show ¬ k = n by omega)], fun i hi => by simp [It.ids] at hi; omega⟩
 have hw : ∀ t x, C3 tm1 t = some x -> x.val (fun j => if j = n then z else ρ j) = (x.den b n).val ρ /\ ∀ i ∈ x.ids, i < n + 1 := fun t x hx => by
  refine AV.val_den hz x fun i hi => ?_
  have h1 : C3 tm t = some (x.den b n) := by rw [ht]; exact ay0 hx
  have := G.tmi t _ h1 i hi
  omega
 refine ⟨fun j => if j = n then z else ρ j, ?_⟩
 refine ⟨G.size, G.defs, fun t x hx => ?_, fun t x hx i hi => ?_, fun j => ⟨fun i hi => ?_, fun hj => B5 hj⟩, ?_, ?_, fun i hi => ?_⟩
 ·have h1 : C3 tm t = some (x.den b n) := by rw [ht]; exact ay0 hx
  rw [(hw t x hx).1]; exact G.tmv t _ h1
 ·have := (hw t x hx).2 i hi
  simp; omega
 ·rcases Nat.lt_trichotomy j n with h | h | h
  ·rw [hnew j h] at hi
   have := (hbx j h).2 i hi
   simp; omega
  ·subst h; rw [hlast, hids] at hi; cases hi
  rw [hout j h] at hi; cases hi
 ·refine n9.put G.mem (.inr n) (fun k hk => ?_) (z6.refl _ _) ?_ ?_
  ·cases k with
   | inl i => rfl
   | inr j =>
    simp only [s6]
    rcases Nat.lt_trichotomy j n with h | h | h
    ·rw [hnew j h]; exact (hbx j h).1
    ·exact absurd (by rw [h]) hk
    rw [hout j h, B5 (show S.length <= j by omega)]; rfl
  ·simp only [s6, hlast]; exact hx _
  intro g hg
  simp only [s6, hlast] at hg
  exact absurd hg (hb g)
 ·have := G.le; simp; omega
 show (if i = n then _ else ρ i) = ρ0 i
 have := G.le
 rw [if_neg (by omega)]; exact G.old i hi
theorem C2.nil (G : C2 φ ψ w0 F N m ρ0 ρ S tm a w) (n : Nat) (e : TypeId) (d : D) (k : Nat) (S1 : List It) (tm1 : List (Nat × AV)) (hn : S.length = n := by kernel_rfl) (hd : D.nil k = some d := by kernel_rfl) (hS : S = S1.map (It.den false n) := by kernel_rfl) (ht : tm = tm1.map (fun p => (p.1, p.2.den false n)) := by kernel_rfl) :
  ∃ ρ', C2 φ ψ w0 F N m ρ0 ρ' (S1 ++ [.row e d]) tm1 a w := by
 have hz := D.nil_len hd
 refine G.nilW n hn false (.row e d) (.slice none 0 0) (by simp) rfl (fun g hg => ?_) (fun φ' => ?_) S1 tm1 hS ht
 ·simp only [It.res, if_true] at hg
  cases hg
 simp only [It.res, if_true]
 refine ⟨fun xs => RW.nice d xs, [], ?_, RW.nil hz _⟩
 rw [hz]; exact World.ownsRow_nil _ _ _ _
theorem C2.nilT (G : C2 φ ψ w0 F N m ρ0 ρ S tm a w) (n : Nat) (d : D) (S1 : List It) (tm1 : List (Nat × AV)) (hn : S.length = n := by kernel_rfl) (hd : ((ag5 d).isSome && natEq d.len 0) = true := by kernel_rfl) (hS : S = S1.map (It.den true n) := by kernel_rfl) (ht : tm = tm1.map (fun p => (p.1, p.2.den true n)) := by kernel_rfl) :
  ∃ ρ', C2 φ ψ w0 F N m ρ0 ρ' (S1 ++ [.tree d]) tm1 a w := by
 simp only [bO8, natEq, beq_iff_eq] at hd
 obtain ⟨e, he⟩ := bT0.1 hd.1
 obtain ⟨z, h1, h2⟩ := az5 (.slice none 0 0) (fun _ => False) 0 fun b h => h.elim
 refine G.nilW n hn true (.tree d) z (by simp [h1]) rfl (fun g hg => ?_) (fun φ' => ?_) S1 tm1 hS ht
 ·simp only [It.res, if_true] at hg
  exact ((h2 g).1 hg).elim
 simp only [It.res, if_true]
 rw [h1]
 refine ⟨fun _ _ h hs => h.same hs, ⟨e, [], fun _ => False, he, ?_, (fun g hg => by cases hg), (fun b hb => hb.elim), ?_⟩, fun b hb => ((h2 b).1 hb).elim⟩
 ·rw [hd.2]; exact World.ownsRow_nil _ _ _ _
 have h0 := hd.2
 cases d <;> simp only [ag5] at he <;> first | cases he | skip
 all_goals (simp only [D.len] at h0; rw [bR4 h0]; rfl)
end
inductive Ln where
 | no
 | row (e : TypeId)
 | tree
def A3 (M : List Ln) (i : Nat) : Ln := M.getD i .no
def Ln.isT : Ln -> Bool
 | .tree => true
 | _ => false
mutual
def AV.tr (M : List Ln) : AV -> AV
 | .v x => .v x
 | .ptr a b => .ptr a b
 | .ea a b c d => .ea a b c d
 | .ref i => if (A3 M i).isT then .tref i else .ref i
 | .agg l => .agg (AV.trL M l)
 | .tup l => .tup (AV.trL M l)
 | .fn f l => .fn f (AV.trL M l)
 | .bm f l => .bm f (AV.trL M l)
 | .tref i => .tref i
def AV.trL (M : List Ln) : List AV -> List AV
 | [] => []
 | x :: r => x.tr M :: AV.trL M r
end
mutual
def AV.trOk (M : List Ln) : AV -> Bool
 | .v _ => true
 | .ptr a _ => !(A3 M a).isT
 | .ea a _ _ _ => !(A3 M a).isT
 | .ref _ => true
 | .agg l => AV.trOkL M l
 | .tup l => AV.trOkL M l
 | .fn _ l => AV.trOkL M l
 | .bm _ l => AV.trOkL M l
 | .tref i => !(A3 M i).isT
def AV.trOkL (M : List Ln) : List AV -> Bool
 | [] => true
 | x :: r => x.trOk M && AV.trOkL M r
end
mutual
theorem AV.val_tr {ρ ρ' : Nat -> Value} {M : List Ln} (h : ∀ i, ρ' i = if (A3 M i).isT then F0 (ρ i) else ρ i) : ∀ (x : AV), x.trOk M = true -> (x.tr M).val ρ = x.val ρ'
 | .v _, _ => rfl
 | .ptr a _, hx => by
  simp only [AV.trOk, bQ1] at hx
  simp only [AV.tr, AV.val]; rw [h a, hx]; rfl
 | .ea a _ _ _, hx => by
  simp only [AV.trOk, bQ1] at hx
  simp only [AV.tr, AV.val]; rw [h a, hx]; rfl
 | .ref i, _ => by
  simp only [AV.tr]
  cases hm : (A3 M i).isT
  ·simp only [Bool.false_eq_true, if_false, AV.val]; rw [h i, hm]; rfl
  simp only [if_true, AV.val]; rw [h i, hm]; rfl
 | .agg l, hx => by simp only [AV.tr, AV.val]; rw [AV.vals_tr h l (by simpa [AV.trOk] using hx)]
 | .tup l, hx => by simp only [AV.tr, AV.val]; rw [AV.vals_tr h l (by simpa [AV.trOk] using hx)]
 | .fn _ l, hx => by simp only [AV.tr, AV.val]; rw [AV.vals_tr h l (by simpa [AV.trOk] using hx)]
 | .bm _ l, hx => by simp only [AV.tr, AV.val]; rw [AV.vals_tr h l (by simpa [AV.trOk] using hx)]
 | .tref i, hx => by
  simp only [AV.trOk, bQ1] at hx
  simp only [AV.tr, AV.val]; rw [h i, hx]; rfl
theorem AV.vals_tr {ρ ρ' : Nat -> Value} {M : List Ln} (h : ∀ i, ρ' i = if (A3 M i).isT then F0 (ρ i) else ρ i) : ∀ (l : List AV), AV.trOkL M l = true -> AV.vals ρ (AV.trL M l) = AV.vals ρ' l
 | [], _ => rfl
 | x :: r, hx => by
  simp only [AV.trOkL, bO8] at hx
  simp only [AV.trL, AV.vals]; rw [AV.val_tr h x hx.1, AV.vals_tr h r hx.2]
end
def w7 (M : List Ln) : Ln -> It -> It
 | .row e, .dat d => .row e d
 | .tree, .dat d => .tree d
 | .no, .box cs => .box (AV.trL M cs)
 | _, x => x
def J5 (M : List Ln) (S : List It) : List It := (bS1 S.length).map fun i => w7 M (A3 M i) (v7 S i)
theorem R1 (M : List Ln) (S : List It) (i : Nat) : v7 (J5 M S) i = w7 M (A3 M i) (v7 S i) := by
 unfold J5
 rcases bR6 i S.length with h | h
 ·conv => lhs; rw [v7, bP1, bQ8, List.getElem?_range h]
  rfl
 rw [B5 (by simpa using h), B5 h]
 cases A3 M i <;> rfl
def aR8 : D -> Bool
 | .rows _ => false
 | .brows _ => false
 | .exprs _ => false
 | .stmts _ => false
 | _ => true
theorem a44 {w w' : World} {φ φ' : Nat -> Prop} {d : D} {xs : List Value} (hd : aR8 d = true) (h : RW w φ d xs) : RW w' φ' d xs := by
 intro i hi j x hx
 obtain ⟨u, h1, h2⟩ := h i hi j x hx
 refine ⟨u, h1, ?_⟩
 have : ∃ y, x = .v y := by
  have hm := bQ5 hx
  cases d <;> simp only [aR8, Bool.false_eq_true] at hd <;> simp [D.elem, aX9, ai7] at hm
  ·exact ⟨_, hm⟩
  ·exact ⟨_, hm⟩
  ·exact ⟨_, hm⟩
  ·exact ⟨_, hm⟩
  ·rcases hm with h | h | h | h | h <;> exact ⟨_, h⟩
  rcases hm with h | h <;> exact ⟨_, h⟩
 obtain ⟨y, rfl⟩ := this
 exact h2
def aK7 (M : List Ln) (l : Ln) (p x : It) : Bool :=
 match l with
 | .no => match x with
  | .dat _ => (match p with | .dat _ => true | _ => false)
  | .row _ d => aR8 d
  | .box cs => AV.trOkL M cs
  | .kept _ _ => false
  | .hole _ _ _ => false
  | _ => true
 | .row _ => (match p, x with | .dat d, .dat _ => aR8 d | _, _ => false)
 | .tree => (match p, x with | .dat d, .dat _ => (ag5 d).isSome | _, _ => false)
def bf4 (M : List Ln) (l : Ln) (p : It) : Bool :=
 match l, p with
 | .no, .box cs => AV.trOkL M cs
 | .no, .hole _ _ _ => false
 | _, _ => true
def bh7 (M : List Ln) (c : r7) : Bool :=
 decide (M.length <= c.pre.length) && decide (c.pre.length <= c.post.length) && AV.trOkL M c.args && c.res.trOk M && (bS1 c.post.length).all (fun i => aK7 M (A3 M i) (v7 c.pre i) (v7 c.post i)) && (bS1 c.pre.length).all fun i => bf4 M (A3 M i) (v7 c.pre i)
def Rs.snap (w : World) (r : Rs) : Rs := .own r.blk fun w' => ∀ b, r.blk b -> b < w.heap.size -> w'.heap[b]? = w.heap[b]?
theorem Rs.snap_holds {w : World} {φ φ' : Nat -> Prop} {r : Rs} (h : r.holds w φ) : (r.snap w).holds w φ' := by
 refine ⟨fun w1 w2 h1 h2 b hb hlt => ?_, fun b _ _ => rfl, fun b hb => Rs.lt h hb⟩
 have h3 := h1 b hb hlt
 rw [h2 b hb, h3]
 have : (w1.heap[b]?).isSome = true := by rw [h3, Array.getElem?_eq_getElem hlt]; rfl
 obtain ⟨o, ho⟩ := bT0.1 this
 exact (Array.getElem?_eq_some_iff.1 ho).1
theorem aL3 : ∀ {P X : List It} {i : Nat} {d e : D}, ap0 P X = ao9 P X -> v7 P i = .dat d -> v7 X i = .dat e -> d = e
 | P, X, i, d, e, h, h1, h2 => by
  have hp : P[i]? = some (.dat d) := by
   rcases bR6 i P.length with hl | hl
   ·rw [ax8 hl] at h1; rw [bO7 hl, h1]
   rw [B5 hl] at h1; cases h1
  have hx : X[i]? = some (.dat e) := by
   rcases bR6 i X.length with hl | hl
   ·rw [ax8 hl] at h2; rw [bO7 hl, h2]
   rw [B5 hl] at h2; cases h2
  exact bD0 h hp hx
theorem r7.lend0 {P : Program} {c : r7} (hc : c.ok P) (M : List Ln) (hb : bh7 M c = true) (he : ap0 c.pre c.post = ao9 c.pre c.post) : r7.ok P ⟨c.f, AV.trL M c.args, J5 M c.pre, J5 M c.post, c.res.tr M⟩ := by
 simp only [bh7, bO8, decide_eq_true_eq] at hb
 obtain ⟨⟨⟨⟨⟨hM, hle⟩, hargs⟩, hres⟩, hpost⟩, hpre⟩ := hb
 have hno : ∀ i, c.pre.length <= i -> A3 M i = .no := fun i hi => by
  unfold A3; rw [bP1, bS2 (by omega)]; rfl
 have hpo : ∀ i, aK7 M (A3 M i) (v7 c.pre i) (v7 c.post i) = true := fun i => by
  rcases bR6 i c.post.length with h | h
  ·exact bQ0.1 hpost i (List.mem_range.2 h)
  rw [hno i (by omega), B5 h]; rfl
 have hpr : ∀ i, bf4 M (A3 M i) (v7 c.pre i) = true := fun i => by
  rcases bR6 i c.pre.length with h | h
  ·exact bQ0.1 hpre i (List.mem_range.2 h)
  rw [hno i h, B5 h]; rfl
 intro ι φ ψ w0 w F ρ MM
 let ρ1 : Nat -> Value := fun i => if (A3 M i).isT then F0 (ρ i) else ρ i
 have hρ1 : ∀ i, ρ1 i = if (A3 M i).isT then F0 (ρ i) else ρ i := fun _ => rfl
 let F1 : ι -> Rs := fun i => (F i).snap w
 have hLi : ∀ i, s6 F ρ (v7 (J5 M c.pre)) (.inl i) = F i := fun _ => rfl
 have hLj : ∀ j, s6 F ρ (v7 (J5 M c.pre)) (.inr j) = (w7 M (A3 M j) (v7 c.pre j)).res ρ j := fun j => by simp only [s6]; rw [R1]
 generalize hL : s6 F ρ (v7 (J5 M c.pre)) = L at MM hLi hLj
 have h1j : ∀ j, A3 M j = .no -> (v7 c.pre j).res ρ1 j = L (.inr j) := fun j hl => by
  rw [hLj, hl]
  have hp := hpr j
  have e : ρ1 j = ρ j := by rw [hρ1, hl]; rfl
  cases hx : v7 c.pre j with
  | none => rfl
  | dead => rfl
  | dat d => simp only [w7, It.res]; rw [e]
  | row e' d => simp only [w7, It.res]; rw [e]
  | tree d => simp only [w7, It.res]; rw [e]
  | kept e' d => cases e' <;> (simp only [w7, It.res]; rw [e])
  | hole k i ls => rw [hl, hx] at hp; cases hp
  | err => simp only [w7, It.res]; rw [e]
  | box cs =>
   rw [hl, hx] at hp
   simp only [bf4] at hp
   simp only [w7, It.res]
   rw [e, AV.vals_tr hρ1 cs hp]
 have hlent : ∀ j, A3 M j ≠ .no -> (∃ d, v7 c.pre j = .dat d /\ v7 c.post j = .dat d /\ ((∃ e, A3 M j = .row e /\ aR8 d = true) \/ A3 M j = .tree)) := fun j hj => by
  have h := hpo j
  cases hl : A3 M j with
  | no => exact absurd hl hj
  | row e =>
   rw [hl] at h
   simp only [aK7] at h
   split at h
   ·rename_i d d' h1 h2
    exact ⟨d, h1, by rw [h2, <- aL3 he h1 h2], .inl ⟨e, rfl, h⟩⟩
   cases h
  | tree =>
   rw [hl] at h
   simp only [aK7] at h
   split at h
   ·rename_i d d' h1 h2
    exact ⟨d, h1, by rw [h2, <- aL3 he h1 h2], .inr rfl⟩
   cases h
 have hsub : ∀ k b, (s6 F1 ρ1 (v7 c.pre) k).blk b -> (L k).blk b /\ ∀ j, k = .inr j -> A3 M j = .no := fun k b hb => by
  cases k with
  | inl i => rw [hLi]; exact ⟨hb, fun j h => by cases h⟩
  | inr j =>
   by_cases hl : A3 M j = .no
   ·simp only [s6] at hb
    rw [h1j j hl] at hb
    exact ⟨hb, fun j' h => by cases h; exact hl⟩
   obtain ⟨d, h1, _⟩ := hlent j hl
   simp only [s6, h1, It.res] at hb
   exact hb.elim
 have hfr1 : ∀ b, U0 φ L b -> U0 φ (s6 F1 ρ1 (v7 c.pre)) b := fun b hb => ⟨hb.1, fun k hk => hb.2 k (hsub k b hk).1⟩
 let ψ1 : Nat -> Prop := fun b => ∀ k, ¬ (s6 F1 ρ1 (v7 c.pre) k).blk b
 have M1 : n9 φ ψ1 w w (s6 F1 ρ1 (v7 c.pre)) := by
  refine ⟨z6.refl _ _, fun b hb => MM.fresh b (bO6 MM.size hb), fun w' hk => MM.env w' ⟨hk.os.trans MM.kept.os, hk.tape.trans MM.kept.tape, hk.output.trans MM.kept.output, bO6 MM.size hk.size, fun b hb hp => (hk.block b (bS7 hb MM.size) fun k hk' => (MM.ge k b (hsub k b hk').1).elim (fun h => by omega) fun h => h hp).trans (MM.kept.block b hb hp)⟩, fun k => ?_, fun k k' b hkk h1 h2 => MM.dis k k' b hkk (hsub k b h1).1 (hsub k' b h2).1, fun k b h1 => .inr fun h => h k h1, fun k b h1 => MM.ph k b (hsub k b h1).1⟩
  cases k with
  | inl i => exact Rs.snap_holds (show (F i).holds w _ from by rw [<- hLi i]; exact MM.holds (.inl i))
  | inr j =>
   by_cases hl : A3 M j = .no
   ·simp only [s6]
    rw [h1j j hl]
    exact Rs.keep (MM.holds (.inr j)) (G0.mono fun b _ hf => hfr1 b hf) fun _ _ => rfl
   obtain ⟨d, h1, h2, h3⟩ := hlent j hl
   have hh := MM.holds (.inr j)
   have hown : ∀ b, (L (.inr j)).blk b -> U0 φ (s6 F1 ρ1 (v7 c.pre)) b := fun b hb => ⟨MM.ph _ _ hb, fun k hk => by
    obtain ⟨q1, q2⟩ := hsub k b hk
    by_cases e : k = .inr j
    ·exact hl (q2 j e)
    exact MM.dis k (.inr j) b e q1 hb⟩
   simp only [s6, h1, It.res]
   refine ⟨RD.nice _ _, ?_⟩
   rcases h3 with ⟨e, h3, hflat⟩ | h3
   ·rw [hLj, h3, h1] at hh
    simp only [w7, It.res] at hh
    obtain ⟨_, xs, o1, o2⟩ := hh
    have e1 : ρ1 j = ρ j := by rw [hρ1, h3]; rfl
    rw [e1]
    refine RD.make (D9 o1 fun g hg => hown g ?_) (a44 hflat o2)
    rw [hLj, h3, h1]; exact hg
   rw [hLj, h3, h1] at hh
   simp only [w7, It.res] at hh
   have e1 : ρ1 j = F0 (ρ j) := by rw [hρ1, h3]; rfl
   rw [e1]
   refine F8.read hh.2.1 fun b hb => hown b ?_
   rw [hLj, h3, h1]; exact hb
 simp only
 rw [AV.vals_tr hρ1 c.args hargs]
 refine (hc ι φ ψ1 w w F1 ρ1 M1).mono ?_
 rintro x w' ⟨ρ2, g1, g2, M2⟩
 have hplen : (J5 M c.pre).length = c.pre.length := by simp [J5]
 let ρ' : Nat -> Value := fun j => if j < c.pre.length then ρ j else ρ2 j
 have hρ' : ∀ j, ρ2 j = if (A3 M j).isT then F0 (ρ' j) else ρ' j := fun j => by
  show _ = if (A3 M j).isT then F0 (if j < c.pre.length then ρ j else ρ2 j) else (if j < c.pre.length then ρ j else ρ2 j)
  rcases bR6 j c.pre.length with h | h
  ·rw [if_pos h, g1 j h]
  rw [hno j h]
  exact (if_neg (Nat.not_lt.2 h)).symm
 have hρo : ∀ j, A3 M j ≠ .no -> ρ' j = ρ j := fun j hj => by
  rcases bR6 j c.pre.length with h | h
  ·exact if_pos h
  exact absurd (hno j h) hj
 refine ⟨ρ', fun i hi => if_pos (by rw [hplen] at hi; exact hi), by rw [AV.val_tr hρ' c.res hres]; exact g2, ?_⟩
 have hL'j : ∀ j, s6 F ρ' (v7 (J5 M c.post)) (.inr j) = (w7 M (A3 M j) (v7 c.post j)).res ρ' j := fun j => by simp only [s6]; rw [R1]
 have hL'i : ∀ i, s6 F ρ' (v7 (J5 M c.post)) (.inl i) = F i := fun _ => rfl
 generalize hL' : s6 F ρ' (v7 (J5 M c.post)) = L' at hL'j hL'i
 have hL2j : ∀ j, A3 M j = .no -> L' (.inr j) = s6 F1 ρ2 (v7 c.post) (.inr j) := fun j hl => by
  rw [hL'j, hl]
  have hp := hpo j
  have e : ρ2 j = ρ' j := by rw [hρ', hl]; rfl
  simp only [s6]
  cases hx : v7 c.post j with
  | none => rfl
  | dead => rfl
  | dat d => simp only [w7, It.res]; rw [e]
  | row e' d => simp only [w7, It.res]; rw [e]
  | tree d => simp only [w7, It.res]; rw [e]
  | kept e' d => cases e' <;> (simp only [w7, It.res]; rw [e])
  | hole k i ls => rw [hl, hx] at hp; cases hp
  | err => simp only [w7, It.res]; rw [e]
  | box cs =>
   rw [hl, hx] at hp
   simp only [aK7] at hp
   simp only [w7, It.res]
   rw [e, AV.vals_tr hρ' cs hp]
 have hlj : ∀ j, A3 M j ≠ .no -> L' (.inr j) = L (.inr j) := fun j hl => by
  obtain ⟨d, h1, h2, h3⟩ := hlent j hl
  rw [hL'j, hLj, h1, h2]
  rcases h3 with ⟨e, h3, _⟩ | h3
  ·rw [h3]; simp only [w7, It.res]; rw [hρo j hl]
  rw [h3]; simp only [w7, It.res]; rw [hρo j hl]
 have hin : ∀ b, b < w.heap.size -> ¬ ψ1 b -> ∃ k, (L k).blk b /\ ∀ j, k = .inr j -> A3 M j = .no := fun b _ hn => by
  obtain ⟨k, hk⟩ := Classical.not_forall.1 hn
  exact ⟨k, hsub k b (Classical.not_not.1 hk)⟩
 have hnew : ∀ k b, (∀ j, k = .inr j -> A3 M j = .no) -> (s6 F1 ρ2 (v7 c.post) k).blk b -> b < w.heap.size -> ∃ k', (L k').blk b /\ ∀ j, k' = .inr j -> A3 M j = .no := fun k b _ hb hlt => by
  rcases M2.ge k b hb with h | h
  ·omega
  exact hin b hlt h
 have hback : ∀ k b, (L' k).blk b -> b < w.heap.size -> ∃ k', (L k').blk b := fun k b hb hlt => by
  cases k with
  | inl i => rw [hL'i] at hb; exact ⟨.inl i, by rw [hLi]; exact hb⟩
  | inr j =>
   by_cases hl : A3 M j = .no
   ·rw [hL2j j hl] at hb
    obtain ⟨k', h1, _⟩ := hnew (.inr j) b (fun j' h => by cases h; exact hl) hb hlt
    exact ⟨k', h1⟩
   rw [hlj j hl] at hb; exact ⟨_, hb⟩
 have hsame : ∀ b, b < w.heap.size -> ψ1 b -> w'.heap[b]? = w.heap[b]? := fun b h1 h2 => M2.kept.block b h1 h2
 have hagr : G0 (U0 φ L) (U0 φ L') w w' := ⟨M2.kept.size, fun b hb hf => ⟨⟨hf.1, fun k hk => let ⟨k', h1⟩ := hback k b hk hb; hf.2 k' h1⟩, hsame b hb fun k hk => (hfr1 b hf).2 k hk⟩⟩
 have hlsame : ∀ j, A3 M j ≠ .no -> ∀ b, (L (.inr j)).blk b -> w'.heap[b]? = w.heap[b]? := fun j hl b hb => hsame b (MM.lt hb) fun k hk => by
  obtain ⟨q1, q2⟩ := hsub k b hk
  by_cases e : k = .inr j
  ·exact hl (q2 j e)
  exact MM.dis k (.inr j) b e q1 hb
 have hcross : ∀ j k b, A3 M j ≠ .no -> (∀ j, k = .inr j -> A3 M j = .no) -> (L (.inr j)).blk b -> ¬ (s6 F1 ρ2 (v7 c.post) k).blk b := fun j k b hl hk h1 h2 => by
  obtain ⟨k', h3, h4⟩ := hnew k b hk h2 (MM.lt h1)
  exact MM.dis k' (.inr j) b (fun e => hl (h4 j e)) h3 h1
 refine ⟨⟨M2.kept.os.trans MM.kept.os, M2.kept.tape.trans MM.kept.tape, M2.kept.output.trans MM.kept.output, bO6 MM.size M2.kept.size, fun b hb hp => (hsame b (bS7 hb MM.size) fun k hk => ?_).trans (MM.kept.block b hb hp)⟩, MM.fresh, MM.env, fun k => ?_, fun k k' b hkk h1 h2 => ?_, fun k b h1 => ?_, fun k b h1 => ?_⟩
 ·rcases MM.ge k b (hsub k b hk).1 with h | h
  ·omega
  exact h hp
 ·cases k with
  | inl i =>
   rw [hL'i, <- hLi i]
   refine Rs.keep (MM.holds (.inl i)) hagr fun b hb => ?_
   have := (M2.holds (.inl i)).2.1 b (by rw [<- hLi i]; exact hb) (MM.lt hb)
   exact this
  | inr j =>
   by_cases hl : A3 M j = .no
   ·have hh := M2.holds (.inr j)
    rw [<- hL2j j hl] at hh
    have hp := hpo j
    rw [hl] at hp
    cases hx : v7 c.post j with
    | none => rw [hL'j, hl, hx]; exact Rs.none_holds _ _
    | dead => rw [hL'j, hl, hx]; exact Rs.none_holds _ _
    | box cs => rw [hL'j, hl, hx] at hh ⊢; exact hh
    | tree d => rw [hL'j, hl, hx] at hh ⊢; exact hh
    | kept e' d => rw [hx] at hp; exact absurd hp (by simp [aK7])
    | hole k i ls => rw [hx] at hp; exact absurd hp (by simp [aK7])
    | err => rw [hL'j, hl, hx] at hh ⊢; exact hh
    | row e d =>
     rw [hx] at hp
     simp only [aK7] at hp
     rw [hL'j, hl, hx] at hh ⊢
     simp only [w7, It.res] at hh ⊢
     obtain ⟨_, xs, o1, o2⟩ := hh
     exact ⟨fun xs => RW.nice d xs, xs, o1, a44 hp o2⟩
    | dat d =>
     rw [hx] at hp
     simp only [aK7] at hp
     split at hp
     ·rename_i d' hpx
      have hd : d' = d := aL3 he hpx hx
      subst hd
      have e : L' (.inr j) = L (.inr j) := by
       rw [hL'j, hLj, hl, hx, hpx]
       simp only [w7, It.res]
       have : j < c.pre.length := by
        rcases bR6 j c.pre.length with h | h
        ·exact h
        rw [B5 h] at hpx; cases hpx
       rw [show ρ' j = ρ j from if_pos this]
      rw [e]
      refine Rs.keep (MM.holds (.inr j)) hagr fun b hb => ?_
      rw [hLj, hl, hpx] at hb
      exact hb.elim
     cases hp
   rw [hlj j hl]
   exact Rs.keep (MM.holds (.inr j)) hagr fun b hb => hlsame j hl b hb
 ·have key : ∀ k, (∃ j, k = .inr j /\ A3 M j ≠ .no /\ (L' k) = L k) \/ ((∀ j, k = .inr j -> A3 M j = .no) /\ ∀ b, (L' k).blk b -> (s6 F1 ρ2 (v7 c.post) k).blk b) := fun k => by
   cases k with
   | inl i => exact .inr ⟨(fun j h => by cases h), fun b hb => by rw [hL'i] at hb; exact hb⟩
   | inr j =>
    by_cases hl : A3 M j = .no
    ·exact .inr ⟨fun j' h => by cases h; exact hl, fun b hb => by rw [hL2j j hl] at hb; exact hb⟩
    exact .inl ⟨j, rfl, hl, hlj j hl⟩
  rcases key k with ⟨j, rfl, k1, k2⟩ | ⟨k1, k2⟩ <;> rcases key k' with ⟨j', rfl, k3, k4⟩ | ⟨k3, k4⟩
  ·rw [k2] at h1; rw [k4] at h2; exact MM.dis _ _ b hkk h1 h2
  ·rw [k2] at h1; exact hcross j k' b k1 k3 h1 (k4 b h2)
  ·rw [k4] at h2; exact hcross j' k b k3 k1 h2 (k2 b h1)
  exact M2.dis k k' b hkk (k2 b h1) (k4 b h2)
 ·cases k with
  | inl i => rw [hL'i, <- hLi i] at h1; exact MM.ge _ b h1
  | inr j =>
   by_cases hl : A3 M j = .no
   ·rw [hL2j j hl] at h1
    rcases bR6 b w.heap.size with hlt | hge
    ·obtain ⟨k', h2, _⟩ := hnew (.inr j) b (fun j' h => by cases h; exact hl) h1 hlt
     exact MM.ge k' b h2
    exact .inl (bO6 MM.size hge)
   rw [hlj j hl] at h1; exact MM.ge _ b h1
 cases k with
 | inl i => rw [hL'i, <- hLi i] at h1; exact MM.ph _ b h1
 | inr j =>
  by_cases hl : A3 M j = .no
  ·rw [hL2j j hl] at h1; exact M2.ph _ b h1
  rw [hlj j hl] at h1; exact MM.ph _ b h1
def bi4 (M : List Ln) : Ln -> It -> It
 | .row e, .dat d => .kept (some e) d
 | .tree, .dat d => .kept none d
 | .no, .box cs => .box (AV.trL M cs)
 | _, x => x
def bi3 (M : List Ln) (S : List It) : List It := (bS1 S.length).map fun i => bi4 M (A3 M i) (v7 S i)
theorem bh6 (M : List Ln) (S : List It) (i : Nat) : v7 (bi3 M S) i = bi4 M (A3 M i) (v7 S i) := by
 unfold bi3
 rcases bR6 i S.length with h | h
 ·conv => lhs; rw [v7, bP1, bQ8, List.getElem?_range h]
  rfl
 rw [B5 (by simpa using h), B5 h]
 cases A3 M i <;> rfl
theorem r7.lend {P : Program} {c : r7} (hc : c.ok P) (M : List Ln) (hb : bh7 M c = true := by kernel_rfl) (he : ap0 c.pre c.post = ao9 c.pre c.post := by kernel_rfl) : r7.ok P ⟨c.f, AV.trL M c.args, J5 M c.pre, bi3 M c.post, c.res.tr M⟩ :=
 r7.okPost (r7.lend0 hc M hb he) _ fun ρ i => by
  simp only
  rw [bh6, R1]
  cases A3 M i <;> cases v7 c.post i <;> rfl
section
variable {P : Program} {ι κ : Type} {φ ψ : Nat -> Prop} {w0 w : World} {F : ι -> Rs} {ρ ρ0 : Nat -> Value} {N m n : Nat} {S : List It} {tm : List (Nat × AV)} {a : Act}
theorem n9.release {L L' : κ -> Rs} (M : n9 φ ψ w0 w L) (h : ∀ k, L' k = L k \/ ((∀ b, ¬ (L' k).blk b) /\ ∀ φ', (∀ b, U0 φ L b -> φ' b) -> (∀ b, (L k).blk b -> φ' b) -> (L' k).holds w φ')) : n9 φ ψ w0 w L' := by
 have old : ∀ k b, (L' k).blk b -> (L k).blk b := fun k b hb => by
  rcases h k with e | ⟨h1, _⟩
  ·rw [e] at hb; exact hb
  exact (h1 b hb).elim
 have hfr : ∀ b, U0 φ L b -> U0 φ L' b := fun b hb => ⟨hb.1, fun k hk => hb.2 k (old k b hk)⟩
 refine ⟨M.kept, M.fresh, M.env, fun k => ?_, fun i j g hij h1 h2 => M.dis i j g hij (old i g h1) (old j g h2), fun i b hb => M.ge i b (old i b hb), fun i b hb => M.ph i b (old i b hb)⟩
 rcases h k with e | ⟨h1, h2⟩
 ·rw [e]; exact Rs.keep (M.holds k) (G0.mono fun b _ hf => hfr b hf) fun _ _ => rfl
 refine h2 _ hfr fun b hb => ⟨M.ph k b hb, fun j hj => ?_⟩
 by_cases e : j = k
 ·subst e; exact h1 b hj
 exact M.dis j k b e (old j b hj) hb
mutual
theorem AV.ids_tr (M : List Ln) : ∀ (x : AV), (x.tr M).ids = x.ids
 | .v _ => rfl
 | .ptr _ _ => rfl
 | .ea _ _ _ _ => rfl
 | .ref i => by simp only [AV.tr]; split <;> rfl
 | .agg l => by simp only [AV.tr, AV.ids]; exact AV.idsL_tr M l
 | .tup l => by simp only [AV.tr, AV.ids]; exact AV.idsL_tr M l
 | .fn _ l => by simp only [AV.tr, AV.ids]; exact AV.idsL_tr M l
 | .bm _ l => by simp only [AV.tr, AV.ids]; exact AV.idsL_tr M l
 | .tref _ => rfl
theorem AV.idsL_tr (M : List Ln) : ∀ (l : List AV), AV.idsL (AV.trL M l) = AV.idsL l
 | [] => rfl
 | x :: r => by simp only [AV.trL, AV.idsL]; rw [AV.ids_tr M x, AV.idsL_tr M r]
end
theorem ak4 {M : List Ln} {t : Nat} {x : AV} : ∀ {tm : List (Nat × AV)}, C3 tm t = some x -> C3 (tm.map fun p => (p.1, p.2.tr M)) t = some (x.tr M) /\ ∃ p ∈ tm, p.2 = x
 | [], h => by cases h
 | (k, y) :: r, h => by
  simp only [C3, bS0] at h ⊢
  split at h
  ·cases h; rename_i hk; rw [if_pos hk]; exact ⟨rfl, _, bQ4, rfl⟩
  rename_i hk; rw [if_neg hk]
  obtain ⟨h1, p, h2, h3⟩ := ak4 h
  exact ⟨h1, p, bR1 _ h2, h3⟩
def bH9 (M : List Ln) (m : Nat) (S1 : List It) (tm1 : List (Nat × AV)) : Bool :=
 decide (M.length <= S1.length) && (bS1 S1.length).all (fun i => match A3 M i, v7 S1 i with
  | .no, .box cs => AV.trOkL M cs
  | .no, .hole _ _ _ => false
  | .no, _ => true
  | .row _, .dat _ => true
  | .tree, .dat _ => decide (m <= i)
  | _, _ => false) && tm1.all fun p => p.2.trOk M
theorem It.ids_lend (M : List Ln) (l : Ln) (x : It) : x.ids = [] \/ (w7 M l x).ids = x.ids := by
 cases x with
 | box cs => cases l <;> first | exact .inr rfl | exact .inr (AV.idsL_tr M cs)
 | hole k i ls => cases l <;> exact .inr rfl
 | _ => exact .inl rfl
theorem C2.frz (G : C2 φ ψ w0 F N m ρ0 ρ S tm a w) (M : List Ln) (S1 : List It) (tm1 : List (Nat × AV)) (hb : bH9 M m S1 tm1 = true := by kernel_rfl) (hS : S = J5 M S1 := by kernel_rfl) (ht : tm = tm1.map (fun p => (p.1, p.2.tr M)) := by kernel_rfl) :
  ∃ ρ', C2 φ ψ w0 F N m ρ0 ρ' S1 tm1 a w := by
 subst hS
 subst ht
 simp only [bH9, bO8, decide_eq_true_eq] at hb
 obtain ⟨⟨hM, hall⟩, htm⟩ := hb
 have hlen : (J5 M S1).length = S1.length := by simp [J5]
 have hno : ∀ i, S1.length <= i -> A3 M i = .no := fun i hi => by
  unfold A3; rw [bP1, bS2 (by omega)]; rfl
 have hat := fun i (hi : i < S1.length) => bQ0.1 hall i (List.mem_range.2 hi)
 let ρ1 : Nat -> Value := fun i => if (A3 M i).isT then F0 (ρ i) else ρ i
 have hρ1 : ∀ i, ρ1 i = if (A3 M i).isT then F0 (ρ i) else ρ i := fun _ => rfl
 have hρn : ∀ i, (A3 M i).isT = false -> ρ1 i = ρ i := fun i h => by rw [hρ1, h]; rfl
 refine ⟨ρ1, G.size, G.defs, fun t x hx => ?_, fun t x hx i hi => ?_, fun j => ⟨fun i hi => ?_, fun hj => B5 hj⟩, ?_, ?_, fun i hi => ?_⟩
 ·obtain ⟨h1, p, h2, h3⟩ := ak4 (M := M) hx
  rw [G.tmv t _ h1, AV.val_tr hρ1 x (by rw [<- h3]; exact bQ0.1 htm p h2)]
 ·obtain ⟨h1, _⟩ := ak4 (M := M) hx
  have := G.tmi t _ h1 i (by rw [AV.ids_tr]; exact hi)
  rw [hlen] at this; exact this
 ·have h1 := (G.bd j).1 i
  rw [R1, hlen] at h1
  rcases It.ids_lend M (A3 M j) (v7 S1 j) with h | h
  ·rw [h] at hi; cases hi
  exact h1 (by rw [h]; exact hi)
 ·refine G.mem.release fun k => ?_
  cases k with
  | inl i => exact .inl rfl
  | inr j =>
   simp only [s6]
   rw [R1]
   rcases bR6 j S1.length with hj | hj
   case inr => rw [hno j hj, B5 hj]; exact .inl rfl
   have h1 := hat j hj
   cases hl : A3 M j with
   | no =>
    have e : ρ1 j = ρ j := hρn j (by rw [hl]; rfl)
    rw [hl] at h1
    left
    cases hx : v7 S1 j with
    | box cs =>
     rw [hx] at h1
     simp only [w7, It.res]
     rw [e, AV.vals_tr hρ1 cs h1]
    | none => rfl
    | dead => rfl
    | dat d => simp only [w7, It.res]; rw [e]
    | row e' d => simp only [w7, It.res]; rw [e]
    | tree d => simp only [w7, It.res]; rw [e]
    | kept e' d => cases e' <;> (simp only [w7, It.res]; rw [e])
    | hole k i ls => rw [hx] at h1; cases h1
    | err => simp only [w7, It.res]; rw [e]
   | row e' =>
    have e : ρ1 j = ρ j := hρn j (by rw [hl]; rfl)
    rw [hl] at h1
    cases hx : v7 S1 j <;> rw [hx] at h1 <;> first | cases h1 | skip
    rename_i d
    refine .inr ⟨fun b hb => hb, fun φ' hf hown => ⟨RD.nice _ _, ?_⟩⟩
    have hh := G.mem.holds (.inr j)
    simp only [s6] at hh
    rw [R1, hl, hx] at hh
    simp only [w7, It.res] at hh
    obtain ⟨_, xs, o1, o2⟩ := hh
    rw [e]
    exact RD.make (D9 o1 fun g hg => hown g hg) (RW.nice _ _ _ _ _ _ (G0.mono fun b _ hb => hf b hb) o2)
   | tree =>
    have e : ρ1 j = F0 (ρ j) := by rw [hρ1, hl]; rfl
    rw [hl] at h1
    cases hx : v7 S1 j <;> rw [hx] at h1 <;> first | cases h1 | skip
    rename_i d
    refine .inr ⟨fun b hb => hb, fun φ' hf hown => ⟨RD.nice _ _, ?_⟩⟩
    have hh := G.mem.holds (.inr j)
    simp only [s6] at hh
    rw [R1, hl, hx] at hh
    simp only [w7, It.res] at hh
    rw [e]
    exact F8.read hh.2.1 fun b hb => hown b hb
 ·have := G.le; rw [hlen] at this; exact this
 have hm := G.le
 rw [hlen] at hm
 have : (A3 M i).isT = false := by
  cases hl : A3 M i with
  | no => rfl
  | row _ => rfl
  | tree =>
   have h1 := hat i (by omega)
   rw [hl] at h1
   cases hx : v7 S1 i <;> rw [hx] at h1 <;> simp at h1
   omega
 show ρ1 i = ρ0 i
 rw [hρn i this]; exact G.old i hi
end
section
variable {P : Program} {ι κ : Type} {φ ψ : Nat -> Prop} {w0 w : World} {F : ι -> Rs} {ρ ρ0 : Nat -> Value} {N m n : Nat} {S : List It} {tm : List (Nat × AV)} {a : Act}
theorem n9.shrink {L L' : κ -> Rs} (M : n9 φ ψ w0 w L) (h : ∀ k, L' k = L k \/ ((∀ b, (L' k).blk b -> (L k).blk b) /\ ∀ φ', (∀ b, U0 φ L b -> φ' b) -> (∀ b, (L k).blk b -> ¬ (L' k).blk b -> φ' b) -> (L' k).holds w φ')) : n9 φ ψ w0 w L' := by
 have old : ∀ k b, (L' k).blk b -> (L k).blk b := fun k b hb => by
  rcases h k with e | ⟨h1, _⟩
  ·rw [e] at hb; exact hb
  exact h1 b hb
 have hfr : ∀ b, U0 φ L b -> U0 φ L' b := fun b hb => ⟨hb.1, fun k hk => hb.2 k (old k b hk)⟩
 refine ⟨M.kept, M.fresh, M.env, fun k => ?_, fun i j g hij h1 h2 => M.dis i j g hij (old i g h1) (old j g h2), fun i b hb => M.ge i b (old i b hb), fun i b hb => M.ph i b (old i b hb)⟩
 rcases h k with e | ⟨h1, h2⟩
 ·rw [e]; exact Rs.keep (M.holds k) (G0.mono fun b _ hf => hfr b hf) fun _ _ => rfl
 refine h2 _ hfr fun b hb hn => ⟨M.ph k b hb, fun j hj => ?_⟩
 by_cases e : j = k
 ·subst e; exact hn hj
 exact M.dis j k b e (old j b hj) hb
def O8 (n : Nat) : List Ln := bS9 n .no ++ [.tree]
theorem aw7 (n i : Nat) : A3 (O8 n) i = if i = n then .tree else .no := by
 unfold A3 O8
 rw [bP1]
 rcases Nat.lt_trichotomy i n with h | h | h
 ·rw [bS6 (by simpa using h), if_neg (by omega)]
  simp [List.getElem?_replicate, h]
 ·subst h; simp
 rw [bS2 (by simp; omega), if_neg (by omega)]; rfl
def aI9 : D -> Bool
 | .rows _ => true
 | d => natEq d.len 0
theorem M5.rw {w : World} {S φ : Nat -> Prop} {d : D} {xs : List Value} (hd : aI9 d = true) (h : M5 w d S xs) (hs : ∀ b, S b -> φ b) : RW w φ d xs := by
 cases d with
 | rows l =>
  obtain ⟨k1, k2⟩ := I8.at h
  intro i hi j x hx
  obtain ⟨u, a, b, c⟩ := k2 i hi
  cases j with
  | zero =>
   simp only [D.elem, bQ6, Option.some.injEq] at hx
   subst hx
   refine ⟨u, by simpa [D.sz] using a, ?_⟩
   have e : l.getD i [] = l[i]'hi := by rw [bP1, bO7 hi]; rfl
   show C4 w φ u (l.getD i []).length 1 (ints (l.getD i []))
   rw [e]
   exact D9 b fun g hg => hs g (c g hg)
  | succ j => simp [D.elem] at hx
 | _ => exact RW.nil (by simpa [aI9, natEq] using hd) _
def bF8 (i m : Nat) (e : TypeId) (d : D) (S1 : List It) (tm1 : List (Nat × AV)) : Bool :=
 decide (m <= i) && decide (i < S1.length) && aI9 d && ah4 d e && (bS1 S1.length).all (fun j => match v7 S1 j with
  | .box cs => AV.trOkL (O8 i) cs
  | .hole _ _ _ => false
  | _ => true) && (match v7 S1 i with | .row _ _ => true | _ => false) && tm1.all fun p => p.2.trOk (O8 i)
theorem C2.treeRow (G : C2 φ ψ w0 F N m ρ0 ρ S tm a w) (i : Nat) (e : TypeId) (d : D) (S1 : List It) (tm1 : List (Nat × AV)) (hb : bF8 i m e d S1 tm1 = true := by kernel_rfl) (hi : v7 S1 i = .row e d := by kernel_rfl) (hS : S = (J5 (O8 i) S1).set i (.tree d) := by kernel_rfl) (ht : tm = tm1.map (fun p => (p.1, p.2.tr (O8 i))) := by kernel_rfl) :
  ∃ ρ', C2 φ ψ w0 F N m ρ0 ρ' S1 tm1 a w := by
 subst hS
 subst ht
 simp only [bF8, bO8, decide_eq_true_eq] at hb
 obtain ⟨⟨⟨⟨⟨⟨hm, hil⟩, hd0⟩, hte⟩, hall⟩, -⟩, htm⟩ := hb
 have hte := P3 hte
 have hlen : ((J5 (O8 i) S1).set i (.tree d)).length = S1.length := by simp [J5]
 have hlen0 : (J5 (O8 i) S1).length = S1.length := by simp [J5]
 have hat : ∀ j, v7 ((J5 (O8 i) S1).set i (.tree d)) j = if j = i then .tree d else w7 (O8 i) .no (v7 S1 j) := fun j => by
  by_cases e : j = i
  ·subst e
   rw [if_pos rfl]
   simp [v7, bP1, hlen0, hil]
  rw [if_neg e]
  have h1 : v7 ((J5 (O8 i) S1).set i (.tree d)) j = v7 (J5 (O8 i) S1) j := by
   simp only [v7, bP1]
   rw [List.getElem?_set_ne (fun h => e h.symm)]
  rw [h1, R1, aw7, if_neg e]
 have hbox : ∀ j cs, v7 S1 j = .box cs -> AV.trOkL (O8 i) cs = true := fun j cs h => by
  rcases bR6 j S1.length with hj | hj
  ·have h2 := bQ0.1 hall j (List.mem_range.2 hj)
   rw [h] at h2; exact h2
  rw [B5 hj] at h; cases h
 have hhole : ∀ j k q ls, v7 S1 j = .hole k q ls -> False := fun j k q ls h => by
  rcases bR6 j S1.length with hj | hj
  ·have h2 := bQ0.1 hall j (List.mem_range.2 hj)
   rw [h] at h2; cases h2
  rw [B5 hj] at h; cases h
 let ρ1 : Nat -> Value := fun j => if (A3 (O8 i) j).isT then F0 (ρ j) else ρ j
 have hρ1 : ∀ j, ρ1 j = if (A3 (O8 i) j).isT then F0 (ρ j) else ρ j := fun _ => rfl
 have hne : ∀ j, j ≠ i -> ρ1 j = ρ j := fun j hj => by rw [hρ1, aw7, if_neg hj]; rfl
 have heq : ρ1 i = F0 (ρ i) := by rw [hρ1, aw7, if_pos rfl]; rfl
 refine ⟨ρ1, G.size, G.defs, fun t x hx => ?_, fun t x hx j hj => ?_, fun j => ⟨fun q hq => ?_, fun hj => B5 hj⟩, ?_, ?_, fun j hj => ?_⟩
 ·obtain ⟨h1, p, h2, h3⟩ := ak4 (M := O8 i) hx
  rw [G.tmv t _ h1, AV.val_tr hρ1 x (by rw [<- h3]; exact bQ0.1 htm p h2)]
 ·obtain ⟨h1, _⟩ := ak4 (M := O8 i) hx
  have := G.tmi t _ h1 j (by rw [AV.ids_tr]; exact hj)
  rw [hlen] at this; exact this
 ·by_cases e : j = i
  ·subst e; rw [hi] at hq; cases hq
  have h1 := (G.bd j).1 q
  rw [hat, if_neg e, hlen] at h1
  rcases It.ids_lend (O8 i) .no (v7 S1 j) with h | h
  ·rw [h] at hq; cases hq
  exact h1 (by rw [h]; exact hq)
 ·refine G.mem.shrink fun k => ?_
  cases k with
  | inl q => exact .inl rfl
  | inr j =>
   simp only [s6]
   rw [hat]
   by_cases e1 : j = i
   ·subst e1
    rw [if_pos rfl, hi]
    have hh := G.mem.holds (.inr j)
    simp only [s6] at hh
    rw [hat, if_pos rfl] at hh
    obtain ⟨_, ⟨e', xs, S', h0, h1, h2, h3, h4⟩, _⟩ := hh
    rw [hte] at h0; cases h0
    refine .inr ⟨fun b hb => ?_, fun φ' _ hfree => ?_⟩
    ·simp only [It.res, Rs.blk] at hb ⊢
     rw [heq] at hb
     exact (h2 b hb).1
    simp only [It.res, Rs.blk] at hfree ⊢
    rw [heq] at hfree ⊢
    exact ⟨fun xs => RW.nice d xs, xs, h1, h4.rw hd0 fun b hb => hfree b (h3 b hb) fun he => (h2 b he).2 hb⟩
   rw [if_neg e1]
   left
   cases hx : v7 S1 j with
   | box cs =>
    simp only [w7, It.res]
    rw [hne j e1, AV.vals_tr hρ1 cs (hbox j cs hx)]
   | none => rfl
   | dead => rfl
   | dat d => simp only [w7, It.res]; rw [hne j e1]
   | row e' d => simp only [w7, It.res]; rw [hne j e1]
   | tree d => simp only [w7, It.res]; rw [hne j e1]
   | kept e' d => cases e' <;> (simp only [w7, It.res]; rw [hne j e1])
   | hole k q ls => exact (hhole j k q ls hx).elim
   | err => simp only [w7, It.res]; rw [hne j e1]
 ·have := G.le; rw [hlen] at this; exact this
 rw [hne j (by omega)]; exact G.old j hj
end
end Go.Proofs.YtompcdbfongedaaGreatDoor
