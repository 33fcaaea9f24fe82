/- Part 4: functions on the way, plain laws. Conditions: as said. -/
import Derived.Deep.LoopGhost
import Derived.IntWalk
import Derived.WalkSpells
import Derived.Lib.SliceRun
import Derived.Test.YtompcdbfongedaaGreatDoorK1
import Derived.Test.YtompcdbfongedaaGreatDoorK3
set_option maxRecDepth 100000
set_option maxHeartbeats 16000000
set_option linter.unusedVariables false
set_option linter.unusedSimpArgs false
open Bool renaming and_eq_true → b57, eq_iff_iff → b89, not_eq_false' → b67, not_eq_true' → b65
open Inhabited renaming default → b55
open Int renaming mul_le_mul_of_nonneg_right → ca0
open List renaming all_eq_true → b68, eq_nil_of_length_eq_zero → b84, getD_eq_getElem?_getD → b59, getElem?_append_left → b95, getElem?_eq_getElem → b56, getElem?_eq_none → b87, getElem?_eq_some_iff → b66, getElem?_map → b78, getElem_mem → b64, length_cons → b58, map → b88, map_cons → b94, mem_append → b73, mem_cons → b76, mem_cons_of_mem → b80, mem_cons_self → b72, mem_of_getElem? → b79, not_mem_nil → b98, range → b82, take → b63, take_of_length_le → b75
open Nat renaming le_refl → b71, le_trans → b54, lt_or_ge → b86, mul_le_mul_right → b96, pow_le_pow_right → b91, zero_add → b97, zero_le → b92
open Option renaming isSome_iff_exists → b99, map_eq_some_iff → b61, map_some → b85
open True renaming intro → b70

namespace Go.Proofs.YtompcdbfongedaaGreatDoor
open Go Go.RowKit
def pf {β : Type} (wr : Ac -> Option β) : List Ac -> Nat -> (Nat -> Bool) -> β -> β
 | [], _, _, v => v
 | a :: r, k, B, v => pf wr r (k + 1) B (match wr a with | some x => if B k then x else v | none => v)
theorem P5 {β : Type} {wr : Ac -> Option β} {B B' : Nat -> Bool} : ∀ {az : List Ac} {k : Nat} {v : β}, (∀ j a, az[j]? = some a -> (wr a).isSome = true -> B (k + j) = B' (k + j)) -> pf wr az k B v = pf wr az k B' v
 | [], _, _, _ => rfl
 | a :: r, k, v, h => by
  simp only [pf]
  have h0 := h 0 a rfl
  have hr : ∀ j b, r[j]? = some b -> (wr b).isSome = true -> B (k + 1 + j) = B' (k + 1 + j) := fun j b hb hw => by
   have := h (j + 1) b (by simpa using hb) hw
   rw [show k + (j + 1) = k + 1 + j by omega] at this; exact this
  cases hw : wr a with
  | none => exact P5 hr
  | some x =>
   rw [hw] at h0
   simp only [Nat.add_zero, Option.isSome_some, forall_const] at h0
   rw [h0]
   exact P5 hr
theorem U7 {β : Type} {wr : Ac -> Option β} {B : Nat -> Bool} : ∀ {az : List Ac} {k : Nat} {v : β}, (∀ j a, az[j]? = some a -> (wr a).isSome = true -> B (k + j) = false) -> pf wr az k B v = v
 | [], _, _, _ => rfl
 | a :: r, k, v, h => by
  simp only [pf]
  have h0 := h 0 a rfl
  have hr : ∀ j b, r[j]? = some b -> (wr b).isSome = true -> B (k + 1 + j) = false := fun j b hb hw => by
   have := h (j + 1) b (by simpa using hb) hw
   rw [show k + (j + 1) = k + 1 + j by omega] at this; exact this
  rw [U7 hr]
  cases hw : wr a with
  | none => rfl
  | some x =>
   rw [hw] at h0
   simp only [Nat.add_zero, Option.isSome_some, forall_const] at h0
   simp [h0]
theorem aK0 {β : Type} {wr : Ac -> Option β} {B : Nat -> Bool} : ∀ {az : List Ac} {k i : Nat} {v x : β} {a : Ac}, az[i]? = some a -> wr a = some x -> B (k + i) = true -> (∀ j b, i < j -> az[j]? = some b -> (wr b).isSome = true -> B (k + j) = false) -> pf wr az k B v = x
 | [], _, _, _, _, _, h, _, _, _ => by simp at h
 | b :: r, k, 0, v, x, a, h, hw, hB, hn => by
  simp at h; subst h
  simp only [pf, hw]
  rw [Nat.add_zero] at hB
  rw [hB, if_pos rfl]
  refine U7 fun j c hc hs => ?_
  have := hn (j + 1) c (by omega) (by simpa using hc) hs
  rw [show k + (j + 1) = k + 1 + j by omega] at this; exact this
 | b :: r, k, i + 1, v, x, a, h, hw, hB, hn => by
  simp only [pf]
  refine aK0 (i := i) (by simpa using h) hw (by rw [show k + 1 + i = k + (i + 1) by omega]; exact hB) fun j c hj hc hs => ?_
  have := hn (j + 1) c (by omega) (by simpa using hc) hs
  rw [show k + (j + 1) = k + 1 + j by omega] at this; exact this
theorem ak3 {β : Type} {wr : Ac -> Option β} {B : Nat -> Bool} (p : β -> Prop) : ∀ {az : List Ac} {k : Nat} {v : β}, p v -> (∀ j a x, az[j]? = some a -> B (k + j) = true -> wr a = some x -> p x) -> p (pf wr az k B v)
 | [], _, _, h, _ => h
 | a :: r, k, v, h, hs => by
  simp only [pf]
  refine ak3 p ?_ fun j b x hb hB hw => hs (j + 1) b x (by simpa using hb) (by rw [show k + (j + 1) = k + 1 + j by omega]; exact hB) hw
  cases hw : wr a with
  | none => exact h
  | some x =>
   simp only
   split
   ·rename_i hB; exact hs 0 a x rfl (by simpa using hB) hw
   exact h
def az6 : List (Nat × It) -> Nat -> Option It
 | [], _ => none
 | (k, x) :: r, i => if i = k then some x else az6 r i
theorem an2 (S : Nat -> It) (i : Nat) : ∀ (l : List (Nat × It)), m7 S l i = match az6 l i with | some x => x | none => S i
 | [] => rfl
 | (k, x) :: r => by simp only [m7, az6]; split; rfl; exact an2 S i r
theorem O6 {l : List (Nat × It)} {i : Nat} {x : It} (h : az6 l i = some x) : (i, x) ∈ l := by
 induction l with
 | nil => cases h
 | cons p r ih =>
  obtain ⟨k, y⟩ := p
  simp only [az6] at h
  split at h
  ·rename_i e; cases h; rw [e]; exact b72
  exact b80 _ (ih h)
def wrT (t : Nat) (a : Ac) : Option (Option AV) := if a.dst = some t then some (some a.t.res) else none
def wrS (i : Nat) (a : Ac) : Option It := az6 a.t.new i
def tmD (az : List Ac) (B : Nat -> Bool) (tm : Nat -> Option AV) : Nat -> Option AV := fun t => pf (wrT t) az 0 B (tm t)
def sD (az : List Ac) (B : Nat -> Bool) (S : Nat -> It) : Nat -> It := fun i => pf (wrS i) az 0 B (S i)
def bef (ms : List Nat) (j i : Nat) : Bool := (nth ms i).testBit j
def a05 (ms : List Nat) (o : Oper) : Nat := o.after.foldl (fun s e => if Region.binds .any e then s ||| (2 ^ e.on ||| nth ms e.on) else s) 0
def aK9 (ms : List Nat) (l : List Oper) : Bool := (b82 l.length).all fun i => match l[i]? with | some o => natEq (nth ms i) (a05 ms o) | none => false
def aa1 (a b : Ac) : Bool :=
 (match b.dst with | some t => memN t a.rt || (match a.dst with | some s => natEq s t | none => false) | none => false) ||
 b.t.new.any (fun p => memN p.1 a.ri || a.t.new.any fun q => natEq q.1 p.1)
def bJ4 (ms : List Nat) (az : List Ac) : Bool :=
 (b82 az.length).all fun i => (b82 az.length).all fun j =>
  match az[i]?, az[j]? with
  | some a, some b => natEq i j || !aa1 a b || (if decide (j < i) then bef ms j i else bef ms i j)
  | _, _ => false
def bz2 (S : Nat -> It) (az : List Ac) (j : Nat) : Nat := match az.findSome? (wrS j) with
 | some x => knd x
 | none => knd (S j)
def bh6 (ms : List Nat) (S : Nat -> It) (az : List Ac) : Bool :=
 (b82 az.length).all fun i =>
  match az[i]? with
  | some a => a.rk.all fun j => az.all (fun b => match wrS j b with | some x => natEq (knd x) (bz2 S az j) | none => true) && (natEq (knd (S j)) (bz2 S az j) || (b82 i).any fun k => bef ms k i && match az[k]? with | some b => (wrS j b).isSome | none => false)
  | none => true
theorem a78 {β : Type} {wr : Ac -> Option β} {B : Nat -> Bool} (p : β -> Prop) : ∀ {az : List Ac} {k : Nat} {v : β}, (∀ (j : Nat) (a : Ac) (x : β), az[j]? = some a -> wr a = some x -> p x) -> (p v \/ ∃ (j : Nat) (a : Ac), az[j]? = some a /\ (wr a).isSome = true /\ B (k + j) = true) -> p (pf wr az k B v)
 | [], _, _, _, h => by rcases h with h | ⟨j, a, h, _⟩; exact h; simp at h
 | a :: r, k, v, hs, h => by
  simp only [pf]
  refine a78 p (fun j b x hb => hs (j + 1) b x (by simpa using hb)) ?_
  rcases h with h | ⟨j, b, h1, h2, h3⟩
  ·left
   cases hw : wr a with
   | none => exact h
   | some x =>
    simp only
    split
    ·exact hs 0 a x rfl hw
    exact h
  cases j with
  | zero =>
   left
   simp at h1; subst h1
   obtain ⟨x, hx⟩ := b99.1 h2
   rw [hx]
   rw [Nat.add_zero] at h3
   simp only [h3, if_true]
   exact hs 0 _ x rfl hx
  | succ j =>
   right
   exact ⟨j, b, by simpa using h1, h2, by rw [show k + 1 + j = k + (j + 1) by omega]; exact h3⟩
theorem a54 {ms : List Nat} {S : Nat -> It} {az : List Ac} (h : bh6 ms S az = true) {i : Nat} {a : Ac} (ha : az[i]? = some a) {j : Nat} (hj : j ∈ a.rk) {B : Nat -> Bool} (hB : ∀ k, k < i -> bef ms k i = true -> B k = true) : knd (pf (wrS j) az 0 B (S j)) = bz2 S az j := by
 have hi := (b66.1 ha).1
 have h1 := b68.1 h i (List.mem_range.2 hi)
 rw [ha] at h1
 have h2 := b68.1 h1 j hj
 simp only [b57, Bool.or_eq_true] at h2
 refine a78 (fun x => knd x = bz2 S az j) (fun q b x hb hx => ?_) ?_
 ·have := b68.1 h2.1 b (b79 hb)
  rw [hx] at this
  simpa [natEq] using this
 rcases h2.2 with h3 | h3
 ·left; simpa [natEq] using h3
 right
 obtain ⟨k, hk, h4⟩ := List.any_eq_true.1 h3
 rw [List.mem_range] at hk
 simp only [b57] at h4
 cases hb : az[k]? with
 | none => rw [hb] at h4; cases h4.2
 | some b =>
  rw [hb] at h4
  exact ⟨k, b, hb, h4.2, by rw [b97]; exact hB k hk h4.1⟩
def bn6 (ms : List Nat) (n0 : Nat) (az : List Ac) : Bool :=
 (b82 az.length).all fun i =>
  match az[i]? with
  | some a => (a.t.res.ids ++ a.t.new.map (·.1) ++ a.t.new.flatMap (fun p => p.2.ids)).all fun id => decide (id < n0) || natEq ((id - n0) / 8) i || bef ms ((id - n0) / 8) i
  | none => false
section
variable {P : Program} {ι : Type} {φ ψ : Nat -> Prop} {w0 w w' : World} {F : ι -> Rs} {ρ : Nat -> Value} {S : Nat -> It} {N n : Nat}
theorem ai4 {α β : Type} {f g : α -> Option β} : ∀ {l : List α}, (∀ x ∈ l, f x = g x) -> l.filterMap f = l.filterMap g
 | [], _ => rfl
 | a :: r, h => by rw [List.filterMap_cons, List.filterMap_cons, h a b72, ai4 fun x hx => h x (b80 _ hx)]
theorem ar1 {ops : List Oper} {H : O7} {tm tm' : Nat -> Option AV} {i : Nat} {o : Oper} (h : ∀ t ∈ aL6 ops o, tm' t = tm t) : av6 ops H tm' i o = av6 ops H tm i o := by
 unfold av6
 unfold aL6 at h
 cases hg : o.guard with
 | none => rfl
 | some q =>
  obtain ⟨j, want⟩ := q
  rw [hg] at h
  simp only at h ⊢
  cases hd : (ops[j]?).bind (·.dst) with
  | none => rfl
  | some t =>
   rw [hd] at h
   simp only at h ⊢
   rw [h t (by simp)]
theorem bc8 {dk : TypeId -> Nat} {H : O7} {ops : List Oper} {i : Nat} {o : Oper} {tm tm' : Nat -> Option AV} {S S' : Nat -> It} {ac : Ac} {ob : List Prop} (h : opA P dk N ops H i o tm S n = some (ac, ob)) (ht : ∀ t ∈ ac.rt, tm' t = tm t) (hs : ∀ j ∈ ac.ri, S' j = S j) (hk : ∀ j ∈ ac.rk, knd (S' j) = knd (S j)) : opA P dk N ops H i o tm' S' n = some (ac, ob) := by
 unfold opA at h ⊢
 split at h
 case isFalse => cases h
 rename_i hd
 rw [if_pos hd]
 cases hw : av6 ops H tm i o with
 | none => rw [hw] at h; cases h
 | some q =>
  obtain ⟨b, lq, rq⟩ := q
  rw [hw] at h
  cases b
  ·simp only at h
   cases h
   rw [ar1 (tm := tm) ht, hw]
  simp only at h
  cases hr : ax2 P dk H tm S n i o.op with
  | none => rw [hr] at h; cases h
  | some t =>
   rw [hr] at h
   simp only at h
   split at h
   case isFalse => cases h
   rename_i hf
   cases h
   simp only at ht hs hk
   rw [ar1 (tm := tm) fun t ht' => ht t (List.mem_append_right _ ht'), hw]
   have e1 : rtm tm' (opT o.op) = rtm tm (opT o.op) := by
    funext t
    unfold rtm
    split
    ·rename_i hm; exact ht t (List.mem_append_left _ (s5.1 hm))
    rfl
   have e2 : tch tm' o.op = tch tm o.op := by
    have e9 : R1 tm' (opT o.op) = R1 tm (opT o.op) := by
     unfold R1
     congr 1
     exact ai4 fun t ht' => ht t (List.mem_append_left _ ht')
    cases ho' : o.op <;> simp only [tch] <;> rw [<- ho'] <;> first | rw [e1, e9] | exact e9
   have e8 : wk tm' o.op = wk tm o.op := by
    have e9 : R1 tm' (opT o.op) = R1 tm (opT o.op) := by
     unfold R1
     congr 1
     exact ai4 fun t ht' => ht t (List.mem_append_left _ ht')
    cases ho' : o.op <;> simp only [wk] <;> rw [<- ho', e1, e9]
   have e3 : ax2 P dk H tm' S' n i o.op = ax2 P dk H tm S n i o.op := by
    unfold ax2
    cases hc : J7 H.calls i with
    | none =>
     simp only
     rw [e1, e2, e8, bj4 (fun j hj => hs j (List.mem_append_left _ hj)) hk]
    | some q =>
     obtain ⟨c, τ⟩ := q
     simp only
     rw [e1, e2]
     congr 1
     funext j
     unfold rS
     split
     ·rename_i hm
      refine hs j ?_
      unfold bb1
      rw [hc]; exact s5.1 hm
     rfl
   have e4 : aZ8 H tm' S' n i o.op = aZ8 H tm S n i o.op := by
    unfold aZ8
    cases hc : J7 H.calls i with
    | none => simp only; rw [e1]
    | some q =>
     obtain ⟨c, τ⟩ := q
     simp only
     rw [e1, e2]
     congr 1
     funext j
     unfold rS
     split
     ·rename_i hm
      refine hs j ?_
      unfold bb1
      rw [hc]; exact s5.1 hm
     rfl
   rw [e3, hr, e4]
   simp only
   rw [e2, e8, if_pos hf]
theorem bx8 {dk : TypeId -> Nat} {H : O7} (hH : ∀ i c τ, J7 H.calls i = some (c, τ) -> c.ok P) (hF : N0 H.facts) {ops : List Oper} {i : Nat} {o : Oper} {tm : Nat -> Option AV} {a : Act} (hv : ∀ t x, tm t = some x -> a.tmps[t]? = some (x.val ρ)) (M : k8 φ ψ w0 w (n8 F ρ S)) {ac : Ac} {obs : List Prop} (h : opA P dk N ops H i o tm S n = some (ac, obs)) (ho : t6 obs) (he : ac.eqs.1 = ac.eqs.2) (hw' : ac.eqw.1 = ac.eqw.2)
  (hmk : ∀ j ∈ ac.t.made, S j = .none) (hi : Inv S ρ ac.t.made)
  {Q : Exit -> Act -> World -> Prop} {rest : List Oper} (hk : ∀ ρ' w', A9 ac.t.made ρ ρ' -> k8 φ ψ w0 w' (n8 F ρ' (m7 S ac.t.new)) -> wpList P ops.toArray Q rest (a.put o.dst (ac.t.res.val ρ')) w') : wpList P ops.toArray Q (o :: rest) a w := by
 unfold opA at h
 split at h
 case isFalse => cases h
 rename_i hd
 split at h
 case h_1 => cases h
 ·rename_i l r hw
  cases h
  refine a67 (aj5 (ρ := ρ) hF hw hw' fun t y _ hy => hv t y hy) ?_
  exact hk ρ w (A9.refl _ _) (by simpa [bK5, m7] using M)
 rename_i l r hw
 split at h
 case h_1 => cases h
 rename_i t ht
 split at h
 case isFalse => cases h
 rename_i hf
 cases h
 simp only [b57] at hf
 refine J2.wp (aj5 (ρ := ρ) hF hw hw' fun t y _ hy => hv t y hy) ?_
 refine (aR6 M hH hF (fun t y _ hy => hv t y hy) ht ho he hmk hi (fun j hj => ?_)).mono ?_
 ·obtain ⟨p, hp, rfl⟩ := List.mem_map.1 hj
  have := b68.1 hf.2 p hp
  simp only [Bool.or_eq_true] at this
  exact this.imp s5.1 s5.1
 rintro v w' ⟨ρ', p1, p2, rfl⟩
 exact hk ρ' w' p1 p2
theorem a71 {dk : TypeId -> Nat} {H : O7} {ops : List Oper} : ∀ (l : List Oper) (i n : Nat) {tm : List (Nat × AV)} {S : Nat -> It} {r : RS}, R9 P dk N ops H l i tm S n = some r -> t6 r.obs ->
  r.acts.length = l.length /\ (∀ t, A1 r.tm t = pf (wrT t) r.acts i (fun _ => true) (A1 tm t)) /\ (∀ j, r.S j = pf (wrS j) r.acts i (fun _ => true) (S j)) /\
  ∀ k o, l[k]? = some o -> ∃ ac ob, r.acts[k]? = some ac /\ t6 ob /\ opA P dk N ops H (i + k) o (fun t => pf (wrT t) r.acts i (fun j => decide (j < i + k)) (A1 tm t)) (fun j => pf (wrS j) r.acts i (fun q => decide (q < i + k)) (S j)) (n + 8 * k) = some (ac, ob)
 | [], i, n, tm, S, r, h, _ => by cases h; exact ⟨rfl, fun _ => rfl, fun _ => rfl, fun k o h => by simp at h⟩
 | o :: l, i, n, tm, S, r, h, ho => by
  simp only [R9] at h
  split at h
  case h_1 => cases h
  rename_i ac ob h1
  split at h
  case h_1 => cases h
  rename_i s h2
  cases h
  simp only [t6.append] at ho
  obtain ⟨k1, k2, k3, k4⟩ := a71 l (i + 1) (n + 8) h2 ho.2
  have eT : ∀ t, A1 (aZ0 ac.dst ac.t.res tm) t = match wrT t ac with | some x => x | none => A1 tm t := fun t => by
   rw [aF4]
   simp only [aB9, wrT]
   split <;> rfl
  have eS : ∀ j, m7 S ac.t.new j = match wrS j ac with | some x => x | none => S j := fun j => an2 S j _
  refine ⟨by simp [k1], fun t => ?_, fun j => ?_, fun k o' hk => ?_⟩
  ·rw [k2 t, eT]; simp only [pf]; cases wrT t ac <;> rfl
  ·rw [k3 j, eS]; simp only [pf]; cases wrS j ac <;> rfl
  cases k with
  | zero =>
   simp at hk; subst hk
   refine ⟨ac, ob, rfl, ho.1, ?_⟩
   have e1 : (fun t => pf (wrT t) (ac :: s.acts) i (fun j => decide (j < i + 0)) (A1 tm t)) = A1 tm := by
    funext t; exact U7 fun j a _ _ => by simp
   have e2 : (fun j => pf (wrS j) (ac :: s.acts) i (fun q => decide (q < i + 0)) (S j)) = S := by
    funext j; exact U7 fun j a _ _ => by simp
   rw [e1, e2]; exact h1
  | succ k =>
   obtain ⟨ac', ob', m1, m2, m3⟩ := k4 k o' (by simpa using hk)
   refine ⟨ac', ob', by simpa using m1, m2, ?_⟩
   have hi : decide (i < i + (k + 1)) = true := by simp
   have e1 : (fun t => pf (wrT t) (ac :: s.acts) i (fun j => decide (j < i + (k + 1))) (A1 tm t)) = fun t => pf (wrT t) s.acts (i + 1) (fun j => decide (j < i + 1 + k)) (A1 (aZ0 ac.dst ac.t.res tm) t) := by
    funext t
    rw [eT]
    simp only [pf, hi, if_true]
    rw [show i + (k + 1) = i + 1 + k by omega]
    cases wrT t ac <;> rfl
   have e2 : (fun j => pf (wrS j) (ac :: s.acts) i (fun q => decide (q < i + (k + 1))) (S j)) = fun j => pf (wrS j) s.acts (i + 1) (fun q => decide (q < i + 1 + k)) (m7 S ac.t.new j) := by
    funext j
    rw [eS]
    simp only [pf, hi, if_true]
    rw [show i + (k + 1) = i + 1 + k by omega]
    cases wrS j ac <;> rfl
   rw [e1, e2, show i + (k + 1) = i + 1 + k by omega, show n + 8 * (k + 1) = n + 8 + 8 * k by omega]
   exact m3
def bu7 (l : List Oper) (B : Nat -> Bool) : Prop := ∀ j o, l[j]? = some o -> B j = true -> ∀ e ∈ o.after, Region.binds .any e = true -> B e.on = true
theorem ax9 {ms : List Nat} {o : Oper} {j : Nat} (h : (a05 ms o).testBit j = true) : ∃ e ∈ o.after, Region.binds .any e = true /\ (e.on = j \/ bef ms j e.on = true) := by
 unfold a05 at h
 rw [<- Array.foldl_toList] at h
 have key : ∀ (es : List Edge) (s : Nat), (es.foldl (fun s e => if Region.binds .any e then s ||| (2 ^ e.on ||| nth ms e.on) else s) s).testBit j = true -> s.testBit j = true \/ ∃ e ∈ es, Region.binds .any e = true /\ (e.on = j \/ bef ms j e.on = true) := by
  intro es
  induction es with
  | nil => intro s h; exact .inl h
  | cons e r ih =>
   intro s h
   simp only [List.foldl_cons] at h
   rcases ih _ h with h1 | ⟨e', he', h2⟩
   ·split at h1
    ·rename_i hb
     simp only [Nat.testBit_or, Bool.or_eq_true, Nat.testBit_two_pow, decide_eq_true_eq] at h1
     rcases h1 with h1 | h1 | h1
     ·exact .inl h1
     ·exact .inr ⟨e, b72, hb, .inl h1⟩
     exact .inr ⟨e, b72, hb, .inr h1⟩
    exact .inl h1
   exact .inr ⟨e', b80 _ he', h2⟩
 rcases key _ _ h with h1 | ⟨e, he, h2⟩
 ·simp at h1
 exact ⟨e, by simpa using he, h2⟩
theorem aB5 {ms : List Nat} {l : List Oper} (hm : aK9 ms l = true) (hb : ad5 l.toArray = true) {B : Nat -> Bool} (hc : bu7 l B) : ∀ i, i < l.length -> B i = true -> ∀ j, bef ms j i = true -> B j = true := by
 intro i
 induction i using Nat.strongRecOn with
 | _ i ih =>
  intro hi hB j hj
  have h1 := b68.1 hm i (List.mem_range.2 hi)
  rw [b56 hi] at h1
  simp only [natEq, beq_iff_eq] at h1
  unfold bef at hj
  rw [h1] at hj
  obtain ⟨e, he, h2, h3⟩ := ax9 hj
  have h4 := hc i _ (b56 hi) hB e he h2
  have h5 := aB6 hb (show i < l.toArray.size by simpa using hi) (show l.toArray[i]? = some l[i] by simp [hi]) he h2
  rcases h3 with rfl | h3
  ·exact h4
  exact ih e.on h5 (by omega) h4 j h3
theorem bf7 {ms : List Nat} {l : List Oper} (hm : aK9 ms l = true) (hb : ad5 l.toArray = true) {B : Nat -> Bool} (hc : bu7 l B) {i : Nat} {o : Oper} (ho : l[i]? = some o) (hr : ∀ e ∈ o.after, Region.binds .any e = true -> B e.on = true) {j : Nat} (hj : bef ms j i = true) : B j = true := by
 have hi := (b66.1 ho).1
 have h1 := b68.1 hm i (List.mem_range.2 hi)
 rw [ho] at h1
 simp only [natEq, beq_iff_eq] at h1
 unfold bef at hj
 rw [h1] at hj
 obtain ⟨e, he, h2, h3⟩ := ax9 hj
 have h5 := aB6 hb (show i < l.toArray.size by simpa using hi) (show l.toArray[i]? = some o by simpa using ho) he h2
 rcases h3 with rfl | h3
 ·exact hr e he h2
 exact aB5 hm hb hc e.on (by omega) (hr e he h2) j h3
end
section
variable {P : Program} {ι : Type} {φ ψ : Nat -> Prop} {w0 w w' : World} {F : ι -> Rs} {ρ : Nat -> Value} {S : Nat -> It} {N m n : Nat} {ρ0 : Nat -> Value}
theorem aX1 {l : List Oper} {Q : Exit -> Act -> World -> Prop} (I : Array Bool -> Act -> World -> Prop) (hb : ad5 l.toArray = true)
  (step : ∀ listed a w, I listed a w -> ∀ i o, l[i]? = some o -> listed.getD i true = false -> (∀ e ∈ o.after, Region.binds .any e = true -> listed.getD e.on false = true) ->
   ∀ Q' : Exit -> Act -> World -> Prop, (∀ a w, I (listed.setIfInBounds i true) a w -> Q' .normal a w) -> wpList P l.toArray Q' [o] a w)
  (done : ∀ listed a w, I listed a w -> (∀ j, j < l.length -> listed.getD j true = true) -> Q .normal a w) :
  ∀ (fuel : Nat) (listed : Array Bool) (a : Act) (w : World), listed.size = l.toArray.size -> listed.toList.count false = fuel -> I listed a w -> wpAny P .any l.toArray Q fuel listed a w := by
 have hfin : ∀ (listed : Array Bool) (a : Act) (w : World), listed.size = l.toArray.size -> Region.ready .any l.toArray listed = [] -> I listed a w -> Q .normal a w := by
  intro listed a w hsz hr hI
  refine done listed a w hI fun j hj => ?_
  cases hl : listed.getD j true
  ·exact absurd hr (aP6 hb hsz j (by simpa using hj) hl)
  rfl
 intro fuel
 induction fuel with
 | zero =>
  intro listed a w hsz hc hI
  have hr : Region.ready .any l.toArray listed = [] := by
   rw [List.eq_nil_iff_forall_not_mem]
   intro j hj
   have := al6 (mem_ready.1 hj).1
   omega
  exact ⟨hr, hfin listed a w hsz hr hI⟩
 | succ f ih =>
  intro listed a w hsz hc hI
  refine ⟨fun hr => hfin listed a w hsz hr hI, fun i hi => ?_⟩
  obtain ⟨h1, o, ho, h2⟩ := mem_ready.1 hi
  have ho' : l[i]? = some o := by simpa using ho
  have hcl := al6 h1
  have hs := step listed a w hI i o ho' h1 h2 (fun e a w => e = .normal /\ I (listed.setIfInBounds i true) a w) fun a w h => ⟨rfl, h⟩
  unfold wpOp
  rw [ho]
  simp only
  unfold wpList at hs
  split
  ·rename_i hw
   rw [if_pos hw] at hs
   rcases hs with hs | ⟨_, a, w, he, _⟩
   ·exact .inl (bb9 (fun _ _ _ h => h.1) (Oper.wp_mono (fun a' w' h => ih _ a' w' (by simpa using hsz) (by omega) h.2) hs))
   cases he
  rename_i hw
  rw [if_neg hw] at hs
  exact ih _ _ _ (by simpa using hsz) (by omega) hs.2
theorem av5 {id : Nat} {l : List Oper} {Q : Exit -> Act -> World -> Prop} {a : Act} {w : World} (I : Array Bool -> Act -> World -> Prop) (hm : P.follows .mixedOrders = true) (hb : ad5 l.toArray = true)
  (h0 : I (Array.replicate l.length false) a w.drew)
  (step : ∀ listed a w, I listed a w -> ∀ i o, l[i]? = some o -> listed.getD i true = false -> (∀ e ∈ o.after, Region.binds .any e = true -> listed.getD e.on false = true) ->
   ∀ Q' : Exit -> Act -> World -> Prop, (∀ a w, I (listed.setIfInBounds i true) a w -> Q' .normal a w) -> wpList P l.toArray Q' [o] a w)
  (done : ∀ listed a w, I listed a w -> (∀ j, j < l.length -> listed.getD j true = true) -> Q .normal a w) : (Code.region id l.toArray true).wp P Q a w :=
 wp_region_any hm (aX1 I hb step done _ _ _ _ (by simp) (by simp) (by simpa using h0))
def RI (φ ψ : Nat -> Prop) (w0 : World) (F : ι -> Rs) (N m : Nat) (ρ0 : Nat -> Value) (l : List Oper) (az : List Ac) (tm : Nat -> Option AV) (S : Nat -> It) (listed : Array Bool) (a : Act) (w : World) : Prop :=
 listed.size = l.length /\ bu7 l (fun j => listed.getD j false) /\ ∃ ρ, (∀ i, i < m -> ρ i = ρ0 i) /\ a.tmps.size = N /\ a.defers = [] /\ (∀ t x, tmD az (fun j => listed.getD j false) tm t = some x -> a.tmps[t]? = some (x.val ρ)) /\ k8 φ ψ w0 w (n8 F ρ (sD az (fun j => listed.getD j false) S))
theorem aZ7 {ms : List Nat} {az : List Ac} (h : bJ4 ms az = true) {i j : Nat} {a b : Ac} (ha : az[i]? = some a) (hb : az[j]? = some b) (hij : i ≠ j) (hm : aa1 a b = true) : (j < i -> bef ms j i = true) /\ (i < j -> bef ms i j = true) := by
 have hi := (b66.1 ha).1
 have hj := (b66.1 hb).1
 have h1 := b68.1 (b68.1 h i (List.mem_range.2 hi)) j (List.mem_range.2 hj)
 rw [ha, hb] at h1
 have hne : natEq i j = false := by simp [natEq, hij]
 simp only [hne, hm, Bool.not_true, Bool.false_or] at h1
 constructor
 ·intro hlt; rw [if_pos (by simpa using hlt)] at h1; exact h1
 intro hlt; rw [if_neg (by simp; omega)] at h1; exact h1
theorem a91 {ms : List Nat} {n0 : Nat} {az : List Ac} (h : bn6 ms n0 az = true) {i : Nat} {a : Ac} (ha : az[i]? = some a) : ∀ id, (id ∈ a.t.res.ids \/ id ∈ a.t.new.map (·.1) \/ ∃ p ∈ a.t.new, id ∈ p.2.ids) -> id < n0 \/ (id - n0) / 8 = i \/ bef ms ((id - n0) / 8) i = true := by
 intro id hid
 have hi := (b66.1 ha).1
 have h1 := b68.1 h i (List.mem_range.2 hi)
 rw [ha] at h1
 have h2 := b68.1 h1 id (by
  rcases hid with h | h | ⟨p, hp, h⟩
  ·exact List.mem_append_left _ (List.mem_append_left _ h)
  ·exact List.mem_append_left _ (List.mem_append_right _ h)
  exact List.mem_append_right _ (List.mem_flatMap.2 ⟨p, hp, h⟩))
 simp only [Bool.or_eq_true, decide_eq_true_eq, natEq, beq_iff_eq] at h2
 rcases h2 with (h2 | h2) | h2
 ·exact .inl h2
 ·exact .inr (.inl h2)
 exact .inr (.inr h2)
theorem aI0 {dk : TypeId -> Nat} {H : O7} (hH : ∀ i c τ, J7 H.calls i = some (c, τ) -> c.ok P) (hF : N0 H.facts) {l : List Oper} {id : Nat} {Q : Exit -> Act -> World -> Prop} {tm : List (Nat × AV)} {a : Act} {wr : World} (I0 : Inn φ ψ w0 F N m ρ0 n ρ (A1 tm) S a wr) {r : RS} (hrun : R9 P dk N l H l 0 tm S n = some r) (ho : t6 r.obs) (heq : r.acts.map (·.eqs.1) = r.acts.map (·.eqs.2)) (hew : r.acts.map (·.eqw.1) = r.acts.map (·.eqw.2))
  (ms : List Nat) (hm : P.follows .mixedOrders = true) (hb : ad5 l.toArray = true) (hms : aK9 ms l = true) (hord : bJ4 ms r.acts = true) (hment : bn6 ms n r.acts = true) (hweak : bh6 ms S r.acts = true)
  (done : ∀ ρ' a' w' n', Inn φ ψ w0 F N m ρ0 n' ρ' (A1 r.tm) r.S a' w' -> Q .normal a' w') : (Code.region id l.toArray true).wp P Q a wr := by
 obtain ⟨hlen, hfT, hfS, hat⟩ := a71 l 0 n hrun ho
 have hmt : ∀ (i : Nat) ac, r.acts[i]? = some ac -> ∀ t b, b.dst = some t -> t ∈ ac.rt -> aa1 ac b = true := fun i ac _ t b hb ht => by
  simp [aa1, hb, s5.2 ht]
 have hmd : ∀ ac b t, ac.dst = some t -> b.dst = some t -> aa1 ac b = true := fun ac b t h1 h2 => by
  simp [aa1, h1, h2, natEq]
 have hms' : ∀ (ac b : Ac) (j : Nat), j ∈ ac.ri -> j ∈ b.t.new.map (·.1) -> aa1 ac b = true := fun ac b j h1 h2 => by
  obtain ⟨p, hp, rfl⟩ := List.mem_map.1 h2
  unfold aa1
  have : b.t.new.any (fun p => memN p.1 ac.ri || ac.t.new.any fun q => natEq q.1 p.1) = true := List.any_eq_true.2 ⟨p, hp, by simp [s5.2 h1]⟩
  rw [this]; simp
 have hmn : ∀ (ac b : Ac) (j : Nat), j ∈ ac.t.new.map (·.1) -> j ∈ b.t.new.map (·.1) -> aa1 ac b = true := fun ac b j h1 h2 => by
  obtain ⟨p, hp, rfl⟩ := List.mem_map.1 h2
  obtain ⟨q, hq, e⟩ := List.mem_map.1 h1
  unfold aa1
  have : b.t.new.any (fun p => memN p.1 ac.ri || ac.t.new.any fun q => natEq q.1 p.1) = true := List.any_eq_true.2 ⟨p, hp, by
   have : ac.t.new.any (fun q => natEq q.1 p.1) = true := List.any_eq_true.2 ⟨q, hq, by simp [natEq, e]⟩
   rw [this]; simp⟩
  rw [this]; simp
 refine av5 (RI φ ψ w0 F N m ρ0 l r.acts (A1 tm) S) hm hb ?_ ?_ ?_
 ·refine ⟨by simp, fun j o _ hj => ?_, ρ, I0.old, I0.size, I0.defs, fun t x hx => ?_, ?_⟩
  ·have hj' : (Array.replicate l.length false).getD j false = true := hj
   rw [getD_replicate_false] at hj'; cases hj'
  ·refine I0.tmv t x ?_
   rw [<- hx]
   exact (U7 fun j b _ _ => getD_replicate_false _ _).symm
  have e : sD r.acts (fun j => (Array.replicate l.length false).getD j false) S = S := by
   funext j; exact U7 fun j b _ _ => getD_replicate_false _ _
  rw [e]; exact I0.mem.drew
 ·rintro listed a w ⟨hsz, hdn, ρ, hold, hN, hdf, hv, M⟩ i o hoi hun hdep Q' hQ
  generalize hB : (fun j => listed.getD j false) = B at *
  have hBj : ∀ j, B j = listed.getD j false := fun j => by rw [<- hB]
  have hil := (b66.1 hoi).1
  have hBi : B i = false := by
   rw [hBj, <- a99 (by omega)]; exact hun
  obtain ⟨ac, ob, hac, hob, hop⟩ := hat i o hoi
  simp only [b97] at hop
  have heqi : ac.eqs.1 = ac.eqs.2 := by
   have := congrArg (·[i]?) heq
   simpa [hac] using this
  have hewi : ac.eqw.1 = ac.eqw.2 := by
   have := congrArg (·[i]?) hew
   simpa [hac] using this
  obtain ⟨hdst, hdN, hfine⟩ := aK5 hop
  obtain ⟨hf1, hf2, hf3⟩ := Y4 hfine
  have hdep' : ∀ e ∈ o.after, Region.binds .any e = true -> B e.on = true := fun e he hbi => by rw [hBj]; exact hdep e he hbi
  have ahead : ∀ j, bef ms j i = true -> B j = true := fun j hj => bf7 hms hb hdn hoi hdep' hj
  have behind : ∀ j, j < l.length -> bef ms i j = true -> B j = false := fun j hjl hj => by
   cases h : B j
   ·rfl
   have := aB5 hms hb hdn j hjl h i hj
   rw [hBi] at this; cases this
  have hagree : ∀ (j : Nat) b, r.acts[j]? = some b -> aa1 ac b = true -> B j = decide (j < i) := fun j b hj hmm => by
   have hjl : j < l.length := by have := (b66.1 hj).1; omega
   rcases Nat.lt_trichotomy j i with h | h | h
   ·rw [ahead j ((aZ7 hord hac hj (by omega) hmm).1 h)]; simp [h]
   ·subst h; rw [hBi]; simp
   rw [behind j hjl ((aZ7 hord hac hj (by omega) hmm).2 h)]
   have : ¬ j < i := by omega
   simp [this]
  have hop2 := bc8 hop (tm' := tmD r.acts B (A1 tm)) (S' := sD r.acts B S) (fun t ht => P5 fun j b hj hw => by
    rw [b97]
    refine hagree j b hj (hmt i ac hac t b ?_ ht)
    unfold wrT at hw
    split at hw
    ·assumption
    cases hw)
   (fun q hq => P5 fun j b hj hw => by
    rw [b97]
    obtain ⟨x, hx⟩ := b99.1 hw
    exact hagree j b hj (hms' ac b q hq (List.mem_map.2 ⟨_, O6 hx, rfl⟩)))
   (fun q hq => by
    show knd (pf (wrS q) r.acts 0 B (S q)) = _
    rw [a54 hweak hac hq fun k _ hk => ahead k hk, a54 hweak hac hq fun k hk _ => by simpa using hk])
  have hrange : ∀ id, n + 8 * i <= id -> id < n + 8 * i + 8 -> (id - n) / 8 = i := fun id h1 h2 => by omega
  have hmk : ∀ j ∈ ac.t.made, sD r.acts B S j = .none := fun j hj => by
   obtain ⟨g1, g2⟩ := hf2 j hj
   have e : sD r.acts B S j = S j := U7 fun k b hk hw => by
    rw [b97]
    obtain ⟨x, hx⟩ := b99.1 hw
    have hkl : k < l.length := by have := (b66.1 hk).1; omega
    rcases a91 hment hk j (.inr (.inl (List.mem_map.2 ⟨_, O6 hx, rfl⟩))) with h | h | h
    ·omega
    ·rw [hrange j g1 g2] at h; subst h; exact hBi
    rw [hrange j g1 g2] at h; exact behind k hkl h
   rw [e]; exact (I0.bd j).2 (by omega)
  have hnot : ∀ (k : Nat) b, r.acts[k]? = some b -> B k = true -> ∀ id, (id ∈ b.t.res.ids \/ id ∈ b.t.new.map (·.1) \/ ∃ p ∈ b.t.new, id ∈ p.2.ids) -> id ∉ ac.t.made := fun k b hk hBk id hid hm => by
   obtain ⟨g1, g2⟩ := hf2 id hm
   have hkl : k < l.length := by have := (b66.1 hk).1; omega
   rcases a91 hment hk id hid with h | h | h
   ·omega
   ·rw [hrange id g1 g2] at h; subst h; rw [hBi] at hBk; cases hBk
   rw [hrange id g1 g2] at h; rw [behind k hkl h] at hBk; cases hBk
  have hitem : ∀ j, ∀ id ∈ (sD r.acts B S j).ids, id ∉ ac.t.made := fun j => by
   refine ak3 (fun x : It => ∀ id ∈ x.ids, id ∉ ac.t.made) (fun id hid hm => ?_) fun k b x hk hBk hw id hid => ?_
   ·have := (I0.bd j).1 id hid; have := (hf2 id hm).1; omega
   rw [b97] at hBk
   exact hnot k b hk hBk id (.inr (.inr ⟨_, O6 hw, hid⟩))
  have htm : ∀ t x, tmD r.acts B (A1 tm) t = some x -> ∀ id ∈ x.ids, id ∉ ac.t.made := fun t => by
   refine ak3 (fun y : Option AV => ∀ x, y = some x -> ∀ id ∈ x.ids, id ∉ ac.t.made) (fun x hx id hid hm => ?_) fun k b y hk hBk hw x hx id hid => ?_
   ·have := I0.tmi t x hx id hid; have := (hf2 id hm).1; omega
   rw [b97] at hBk
   unfold wrT at hw
   split at hw
   ·cases hw; cases hx
    exact hnot k b hk hBk id (.inl hid)
   cases hw
  have hinv : Inv (sD r.acts B S) ρ ac.t.made := fun ρ' ha j => by
   refine It.res_congr _ (fun id hid => ha id (hitem j id hid)) ?_
   by_cases hj : j ∈ ac.t.made
   ·exact .inl (hmk j hj)
   exact .inr (.inr (ha j hj))
  refine bx8 hH hF hv M hop2 hob heqi hewi hmk hinv fun ρ' w' ha M' => ?_
  refine hQ _ _ ?_
  have hB' : ∀ j, (listed.setIfInBounds i true).getD j false = if j = i then true else B j := fun j => by
   by_cases e : j = i
   ·subst e
    have : j < listed.size := by omega
    simp [this]
   rw [if_neg e, getD_set_ne false (fun h => e h.symm), hBj]
  have hBe : (fun j => (listed.setIfInBounds i true).getD j false) = fun j => if j = i then true else B j := funext hB'
  have later : ∀ (j : Nat) b, i < j -> r.acts[j]? = some b -> aa1 ac b = true -> (if j = i then true else B j) = false := fun j b hij hj hmm => by
   have hjl : j < l.length := by have := (b66.1 hj).1; omega
   rw [if_neg (by omega)]
   exact behind j hjl ((aZ7 hord hac hj (by omega) hmm).2 hij)
  have eT : tmD r.acts (fun j => if j = i then true else B j) (A1 tm) = aB9 ac.dst ac.t.res (tmD r.acts B (A1 tm)) := by
   funext t
   simp only [aB9]
   by_cases e : ac.dst = some t
   ·rw [if_pos e]
    refine aK0 (i := i) hac (by simp [wrT, e]) (by simp) fun j b hij hj hw => ?_
    rw [b97]
    refine later j b hij hj (hmd ac b t e ?_)
    unfold wrT at hw
    split at hw
    ·assumption
    cases hw
   rw [if_neg e]
   refine P5 fun j b hj hw => ?_
   have : j ≠ i := fun h => by
    subst h
    rw [hac] at hj; cases hj
    simp [wrT, e] at hw
   simp [this]
  have eS : sD r.acts (fun j => if j = i then true else B j) S = m7 (sD r.acts B S) ac.t.new := by
   funext q
   rw [an2]
   cases hx : az6 ac.t.new q with
   | some x =>
    refine aK0 (i := i) hac hx (by simp) fun j b hij hj hw => ?_
    rw [b97]
    obtain ⟨y, hy⟩ := b99.1 hw
    exact later j b hij hj (hmn ac b q (List.mem_map.2 ⟨_, O6 hx, rfl⟩) (List.mem_map.2 ⟨_, O6 hy, rfl⟩))
   | none =>
    refine P5 fun j b hj hw => ?_
    have : j ≠ i := fun h => by
     subst h
     rw [hac] at hj; cases hj
     unfold wrS at hw
     rw [hx] at hw; cases hw
    simp [this]
  refine ⟨by simpa using hsz, ?_, ρ', fun j hj => (ha j fun hm => by have := (hf2 j hm).1; have := I0.le; omega).trans (hold j hj), (aQ8 _ _ _).trans hN, (aQ9 _ _ _).trans hdf, ?_, ?_⟩
  ·rw [hBe]
   intro j oj hj hBj' e he hbi
   show (if e.on = i then true else B e.on) = true
   by_cases e1 : e.on = i
   ·simp [e1]
   rw [if_neg e1]
   by_cases e2 : j = i
   ·subst e2
    rw [hoi] at hj; cases hj
    exact hdep' e he hbi
   simp only [if_neg e2] at hBj'
   exact hdn j oj hj hBj' e he hbi
  ·rw [hBe, eT, hdst]
   intro t x hx
   rw [bl9 (by rw [hN]; exact hdN)]
   simp only [aB9] at hx
   split
   ·rename_i e; rw [if_pos e] at hx; cases hx; rfl
   rename_i e
   rw [if_neg e] at hx
   rw [hv t x hx, AV.val_congr x fun id hid => ha id (htm t x hx id hid)]
  rw [hBe, eS]; exact M'
 rintro listed a w ⟨hsz, hdn, ρ, hold, hN, hdf, hv, M⟩ hall
 have hall' : ∀ j, j < l.length -> listed.getD j false = true := fun j hj => by rw [<- a99 (by omega)]; exact hall j hj
 have eT : tmD r.acts (fun j => listed.getD j false) (A1 tm) = A1 r.tm := by
  funext t
  rw [hfT t]
  refine P5 fun j b hj _ => ?_
  rw [b97]
  exact hall' j (by have := (b66.1 hj).1; omega)
 have eS : sD r.acts (fun j => listed.getD j false) S = r.S := by
  funext q
  rw [hfS q]
  refine P5 fun j b hj _ => ?_
  rw [b97]
  exact hall' j (by have := (b66.1 hj).1; omega)
 have hids : ∀ (k : Nat) b, r.acts[k]? = some b -> ∀ id, (id ∈ b.t.res.ids \/ id ∈ b.t.new.map (·.1) \/ ∃ p ∈ b.t.new, id ∈ p.2.ids) -> id < n + 8 * l.length := fun k b hk id hid => by
  have hkl : k < l.length := by have := (b66.1 hk).1; omega
  obtain ⟨o, ho'⟩ : ∃ o, l[k]? = some o := ⟨_, b56 hkl⟩
  obtain ⟨ac, ob, hac, _, hop⟩ := hat k o ho'
  rw [hk] at hac; cases hac
  obtain ⟨_, _, hfine⟩ := aK5 hop
  obtain ⟨hf1, hf2, hf3⟩ := Y4 hfine
  rcases hid with h | h | ⟨p, hp, h⟩
  ·have := hf3 id h; omega
  ·obtain ⟨p, hp, rfl⟩ := List.mem_map.1 h
   have := (hf1 p hp).1; omega
  have := (hf1 p hp).2 id h; omega
 refine done ρ a w (n + 8 * l.length) ⟨hN, hdf, by rw [<- eT]; exact hv, fun t x hx => ?_, fun j => ?_, by rw [<- eS]; exact M, by have := I0.le; omega, hold⟩
 ·rw [hfT t] at hx
  revert x
  refine ak3 (fun y : Option AV => ∀ x, y = some x -> ∀ id ∈ x.ids, id < n + 8 * l.length) (fun x hx id hid => ?_) fun k b y hk _ hw x hx id hid => ?_
  ·have := I0.tmi t x hx id hid; omega
  unfold wrT at hw
  split at hw
  ·cases hw; cases hx
   exact hids k b hk id (.inl hid)
  cases hw
 refine ⟨?_, fun hj => ?_⟩
 ·rw [hfS j]
  refine ak3 (fun x : It => ∀ id ∈ x.ids, id < n + 8 * l.length) (fun id hid => ?_) fun k b x hk _ hw id hid => ?_
  ·have := (I0.bd j).1 id hid; omega
  exact hids k b hk id (.inr (.inr ⟨_, O6 hw, hid⟩))
 rw [hfS j, U7 fun k b hk hw => ?_]
 ·exact (I0.bd j).2 (by omega)
 obtain ⟨x, hx⟩ := b99.1 hw
 have := hids k b hk j (.inr (.inl (List.mem_map.2 ⟨_, O6 hx, rfl⟩)))
 omega
end
def w6 {ι : Type} (φ ψ : Nat -> Prop) (w0 : World) (F : ι -> Rs) (N m : Nat) (ρ0 ρ : Nat -> Value) (S : List It) (tm : List (Nat × AV)) (a : Act) (w : World) : Prop := Inn φ ψ w0 F N m ρ0 S.length ρ (A1 tm) (s4 S) a w
def wfB (S : List It) (tm : List (Nat × AV)) : Bool := S.all (fun x => W7 S.length x.ids) && tm.all (fun p => W7 S.length p.2.ids)
def bU1 (m : Nat) (js : List Nat) : Bool := (b82 m).all fun i => natEq (nth js i) i && decide (i < js.length)
def ab4 (m : Nat) (js : List Nat) (S : List It) (tm : List (Nat × AV)) : Bool := nodupB js && natEq js.length S.length && wfB S tm && bU1 m js
section
variable {P : Program} {ι : Type} {φ ψ : Nat -> Prop} {w0 w w' : World} {F : ι -> Rs} {ρ ρ0 : Nat -> Value} {N m n : Nat} {S : List It} {tm : List (Nat × AV)} {a : Act} {Q : Exit -> Act -> World -> Prop}
theorem ay3 : ∀ {tm : List (Nat × AV)} {t : Nat} {x : AV}, A1 tm t = some x -> (t, x) ∈ tm
 | [], _, _, h => by cases h
 | (k, y) :: r, t, x, h => by
  simp only [A1, natEq, beq_iff_eq] at h
  split at h
  ·rename_i e; subst e; cases h; exact b72
  exact b80 _ (ay3 h)
theorem ay2 {l : List It} {i : Nat} (h : i < l.length) : s4 l i = l[i] := by simp [s4, b59, h]
theorem A3 {l : List It} {i : Nat} (h : l.length <= i) : s4 l i = .none := by simp [s4, b59, h]
theorem bC6 {S : List It} {tm : List (Nat × AV)} (h : wfB S tm = true) : (∀ j, (∀ id ∈ (s4 S j).ids, id < S.length) /\ (S.length <= j -> s4 S j = .none)) /\ ∀ t x, A1 tm t = some x -> ∀ id ∈ x.ids, id < S.length := by
 simp only [wfB, b57] at h
 refine ⟨fun j => ⟨fun id hid => ?_, fun hj => A3 hj⟩, fun t x hx id hid => ?_⟩
 ·rcases b86 j S.length with hj | hj
  ·rw [ay2 hj] at hid
   exact H3 (b68.1 h.1 _ (b64 hj)) id hid
  rw [A3 hj] at hid; cases hid
 exact H3 (b68.1 h.2 _ (ay3 hx)) id hid
theorem Inn.sel {tf : Nat -> Option AV} {Sf : Nat -> It} (I : Inn φ ψ w0 F N m ρ0 n ρ tf Sf a w) (js : List Nat) (S1 : List It) (tm1 : List (Nat × AV)) (hb : ab4 m js S1 tm1 = true) (hS : js.map Sf = S1.map (It.ren (nth js))) (ht : (tm1.map (·.1)).map tf = tm1.map fun p => some (p.2.ren (nth js))) :
  w6 φ ψ w0 F N m ρ0 (fun i => ρ (nth js i)) S1 tm1 a w := by
 simp only [ab4, b57, natEq, beq_iff_eq] at hb
 obtain ⟨⟨⟨hnd, hl⟩, hwf⟩, hkeep⟩ := hb
 have hn := ax5 hnd
 obtain ⟨b1, b2⟩ := bC6 hwf
 have hk : ∀ i, i < m -> nth js i = i /\ i < js.length := fun i hi => by
  have := b68.1 hkeep i (List.mem_range.2 hi)
  simpa [natEq] using this
 refine ⟨I.size, I.defs, fun t x hx => ?_, b2, b1, ?_, ?_, fun i hi => ?_⟩
 ·obtain ⟨i, hi⟩ := List.mem_iff_getElem?.1 (ay3 hx)
  have h1 := congrArg (·[i]?) ht
  simp only [b78, hi, b85] at h1
  rw [I.tmv t _ (Option.some.inj h1), AV.val_ren]
 ·refine I.mem.map (fun k : ι ⊕ Nat => (match k with | .inl i => some (.inl i) | .inr i => if i < js.length then some (.inr (nth js i)) else none : Option (ι ⊕ Nat))) ?_ ?_
  ·intro k k' x h1 h2
   match k, k' with
   | .inl i, .inl i' => simp at h1 h2; rw [<- h1] at h2; simpa using h2.symm
   | .inl i, .inr j => simp only at h1 h2; cases h1; split at h2 <;> simp at h2
   | .inr j, .inl i => simp only at h1 h2; cases h2; split at h1 <;> simp at h1
   | .inr j, .inr j' =>
    simp at h1 h2
    obtain ⟨f1, f2⟩ := h1
    obtain ⟨g1, g2⟩ := h2
    rw [<- f2] at g2
    have hj := Sum.inr.inj g2
    have e1 := b56 f1
    have e2 := b56 g1
    rw [K5 e2, K5 e1] at hj
    have := (List.getElem?_inj f1 hn).1 (e1.trans (by rw [<- hj]; exact e2.symm))
    rw [this]
  intro k
  match k with
  | .inl i => exact .inl ⟨_, rfl, rfl⟩
  | .inr i =>
   by_cases hlt : i < js.length
   ·refine .inl ⟨.inr (nth js i), by simp [hlt], ?_⟩
    have h1 := congrArg (·[i]?) hS
    have hlt' : i < S1.length := by omega
    simp only [b78, b56 hlt, b56 hlt', b85, Option.some.injEq] at h1
    simp only [n8]
    rw [ay2 hlt', K5 (b56 hlt), h1, <- It.res_ren, K5 (b56 hlt)]
   refine .inr ?_
   simp only [n8]
   rw [A3 (by omega)]
   rfl
 ·rcases b86 S1.length m with h | h
  ·have := (hk S1.length h).2; omega
  exact h
 rw [(hk i hi).1]; exact I.old i hi
def aR5 (o : Option RS) (js ts : List Nat) : Option (List Prop × List It × List (Option AV) × List (List (List AV × List It)) × List (List AV)) := o.map fun r => (r.obs, js.map r.S, ts.map (A1 r.tm), r.acts.map (·.eqs.1), r.acts.map (·.eqw.1))
def aZ6 (o : Option RS) (obs : List Prop) (js : List Nat) (S : List It) (tm : List (Nat × AV)) : Option (List Prop × List It × List (Option AV) × List (List (List AV × List It)) × List (List AV)) := o.map fun r => (obs, S.map (It.ren (nth js)), tm.map (fun p => some (p.2.ren (nth js))), r.acts.map (·.eqs.2), r.acts.map (·.eqw.2))
def ba4 (l : List Oper) (ms : List Nat) (n : Nat) (S : Nat -> It) (o : Option RS) : Bool := aK9 ms l && ad5 l.toArray && match o with
 | some r => bJ4 ms r.acts && bn6 ms n r.acts && bh6 ms S r.acts
 | none => false
theorem bI5 {dk : TypeId -> Nat} {l : List Oper} {id : Nat} (G : w6 φ ψ w0 F N m ρ0 ρ S tm a w) (H : O7) (hH : ∀ i c τ, J7 H.calls i = some (c, τ) -> c.ok P) (hF : N0 H.facts) (js : List Nat) (S1 : List It) (tm1 : List (Nat × AV)) (obs : List Prop)
  (hs : ((R9 P dk N l H l 0 tm (s4 S) S.length).isSome && ab4 m js S1 tm1) = true)
  (hc : aR5 (R9 P dk N l H l 0 tm (s4 S) S.length) js (tm1.map (·.1)) = aZ6 (R9 P dk N l H l 0 tm (s4 S) S.length) obs js S1 tm1)
  (ho : t6 obs) (k : ∀ ρ' a' w', w6 φ ψ w0 F N m ρ0 ρ' S1 tm1 a' w' -> Q .normal a' w') : (Code.region id l.toArray false).wp P Q a w := by
 simp only [b57] at hs
 obtain ⟨r, hr⟩ := b99.1 hs.1
 rw [hr] at hc
 simp only [aR5, aZ6, b85, Option.some.injEq, Prod.mk.injEq] at hc
 obtain ⟨h1, h2, h3, h4, h5⟩ := hc
 refine wp_region_lit (a69 hH hF l 0 S.length G hr (by rw [h1]; exact ho) h4 h5 fun ρ' a' w' n' I => ?_)
 exact k _ a' w' (I.sel js S1 tm1 hs.2 h2 h3)
theorem bw9 {dk : TypeId -> Nat} {l : List Oper} {id : Nat} (G : w6 φ ψ w0 F N m ρ0 ρ S tm a w) (H : O7) (hH : ∀ i c τ, J7 H.calls i = some (c, τ) -> c.ok P) (hF : N0 H.facts) (ms : List Nat) (js : List Nat) (S1 : List It) (tm1 : List (Nat × AV)) (obs : List Prop) (hm : P.follows .mixedOrders = true)
  (hs : (ba4 l ms S.length (s4 S) (R9 P dk N l H l 0 tm (s4 S) S.length) && ab4 m js S1 tm1) = true)
  (hc : aR5 (R9 P dk N l H l 0 tm (s4 S) S.length) js (tm1.map (·.1)) = aZ6 (R9 P dk N l H l 0 tm (s4 S) S.length) obs js S1 tm1)
  (ho : t6 obs) (k : ∀ ρ' a' w', w6 φ ψ w0 F N m ρ0 ρ' S1 tm1 a' w' -> Q .normal a' w') : (Code.region id l.toArray true).wp P Q a w := by
 simp only [b57, ba4] at hs
 obtain ⟨⟨⟨q1, q2⟩, q3⟩, q4⟩ := hs
 cases hr : R9 P dk N l H l 0 tm (s4 S) S.length with
 | none => rw [hr] at q3; cases q3
 | some r =>
  rw [hr] at q3 hc
  simp only [b57] at q3
  simp only [aR5, aZ6, b85, Option.some.injEq, Prod.mk.injEq] at hc
  obtain ⟨h1, h2, h3, h4, h5⟩ := hc
  refine aI0 hH hF G hr (by rw [h1]; exact ho) h4 h5 ms hm q2 q1 q3.1.1 q3.1.2 q3.2 fun ρ' a' w' n' I => ?_
  exact k _ a' w' (I.sel js S1 tm1 q4 h2 h3)
theorem rs1 {dk : TypeId -> Nat} {l : List Oper} {id : Nat} (G : w6 φ ψ w0 F N m ρ0 ρ S tm a w) (H : O7) (hH : ∀ i c τ, J7 H.calls i = some (c, τ) -> c.ok P) (hF : N0 H.facts) (js : List Nat) (S1 : List It) (tm1 : List (Nat × AV)) (obs : List Prop)
  (ho : t6 obs) (k : ∀ ρ' a' w', w6 φ ψ w0 F N m ρ0 ρ' S1 tm1 a' w' -> Q .normal a' w')
  (hs : ((R9 P dk N l H l 0 tm (s4 S) S.length).isSome && ab4 m js S1 tm1) = true := by kernel_rfl)
  (hc : aR5 (R9 P dk N l H l 0 tm (s4 S) S.length) js (tm1.map (·.1)) = aZ6 (R9 P dk N l H l 0 tm (s4 S) S.length) obs js S1 tm1 := by kernel_rfl) : (Code.region id l.toArray false).wp P Q a w := bI5 G H hH hF js S1 tm1 obs hs hc ho k
theorem rd1 {dk : TypeId -> Nat} {l : List Oper} {id : Nat} (G : w6 φ ψ w0 F N m ρ0 ρ S tm a w) (H : O7) (hH : ∀ i c τ, J7 H.calls i = some (c, τ) -> c.ok P) (hF : N0 H.facts) (ms : List Nat) (js : List Nat) (S1 : List It) (tm1 : List (Nat × AV)) (obs : List Prop)
  (ho : t6 obs) (k : ∀ ρ' a' w', w6 φ ψ w0 F N m ρ0 ρ' S1 tm1 a' w' -> Q .normal a' w') (hm : P.follows .mixedOrders = true := by kernel_rfl)
  (hs : (ba4 l ms S.length (s4 S) (R9 P dk N l H l 0 tm (s4 S) S.length) && ab4 m js S1 tm1) = true := by kernel_rfl)
  (hc : aR5 (R9 P dk N l H l 0 tm (s4 S) S.length) js (tm1.map (·.1)) = aZ6 (R9 P dk N l H l 0 tm (s4 S) S.length) obs js S1 tm1 := by kernel_rfl) : (Code.region id l.toArray true).wp P Q a w := bw9 G H hH hF ms js S1 tm1 obs hm hs hc ho k
theorem ae7 : ∀ i c τ, J7 [] i = some (c, τ) -> j1.ok P c := fun i c τ h => by cases h
theorem aA3 {i0 : Nat} {c0 : j1} {τ0 : List Nat} {r : List (Nat × j1 × List Nat)} (h0 : c0.ok P) (hr : ∀ i c τ, J7 r i = some (c, τ) -> j1.ok P c) : ∀ i c τ, J7 ((i0, c0, τ0) :: r) i = some (c, τ) -> j1.ok P c := fun i c τ h => by
 simp only [J7] at h
 split at h
 ·cases h; exact h0
 exact hr i c τ h
theorem w6.sel (G : w6 φ ψ w0 F N m ρ0 ρ S tm a w) (js : List Nat) (S1 : List It) (tm1 : List (Nat × AV)) (hb : ab4 m js S1 tm1 = true) (hS : js.map (s4 S) = S1.map (It.ren (nth js))) (ht : (tm1.map (·.1)).map (A1 tm) = tm1.map fun p => some (p.2.ren (nth js))) : ∃ ρ', w6 φ ψ w0 F N m ρ0 ρ' S1 tm1 a w := ⟨_, Inn.sel G js S1 tm1 hb hS ht⟩
theorem w6.as (G : w6 φ ψ w0 F N m ρ0 ρ S tm a w) (S1 : List It) (tm1 : List (Nat × AV)) (hS : S = S1) (ht : tm = tm1) : w6 φ ψ w0 F N m ρ0 ρ S1 tm1 a w := by subst hS; subst ht; exact G
theorem w6.at (G : w6 φ ψ w0 F N m ρ0 ρ S tm a w) (S1 : List It) (tm1 : List (Nat × AV)) (hS : S = S1 := by kernel_rfl) (ht : tm = tm1 := by kernel_rfl) : w6 φ ψ w0 F N m ρ0 ρ S1 tm1 a w := G.as S1 tm1 hS ht
theorem ad7 {c : Nat} {x y : Code} (G : w6 φ ψ w0 F N m ρ0 ρ S tm a w) (b : Bool) (hc : A1 tm c = some (.v (.bool b))) (ht : b = true -> x.wp P Q a w) (hf : b = false -> y.wp P Q a w) : (Code.cond (.tmp c) x y).wp P Q a w := by
 have h := G.tmv c _ hc
 refine wp_cond_split (t := b) ?_ ht hf
 simp [Act.eval, Array.getD_eq_getD_getElem?, h, AV.val]
theorem bl3 {c : Nat} {x y : Code} (G : w6 φ ψ w0 F N m ρ0 ρ S tm a w) (b : Bool) (hc : A1 tm c = some (.v (.bool b))) (hb : b = true) (h : x.wp P Q a w) : (Code.cond (.tmp c) x y).wp P Q a w := ad7 G b hc (fun _ => h) fun hf => by rw [hb] at hf; cases hf
theorem bl4 {c : Nat} {x y : Code} (G : w6 φ ψ w0 F N m ρ0 ρ S tm a w) (b : Bool) (hc : A1 tm c = some (.v (.bool b))) (hb : b = false) (h : y.wp P Q a w) : (Code.cond (.tmp c) x y).wp P Q a w := ad7 G b hc (fun ht => by rw [hb] at ht; cases ht) fun _ => h
def aY8 (P : Program) (tm : Nat -> Option AV) (S : Nat -> It) : List ResultVar -> Option (List AV)
 | [] => some []
 | .tmp t :: r =>
  match tm t, aY8 P tm S r with
  | some x, some l => some (x :: l)
  | _, _ => none
 | .cell t ty :: r =>
  match tm t, aY8 P tm S r with
  | some (.ptr b off), some l =>
   match S b with
   | .box cs => (aW0 P ty ((cs.drop off).take (ar2 P ty))).map fun x => x :: l
   | _ => none
  | _, _ => none
def aQ6 (P : Program) (fn : Func) (tm : List (Nat × AV)) (S : List It) : Option AV :=
 match aY8 P (A1 tm) (s4 S) fn.results.toList with
 | some [x] => some x
 | some l => some (.tup l)
 | none => none
theorem bu4 {cs : List AV} {ty : TypeId} {b off : Nat} {x : AV} (hB : T9 w b (AV.vals ρ cs)) (h : aW0 P ty ((cs.drop off).take (ar2 P ty)) = some x) : (loadVar ty ⟨b, off, none⟩).run P w = .ok (x.val ρ) w :=
 af0 h ⟨b, off, none⟩ fun j u hj => by
  rw [AV.vals_take, AV.vals_drop] at hj
  have hadd : (⟨b, off, none⟩ : Addr).add j = ⟨b, off + j, none⟩ := by unfold Addr.add; split <;> simp_all
  rw [hadd, hB.cell]
  rw [List.getElem?_take] at hj
  split at hj
  ·rw [List.getElem?_drop] at hj; exact hj
  cases hj
theorem aJ5 (G : w6 φ ψ w0 F N m ρ0 ρ S tm a w) : ∀ {rs : List ResultVar} {l : List AV}, aY8 P (A1 tm) (s4 S) rs = some l ->
  (rs.mapM (fun r => (match r with | .tmp t => pure (a.tmps.getD t undef) | .cell b t => do loadVar t (<- asAddr (a.tmps.getD b undef)) : Sem Value))).run P w = .ok (AV.vals ρ l) w
 | [], l, h => by cases h; simp [AV.vals]
 | .tmp t :: r, l, h => by
  simp only [aY8] at h
  split at h
  case h_2 => cases h
  rename_i x l' h1 h2
  cases h
  have ht := G.tmv t x h1
  have ih := aJ5 G h2
  have e : (pure (a.tmps.getD t undef) : Sem Value).run P w = .ok (x.val ρ) w := by simp [Array.getD_eq_getD_getElem?, ht]
  rw [List.mapM_cons, Sem.run_bind, e, Result.andThen_ok, Sem.run_bind, ih]
  rfl
 | .cell t ty :: r, l, h => by
  simp only [aY8] at h
  split at h
  case h_2 => cases h
  rename_i b off l' h1 h2
  split at h
  case h_2 => cases h
  rename_i cs hS
  obtain ⟨x, h3, h4⟩ := b61.1 h
  subst h4
  have ht := G.tmv t _ h1
  have ih := aJ5 G h2
  have hl := bu4 (P := P) (G.mem.boxAt hS) h3
  have e : (do loadVar ty (<- asAddr (a.tmps.getD t undef)) : Sem Value).run P w = .ok (x.val ρ) w := by
   rw [show a.tmps.getD t undef = .pointer (some ⟨R4 (ρ b), off, none⟩) by simp [Array.getD_eq_getD_getElem?, ht, AV.val]]
   simp [asAddr, hl]
  rw [List.mapM_cons, Sem.run_bind, e, Result.andThen_ok, Sem.run_bind, ih]
  rfl
theorem bI6 {fn : Func} {R : Ending -> World -> Prop} {v : AV} (G : w6 φ ψ w0 F N m ρ0 ρ S tm a w) (h : aQ6 P fn tm S = some v) (hR : R (.returned (v.val ρ)) w) : bodyPost P fn R .ret a w := by
 refine ⟨G.defs, v.val ρ, ?_, hR⟩
 unfold aQ6 at h
 cases hl : aY8 P (A1 tm) (s4 S) fn.results.toList with
 | none => rw [hl] at h; cases h
 | some l =>
  rw [hl] at h
  have := aJ5 G hl
  unfold results
  rw [Sem.run_bind, Array.mapM_eq_mapM_toList, Sem.run_map]
  erw [this]
  simp only [Result.andThen_ok, Sem.run_pure]
  match l, h with
  | [], h => cases h; rfl
  | [x], h => cases h; rfl
  | x :: y :: r, h => cases h; rfl
def aB7 (i : Nat) : List AV -> List (Nat × AV)
 | [] => []
 | x :: r => (i, x) :: aB7 (i + 1) r
theorem aW1 (ρ : Nat -> Value) : ∀ {l : List AV} {i t : Nat} {x : AV}, A1 (aB7 i l) t = some x -> i <= t /\ (AV.vals ρ l)[t - i]? = some (x.val ρ)
 | [], _, _, _, h => by cases h
 | y :: r, i, t, x, h => by
  simp only [aB7, A1, natEq, beq_iff_eq] at h
  split at h
  ·rename_i e; subst e; cases h; exact ⟨b71 _, by simp [AV.vals]⟩
  obtain ⟨h1, h2⟩ := aW1 ρ h
  refine ⟨by omega, ?_⟩
  rw [show t - i = (t - (i + 1)) + 1 by omega]
  simpa [AV.vals] using h2
def aW5 (φ ψ : Nat -> Prop) (w0 : World) (F : ι -> Rs) (ρ0 : Nat -> Value) (c : j1) (x : Ending) (w' : World) : Prop := ∃ ρ', (∀ i, i < c.pre.length -> ρ' i = ρ0 i) /\ x = .returned (c.res.val ρ') /\ k8 φ ψ w0 w' (n8 F ρ' (s4 c.post))
theorem bl2 {c : j1} {fn : Func} {code : Code} (N : Nat) (hf : P.funcs[c.f]? = some fn) (hb : fn.body = some code) (hN : fn.ntmps = N) (hw : (wfB c.pre (aB7 0 c.args) && decide (c.args.length <= N)) = true)
  (k : ∀ {ι : Type} (φ ψ : Nat -> Prop) (w0 w : World) (F : ι -> Rs) (ρ0 ρ : Nat -> Value) (a : Act), w6 φ ψ w0 F N c.pre.length ρ0 ρ c.pre (aB7 0 c.args) a w -> code.wp P (bodyPost P fn (aW5 φ ψ w0 F ρ0 c)) a w) : c.ok P := by
 intro ι φ ψ w0 w F ρ M
 simp only [b57, decide_eq_true_eq] at hw
 obtain ⟨b1, b2⟩ := bC6 hw.1
 refine calls_of_wp hf hb (k φ ψ w0 w F ρ ρ _ ⟨?_, rfl, fun t x hx => ?_, b2, b1, M, b71 _, fun _ _ => rfl⟩)
 ·simp [AV.vals_length, hN]; omega
 obtain ⟨_, h1⟩ := aW1 ρ hx
 rw [Nat.sub_zero] at h1
 have hlt := (b66.1 h1).1
 rw [Array.getElem?_append_left (by simpa using hlt)]
 simpa using h1
theorem ax0 {fn : Func} {c : j1} {v : AV} (G : w6 φ ψ w0 F N c.pre.length ρ0 ρ S tm a w) (js : List Nat) (h : aQ6 P fn tm S = some v) (hb : ab4 c.pre.length js c.post [] = true) (hS : js.map (s4 S) = c.post.map (It.ren (nth js))) (hv : v = c.res.ren (nth js)) : bodyPost P fn (aW5 φ ψ w0 F ρ0 c) .ret a w := by
 have G1 := Inn.sel G js c.post [] hb hS rfl
 refine bI6 G h ⟨fun i => ρ (nth js i), G1.old, ?_, G1.mem⟩
 rw [hv, AV.val_ren]
theorem b0 {K : Act -> World -> Prop} (h : K a w) : Exit.then K Q .normal a w := h
theorem p8 {K : Act -> World -> Prop} {id : Nat} (h : Q (.exit id) a w) : Exit.then K Q (.exit id) a w := h
theorem j2 {K : Act -> World -> Prop} (h : Q .ret a w) : Exit.then K Q .ret a w := h
theorem o9 {id : Nat} (h : Q .normal a w) : Exit.inBlock id Q .normal a w := h
theorem A2 {id : Nat} (h : Q .ret a w) : Exit.inBlock id Q .ret a w := h
theorem p7 {id : Nat} (h : Q .normal a w) : Exit.inBlock id Q (.exit id) a w := by simp only [Exit.inBlock, if_true]; exact h
theorem w64 {x : Int} (h1 : -9223372036854775808 <= x) (h2 : x <= 9223372036854775807) : IntKind.i64.wrap x = x := IntWalk.i64_in x ⟨h1, h2⟩
theorem rT {c : Nat} {x y : Code} (G : w6 φ ψ w0 F N m ρ0 ρ S tm a w) (b : Bool) (hb : b = true) (h : x.wp P Q a w) (hc : A1 tm c = some (.v (.bool b)) := by kernel_rfl) : (Code.cond (.tmp c) x y).wp P Q a w := bl3 G b hc hb h
theorem rF {c : Nat} {x y : Code} (G : w6 φ ψ w0 F N m ρ0 ρ S tm a w) (b : Bool) (hb : b = false) (h : y.wp P Q a w) (hc : A1 tm c = some (.v (.bool b)) := by kernel_rfl) : (Code.cond (.tmp c) x y).wp P Q a w := bl4 G b hc hb h
theorem x4 {κ : Type} {c : Code} (pre : κ -> Prop) (μ : κ -> Nat) (Sk : κ -> List It) (Tk : κ -> List (Nat × AV)) (k0 : κ) (hp : pre k0) (G : w6 φ ψ w0 F N m ρ0 ρ (Sk k0) (Tk k0) a w)
  (round : ∀ k ρ a w, pre k -> w6 φ ψ w0 F N m ρ0 ρ (Sk k) (Tk k) a w -> c.wp P (Exit.then (fun a' w' => ∃ k' ρ', pre k' /\ μ k' < μ k /\ w6 φ ψ w0 F N m ρ0 ρ' (Sk k') (Tk k') a' w') Q) a w) : (Code.loop c).wp P Q a w := by
 refine wp_loop_ghost (fun n a w => ∃ k ρ, μ k = n /\ pre k /\ w6 φ ψ w0 F N m ρ0 ρ (Sk k) (Tk k) a w) (μ k0) ⟨k0, ρ, rfl, hp, G⟩ ?_
 rintro n a w ⟨k, ρ, rfl, hk, Gk⟩
 refine wp_mono (round k ρ a w hk Gk) ?_
 intro e a' w' hq
 cases e with
 | normal =>
  obtain ⟨k', ρ', h1, h2, h3⟩ := hq
  exact ⟨μ k', h2, k', ρ', rfl, h1, h3⟩
 | _ => exact hq
theorem bw8 {κ : Type} {pre : κ -> Prop} {μ : κ -> Nat} {Sk : κ -> List It} {Tk : κ -> List (Nat × AV)} {k : κ} (G : w6 φ ψ w0 F N m ρ0 ρ S tm a w) (k' : κ) (hp : pre k') (hμ : μ k' < μ k) (js : List Nat) (S1 : List It) (tm1 : List (Nat × AV)) (hs1 : Sk k' = S1) (ht1 : Tk k' = tm1)
  (hb : ab4 m js S1 tm1 = true) (hS : js.map (s4 S) = S1.map (It.ren (nth js))) (ht : (tm1.map (·.1)).map (A1 tm) = tm1.map fun p => some (p.2.ren (nth js))) :
  ∃ k' ρ', pre k' /\ μ k' < μ k /\ w6 φ ψ w0 F N m ρ0 ρ' (Sk k') (Tk k') a w := by
 subst hs1; subst ht1
 exact ⟨k', _, hp, hμ, Inn.sel G js _ _ hb hS ht⟩
theorem w6.len (G : w6 φ ψ w0 F N m ρ0 ρ S tm a w) (i : Nat) {d : D} (h : itD (s4 S i) = some d) : d.len <= 9223372036854775807 := by
 obtain ⟨_, cap, _, h1, h2, _⟩ := G.mem.sliceAt h
 unfold maxLen at h2; omega
end
def dkP (t : TypeId) : Nat :=
 if natEq t 3 then 1 else
 if natEq t 4 then 2 else
 if natEq t 5 then 3 else
 if natEq t 9 then 4 else
 if natEq t 22 then 7 else
if natEq t 67 then 9 else
if natEq t 69 then 10 else
 0
abbrev eA (e : b7) (r : Nat) : AV := .agg [.v (.int .i64 e.kind), .v (.int .i64 e.value), .ref r]
abbrev eS (e : b7) : List It := [.dat (.exprs e.kids)]
abbrev sA (s : b5) (r : Nat) : AV := .agg [.v (.int .i64 s.kind), .v (.int .i64 s.target), .v (.int .i64 s.index.kind), .v (.int .i64 s.index.value), .ref r, .v (.int .i64 s.value.kind), .v (.int .i64 s.value.value), .ref (r + 1), .v (.int .i64 s.count), .ref (r + 2), .ref (r + 3)]
abbrev sS (s : b5) : List It := [.dat (.exprs s.index.kids), .dat (.exprs s.value.kids), .dat (.stmts s.body), .dat (.stmts s.els)]
abbrev pA (r : Nat) : AV := .agg [.ref r, .ref (r + 1), .ref (r + 2)]
abbrev pS (p : j0) : List It := [.dat (.ints p.vars), .dat (.ints p.arrays), .dat (.stmts p.body)]
abbrev iA (n : Int) : AV := .v (.int .i64 n)
abbrev bA (b : Bool) : AV := .v (.bool b)
abbrev F9 (f : FuncId) (args : List AV) (S : List It) (res : AV) : j1 := ⟨f, args, S, S, res⟩
abbrev dI (l : List Int) : It := .dat (.ints l)
abbrev dY (l : List UInt8) : It := .dat (.bytes l)
abbrev dE (l : List b7) : It := .dat (.exprs l)
abbrev dT (l : List b5) : It := .dat (.stmts l)
abbrev eL (e : b7) (r : Nat) : List AV := [.v (.int .i64 e.kind), .v (.int .i64 e.value), .ref r]
abbrev sL (s : b5) (r : Nat) : List AV := [.v (.int .i64 s.kind), .v (.int .i64 s.target), .v (.int .i64 s.index.kind), .v (.int .i64 s.index.value), .ref r, .v (.int .i64 s.value.kind), .v (.int .i64 s.value.value), .ref (r + 1), .v (.int .i64 s.count), .ref (r + 2), .ref (r + 3)]
abbrev pL (r : Nat) : List AV := [.ref r, .ref (r + 1), .ref (r + 2)]
section
variable {P : Program} {ι : Type} {φ ψ : Nat -> Prop} {w0 w w' : World} {F : ι -> Rs} {ρ ρ0 : Nat -> Value} {N m n : Nat} {S : List It} {tm : List (Nat × AV)} {a : Act} {Q : Exit -> Act -> World -> Prop}
end
theorem b7.eta (e : b7) : (⟨e.kind, e.value, e.kids⟩ : b7) = e := by cases e; rfl
theorem b5.eta (s : b5) : (⟨s.kind, s.target, s.index, s.value, s.count, s.body, s.els⟩ : b5) = s := by cases s; rfl
section
variable {ι : Type} {P : Program} {φ ψ : Nat -> Prop} {w0 w : World} {F : ι -> Rs} {N m : Nat} {ρ0 ρ : Nat -> Value} {S : List It} {tm : List (Nat × AV)} {a : Act}
theorem H9 {fn : Func} {c : j1} (G : w6 φ ψ w0 F N c.pre.length ρ0 ρ S tm a w) (js : List Nat) (hS : js.map (s4 S) = c.post.map (It.ren (nth js)) := by kernel_rfl) (h : aQ6 P fn tm S = some (c.res.ren (nth js)) := by kernel_rfl) (hb : ab4 c.pre.length js c.post [] = true := by kernel_rfl) : bodyPost P fn (aW5 φ ψ w0 F ρ0 c) .ret a w := ax0 G js h hb hS rfl
theorem bS1 {fn : Func} {c : j1} (G : w6 φ ψ w0 F N c.pre.length ρ0 ρ S tm a w) (js : List Nat) (hS : js.map (s4 S) = c.post.map (It.ren (nth js)) := by kernel_rfl) (h : aQ6 P fn tm S = some (c.res.ren (nth js)) := by kernel_rfl) (hb : ab4 c.pre.length js c.post [] = true := by kernel_rfl) : bodyPost P fn (aW5 φ ψ w0 F ρ0 c) .normal a w := ax0 G js h hb hS rfl
theorem E0 {fn : Func} {c : j1} (v : AV) (G : w6 φ ψ w0 F N c.pre.length ρ0 ρ S tm a w) (js : List Nat) (hv : v = c.res.ren (nth js)) (hS : js.map (s4 S) = c.post.map (It.ren (nth js)) := by kernel_rfl) (h : aQ6 P fn tm S = some v := by kernel_rfl) (hb : ab4 c.pre.length js c.post [] = true := by kernel_rfl) : bodyPost P fn (aW5 φ ψ w0 F ρ0 c) .ret a w := ax0 G js h hb hS hv
theorem Z9 {κ : Type} {pre : κ -> Prop} {μ : κ -> Nat} {Sk : κ -> List It} {Tk : κ -> List (Nat × AV)} {k : κ} (G : w6 φ ψ w0 F N m ρ0 ρ S tm a w) (k' : κ) (hp : pre k') (hμ : μ k' < μ k) (js : List Nat) (hS : js.map (s4 S) = (Sk k').map (It.ren (nth js)) := by kernel_rfl) (ht : ((Tk k').map (·.1)).map (A1 tm) = (Tk k').map (fun p => some (p.2.ren (nth js))) := by kernel_rfl) (hb : ab4 m js (Sk k') (Tk k') = true := by kernel_rfl) : ∃ k' ρ', pre k' /\ μ k' < μ k /\ w6 φ ψ w0 F N m ρ0 ρ' (Sk k') (Tk k') a w := bw8 G k' hp hμ js _ _ rfl rfl hb hS ht
theorem y9 {fn : Func} {f : FuncId} {args : List AV} {pre post : List It} {x : Bool} (y : Bool) (G : w6 φ ψ w0 F N pre.length ρ0 ρ S tm a w) (js : List Nat) (e : x = y) (hS : js.map (s4 S) = post.map (It.ren (nth js)) := by kernel_rfl) (h : aQ6 P fn tm S = some (bA y) := by kernel_rfl) (hb : ab4 pre.length js post [] = true := by kernel_rfl) : bodyPost P fn (aW5 φ ψ w0 F ρ0 ⟨f, args, pre, post, bA x⟩) .ret a w := ax0 (c := ⟨f, args, pre, post, bA x⟩) G js h hb hS (by rw [e]; rfl)
theorem rxI {fn : Func} {f : FuncId} {args : List AV} {pre post : List It} {x : Int} (y : Int) (G : w6 φ ψ w0 F N pre.length ρ0 ρ S tm a w) (js : List Nat) (e : x = y) (hS : js.map (s4 S) = post.map (It.ren (nth js)) := by kernel_rfl) (h : aQ6 P fn tm S = some (iA y) := by kernel_rfl) (hb : ab4 pre.length js post [] = true := by kernel_rfl) : bodyPost P fn (aW5 φ ψ w0 F ρ0 ⟨f, args, pre, post, iA x⟩) .ret a w := ax0 (c := ⟨f, args, pre, post, iA x⟩) G js h hb hS (by rw [e]; rfl)
end
abbrev wO (x : Int) : Prop := IntKind.i64.wrap x = x
theorem oW {x : Int} (h : -9223372036854775808 <= x /\ x <= 9223372036854775807) : wO x := w64 h.1 h.2
theorem o1 {x : Int} (h : -9223372036854775808 <= x /\ x <= 9223372036854775807) : t6 [wO x] := ⟨oW h, b70⟩
theorem o2 {x y : Int} (h : (-9223372036854775808 <= x /\ x <= 9223372036854775807) /\ -9223372036854775808 <= y /\ y <= 9223372036854775807) : t6 [wO x, wO y] := ⟨oW h.1, oW h.2, b70⟩
theorem o3 {x y z : Int} (h : (-9223372036854775808 <= x /\ x <= 9223372036854775807) /\ (-9223372036854775808 <= y /\ y <= 9223372036854775807) /\ -9223372036854775808 <= z /\ z <= 9223372036854775807) : t6 [wO x, wO y, wO z] := ⟨oW h.1, oW h.2.1, oW h.2.2, b70⟩
abbrev aP (n b : Nat) (r : List Prop) : List Prop := (n <= 9223372036854775807) :: (n * b <= 140737488355328) :: r
theorem aK {n b : Nat} {r : List Prop} (h : n <= 100000000000) (k : t6 r) (hb : b <= 1000 := by decide) : t6 (aP n b r) := ⟨by omega, b54 (Nat.mul_le_mul h hb) (by decide), k⟩
abbrev iX (x : Int) (n l : Nat) (r : List Prop) : List Prop := (0 <= x) :: (x < (l : Int)) :: (n < l) :: r
theorem iK {x : Int} {n l : Nat} {r : List Prop} (h : 0 <= x /\ x < (l : Int) /\ n < l) (k : t6 r) : t6 (iX x n l r) := ⟨h.1, h.2.1, h.2.2, k⟩
abbrev mR (js : List Nat) (l : List It) : List It := b88 (It.ren (nth js)) l
theorem fz : N0 [] := b70
theorem fc {a b : Bool} {r : List (Bool × Bool)} (h : a = b) (k : N0 r) : N0 ((a, b) :: r) := ⟨h, k⟩
abbrev C8 (e : b7) : b7 := b7.mk e.kind e.value e.kids
abbrev qzS (s : b5) : b5 := b5.mk s.kind s.target (b7.mk s.index.kind s.index.value s.index.kids) (b7.mk s.value.kind s.value.value s.value.kids) s.count s.body s.els
def kL (P : Program) (N m : Nat) (l : List Oper) (H : O7) (tm : List (Nat × AV)) (S : List It) (js : List Nat) (S1 : List It) (t1 : List (Nat × AV)) := ((R9 P dkP N l H l 0 tm (s4 S) S.length).isSome && ab4 m js S1 t1, aR5 (R9 P dkP N l H l 0 tm (s4 S) S.length) js (t1.map (·.1)))
def kR (P : Program) (N : Nat) (l : List Oper) (H : O7) (tm : List (Nat × AV)) (S : List It) (o : List Prop) (js : List Nat) (S1 : List It) (t1 : List (Nat × AV)) := (true, aZ6 (R9 P dkP N l H l 0 tm (s4 S) S.length) o js S1 t1)
def kM (P : Program) (N m : Nat) (l : List Oper) (H : O7) (ms : List Nat) (tm : List (Nat × AV)) (S : List It) (js : List Nat) (S1 : List It) (t1 : List (Nat × AV)) := (ba4 l ms S.length (s4 S) (R9 P dkP N l H l 0 tm (s4 S) S.length) && ab4 m js S1 t1, aR5 (R9 P dkP N l H l 0 tm (s4 S) S.length) js (t1.map (·.1)))
theorem D2 {P : Program} {c : j1} {fn : Func} {code : Code} (N : Nat) (hf : P.funcs[c.f]? = some fn) (S : List It) (tm : List (Nat × AV)) (k : ∀ {ι : Type} {φ ψ : Nat -> Prop} {w0 w : World} {F : ι -> Rs} {ρ0 ρ : Nat -> Value} {a : Act}, w6 φ ψ w0 F N c.pre.length ρ0 ρ S tm a w -> code.wp P (bodyPost P fn (aW5 φ ψ w0 F ρ0 c)) a w) (hb : fn.body = some code := by rfl) (hN : (fn.ntmps, c.pre, aB7 0 c.args) = (N, S, tm) := by kernel_rfl) (hw : (wfB c.pre (aB7 0 c.args) && decide (c.args.length <= N)) = true := by kernel_rfl) : c.ok P := by
 simp only [Prod.mk.injEq] at hN
 obtain ⟨h1, h2, h3⟩ := hN
 exact bl2 N hf hb h1 hw fun φ ψ w0 w F ρ0 ρ a G => k (ρ := ρ) (G.as S tm h2 h3)
def aT (x y : List (Nat × AV)) : List (Nat × AV) := x ++ y.filter fun p => !(x.any fun q => natEq q.1 p.1)
def HH (P : Program) (H : O7) : Prop := (∀ i c τ, J7 H.calls i = some (c, τ) -> c.ok P) /\ N0 H.facts
theorem d7 {P : Program} : HH P ⟨[], [], []⟩ := ⟨ae7, b70⟩
theorem n4 {P : Program} {c : j1} (i : Nat) (σ : List Nat) (h : c.ok P) : HH P ⟨[(i, c, σ)], [], []⟩ := ⟨aA3 h ae7, b70⟩
theorem y7 {P : Program} {f : List (Bool × Bool)} (h : N0 f) (u : List (Nat × Nat)) : HH P ⟨[], f, u⟩ := ⟨ae7, h⟩
def Cs (P : Program) (r : List (Nat × j1 × List Nat)) : Prop := ∀ i c τ, J7 r i = some (c, τ) -> c.ok P
theorem x7 {P : Program} : Cs P [] := ae7
theorem m8 {P : Program} {c : j1} {r : List (Nat × j1 × List Nat)} (i : Nat) (σ : List Nat) (h : c.ok P) (k : Cs P r) : Cs P ((i, c, σ) :: r) := aA3 h k
theorem x8 {P : Program} {r : List (Nat × j1 × List Nat)} {f : List (Bool × Bool)} (h : Cs P r) (h' : N0 f) (u : List (Nat × Nat)) : HH P ⟨r, f, u⟩ := ⟨h, h'⟩
section
variable {ι : Type} {P : Program} {φ ψ : Nat -> Prop} {w0 w : World} {F : ι -> Rs} {N m : Nat} {ρ0 ρ : Nat -> Value} {S : List It} {tm : List (Nat × AV)} {a : Act} {l : List Oper} {id : Nat} {Q : Exit -> Act -> World -> Prop} {H : O7}
theorem G8 (G : w6 φ ψ w0 F N m ρ0 ρ S tm a w) (hh : HH P H) (js : List Nat) (S1 : List It) (t1 : List (Nat × AV)) (o : List Prop) (ho : t6 o) (k : ∀ {ρ' a' w'}, w6 φ ψ w0 F N m ρ0 ρ' S1 t1 a' w' -> Q .normal a' w') (h : kL P N m l H tm S js S1 t1 = kR P N l H tm S o js S1 t1 := by kernel_rfl) : (Code.region id l.toArray false).wp P Q a w := rs1 (dk := dkP) G H hh.1 hh.2 js S1 t1 o ho (fun _ _ _ => k) (congrArg Prod.fst h) (congrArg Prod.snd h)
theorem j5 (G : w6 φ ψ w0 F N m ρ0 ρ S tm a w) (hh : HH P H) (js : List Nat) (S1 : List It) (t1 : List (Nat × AV)) (k : ∀ {ρ' a' w'}, w6 φ ψ w0 F N m ρ0 ρ' S1 t1 a' w' -> Q .normal a' w') (h : kL P N m l H tm S js S1 t1 = kR P N l H tm S [] js S1 t1 := by kernel_rfl) : (Code.region id l.toArray false).wp P Q a w := G8 G hh js S1 t1 [] b70 k h
theorem rB1 (G : w6 φ ψ w0 F N m ρ0 ρ S tm a w) (hh : HH P H) (t1 : List (Nat × AV)) (o : List Prop) (ho : t6 o) (k : ∀ {ρ' a' w'}, w6 φ ψ w0 F N m ρ0 ρ' S t1 a' w' -> Q .normal a' w') (h : kL P N m l H tm S (b82 S.length) S t1 = kR P N l H tm S o (b82 S.length) S t1 := by kernel_rfl) : (Code.region id l.toArray false).wp P Q a w := rs1 (dk := dkP) G H hh.1 hh.2 (b82 S.length) S t1 o ho (fun _ _ _ => k) (congrArg Prod.fst h) (congrArg Prod.snd h)
theorem A4 (G : w6 φ ψ w0 F N m ρ0 ρ S tm a w) (hh : HH P H) (t1 : List (Nat × AV)) (k : ∀ {ρ' a' w'}, w6 φ ψ w0 F N m ρ0 ρ' S t1 a' w' -> Q .normal a' w') (h : kL P N m l H tm S (b82 S.length) S t1 = kR P N l H tm S [] (b82 S.length) S t1 := by kernel_rfl) : (Code.region id l.toArray false).wp P Q a w := rB1 G hh t1 [] b70 k h
theorem G7 (G : w6 φ ψ w0 F N m ρ0 ρ S tm a w) (hh : HH P H) (t1 : List (Nat × AV)) (o : List Prop) (ho : t6 o) (k : ∀ {ρ' a' w'}, w6 φ ψ w0 F N m ρ0 ρ' S (aT t1 tm) a' w' -> Q .normal a' w') (h : kL P N m l H tm S (b82 S.length) S (aT t1 tm) = kR P N l H tm S o (b82 S.length) S (aT t1 tm) := by kernel_rfl) : (Code.region id l.toArray false).wp P Q a w := rs1 (dk := dkP) G H hh.1 hh.2 (b82 S.length) S (aT t1 tm) o ho (fun _ _ _ => k) (congrArg Prod.fst h) (congrArg Prod.snd h)
theorem j3 (G : w6 φ ψ w0 F N m ρ0 ρ S tm a w) (hh : HH P H) (t1 : List (Nat × AV)) (k : ∀ {ρ' a' w'}, w6 φ ψ w0 F N m ρ0 ρ' S (aT t1 tm) a' w' -> Q .normal a' w') (h : kL P N m l H tm S (b82 S.length) S (aT t1 tm) = kR P N l H tm S [] (b82 S.length) S (aT t1 tm) := by kernel_rfl) : (Code.region id l.toArray false).wp P Q a w := G7 G hh t1 [] b70 k h
theorem B2 (G : w6 φ ψ w0 F N m ρ0 ρ S tm a w) (hh : HH P H) (ms : List Nat) (js : List Nat) (S1 : List It) (t1 : List (Nat × AV)) (o : List Prop) (ho : t6 o) (k : ∀ {ρ' a' w'}, w6 φ ψ w0 F N m ρ0 ρ' S1 t1 a' w' -> Q .normal a' w') (hm : P.follows .mixedOrders = true := by kernel_rfl) (h : kM P N m l H ms tm S js S1 t1 = kR P N l H tm S o js S1 t1 := by kernel_rfl) : (Code.region id l.toArray true).wp P Q a w := rd1 (dk := dkP) G H hh.1 hh.2 ms js S1 t1 o ho (fun _ _ _ => k) hm (congrArg Prod.fst h) (congrArg Prod.snd h)
theorem ab6 (G : w6 φ ψ w0 F N m ρ0 ρ S tm a w) (hh : HH P H) (ms : List Nat) (js : List Nat) (S1 : List It) (t1 : List (Nat × AV)) (k : ∀ {ρ' a' w'}, w6 φ ψ w0 F N m ρ0 ρ' S1 t1 a' w' -> Q .normal a' w') (hm : P.follows .mixedOrders = true := by kernel_rfl) (h : kM P N m l H ms tm S js S1 t1 = kR P N l H tm S [] js S1 t1 := by kernel_rfl) : (Code.region id l.toArray true).wp P Q a w := B2 G hh ms js S1 t1 [] b70 k hm h
theorem aQ7 (G : w6 φ ψ w0 F N m ρ0 ρ S tm a w) (hh : HH P H) (ms : List Nat) (t1 : List (Nat × AV)) (o : List Prop) (ho : t6 o) (k : ∀ {ρ' a' w'}, w6 φ ψ w0 F N m ρ0 ρ' S (aT t1 tm) a' w' -> Q .normal a' w') (hm : P.follows .mixedOrders = true := by kernel_rfl) (h : kM P N m l H ms tm S (b82 S.length) S (aT t1 tm) = kR P N l H tm S o (b82 S.length) S (aT t1 tm) := by kernel_rfl) : (Code.region id l.toArray true).wp P Q a w := rd1 (dk := dkP) G H hh.1 hh.2 ms (b82 S.length) S (aT t1 tm) o ho (fun _ _ _ => k) hm (congrArg Prod.fst h) (congrArg Prod.snd h)
theorem bx1 (G : w6 φ ψ w0 F N m ρ0 ρ S tm a w) (hh : HH P H) (ms : List Nat) (t1 : List (Nat × AV)) (k : ∀ {ρ' a' w'}, w6 φ ψ w0 F N m ρ0 ρ' S (aT t1 tm) a' w' -> Q .normal a' w') (hm : P.follows .mixedOrders = true := by kernel_rfl) (h : kM P N m l H ms tm S (b82 S.length) S (aT t1 tm) = kR P N l H tm S [] (b82 S.length) S (aT t1 tm) := by kernel_rfl) : (Code.region id l.toArray true).wp P Q a w := aQ7 G hh ms t1 [] b70 k hm h
variable {c : Nat} {x y : Code}
theorem rcB {b : Bool} (G : w6 φ ψ w0 F N m ρ0 ρ S tm a w) (f : b = false -> y.wp P Q a w) (t : b = true -> x.wp P Q a w) (h : A1 tm c = some (.v (.bool b)) := by rfl) : (Code.cond (.tmp c) x y).wp P Q a w := ad7 G b h t f
theorem rcE {α : Type} [BEq α] [LawfulBEq α] {u v : α} (G : w6 φ ψ w0 F N m ρ0 ρ S tm a w) (f : (u == v) = false -> u ≠ v -> y.wp P Q a w) (t : (u == v) = true -> u = v -> x.wp P Q a w) (h : A1 tm c = some (.v (.bool (u == v))) := by rfl) : (Code.cond (.tmp c) x y).wp P Q a w := ad7 G _ h (fun q => t q (eq_of_beq q)) fun q => f q (ne_of_beq_false q)
theorem rcN {α : Type} [BEq α] [LawfulBEq α] {u v : α} (G : w6 φ ψ w0 F N m ρ0 ρ S tm a w) (f : (u != v) = false -> u = v -> y.wp P Q a w) (t : (u != v) = true -> u ≠ v -> x.wp P Q a w) (h : A1 tm c = some (.v (.bool (u != v))) := by rfl) : (Code.cond (.tmp c) x y).wp P Q a w := ad7 G _ h (fun q => t q (bne_iff_ne.1 q)) fun q => f q (bne_eq_false_iff_eq.1 q)
theorem S9 {p : Prop} [Decidable p] (G : w6 φ ψ w0 F N m ρ0 ρ S tm a w) (f : decide p = false -> ¬ p -> y.wp P Q a w) (t : decide p = true -> p -> x.wp P Q a w) (h : A1 tm c = some (.v (.bool (decide p))) := by rfl) : (Code.cond (.tmp c) x y).wp P Q a w := ad7 G _ h (fun q => t q (L2 q)) fun q => f q (L3 q)
end
section
variable {P : Program} {f : FuncId}
theorem O4 {args : List AV} {S : List It} {x : Value} (h : ∀ (φ : Nat -> Prop) (w : World) (ρ : Nat -> Value), (∀ i d, s4 S i = .dat d -> RD w φ d (ρ i)) -> Calls P f (AV.vals ρ args).toArray w fun e w' => e = .returned x /\ Below w.heap.size w w') : j1.ok P (F9 f args S (.v x)) := by
 intro ι φ ψ w0 w F ρ M
 refine (h (T8 φ (n8 F ρ (s4 S))) w ρ fun i d hi => M.datAt hi).mono ?_
 rintro e w' ⟨rfl, hb⟩
 exact ⟨ρ, fun _ _ => rfl, rfl, M.call hb⟩
end
theorem a73 {w : World} {φ : Nat -> Prop} {d : D} {v : Value} (h : RD w φ d v) : ∃ a cap, v = .slice a d.len cap /\ d.len <= 9223372036854775807 := by
 obtain ⟨a, cap, h1, h2, h3, _⟩ := h.open
 unfold maxLen at h3
 exact ⟨a, cap, h1, by omega⟩
theorem aM7 (l : Int) : j1.ok Tryz.prog (F9 57 [iA l] [] (bA (s9 l))) :=
 O4 fun φ w ρ _ => (Q1 l w).mono fun e w' h => ⟨h.1, h.2 ▸ Below.refl _ _⟩
theorem y8 (n lo hi : Int) : j1.ok Tryz.prog (F9 61 [iA n, iA lo, iA hi] [] (bA (decide (lo <= n) && decide (n <= hi)))) :=
 O4 fun φ w ρ _ => (B5 n lo hi w).mono fun e w' h => ⟨h.1, h.2 ▸ Below.refl _ _⟩
theorem ap6 (p : j0) : j1.ok Tryz.prog (F9 35 [pA 0] (pS p) (bA (C9 p.vars p.arrays))) :=
 O4 fun φ w ρ h => aI8 (ρ 0) (ρ 1) (ρ 2) _ _ w (z8.row (h 0 _ rfl)) (z8.row (h 1 _ rfl))
theorem aB2 (vs ars : List Int) : j1.ok Tryz.prog (F9 33 [.ref 0, .ref 1] [.dat (.ints vs), .dat (.ints ars)] (bA (C9 vs ars))) :=
 O4 fun φ w ρ h => (aC3 (ρ 0) (ρ 1) _ _ w (z8.row (h 0 _ rfl)) (z8.row (h 1 _ rfl))).mono fun e w' h => ⟨h.1, h.2 ▸ Below.refl _ _⟩
theorem Q4 (p : j0) (e : b7) : j1.ok Tryz.prog (F9 98 [pA 0, eA e 3] (pS p ++ eS e) (bA (j8 p.vars.length p.arrays.length e))) :=
 O4 fun φ w ρ h => by
  obtain ⟨a1, c1, h1, l1⟩ := a73 (h 0 _ rfl)
  obtain ⟨a2, c2, h2, l2⟩ := a73 (h 1 _ rfl)
  simp only [AV.vals, AV.val, h1, h2]
  exact bd8 a1 a2 _ c1 _ c2 (ρ 2) l1 l2 e φ _ w ⟨_, rfl, h 3 _ rfl⟩
theorem ap7 (e : b7) : j1.ok Tryz.prog (F9 99 [eA e 0] (eS e) (bA (J0 e))) :=
 O4 fun φ w ρ h => al0 e.kind e.value (ρ 0) w
theorem ax8 (a b : List b5) : S0 (a ++ b) = S0 a + S0 b := by
 induction a with
 | nil => simp [S0]
 | cons x r ih => simp [S0, ih]; omega
theorem bd1 {ss : List b5} {k : Nat} (h : k < ss.length) : S0 (ss.take (k + 1)) = S0 (ss.take k) + nS ss[k] := by
 rw [B1 _ _ h, ax8]; simp [S0]
theorem as1 (ss : List b5) (k : Nat) : S0 (ss.take k) <= S0 ss := by
 have := ax8 (ss.take k) (ss.drop k)
 rw [List.take_append_drop] at this
 omega
theorem Y0 (s : b5) : nS s = 1 + S0 s.body + S0 s.els := by cases s; simp only [nS]; rfl
theorem R7 {nv na d : Nat} {s : b5} (h : j4 nv na (d + 1) s = true) : s.body.all (j4 nv na d) = true /\ s.els.all (j4 nv na d) = true := by
 rw [j4, b57] at h
 obtain ⟨h1, h2⟩ := h
 unfold m6 at h1
 by_cases k3 : s.kind = 3
 ·rw [if_neg (by omega), if_neg (by omega), if_pos k3] at h2
  simp only [b57] at h2
  exact ⟨h2.1.2, h2.2⟩
 by_cases k4 : s.kind = 4
 ·rw [if_neg (by omega), if_neg (by omega), if_neg (by omega), if_pos k4] at h2
  rw [if_pos (.inr k4), if_pos k4] at h1
  simp only [b57, decide_eq_true_eq] at h1
  exact ⟨h2, by rw [b84 h1.2.1.1.1.1]; rfl⟩
 rw [if_neg (by omega)] at h1
 simp only [b57, decide_eq_true_eq] at h1
 exact ⟨by rw [b84 h1.1.1.1]; rfl, by rw [b84 h1.1.1.2]; rfl⟩
theorem aE6 (s : b5) : p9 s.body <= szS s /\ p9 s.els <= szS s := by
 rcases s with ⟨_, _, _, _, _, b, e⟩
 simp only [szS, b5.body, b5.els]
 omega
theorem aT3 {nv na : Nat} : ∀ {ss : List b5}, (∀ s ∈ ss, j4 nv na 1 s = true) -> S0 ss = ss.length
 | [], _ => rfl
 | s :: r, h => by
  have h1 := R7 (h s b72)
  have key : ∀ l : List b5, l.all (j4 nv na 0) = true -> l = [] := fun l hl => by
   cases l with
   | nil => rfl
   | cons a r => simp [j4] at hl
  have h2 := aT3 (ss := r) fun x hx => h x (b80 _ hx)
  rw [S0, Y0, key _ h1.1, key _ h1.2, h2]
  simp [S0]; omega
def aX0 (x y : Int) : Int := IntKind.i64.wrap ((BitVec.ofInt (IntKind.bits .i64) x ^^^ BitVec.ofInt (IntKind.bits .i64) y).toNat : Int)
theorem j1.dup {P : Program} {f : FuncId} {args args' : List AV} {S S' : List It} {d : D} {res : AV} {i : Nat} (hc : j1.ok P ⟨f, args, S ++ [.dat d], S' ++ [.dat d], res⟩) (hi : S[i]? = some (.dat d)) (hl : S'.length = S.length)
  (hS : S.all (fun x => W7 S.length x.ids) = true) (ha : ∀ ρ : Nat -> Value, ρ S.length = ρ i -> AV.vals ρ args = AV.vals ρ args') (hg : W7 S.length (AV.idsL args') = true) : j1.ok P ⟨f, args', S, S', res⟩ := by
 intro ι φ ψ w0 w F ρ M
 have hi' : s4 S i = .dat d := by simp [s4, hi]
 have hlt : i < S.length := (b66.1 hi).1
 have hinv : Inv (s4 S) ρ [S.length] := fun ρ' h j => by
  by_cases hj : j < S.length
  ·refine It.res_congr _ (fun k hk => h k ?_) (.inr (.inr (h j (by simp; omega))))
   have h1 := H3 (b68.1 hS (S[j]) (b64 hj)) k (by simpa [s4, b59, b56 hj] using hk)
   simp; omega
  rw [show s4 S j = .none by simp only [s4, b59, b87 (Nat.le_of_not_lt hj)]; rfl]; rfl
 obtain ⟨ρ', h1, M1, h2⟩ := M.newDat (id := S.length) (by simp [s4]) hinv (M.datAt hi')
 have e : m7 (s4 S) [(S.length, .dat d)] = s4 (S ++ [.dat d]) := by
  funext j
  simp only [m7, s4, b59]
  by_cases hj : j = S.length
  ·subst hj; simp
  rw [if_neg hj]
  by_cases hj2 : j < S.length
  ·rw [b95 hj2]
  rw [b87 (by omega), b87 (by simp; omega)]
 rw [e] at M1
 have hρ : ρ' i = ρ i := h1 i (by simp; omega)
 have ea : AV.vals ρ args' = AV.vals ρ' args := by
  rw [ha ρ' (by rw [<- h2, hρ])]
  exact (AV.vals_congr _ fun k hk => by
   have := H3 hg k hk
   exact h1 k (by simp; omega)).symm
 simp only
 rw [ea]
 refine (hc ι φ ψ w0 w F ρ' M1).mono ?_
 rintro x w' ⟨ρ2, g1, g2, M2⟩
 refine ⟨ρ2, fun k hk => ?_, g2, ?_⟩
 ·rw [g1 k (by simp; omega)]; exact h1 k (by simp; omega)
 refine M2.map (fun k => match k with | .inl i => some (.inl i) | .inr j => if j < S'.length then some (.inr j) else none) ?_ ?_
 ·intro k k' x h1 h2
  match k, k' with
  | .inl i, .inl i' => simp at h1 h2; rw [h1, h2]
  | .inl i, .inr j => simp at h1; subst h1; simp at h2
  | .inr j, .inl i => simp at h2; subst h2; simp at h1
  | .inr j, .inr j' => simp at h1 h2; rw [<- h1.2] at h2; rw [Sum.inr.inj h2.2]
 intro k
 match k with
 | .inl i => exact .inl ⟨.inl i, rfl, rfl⟩
 | .inr j =>
  by_cases hj : j < S'.length
  ·refine .inl ⟨.inr j, by simp [hj], ?_⟩
   simp only [n8, s4, b59, b95 hj]
  refine .inr ?_
  simp only [n8, s4, b59, b87 (Nat.le_of_not_lt hj)]
  rfl
def pkX (b : List UInt8) (k : Int) : Int := ((b.getD (k.tmod b.length).toNat 0).toNat : Int) * 131 + ((b.getD ((k * 7 + 3).tmod b.length).toNat 0).toNat : Int) * 1117 + k * 29 + k.tdiv b.length * 53
def pk (b : List UInt8) (k n : Int) : Int :=
 if n < 1 \/ b.length = 0 then 0 else if k < b.length then ((b.getD k.toNat 0).toNat : Int).tmod n else (aX0 (pkX b k) ((pkX b k).tdiv 64)).tmod n
def nm (b : List UInt8) (k : Int) (l : List Int) : Int := l.getD (pk b k l.length).toNat 0
theorem bu8 {x y : Int} (hx : 0 <= x) (hx2 : x < 9223372036854775808) (hy : 0 <= y) (hy2 : y < 9223372036854775808) : 0 <= aX0 x y := by
 obtain ⟨a, rfl⟩ := Int.eq_ofNat_of_zero_le hx
 obtain ⟨c, rfl⟩ := Int.eq_ofNat_of_zero_le hy
 have ha : a < 2 ^ 63 := by omega
 have hc : c < 2 ^ 63 := by omega
 have h : (BitVec.ofInt (IntKind.bits .i64) (a : Int) ^^^ BitVec.ofInt (IntKind.bits .i64) (c : Int)).toNat < 2 ^ 63 := by
  rw [BitVec.toNat_xor]
  refine Nat.xor_lt_two_pow ?_ ?_
  ·simp only [BitVec.ofInt_natCast, BitVec.toNat_ofNat, IntKind.bits]; omega
  simp only [BitVec.ofInt_natCast, BitVec.toNat_ofNat, IntKind.bits]; omega
 unfold aX0
 generalize (BitVec.ofInt (IntKind.bits .i64) (a : Int) ^^^ BitVec.ofInt (IntKind.bits .i64) (c : Int)).toNat = z at h ⊢
 rw [w64 (by omega) (by omega)]
 omega
theorem aO9 (x : UInt8) : ((x.toNat : Nat) : Int) <= 255 := by have := x.toNat_lt; omega
theorem aP0 {k n : Int} (hk : 0 <= k) (hn : 1 <= n) : 0 <= k.tdiv n /\ k.tdiv n <= k := by
 refine ⟨Int.tdiv_nonneg hk (by omega), ?_⟩
 rw [Int.tdiv_eq_ediv_of_nonneg hk]
 exact Int.ediv_le_self _ hk
theorem aR3 {b : List UInt8} {k : Int} (hk : 0 <= k) (hk2 : k <= 1000000000) (hb : b.length ≠ 0) : 0 <= pkX b k /\ pkX b k <= 100000000000 := by
 unfold pkX
 have h1 := aO9 (b.getD (k.tmod b.length).toNat 0)
 have h2 := aO9 (b.getD ((k * 7 + 3).tmod b.length).toNat 0)
 have h3 := aP0 (n := b.length) hk (by omega)
 omega
theorem aX3 {x n : Int} (hx : 0 <= x) (hn : 1 <= n) : 0 <= x.tmod n /\ x.tmod n < n := ⟨Int.tmod_nonneg _ hx, Int.tmod_lt_of_pos _ (by omega)⟩
theorem bE2 {b : List UInt8} {k : Int} (hk : 0 <= k) (hk2 : k <= 1000000000) (hb : b.length ≠ 0) : 0 <= (pkX b k).tdiv 64 /\ (pkX b k).tdiv 64 <= 100000000000 := by
 have h := aR3 hk hk2 hb
 have h2 := aP0 (n := 64) h.1 (by omega)
 omega
theorem bx4 (b : List UInt8) {k n : Int} (hk : 0 <= k) (hk2 : k <= 1000000000) (hn : 1 <= n) : 0 <= pk b k n /\ pk b k n < n := by
 unfold pk
 split
 ·omega
 split
 ·exact aX3 (by omega) hn
 have h := aR3 hk hk2 (show b.length ≠ 0 by omega)
 have h2 := bE2 hk hk2 (show b.length ≠ 0 by omega)
 exact aX3 (bu8 h.1 (by omega) h2.1 (by omega)) hn
theorem a90 (b : List UInt8) {k : Int} (hk : 0 <= k) (hk2 : k <= 1000000000) {l : List Int} (hl : l ≠ []) : 0 <= pk b k l.length /\ pk b k l.length < l.length /\ (pk b k l.length).toNat < l.length := by
 have h0 : 0 < l.length := List.length_pos_iff.2 hl
 have h := bx4 b (n := l.length) hk hk2 (by omega)
 omega
theorem aK7 (b : List UInt8) {k : Int} (hk : 0 <= k) (hk2 : k <= 1000000000) {l : List Int} (hl : l ≠ []) : nm b k l ∈ l := by
 unfold nm
 rw [m9 (a90 b hk hk2 hl).2.2]
 exact b64 _
abbrev l1L : List Int := [-1] ++ ([4] ++ ([9223372036854775807] ++ ([-9223372036854775808] ++ [])))
def l1D (b : List UInt8) (k : Int) : Int := if pk b k 12 = 0 then nm b (k + 1) l1L else pk b (k + 1) 4
def G0 {α : Type} (f : Int -> α × Int) : Nat -> Int -> List α × Int
 | 0, k => ([], k)
 | n + 1, k => ((G0 f n k).1 ++ [(f (G0 f n k).2).1], (f (G0 f n k).2).2)
theorem aL9 {α : Type} (f : Int -> α × Int) (n : Nat) (k : Int) : (G0 f n k).1.length = n := by
 induction n with
 | zero => rfl
 | succ n ih => simp [G0, ih]
theorem br4 {α : Type} {f : Int -> α × Int} {c : Int} (hc : 0 <= c) {m : Nat} : ∀ (n : Nat) (k : Int), n <= m -> (∀ j, k <= j -> j <= k + m * c -> j <= (f j).2 /\ (f j).2 <= j + c) -> k <= (G0 f n k).2 /\ (G0 f n k).2 <= k + n * c := by
 intro n
 induction n with
 | zero => intro k _ _; simp [G0]
 | succ n ih =>
  intro k hm h
  have h1 := ih k (by omega) h
  have e : ((n + 1 : Nat) : Int) * c = n * c + c := by rw [Int.natCast_add, Int.add_mul]; simp
  have h3 : ((n + 1 : Nat) : Int) * c <= m * c := ca0 (by omega) hc
  have h2 := h (G0 f n k).2 h1.1 (by omega)
  simp only [G0]
  rw [e]
  omega
theorem bz8 {α : Type} {f : Int -> α × Int} {Q : α -> Prop} (h : ∀ j, Q (f j).1) (n : Nat) (k : Int) : ∀ x ∈ (G0 f n k).1, Q x := by
 induction n with
 | zero => intro x hx; cases hx
 | succ n ih =>
  intro x hx
  simp only [G0, b73, List.mem_singleton] at hx
  rcases hx with hx | rfl
  ·exact ih x hx
  exact h _
abbrev atL : List Int := [1] ++ ([0] ++ ([2] ++ ([3] ++ ([255] ++ ([7] ++ ([128] ++ []))))))
def n9 (b : List UInt8) (nv : Int) (k : Int) : b7 := if pk b k 3 = 0 then ⟨1, nm b (k + 1) atL, []⟩ else ⟨2, pk b (k + 1) nv, []⟩
abbrev L0 : List Int := [4] ++ ([10] ++ ([8] ++ ([9] ++ ([3] ++ ([6] ++ ([7] ++ ([5] ++ ([11] ++ []))))))))
def K0 (b : List UInt8) (nv na : Int) : Nat -> Int -> b7 × Int
 | 0, k => (n9 b nv k, k + 2)
 | d + 1, k => if d = 0 then (n9 b nv k, k + 2) else if pk b k 4 = 0 then (n9 b nv (k + 1), k + 3)
  else if nm b (k + 1) L0 = 3 then (if na = 0 then (n9 b nv (k + 2), k + 4) else (⟨3, pk b (k + 2) na, [n9 b nv (k + 3)]⟩, k + 5))
  else (⟨nm b (k + 1) L0, 0, (G0 (K0 b nv na d) (j9 (nm b (k + 1) L0)).toNat (k + 2)).1⟩, (G0 (K0 b nv na d) (j9 (nm b (k + 1) L0)).toNat (k + 2)).2)
def cE : Nat -> Int
 | 0 => 2
 | d + 1 => 5 + 3 * cE d
theorem aB3 (d : Nat) : 2 <= cE d := by
 induction d with
 | zero => exact Int.le_refl _
 | succ d ih => simp only [cE]; omega
theorem ar3 (k : Int) : (j9 k).toNat <= 3 := by unfold j9; (repeat' split) <;> decide
theorem aU2 (b : List UInt8) (nv na : Int) : ∀ (d : Nat) (k : Int), k <= (K0 b nv na d k).2 /\ (K0 b nv na d k).2 <= k + cE d
 | 0, k => by simp only [K0, cE]; omega
 | d + 1, k => by
  have hc := aB3 d
  rw [K0]
  simp only [cE]
  split
  ·simp only; omega
  split
  ·simp only; omega
  split
  ·split <;> (simp only; omega)
  have h3 := ar3 (nm b (k + 1) L0)
  have h := br4 (f := K0 b nv na d) (c := cE d) (m := 3) (by omega) (j9 (nm b (k + 1) L0)).toNat (k + 2) h3 fun j _ _ => aU2 b nv na d j
  have h4 : ((j9 (nm b (k + 1) L0)).toNat : Int) * cE d <= 3 * cE d := ca0 (by omega) (by omega)
  simp only
  omega
theorem a59 {c : Nat} : ∀ {l : List b7}, (∀ x ∈ l, L8 x <= c) -> s2 l <= l.length * (1 + c)
 | [], _ => b92 _
 | e :: r, h => by
  have h1 := h e (b72 ..)
  have h2 := a59 (l := r) fun x hx => h x (b80 _ hx)
  simp only [s2, b58]
  rw [Nat.add_mul]
  omega
theorem br5 (b : List UInt8) (nv na : Int) : ∀ (d : Nat) (k : Int), (L8 (K0 b nv na d k).1 : Int) <= cE d
 | 0, k => by
  simp only [K0, cE, n9]
  split <;> simp [L8, s2]
 | d + 1, k => by
  have hc := aB3 d
  have ha : ∀ j, L8 (n9 b nv j) = 0 := fun j => by unfold n9; split <;> rfl
  rw [K0]
  simp only [cE]
  split
  ·simp only [ha]; omega
  split
  ·simp only [ha]; omega
  split
  ·split
   ·simp only [ha]; omega
   simp only [L8, s2, ha]; omega
  have h3 := ar3 (nm b (k + 1) L0)
  have h1 := bz8 (f := K0 b nv na d) (Q := fun x => L8 x <= (cE d).toNat) (fun j => by have := br5 b nv na d j; omega) (j9 (nm b (k + 1) L0)).toNat (k + 2)
  have h2 := a59 h1
  rw [aL9] at h2
  simp only [L8]
  have h4 := b96 (1 + (cE d).toNat) h3
  omega
abbrev dpL : List Int := [2] ++ ([3] ++ ([2] ++ ([1] ++ ([4] ++ []))))
def v8 (b : List UInt8) (nv na : Nat) (k : Int) : b7 × Int :=
 if j8 nv na (K0 b nv na (nm b k dpL).toNat (k + 1)).1 = true then K0 b nv na (nm b k dpL).toNat (k + 1)
 else (n9 b nv (K0 b nv na (nm b k dpL).toNat (k + 1)).2, (K0 b nv na (nm b k dpL).toNat (k + 1)).2 + 2)
theorem cE4 {d : Nat} (h : d <= 4) : cE d <= 364 := by
 match d, h with
 | 0, _ => decide
 | 1, _ => decide
 | 2, _ => decide
 | 3, _ => decide
 | 4, _ => decide
theorem dp4 (b : List UInt8) {k : Int} (hk : 0 <= k) (hk2 : k <= 1000000000) : 1 <= nm b k dpL /\ nm b k dpL <= 4 /\ (nm b k dpL).toNat <= 4 := by
 have h := aK7 b hk hk2 (l := dpL) (by simp)
 simp only [b73, b76, b98, or_false] at h
 omega
theorem bN1 (b : List UInt8) {k : Int} (hk : 0 <= k) (hk2 : k <= 1000000000) : nm b k dpL = ((nm b k dpL).toNat : Int) := by have := dp4 b hk hk2; omega
theorem a66 (b : List UInt8) (nv na : Nat) {k : Int} (hk : 0 <= k) (hk2 : k <= 1000000000) : k <= (v8 b nv na k).2 /\ (v8 b nv na k).2 <= k + 367 := by
 have h := aU2 b nv na (nm b k dpL).toNat (k + 1)
 have h2 := cE4 (dp4 b hk hk2).2.2
 unfold v8
 split
 ·omega
 simp only; omega
theorem aV9 (b : List UInt8) (nv j : Int) : L8 (n9 b nv j) = 0 := by unfold n9; split <;> rfl
theorem aY2 (b : List UInt8) (nv na : Nat) {k : Int} (hk : 0 <= k) (hk2 : k <= 1000000000) : L8 (v8 b nv na k).1 <= 364 := by
 have h := br5 b nv na (nm b k dpL).toNat (k + 1)
 have h2 := cE4 (dp4 b hk hk2).2.2
 unfold v8
 split
 ·omega
 rw [aV9]; omega
abbrev noE : b7 := ⟨0, 0, []⟩
abbrev J3 : List Int := [1] ++ ([1] ++ ([2] ++ ([3] ++ ([4] ++ ([1] ++ ([3] ++ ([5] ++ [])))))))
abbrev ibL : List Int := [1] ++ ([2] ++ ([1] ++ ([0] ++ [])))
abbrev ieL : List Int := [0] ++ ([1] ++ ([0] ++ ([2] ++ [])))
abbrev rcL : List Int := [2] ++ ([1] ++ ([3] ++ []))
abbrev rbL : List Int := [1] ++ ([2] ++ ([1] ++ []))
def dfS (b : List UInt8) (nv na : Nat) (kd k : Int) : b5 × Int := (⟨if kd = 5 then 5 else 1, pk b k nv, noE, (v8 b nv na (k + 1)).1, 0, [], []⟩, (v8 b nv na (k + 1)).2)
def soS (b : List UInt8) (nv na : Nat) (k : Int) : b5 × Int := (⟨2, pk b k na, n9 b nv (k + 1), (v8 b nv na (k + 1 + 2)).1, 0, [], []⟩, (v8 b nv na (k + 1 + 2)).2)
def mnD (b : List UInt8) (f : Int -> b5 × Int) (l : List Int) (k : Int) : List b5 × Int := G0 f (nm b k l).toNat (k + 1)
def ifS (b : List UInt8) (nv na : Nat) (f : Int -> b5 × Int) (k : Int) : b5 × Int :=
 (⟨3, 0, noE, (v8 b nv na k).1, 0, (mnD b f ibL (v8 b nv na k).2).1, (mnD b f ieL (mnD b f ibL (v8 b nv na k).2).2).1⟩, (mnD b f ieL (mnD b f ibL (v8 b nv na k).2).2).2)
def rpS (b : List UInt8) (f : Int -> b5 × Int) (k : Int) : b5 × Int := (⟨4, 0, noE, noE, nm b k rcL, (mnD b f rbL (k + 1)).1, []⟩, (mnD b f rbL (k + 1)).2)
def C1 (b : List UInt8) (nv na : Nat) : Nat -> Int -> b5 × Int
 | 0, k => if nm b k J3 = 2 /\ na ≠ 0 then soS b nv na (k + 1) else dfS b nv na (nm b k J3) (k + 1)
 | d + 1, k => if nm b k J3 = 2 /\ na ≠ 0 then soS b nv na (k + 1) else if nm b k J3 = 3 /\ d ≠ 0 then ifS b nv na (C1 b nv na d) (k + 1) else if nm b k J3 = 4 /\ d ≠ 0 then rpS b (C1 b nv na d) (k + 1)
  else dfS b nv na (nm b k J3) (k + 1)
def cS : Nat -> Int
 | 0 => 402
 | d + 1 => 402 + 4 * cS d
theorem as5 (d : Nat) : 402 <= cS d := by
 induction d with
 | zero => exact Int.le_refl _
 | succ d ih => simp only [cS]; omega
section
variable (b : List UInt8) (nv na : Nat) {k : Int}
theorem bG2 (kd : Int) (hk : 0 <= k) (hk2 : k + 400 <= 1000000000) : k <= (dfS b nv na kd k).2 /\ (dfS b nv na kd k).2 <= k + 368 := by
 have h := a66 b nv na (k := k + 1) (by omega) (by omega)
 simp only [dfS]; omega
theorem bD2 (hk : 0 <= k) (hk2 : k + 400 <= 1000000000) : k <= (soS b nv na k).2 /\ (soS b nv na k).2 <= k + 370 := by
 have h := a66 b nv na (k := k + 1 + 2) (by omega) (by omega)
 simp only [soS]; omega
theorem nm2 {l : List Int} (hl : l ≠ []) (h : ∀ x ∈ l, 0 <= x /\ x <= 2) (hk : 0 <= k) (hk2 : k <= 1000000000) : (nm b k l).toNat <= 2 /\ nm b k l = ((nm b k l).toNat : Int) := by
 have := h _ (aK7 b hk hk2 hl); omega
theorem bn5 {f : Int -> b5 × Int} {c : Int} {l : List Int} (hl : l ≠ []) (h : ∀ x ∈ l, 0 <= x /\ x <= 2) (hc : 0 <= c) (hk : 0 <= k) (hk2 : k + 1 + 2 * c <= 1000000000) (hf : ∀ j, 0 <= j -> j + c <= 1000000000 -> j <= (f j).2 /\ (f j).2 <= j + c) : k <= (mnD b f l k).2 /\ (mnD b f l k).2 <= k + 1 + 2 * c := by
 have h2 := (nm2 b hl h hk (by omega)).1
 have h3 : ∀ m : Nat, m <= 2 -> k + 1 <= (G0 f m (k + 1)).2 /\ (G0 f m (k + 1)).2 <= k + 1 + m * c := by
  intro m
  induction m with
  | zero => intro _; simp [G0]
  | succ m ih =>
   intro hm
   have h4 := ih (by omega)
   have h6 : (m : Int) * c <= 1 * c := ca0 (by omega) hc
   have h5 := hf (G0 f m (k + 1)).2 (by omega) (by omega)
   have e : ((m + 1 : Nat) : Int) * c = m * c + c := by rw [Int.natCast_add, Int.add_mul]; simp
   simp only [G0]
   rw [e]
   omega
 have h4 := h3 _ h2
 have h6 : ((nm b k l).toNat : Int) * c <= 2 * c := ca0 (by omega) hc
 unfold mnD
 omega
theorem a12 : ∀ x : Int, x ∈ ibL -> 0 <= x /\ x <= 2 := by intro x hx; simp only [b73, b76, b98, or_false] at hx; omega
theorem a09 : ∀ x : Int, x ∈ ieL -> 0 <= x /\ x <= 2 := by intro x hx; simp only [b73, b76, b98, or_false] at hx; omega
theorem aY9 : ∀ x : Int, x ∈ rbL -> 0 <= x /\ x <= 2 := by intro x hx; simp only [b73, b76, b98, or_false] at hx; omega
theorem bF3 {f : Int -> b5 × Int} {c : Int} (hc : 0 <= c) (hk : 0 <= k) (hk2 : k + 380 + 4 * c <= 1000000000) (hf : ∀ j, 0 <= j -> j + c <= 1000000000 -> j <= (f j).2 /\ (f j).2 <= j + c) : k <= (v8 b nv na k).2 /\ (v8 b nv na k).2 <= k + 367 /\ (v8 b nv na k).2 <= (mnD b f ibL (v8 b nv na k).2).2 /\ (mnD b f ibL (v8 b nv na k).2).2 <= k + 370 + 2 * c /\ k <= (ifS b nv na f k).2 /\ (ifS b nv na f k).2 <= k + 380 + 4 * c := by
 have h1 := a66 b nv na (k := k) (by omega) (by omega)
 have h2 := bn5 b (k := (v8 b nv na k).2) (f := f) (c := c) (l := ibL) (by simp) a12 hc (by omega) (by omega) hf
 have h3 := bn5 b (k := (mnD b f ibL (v8 b nv na k).2).2) (f := f) (c := c) (l := ieL) (by simp) a09 hc (by omega) (by omega) hf
 simp only [ifS]
 omega
theorem bS2 {f : Int -> b5 × Int} {c : Int} (hc : 0 <= c) (hk : 0 <= k) (hk2 : k + 10 + 2 * c <= 1000000000) (hf : ∀ j, 0 <= j -> j + c <= 1000000000 -> j <= (f j).2 /\ (f j).2 <= j + c) : k <= (rpS b f k).2 /\ (rpS b f k).2 <= k + 10 + 2 * c := by
 have h2 := bn5 b (k := k + 1) (f := f) (c := c) (l := rbL) (by simp) aY9 hc (by omega) (by omega) hf
 simp only [rpS]; omega
theorem aP3 : ∀ (d : Nat) (k : Int), 0 <= k -> k + cS d <= 1000000000 -> k <= (C1 b nv na d k).2 /\ (C1 b nv na d k).2 <= k + cS d
 | 0, k, hk, hk2 => by
  rw [C1]
  simp only [cS] at hk2 ⊢
  have h1 := bD2 b nv na (k := k + 1) (by omega) (by omega)
  have h2 := bG2 b nv na (k := k + 1) (nm b k J3) (by omega) (by omega)
  split <;> omega
 | d + 1, k, hk, hk2 => by
  rw [C1]
  simp only [cS] at hk2 ⊢
  have hc := as5 d
  have ih := aP3 d
  have h1 := bD2 b nv na (k := k + 1) (by omega) (by omega)
  have h2 := bG2 b nv na (k := k + 1) (nm b k J3) (by omega) (by omega)
  have h3 := bF3 b nv na (k := k + 1) (f := C1 b nv na d) (c := cS d) (by omega) (by omega) (by omega) ih
  have h4 := bS2 b (k := k + 1) (f := C1 b nv na d) (c := cS d) (by omega) (by omega) (by omega) ih
  (repeat' split) <;> omega
theorem a01 : L8 noE = 0 := rfl
theorem br8 (kd : Int) (hk : 0 <= k) (hk2 : k + 400 <= 1000000000) : szS (dfS b nv na kd k).1 <= 364 := by
 have h := aY2 b nv na (k := k + 1) (by omega) (by omega)
 simp only [dfS, szS, p9, a01]; omega
theorem bj8 (hk : 0 <= k) (hk2 : k + 400 <= 1000000000) : szS (soS b nv na k).1 <= 364 := by
 have h := aY2 b nv na (k := k + 1 + 2) (by omega) (by omega)
 simp only [soS, szS, p9, aV9]; omega
def Drw (f : Int -> b5 × Int) (c : Int) : Prop := ∀ j, 0 <= j -> j + c <= 1000000000 -> j <= (f j).2 /\ (f j).2 <= j + c /\ (szS (f j).1 : Int) <= c
theorem aL8 {f : Int -> b5 × Int} {c : Int} (hc : 0 <= c) (hf : Drw f c) : ∀ (m : Nat) (k : Int), 0 <= k -> k + m * c <= 1000000000 -> k <= (G0 f m k).2 /\ (G0 f m k).2 <= k + m * c /\ (p9 (G0 f m k).1 : Int) <= m * (1 + c) := by
 intro m
 induction m with
 | zero => intro k _ _; simp [G0, p9]
 | succ m ih =>
  intro k hk hk2
  have e : ((m + 1 : Nat) : Int) * c = m * c + c := by rw [Int.natCast_add, Int.add_mul]; simp
  have e2 : ((m + 1 : Nat) : Int) * (1 + c) = m * (1 + c) + (1 + c) := by rw [Int.natCast_add, Int.add_mul]; simp
  rw [e] at hk2
  have h4 := ih k hk (by omega)
  have h5 := hf (G0 f m k).2 (by omega) (by omega)
  have h6 : p9 ((G0 f m k).1 ++ [(f (G0 f m k).2).1]) = p9 (G0 f m k).1 + (1 + szS (f (G0 f m k).2).1) := by
   generalize (G0 f m k).1 = l
   induction l with
   | nil => simp [p9]
   | cons a r ih => simp only [List.cons_append, p9]; omega
  simp only [G0]
  rw [e, e2, h6]
  omega
theorem a04 {f : Int -> b5 × Int} {c : Int} {l : List Int} (hl : l ≠ []) (h : ∀ x ∈ l, 0 <= x /\ x <= 2) (hc : 0 <= c) (hk : 0 <= k) (hk2 : k + 1 + 2 * c <= 1000000000) (hf : Drw f c) : (p9 (mnD b f l k).1 : Int) <= 2 * (1 + c) := by
 have h2 := (nm2 b hl h hk (by omega)).1
 have h6 : ((nm b k l).toNat : Int) * c <= 2 * c := ca0 (by omega) hc
 have h7 : ((nm b k l).toNat : Int) * (1 + c) <= 2 * (1 + c) := ca0 (by omega) (by omega)
 have h3 := (aL8 hc hf (nm b k l).toNat (k + 1) (by omega) (by omega)).2.2
 unfold mnD
 omega
theorem aY0 : ∀ (d : Nat) (k : Int), 0 <= k -> k + cS d <= 1000000000 -> (szS (C1 b nv na d k).1 : Int) <= cS d
 | 0, k, hk, hk2 => by
  rw [C1]
  simp only [cS] at hk2 ⊢
  have h1 := bj8 b nv na (k := k + 1) (by omega) (by omega)
  have h2 := br8 b nv na (k := k + 1) (nm b k J3) (by omega) (by omega)
  split <;> omega
 | d + 1, k, hk, hk2 => by
  rw [C1]
  simp only [cS] at hk2 ⊢
  have hc := as5 d
  have ih := aP3 b nv na d
  have hf : Drw (C1 b nv na d) (cS d) := fun j h1 h2 => ⟨(ih j h1 h2).1, (ih j h1 h2).2, aY0 d j h1 h2⟩
  have h1 := bj8 b nv na (k := k + 1) (by omega) (by omega)
  have h2 := br8 b nv na (k := k + 1) (nm b k J3) (by omega) (by omega)
  have h3 := bF3 b nv na (k := k + 1) (f := C1 b nv na d) (c := cS d) (by omega) (by omega) (by omega) ih
  have h4 := aY2 b nv na (k := k + 1) (by omega) (by omega)
  have h5 := a04 b (k := (v8 b nv na (k + 1)).2) (l := ibL) (by simp) a12 (by omega) (by omega) (by omega) hf
  have h6 := a04 b (k := (mnD b (C1 b nv na d) ibL (v8 b nv na (k + 1)).2).2) (l := ieL) (by simp) a09 (by omega) (by omega) (by omega) hf
  have h7 := a04 b (k := k + 1 + 1) (l := rbL) (by simp) aY9 (by omega) (by omega) (by omega) hf
  split
  ·omega
  split
  ·simp only [ifS, szS, a01]; omega
  split
  ·simp only [rpS, szS, a01, p9]; omega
  omega
theorem bV4 (d : Nat) : Drw (C1 b nv na d) (cS d) := fun j h1 h2 => ⟨(aP3 b nv na d j h1 h2).1, (aP3 b nv na d j h1 h2).2, aY0 b nv na d j h1 h2⟩
theorem bG6 {d m i : Nat} {B : Int} (hB : (m : Int) * cS d <= B) (hi : i <= m) (hk : 0 <= k) (hk2 : k + B <= 1000000000) : k <= (G0 (C1 b nv na d) i k).2 /\ (G0 (C1 b nv na d) i k).2 <= k + B := by
 have hc := as5 d
 have h6 : (i : Int) * cS d <= m * cS d := ca0 (by omega) (by omega)
 have h := aL8 (by omega) (bV4 b nv na d) i k hk (by omega)
 omega
theorem bX5 {d m i : Nat} {B : Int} (hB : (m : Int) * cS d <= B) (hi : i < m) (hk : 0 <= k) (hk2 : k + B <= 1000000000) : (G0 (C1 b nv na d) i k).2 + cS d <= k + B := by
 have hc := as5 d
 have h6 : ((i + 1 : Nat) : Int) * cS d <= m * cS d := ca0 (by omega) (by omega)
 have e : ((i + 1 : Nat) : Int) * cS d = i * cS d + cS d := by rw [Int.natCast_add, Int.add_mul]; simp
 have h := aL8 (by omega) (bV4 b nv na d) i k hk (by omega)
 omega
theorem bT7 {m : Int} {c : Int} (h0 : 0 <= m) (hm : m <= 2) (hc : 0 <= c) : (m.toNat : Int) * c <= 2 * c := ca0 (by omega) hc
theorem b15 {m : Int} {c : Int} (h0 : 0 <= m) (hm : m <= 4) (hc : 0 <= c) : (m.toNat : Int) * c <= 4 * c := ca0 (by omega) hc
end
theorem aF2 (b : List UInt8) {k : Int} {l : List Int} {m : Int} (hl : l ≠ []) (h : ∀ x ∈ l, 0 <= x /\ x <= m) (hk : 0 <= k) (hk2 : k <= 1000000000) : 0 <= nm b k l /\ nm b k l <= m := h _ (aK7 b hk hk2 hl)
mutual
def AV.den (t : Bool) (n : Nat) : AV -> AV
 | .v x => .v x
 | .ptr a b => .ptr a b
 | .ea a b c d => .ea a b c d
 | .ref i => if !t && natEq i n then .v (.slice none 0 0) else .ref i
 | .agg l => .agg (AV.denL t n l)
 | .tup l => .tup (AV.denL t n l)
 | .fn f l => .fn f (AV.denL t n l)
 | .bm f l => .bm f (AV.denL t n l)
 | .tref i => if t && natEq i n then .v (.slice none 0 0) else .tref i
def AV.denL (t : Bool) (n : Nat) : List AV -> List AV
 | [] => []
 | x :: r => x.den t n :: AV.denL t n r
end
def It.den (t : Bool) (n : Nat) : It -> It
 | .box cs => .box (AV.denL t n cs)
 | x => x
mutual
theorem AV.val_den {ρ : Nat -> Value} {t : Bool} {n : Nat} {z : Value} (hz : if t then D5 z = .slice none 0 0 else z = .slice none 0 0) : ∀ (x : AV), (∀ i ∈ (x.den t n).ids, i < n) -> x.val (fun j => if j = n then z else ρ j) = (x.den t n).val ρ /\ ∀ i ∈ x.ids, i < n + 1
 | .v _, _ => ⟨rfl, fun i hi => by simp [AV.ids] at hi⟩
 | .ptr a b, h => by
  have ha : a < n := h a (by simp [AV.den, AV.ids])
  refine ⟨?_, fun i hi => by simp [AV.ids] at hi; omega⟩
  simp only [AV.den, AV.val]
  rw [if_neg (by omega)]
 | .ea a b c d, h => by
  have ha : a < n := h a (by simp [AV.den, AV.ids])
  refine ⟨?_, fun i hi => by simp [AV.ids] at hi; omega⟩
  simp only [AV.den, AV.val]
  rw [if_neg (by omega)]
 | .ref a, h => by
  by_cases e : t = false /\ a = n
  ·obtain ⟨rfl, rfl⟩ := e
   refine ⟨?_, fun i hi => by simp [AV.ids] at hi; omega⟩
   simp only [Bool.false_eq_true, if_false] at hz
   simp [AV.den, AV.val, natEq, hz]
  have hd : (AV.ref a).den t n = .ref a := by
   simp only [AV.den]
   rw [if_neg]
   simp [natEq]; intro h1 h2; exact e ⟨h1, h2⟩
  rw [hd] at h ⊢
  have ha : a < n := h a (by simp [AV.ids])
  refine ⟨?_, fun i hi => by simp [AV.ids] at hi; omega⟩
  simp only [AV.val]
  rw [if_neg (by omega)]
 | .tref a, h => by
  by_cases e : t = true /\ a = n
  ·obtain ⟨rfl, rfl⟩ := e
   refine ⟨?_, fun i hi => by simp [AV.ids] at hi; omega⟩
   simp only [if_true] at hz
   simp [AV.den, AV.val, natEq, hz]
  have hd : (AV.tref a).den t n = .tref a := by
   simp only [AV.den]
   rw [if_neg]
   simp [natEq]; intro h1 h2; exact e ⟨h1, h2⟩
  rw [hd] at h ⊢
  have ha : a < n := h a (by simp [AV.ids])
  refine ⟨?_, fun i hi => by simp [AV.ids] at hi; omega⟩
  simp only [AV.val]
  rw [if_neg (by omega)]
 | .agg l, h => by
  obtain ⟨h1, h2⟩ := AV.vals_den hz l (by simpa [AV.den, AV.ids] using h)
  exact ⟨by simp only [AV.den, AV.val]; rw [h1], by simpa [AV.ids] using h2⟩
 | .tup l, h => by
  obtain ⟨h1, h2⟩ := AV.vals_den hz l (by simpa [AV.den, AV.ids] using h)
  exact ⟨by simp only [AV.den, AV.val]; rw [h1], by simpa [AV.ids] using h2⟩
 | .fn f l, h => by
  obtain ⟨h1, h2⟩ := AV.vals_den hz l (by simpa [AV.den, AV.ids] using h)
  exact ⟨by simp only [AV.den, AV.val]; rw [h1], by simpa [AV.ids] using h2⟩
 | .bm f l, h => by
  obtain ⟨h1, h2⟩ := AV.vals_den hz l (by simpa [AV.den, AV.ids] using h)
  exact ⟨by simp only [AV.den, AV.val]; rw [h1], by simpa [AV.ids] using h2⟩
theorem AV.vals_den {ρ : Nat -> Value} {t : Bool} {n : Nat} {z : Value} (hz : if t then D5 z = .slice none 0 0 else z = .slice none 0 0) : ∀ (l : List AV), (∀ i ∈ AV.idsL (AV.denL t n l), i < n) -> AV.vals (fun j => if j = n then z else ρ j) l = AV.vals ρ (AV.denL t n l) /\ ∀ i ∈ AV.idsL l, i < n + 1
 | [], _ => ⟨rfl, fun i hi => by simp [AV.idsL] at hi⟩
 | x :: r, h => by
  obtain ⟨h1, h2⟩ := AV.val_den hz x fun i hi => h i (by simp only [AV.denL, AV.idsL, b73]; exact .inl hi)
  obtain ⟨h3, h4⟩ := AV.vals_den hz r fun i hi => h i (by simp only [AV.denL, AV.idsL, b73]; exact .inr hi)
  refine ⟨by simp only [AV.denL, AV.vals]; rw [h1, h3], fun i hi => ?_⟩
  simp only [AV.idsL, b73] at hi
  rcases hi with hi | hi
  ·exact h2 i hi
  exact h4 i hi
end
theorem ay4 {m : Bool} {n : Nat} {t : Nat} {x : AV} : ∀ {tm : List (Nat × AV)}, A1 tm t = some x -> A1 (tm.map fun p => (p.1, p.2.den m n)) t = some (x.den m n)
 | [], h => by cases h
 | (k, y) :: r, h => by
  simp only [A1, b94] at h ⊢
  split at h
  ·rename_i e; cases h; rw [if_pos e]
  rename_i e; rw [if_neg e]; exact ay4 h
section
variable {P : Program} {ι : Type} {φ ψ : Nat -> Prop} {w0 w : World} {F : ι -> Rs} {ρ ρ0 : Nat -> Value} {N m n : Nat} {S : List It} {tm : List (Nat × AV)} {a : Act}
theorem w6.nilW (G : w6 φ ψ w0 F N m ρ0 ρ S tm a w) (n : Nat) (hn : S.length = n) (b : Bool) (x : It) (z : Value) (hz : if b then D5 z = .slice none 0 0 else z = .slice none 0 0) (hids : x.ids = []) (hb : ∀ g, ¬ (x.res (fun j => if j = n then z else ρ j) n).blk g)
  (hx : ∀ φ', (x.res (fun j => if j = n then z else ρ j) n).holds w φ') (S1 : List It) (tm1 : List (Nat × AV)) (hS : S = S1.map (It.den b n)) (ht : tm = tm1.map fun p => (p.1, p.2.den b n)) :
  ∃ ρ', w6 φ ψ w0 F N m ρ0 ρ' (S1 ++ [x]) tm1 a w := by
 have hl : S1.length = n := by rw [<- hn, hS, List.length_map]
 have hat : ∀ j (hj : j < n), s4 S j = (S1[j]'(by omega)).den b n := fun j hj => by
  rw [ay2 (show j < S.length by omega)]
  have h1 := congrArg (·[j]?) hS
  simp only [b78, b56 (show j < S.length by omega), b56 (show j < S1.length by omega), b85, Option.some.injEq] at h1
  exact h1
 have hnew : ∀ j (hj : j < n), s4 (S1 ++ [x]) j = S1[j]'(by omega) := fun j hj => by
  simp [s4, b59, b95 (show j < S1.length by omega), b56 (show j < S1.length by omega)]
 have hlast : s4 (S1 ++ [x]) n = x := by
  simp [s4, b59, <- hl]
 have hout : ∀ j, n < j -> s4 (S1 ++ [x]) j = .none := fun j hj => A3 (by simp; omega)
 have hbx : ∀ j (hj : j < n), ((S1[j]'(by omega)).res (fun j => if j = n then z else ρ j) j = (s4 S j).res ρ j) /\ ∀ i ∈ (S1[j]'(by omega)).ids, i < n + 1 := fun j hj => by
  rw [hat j hj]
  have hb := (G.bd j).1
  rw [hat j hj, hn] at hb
  generalize S1[j]'(by omega) = x at *
  cases x with
  | box cs =>
   obtain ⟨h1, h2⟩ := AV.vals_den (ρ := ρ) (n := n) hz cs hb
   refine ⟨?_, h2⟩
   simp only [It.res, It.den]
   rw [h1, if_neg (show ¬ j = n by omega)]
  | none => exact ⟨rfl, fun i hi => by cases hi⟩
  | dead => exact ⟨rfl, fun i hi => by cases hi⟩
  | dat d' => exact ⟨by simp only [It.res, It.den]; rw [if_neg (show ¬ j = n by omega)], fun i hi => by cases hi⟩
  | row e' d' => exact ⟨by simp only [It.res, It.den]; rw [if_neg (show ¬ j = n by omega)], fun i hi => by cases hi⟩
  | tree d' => exact ⟨by simp only [It.res, It.den]; rw [if_neg (show ¬ j = n by omega)], fun i hi => by cases hi⟩
  | kept e' d' => exact ⟨by cases e' <;> (simp only [It.res, It.den]; rw [if_neg (show ¬ j = n by omega)]), fun i hi => by cases hi⟩
  | err => exact ⟨by simp only [It.res, It.den]; rw [if_neg (show ¬ j = n by omega)], fun i hi => by cases hi⟩
  | hole k q ls =>
   have hk : k < n := hb k (by simp [It.den, It.ids])
   exact ⟨by simp only [It.res, It.den]; rw [if_neg (show ¬ j = n by omega), if_neg (show ¬ k = n by omega)], fun i hi => by simp [It.ids] at hi; omega⟩
 have hw : ∀ t x, A1 tm1 t = some x -> x.val (fun j => if j = n then z else ρ j) = (x.den b n).val ρ /\ ∀ i ∈ x.ids, i < n + 1 := fun t x hx => by
  refine AV.val_den hz x fun i hi => ?_
  have h1 : A1 tm t = some (x.den b n) := by rw [ht]; exact ay4 hx
  have := G.tmi t _ h1 i hi
  omega
 refine ⟨fun j => if j = n then z else ρ j, ?_⟩
 refine ⟨G.size, G.defs, fun t x hx => ?_, fun t x hx i hi => ?_, fun j => ⟨fun i hi => ?_, fun hj => A3 hj⟩, ?_, ?_, fun i hi => ?_⟩
 ·have h1 : A1 tm t = some (x.den b n) := by rw [ht]; exact ay4 hx
  rw [(hw t x hx).1]; exact G.tmv t _ h1
 ·have := (hw t x hx).2 i hi
  simp; omega
 ·rcases Nat.lt_trichotomy j n with h | h | h
  ·rw [hnew j h] at hi
   have := (hbx j h).2 i hi
   simp; omega
  ·subst h; rw [hlast, hids] at hi; cases hi
  rw [hout j h] at hi; cases hi
 ·refine k8.put G.mem (.inr n) (fun k hk => ?_) (B7.refl _ _) ?_ ?_
  ·cases k with
   | inl i => rfl
   | inr j =>
    simp only [n8]
    rcases Nat.lt_trichotomy j n with h | h | h
    ·rw [hnew j h]; exact (hbx j h).1
    ·exact absurd (by rw [h]) hk
    rw [hout j h, A3 (show S.length <= j by omega)]; rfl
  ·simp only [n8, hlast]; exact hx _
  intro g hg
  simp only [n8, hlast] at hg
  exact absurd hg (hb g)
 ·have := G.le; simp; omega
 show (if i = n then _ else ρ i) = ρ0 i
 have := G.le
 rw [if_neg (by omega)]; exact G.old i hi
theorem w6.nil (G : w6 φ ψ w0 F N m ρ0 ρ S tm a w) (n : Nat) (e : TypeId) (d : D) (k : Nat) (S1 : List It) (tm1 : List (Nat × AV)) (hn : S.length = n := by kernel_rfl) (hd : D.nil k = some d := by kernel_rfl) (hS : S = S1.map (It.den false n) := by kernel_rfl) (ht : tm = tm1.map (fun p => (p.1, p.2.den false n)) := by kernel_rfl) :
  ∃ ρ', w6 φ ψ w0 F N m ρ0 ρ' (S1 ++ [.row e d]) tm1 a w := by
 have hz := D.nil_len hd
 refine G.nilW n hn false (.row e d) (.slice none 0 0) (by simp) rfl (fun g hg => ?_) (fun φ' => ?_) S1 tm1 hS ht
 ·simp only [It.res, if_true] at hg
  cases hg
 simp only [It.res, if_true]
 refine ⟨fun xs => RW.nice d xs, [], ?_, RW.nil hz _⟩
 rw [hz]; exact World.ownsRow_nil _ _ _ _
theorem w6.nilT (G : w6 φ ψ w0 F N m ρ0 ρ S tm a w) (n : Nat) (d : D) (S1 : List It) (tm1 : List (Nat × AV)) (hn : S.length = n := by kernel_rfl) (hd : ((ag2 d).isSome && natEq d.len 0) = true := by kernel_rfl) (hS : S = S1.map (It.den true n) := by kernel_rfl) (ht : tm = tm1.map (fun p => (p.1, p.2.den true n)) := by kernel_rfl) :
  ∃ ρ', w6 φ ψ w0 F N m ρ0 ρ' (S1 ++ [.tree d]) tm1 a w := by
 simp only [b57, natEq, beq_iff_eq] at hd
 obtain ⟨e, he⟩ := b99.1 hd.1
 obtain ⟨z, h1, h2⟩ := az8 (.slice none 0 0) (fun _ => False) 0 fun b h => h.elim
 refine G.nilW n hn true (.tree d) z (by simp [h1]) rfl (fun g hg => ?_) (fun φ' => ?_) S1 tm1 hS ht
 ·simp only [It.res, if_true] at hg
  exact ((h2 g).1 hg).elim
 simp only [It.res, if_true]
 rw [h1]
 refine ⟨fun _ _ h hs => h.same hs, ⟨e, [], fun _ => False, he, ?_, (fun g hg => by cases hg), (fun b hb => hb.elim), ?_⟩, fun b hb => ((h2 b).1 hb).elim⟩
 ·rw [hd.2]; exact World.ownsRow_nil _ _ _ _
 have h0 := hd.2
 cases d <;> simp only [ag2] at he <;> first | cases he | skip
 all_goals (simp only [D.len] at h0; rw [b84 h0]; rfl)
end
inductive Ln where
 | no
 | row (e : TypeId)
 | tree
def x6 (M : List Ln) (i : Nat) : Ln := M.getD i .no
def Ln.isT : Ln -> Bool
 | .tree => true
 | _ => false
mutual
def AV.tr (M : List Ln) : AV -> AV
 | .v x => .v x
 | .ptr a b => .ptr a b
 | .ea a b c d => .ea a b c d
 | .ref i => if (x6 M i).isT then .tref i else .ref i
 | .agg l => .agg (AV.trL M l)
 | .tup l => .tup (AV.trL M l)
 | .fn f l => .fn f (AV.trL M l)
 | .bm f l => .bm f (AV.trL M l)
 | .tref i => .tref i
def AV.trL (M : List Ln) : List AV -> List AV
 | [] => []
 | x :: r => x.tr M :: AV.trL M r
end
mutual
def AV.trOk (M : List Ln) : AV -> Bool
 | .v _ => true
 | .ptr a _ => !(x6 M a).isT
 | .ea a _ _ _ => !(x6 M a).isT
 | .ref _ => true
 | .agg l => AV.trOkL M l
 | .tup l => AV.trOkL M l
 | .fn _ l => AV.trOkL M l
 | .bm _ l => AV.trOkL M l
 | .tref i => !(x6 M i).isT
def AV.trOkL (M : List Ln) : List AV -> Bool
 | [] => true
 | x :: r => x.trOk M && AV.trOkL M r
end
mutual
theorem AV.val_tr {ρ ρ' : Nat -> Value} {M : List Ln} (h : ∀ i, ρ' i = if (x6 M i).isT then D5 (ρ i) else ρ i) : ∀ (x : AV), x.trOk M = true -> (x.tr M).val ρ = x.val ρ'
 | .v _, _ => rfl
 | .ptr a _, hx => by
  simp only [AV.trOk, b65] at hx
  simp only [AV.tr, AV.val]; rw [h a, hx]; rfl
 | .ea a _ _ _, hx => by
  simp only [AV.trOk, b65] at hx
  simp only [AV.tr, AV.val]; rw [h a, hx]; rfl
 | .ref i, _ => by
  simp only [AV.tr]
  cases hm : (x6 M i).isT
  ·simp only [Bool.false_eq_true, if_false, AV.val]; rw [h i, hm]; rfl
  simp only [if_true, AV.val]; rw [h i, hm]; rfl
 | .agg l, hx => by simp only [AV.tr, AV.val]; rw [AV.vals_tr h l (by simpa [AV.trOk] using hx)]
 | .tup l, hx => by simp only [AV.tr, AV.val]; rw [AV.vals_tr h l (by simpa [AV.trOk] using hx)]
 | .fn _ l, hx => by simp only [AV.tr, AV.val]; rw [AV.vals_tr h l (by simpa [AV.trOk] using hx)]
 | .bm _ l, hx => by simp only [AV.tr, AV.val]; rw [AV.vals_tr h l (by simpa [AV.trOk] using hx)]
 | .tref i, hx => by
  simp only [AV.trOk, b65] at hx
  simp only [AV.tr, AV.val]; rw [h i, hx]; rfl
theorem AV.vals_tr {ρ ρ' : Nat -> Value} {M : List Ln} (h : ∀ i, ρ' i = if (x6 M i).isT then D5 (ρ i) else ρ i) : ∀ (l : List AV), AV.trOkL M l = true -> AV.vals ρ (AV.trL M l) = AV.vals ρ' l
 | [], _ => rfl
 | x :: r, hx => by
  simp only [AV.trOkL, b57] at hx
  simp only [AV.trL, AV.vals]; rw [AV.val_tr h x hx.1, AV.vals_tr h r hx.2]
end
def s8 (M : List Ln) : Ln -> It -> It
 | .row e, .dat d => .row e d
 | .tree, .dat d => .tree d
 | .no, .box cs => .box (AV.trL M cs)
 | _, x => x
def I3 (M : List Ln) (S : List It) : List It := (b82 S.length).map fun i => s8 M (x6 M i) (s4 S i)
theorem P6 (M : List Ln) (S : List It) (i : Nat) : s4 (I3 M S) i = s8 M (x6 M i) (s4 S i) := by
 unfold I3
 rcases b86 i S.length with h | h
 ·conv => lhs; rw [s4, b59, b78, List.getElem?_range h]
  rfl
 rw [A3 (by simpa using h), A3 h]
 cases x6 M i <;> rfl
def aT5 : D -> Bool
 | .rows _ => false
 | .brows _ => false
 | .exprs _ => false
 | .stmts _ => false
 | _ => true
theorem ba0 {w w' : World} {φ φ' : Nat -> Prop} {d : D} {xs : List Value} (hd : aT5 d = true) (h : RW w φ d xs) : RW w' φ' d xs := by
 intro i hi j x hx
 obtain ⟨u, h1, h2⟩ := h i hi j x hx
 refine ⟨u, h1, ?_⟩
 have : ∃ y, x = .v y := by
  have hm := b79 hx
  cases d <;> simp only [aT5, Bool.false_eq_true] at hd <;> simp [D.elem, a08, ai6] at hm
  ·exact ⟨_, hm⟩
  ·exact ⟨_, hm⟩
  ·exact ⟨_, hm⟩
  ·exact ⟨_, hm⟩
  ·rcases hm with h | h | h | h | h <;> exact ⟨_, h⟩
  rcases hm with h | h <;> exact ⟨_, h⟩
 obtain ⟨y, rfl⟩ := this
 exact h2
def aL2 (M : List Ln) (l : Ln) (p x : It) : Bool :=
 match l with
 | .no => match x with
  | .dat _ => (match p with | .dat _ => true | _ => false)
  | .row _ d => aT5 d
  | .box cs => AV.trOkL M cs
  | .kept _ _ => false
  | .hole _ _ _ => false
  | _ => true
 | .row _ => (match p, x with | .dat d, .dat _ => aT5 d | _, _ => false)
 | .tree => (match p, x with | .dat d, .dat _ => (ag2 d).isSome | _, _ => false)
def bm0 (M : List Ln) (l : Ln) (p : It) : Bool :=
 match l, p with
 | .no, .box cs => AV.trOkL M cs
 | .no, .hole _ _ _ => false
 | _, _ => true
def bn9 (M : List Ln) (c : j1) : Bool :=
 decide (M.length <= c.pre.length) && decide (c.pre.length <= c.post.length) && AV.trOkL M c.args && c.res.trOk M && (b82 c.post.length).all (fun i => aL2 M (x6 M i) (s4 c.pre i) (s4 c.post i)) && (b82 c.pre.length).all fun i => bm0 M (x6 M i) (s4 c.pre i)
def Rs.snap (w : World) (r : Rs) : Rs := .own r.blk fun w' => ∀ b, r.blk b -> b < w.heap.size -> w'.heap[b]? = w.heap[b]?
theorem Rs.snap_holds {w : World} {φ φ' : Nat -> Prop} {r : Rs} (h : r.holds w φ) : (r.snap w).holds w φ' := by
 refine ⟨fun w1 w2 h1 h2 b hb hlt => ?_, fun b _ _ => rfl, fun b hb => Rs.lt h hb⟩
 have h3 := h1 b hb hlt
 rw [h2 b hb, h3]
 have : (w1.heap[b]?).isSome = true := by rw [h3, Array.getElem?_eq_getElem hlt]; rfl
 obtain ⟨o, ho⟩ := b99.1 this
 exact (Array.getElem?_eq_some_iff.1 ho).1
theorem aM0 : ∀ {P X : List It} {i : Nat} {d e : D}, ap2 P X = ap1 P X -> s4 P i = .dat d -> s4 X i = .dat e -> d = e
 | P, X, i, d, e, h, h1, h2 => by
  have hp : P[i]? = some (.dat d) := by
   rcases b86 i P.length with hl | hl
   ·rw [ay2 hl] at h1; rw [b56 hl, h1]
   rw [A3 hl] at h1; cases h1
  have hx : X[i]? = some (.dat e) := by
   rcases b86 i X.length with hl | hl
   ·rw [ay2 hl] at h2; rw [b56 hl, h2]
   rw [A3 hl] at h2; cases h2
  exact bN6 h hp hx
theorem j1.lend0 {P : Program} {c : j1} (hc : c.ok P) (M : List Ln) (hb : bn9 M c = true) (he : ap2 c.pre c.post = ap1 c.pre c.post) : j1.ok P ⟨c.f, AV.trL M c.args, I3 M c.pre, I3 M c.post, c.res.tr M⟩ := by
 simp only [bn9, b57, decide_eq_true_eq] at hb
 obtain ⟨⟨⟨⟨⟨hM, hle⟩, hargs⟩, hres⟩, hpost⟩, hpre⟩ := hb
 have hno : ∀ i, c.pre.length <= i -> x6 M i = .no := fun i hi => by
  unfold x6; rw [b59, b87 (by omega)]; rfl
 have hpo : ∀ i, aL2 M (x6 M i) (s4 c.pre i) (s4 c.post i) = true := fun i => by
  rcases b86 i c.post.length with h | h
  ·exact b68.1 hpost i (List.mem_range.2 h)
  rw [hno i (by omega), A3 h]; rfl
 have hpr : ∀ i, bm0 M (x6 M i) (s4 c.pre i) = true := fun i => by
  rcases b86 i c.pre.length with h | h
  ·exact b68.1 hpre i (List.mem_range.2 h)
  rw [hno i h, A3 h]; rfl
 intro ι φ ψ w0 w F ρ MM
 let ρ1 : Nat -> Value := fun i => if (x6 M i).isT then D5 (ρ i) else ρ i
 have hρ1 : ∀ i, ρ1 i = if (x6 M i).isT then D5 (ρ i) else ρ i := fun _ => rfl
 let F1 : ι -> Rs := fun i => (F i).snap w
 have hLi : ∀ i, n8 F ρ (s4 (I3 M c.pre)) (.inl i) = F i := fun _ => rfl
 have hLj : ∀ j, n8 F ρ (s4 (I3 M c.pre)) (.inr j) = (s8 M (x6 M j) (s4 c.pre j)).res ρ j := fun j => by simp only [n8]; rw [P6]
 generalize hL : n8 F ρ (s4 (I3 M c.pre)) = L at MM hLi hLj
 have h1j : ∀ j, x6 M j = .no -> (s4 c.pre j).res ρ1 j = L (.inr j) := fun j hl => by
  rw [hLj, hl]
  have hp := hpr j
  have e : ρ1 j = ρ j := by rw [hρ1, hl]; rfl
  cases hx : s4 c.pre j with
  | none => rfl
  | dead => rfl
  | dat d => simp only [s8, It.res]; rw [e]
  | row e' d => simp only [s8, It.res]; rw [e]
  | tree d => simp only [s8, It.res]; rw [e]
  | kept e' d => cases e' <;> (simp only [s8, It.res]; rw [e])
  | hole k i ls => rw [hl, hx] at hp; cases hp
  | err => simp only [s8, It.res]; rw [e]
  | box cs =>
   rw [hl, hx] at hp
   simp only [bm0] at hp
   simp only [s8, It.res]
   rw [e, AV.vals_tr hρ1 cs hp]
 have hlent : ∀ j, x6 M j ≠ .no -> (∃ d, s4 c.pre j = .dat d /\ s4 c.post j = .dat d /\ ((∃ e, x6 M j = .row e /\ aT5 d = true) \/ x6 M j = .tree)) := fun j hj => by
  have h := hpo j
  cases hl : x6 M j with
  | no => exact absurd hl hj
  | row e =>
   rw [hl] at h
   simp only [aL2] at h
   split at h
   ·rename_i d d' h1 h2
    exact ⟨d, h1, by rw [h2, <- aM0 he h1 h2], .inl ⟨e, rfl, h⟩⟩
   cases h
  | tree =>
   rw [hl] at h
   simp only [aL2] at h
   split at h
   ·rename_i d d' h1 h2
    exact ⟨d, h1, by rw [h2, <- aM0 he h1 h2], .inr rfl⟩
   cases h
 have hsub : ∀ k b, (n8 F1 ρ1 (s4 c.pre) k).blk b -> (L k).blk b /\ ∀ j, k = .inr j -> x6 M j = .no := fun k b hb => by
  cases k with
  | inl i => rw [hLi]; exact ⟨hb, fun j h => by cases h⟩
  | inr j =>
   by_cases hl : x6 M j = .no
   ·simp only [n8] at hb
    rw [h1j j hl] at hb
    exact ⟨hb, fun j' h => by cases h; exact hl⟩
   obtain ⟨d, h1, _⟩ := hlent j hl
   simp only [n8, h1, It.res] at hb
   exact hb.elim
 have hfr1 : ∀ b, T8 φ L b -> T8 φ (n8 F1 ρ1 (s4 c.pre)) b := fun b hb => ⟨hb.1, fun k hk => hb.2 k (hsub k b hk).1⟩
 let ψ1 : Nat -> Prop := fun b => ∀ k, ¬ (n8 F1 ρ1 (s4 c.pre) k).blk b
 have M1 : k8 φ ψ1 w w (n8 F1 ρ1 (s4 c.pre)) := by
  refine ⟨B7.refl _ _, fun b hb => MM.fresh b (b54 MM.size hb), fun w' hk => MM.env w' ⟨hk.os.trans MM.kept.os, hk.tape.trans MM.kept.tape, hk.output.trans MM.kept.output, b54 MM.size hk.size, fun b hb hp => (hk.block b (Nat.lt_of_lt_of_le hb MM.size) fun k hk' => (MM.ge k b (hsub k b hk').1).elim (fun h => by omega) fun h => h hp).trans (MM.kept.block b hb hp)⟩, fun k => ?_, fun k k' b hkk h1 h2 => MM.dis k k' b hkk (hsub k b h1).1 (hsub k' b h2).1, fun k b h1 => .inr fun h => h k h1, fun k b h1 => MM.ph k b (hsub k b h1).1⟩
  cases k with
  | inl i => exact Rs.snap_holds (show (F i).holds w _ from by rw [<- hLi i]; exact MM.holds (.inl i))
  | inr j =>
   by_cases hl : x6 M j = .no
   ·simp only [n8]
    rw [h1j j hl]
    exact Rs.keep (MM.holds (.inr j)) (I5.mono fun b _ hf => hfr1 b hf) fun _ _ => rfl
   obtain ⟨d, h1, h2, h3⟩ := hlent j hl
   have hh := MM.holds (.inr j)
   have hown : ∀ b, (L (.inr j)).blk b -> T8 φ (n8 F1 ρ1 (s4 c.pre)) b := fun b hb => ⟨MM.ph _ _ hb, fun k hk => by
    obtain ⟨q1, q2⟩ := hsub k b hk
    by_cases e : k = .inr j
    ·exact hl (q2 j e)
    exact MM.dis k (.inr j) b e q1 hb⟩
   simp only [n8, h1, It.res]
   refine ⟨RD.nice _ _, ?_⟩
   rcases h3 with ⟨e, h3, hflat⟩ | h3
   ·rw [hLj, h3, h1] at hh
    simp only [s8, It.res] at hh
    obtain ⟨_, xs, o1, o2⟩ := hh
    have e1 : ρ1 j = ρ j := by rw [hρ1, h3]; rfl
    rw [e1]
    refine RD.make (B8 o1 fun g hg => hown g ?_) (ba0 hflat o2)
    rw [hLj, h3, h1]; exact hg
   rw [hLj, h3, h1] at hh
   simp only [s8, It.res] at hh
   have e1 : ρ1 j = D5 (ρ j) := by rw [hρ1, h3]; rfl
   rw [e1]
   refine E4.read hh.2.1 fun b hb => hown b ?_
   rw [hLj, h3, h1]; exact hb
 simp only
 rw [AV.vals_tr hρ1 c.args hargs]
 refine (hc ι φ ψ1 w w F1 ρ1 M1).mono ?_
 rintro x w' ⟨ρ2, g1, g2, M2⟩
 have hplen : (I3 M c.pre).length = c.pre.length := by simp [I3]
 let ρ' : Nat -> Value := fun j => if j < c.pre.length then ρ j else ρ2 j
 have hρ' : ∀ j, ρ2 j = if (x6 M j).isT then D5 (ρ' j) else ρ' j := fun j => by
  show _ = if (x6 M j).isT then D5 (if j < c.pre.length then ρ j else ρ2 j) else (if j < c.pre.length then ρ j else ρ2 j)
  rcases b86 j c.pre.length with h | h
  ·rw [if_pos h, g1 j h]
  rw [hno j h]
  exact (if_neg (Nat.not_lt.2 h)).symm
 have hρo : ∀ j, x6 M j ≠ .no -> ρ' j = ρ j := fun j hj => by
  rcases b86 j c.pre.length with h | h
  ·exact if_pos h
  exact absurd (hno j h) hj
 refine ⟨ρ', fun i hi => if_pos (by rw [hplen] at hi; exact hi), by rw [AV.val_tr hρ' c.res hres]; exact g2, ?_⟩
 have hL'j : ∀ j, n8 F ρ' (s4 (I3 M c.post)) (.inr j) = (s8 M (x6 M j) (s4 c.post j)).res ρ' j := fun j => by simp only [n8]; rw [P6]
 have hL'i : ∀ i, n8 F ρ' (s4 (I3 M c.post)) (.inl i) = F i := fun _ => rfl
 generalize hL' : n8 F ρ' (s4 (I3 M c.post)) = L' at hL'j hL'i
 have hL2j : ∀ j, x6 M j = .no -> L' (.inr j) = n8 F1 ρ2 (s4 c.post) (.inr j) := fun j hl => by
  rw [hL'j, hl]
  have hp := hpo j
  have e : ρ2 j = ρ' j := by rw [hρ', hl]; rfl
  simp only [n8]
  cases hx : s4 c.post j with
  | none => rfl
  | dead => rfl
  | dat d => simp only [s8, It.res]; rw [e]
  | row e' d => simp only [s8, It.res]; rw [e]
  | tree d => simp only [s8, It.res]; rw [e]
  | kept e' d => cases e' <;> (simp only [s8, It.res]; rw [e])
  | hole k i ls => rw [hl, hx] at hp; cases hp
  | err => simp only [s8, It.res]; rw [e]
  | box cs =>
   rw [hl, hx] at hp
   simp only [aL2] at hp
   simp only [s8, It.res]
   rw [e, AV.vals_tr hρ' cs hp]
 have hlj : ∀ j, x6 M j ≠ .no -> L' (.inr j) = L (.inr j) := fun j hl => by
  obtain ⟨d, h1, h2, h3⟩ := hlent j hl
  rw [hL'j, hLj, h1, h2]
  rcases h3 with ⟨e, h3, _⟩ | h3
  ·rw [h3]; simp only [s8, It.res]; rw [hρo j hl]
  rw [h3]; simp only [s8, It.res]; rw [hρo j hl]
 have hin : ∀ b, b < w.heap.size -> ¬ ψ1 b -> ∃ k, (L k).blk b /\ ∀ j, k = .inr j -> x6 M j = .no := fun b _ hn => by
  obtain ⟨k, hk⟩ := Classical.not_forall.1 hn
  exact ⟨k, hsub k b (Classical.not_not.1 hk)⟩
 have hnew : ∀ k b, (∀ j, k = .inr j -> x6 M j = .no) -> (n8 F1 ρ2 (s4 c.post) k).blk b -> b < w.heap.size -> ∃ k', (L k').blk b /\ ∀ j, k' = .inr j -> x6 M j = .no := fun k b _ hb hlt => by
  rcases M2.ge k b hb with h | h
  ·omega
  exact hin b hlt h
 have hback : ∀ k b, (L' k).blk b -> b < w.heap.size -> ∃ k', (L k').blk b := fun k b hb hlt => by
  cases k with
  | inl i => rw [hL'i] at hb; exact ⟨.inl i, by rw [hLi]; exact hb⟩
  | inr j =>
   by_cases hl : x6 M j = .no
   ·rw [hL2j j hl] at hb
    obtain ⟨k', h1, _⟩ := hnew (.inr j) b (fun j' h => by cases h; exact hl) hb hlt
    exact ⟨k', h1⟩
   rw [hlj j hl] at hb; exact ⟨_, hb⟩
 have hsame : ∀ b, b < w.heap.size -> ψ1 b -> w'.heap[b]? = w.heap[b]? := fun b h1 h2 => M2.kept.block b h1 h2
 have hagr : I5 (T8 φ L) (T8 φ L') w w' := ⟨M2.kept.size, fun b hb hf => ⟨⟨hf.1, fun k hk => let ⟨k', h1⟩ := hback k b hk hb; hf.2 k' h1⟩, hsame b hb fun k hk => (hfr1 b hf).2 k hk⟩⟩
 have hlsame : ∀ j, x6 M j ≠ .no -> ∀ b, (L (.inr j)).blk b -> w'.heap[b]? = w.heap[b]? := fun j hl b hb => hsame b (MM.lt hb) fun k hk => by
  obtain ⟨q1, q2⟩ := hsub k b hk
  by_cases e : k = .inr j
  ·exact hl (q2 j e)
  exact MM.dis k (.inr j) b e q1 hb
 have hcross : ∀ j k b, x6 M j ≠ .no -> (∀ j, k = .inr j -> x6 M j = .no) -> (L (.inr j)).blk b -> ¬ (n8 F1 ρ2 (s4 c.post) k).blk b := fun j k b hl hk h1 h2 => by
  obtain ⟨k', h3, h4⟩ := hnew k b hk h2 (MM.lt h1)
  exact MM.dis k' (.inr j) b (fun e => hl (h4 j e)) h3 h1
 refine ⟨⟨M2.kept.os.trans MM.kept.os, M2.kept.tape.trans MM.kept.tape, M2.kept.output.trans MM.kept.output, b54 MM.size M2.kept.size, fun b hb hp => (hsame b (Nat.lt_of_lt_of_le hb MM.size) fun k hk => ?_).trans (MM.kept.block b hb hp)⟩, MM.fresh, MM.env, fun k => ?_, fun k k' b hkk h1 h2 => ?_, fun k b h1 => ?_, fun k b h1 => ?_⟩
 ·rcases MM.ge k b (hsub k b hk).1 with h | h
  ·omega
  exact h hp
 ·cases k with
  | inl i =>
   rw [hL'i, <- hLi i]
   refine Rs.keep (MM.holds (.inl i)) hagr fun b hb => ?_
   have := (M2.holds (.inl i)).2.1 b (by rw [<- hLi i]; exact hb) (MM.lt hb)
   exact this
  | inr j =>
   by_cases hl : x6 M j = .no
   ·have hh := M2.holds (.inr j)
    rw [<- hL2j j hl] at hh
    have hp := hpo j
    rw [hl] at hp
    cases hx : s4 c.post j with
    | none => rw [hL'j, hl, hx]; exact Rs.none_holds _ _
    | dead => rw [hL'j, hl, hx]; exact Rs.none_holds _ _
    | box cs => rw [hL'j, hl, hx] at hh ⊢; exact hh
    | tree d => rw [hL'j, hl, hx] at hh ⊢; exact hh
    | kept e' d => rw [hx] at hp; exact absurd hp (by simp [aL2])
    | hole k i ls => rw [hx] at hp; exact absurd hp (by simp [aL2])
    | err => rw [hL'j, hl, hx] at hh ⊢; exact hh
    | row e d =>
     rw [hx] at hp
     simp only [aL2] at hp
     rw [hL'j, hl, hx] at hh ⊢
     simp only [s8, It.res] at hh ⊢
     obtain ⟨_, xs, o1, o2⟩ := hh
     exact ⟨fun xs => RW.nice d xs, xs, o1, ba0 hp o2⟩
    | dat d =>
     rw [hx] at hp
     simp only [aL2] at hp
     split at hp
     ·rename_i d' hpx
      have hd : d' = d := aM0 he hpx hx
      subst hd
      have e : L' (.inr j) = L (.inr j) := by
       rw [hL'j, hLj, hl, hx, hpx]
       simp only [s8, It.res]
       have : j < c.pre.length := by
        rcases b86 j c.pre.length with h | h
        ·exact h
        rw [A3 h] at hpx; cases hpx
       rw [show ρ' j = ρ j from if_pos this]
      rw [e]
      refine Rs.keep (MM.holds (.inr j)) hagr fun b hb => ?_
      rw [hLj, hl, hpx] at hb
      exact hb.elim
     cases hp
   rw [hlj j hl]
   exact Rs.keep (MM.holds (.inr j)) hagr fun b hb => hlsame j hl b hb
 ·have key : ∀ k, (∃ j, k = .inr j /\ x6 M j ≠ .no /\ (L' k) = L k) \/ ((∀ j, k = .inr j -> x6 M j = .no) /\ ∀ b, (L' k).blk b -> (n8 F1 ρ2 (s4 c.post) k).blk b) := fun k => by
   cases k with
   | inl i => exact .inr ⟨(fun j h => by cases h), fun b hb => by rw [hL'i] at hb; exact hb⟩
   | inr j =>
    by_cases hl : x6 M j = .no
    ·exact .inr ⟨fun j' h => by cases h; exact hl, fun b hb => by rw [hL2j j hl] at hb; exact hb⟩
    exact .inl ⟨j, rfl, hl, hlj j hl⟩
  rcases key k with ⟨j, rfl, k1, k2⟩ | ⟨k1, k2⟩ <;> rcases key k' with ⟨j', rfl, k3, k4⟩ | ⟨k3, k4⟩
  ·rw [k2] at h1; rw [k4] at h2; exact MM.dis _ _ b hkk h1 h2
  ·rw [k2] at h1; exact hcross j k' b k1 k3 h1 (k4 b h2)
  ·rw [k4] at h2; exact hcross j' k b k3 k1 h2 (k2 b h1)
  exact M2.dis k k' b hkk (k2 b h1) (k4 b h2)
 ·cases k with
  | inl i => rw [hL'i, <- hLi i] at h1; exact MM.ge _ b h1
  | inr j =>
   by_cases hl : x6 M j = .no
   ·rw [hL2j j hl] at h1
    rcases b86 b w.heap.size with hlt | hge
    ·obtain ⟨k', h2, _⟩ := hnew (.inr j) b (fun j' h => by cases h; exact hl) h1 hlt
     exact MM.ge k' b h2
    exact .inl (b54 MM.size hge)
   rw [hlj j hl] at h1; exact MM.ge _ b h1
 cases k with
 | inl i => rw [hL'i, <- hLi i] at h1; exact MM.ph _ b h1
 | inr j =>
  by_cases hl : x6 M j = .no
  ·rw [hL2j j hl] at h1; exact M2.ph _ b h1
  rw [hlj j hl] at h1; exact MM.ph _ b h1
def bp0 (M : List Ln) : Ln -> It -> It
 | .row e, .dat d => .kept (some e) d
 | .tree, .dat d => .kept none d
 | .no, .box cs => .box (AV.trL M cs)
 | _, x => x
def bo9 (M : List Ln) (S : List It) : List It := (b82 S.length).map fun i => bp0 M (x6 M i) (s4 S i)
theorem bn8 (M : List Ln) (S : List It) (i : Nat) : s4 (bo9 M S) i = bp0 M (x6 M i) (s4 S i) := by
 unfold bo9
 rcases b86 i S.length with h | h
 ·conv => lhs; rw [s4, b59, b78, List.getElem?_range h]
  rfl
 rw [A3 (by simpa using h), A3 h]
 cases x6 M i <;> rfl
theorem j1.lend {P : Program} {c : j1} (hc : c.ok P) (M : List Ln) (hb : bn9 M c = true := by kernel_rfl) (he : ap2 c.pre c.post = ap1 c.pre c.post := by kernel_rfl) : j1.ok P ⟨c.f, AV.trL M c.args, I3 M c.pre, bo9 M c.post, c.res.tr M⟩ :=
 j1.okPost (j1.lend0 hc M hb he) _ fun ρ i => by
  simp only
  rw [bn8, P6]
  cases x6 M i <;> cases s4 c.post i <;> rfl
section
variable {P : Program} {ι κ : Type} {φ ψ : Nat -> Prop} {w0 w : World} {F : ι -> Rs} {ρ ρ0 : Nat -> Value} {N m n : Nat} {S : List It} {tm : List (Nat × AV)} {a : Act}
theorem k8.release {L L' : κ -> Rs} (M : k8 φ ψ w0 w L) (h : ∀ k, L' k = L k \/ ((∀ b, ¬ (L' k).blk b) /\ ∀ φ', (∀ b, T8 φ L b -> φ' b) -> (∀ b, (L k).blk b -> φ' b) -> (L' k).holds w φ')) : k8 φ ψ w0 w L' := by
 have old : ∀ k b, (L' k).blk b -> (L k).blk b := fun k b hb => by
  rcases h k with e | ⟨h1, _⟩
  ·rw [e] at hb; exact hb
  exact (h1 b hb).elim
 have hfr : ∀ b, T8 φ L b -> T8 φ L' b := fun b hb => ⟨hb.1, fun k hk => hb.2 k (old k b hk)⟩
 refine ⟨M.kept, M.fresh, M.env, fun k => ?_, fun i j g hij h1 h2 => M.dis i j g hij (old i g h1) (old j g h2), fun i b hb => M.ge i b (old i b hb), fun i b hb => M.ph i b (old i b hb)⟩
 rcases h k with e | ⟨h1, h2⟩
 ·rw [e]; exact Rs.keep (M.holds k) (I5.mono fun b _ hf => hfr b hf) fun _ _ => rfl
 refine h2 _ hfr fun b hb => ⟨M.ph k b hb, fun j hj => ?_⟩
 by_cases e : j = k
 ·subst e; exact h1 b hj
 exact M.dis j k b e (old j b hj) hb
mutual
theorem AV.ids_tr (M : List Ln) : ∀ (x : AV), (x.tr M).ids = x.ids
 | .v _ => rfl
 | .ptr _ _ => rfl
 | .ea _ _ _ _ => rfl
 | .ref i => by simp only [AV.tr]; split <;> rfl
 | .agg l => by simp only [AV.tr, AV.ids]; exact AV.idsL_tr M l
 | .tup l => by simp only [AV.tr, AV.ids]; exact AV.idsL_tr M l
 | .fn _ l => by simp only [AV.tr, AV.ids]; exact AV.idsL_tr M l
 | .bm _ l => by simp only [AV.tr, AV.ids]; exact AV.idsL_tr M l
 | .tref _ => rfl
theorem AV.idsL_tr (M : List Ln) : ∀ (l : List AV), AV.idsL (AV.trL M l) = AV.idsL l
 | [] => rfl
 | x :: r => by simp only [AV.trL, AV.idsL]; rw [AV.ids_tr M x, AV.idsL_tr M r]
end
theorem ak7 {M : List Ln} {t : Nat} {x : AV} : ∀ {tm : List (Nat × AV)}, A1 tm t = some x -> A1 (tm.map fun p => (p.1, p.2.tr M)) t = some (x.tr M) /\ ∃ p ∈ tm, p.2 = x
 | [], h => by cases h
 | (k, y) :: r, h => by
  simp only [A1, b94] at h ⊢
  split at h
  ·cases h; rename_i hk; rw [if_pos hk]; exact ⟨rfl, _, b72, rfl⟩
  rename_i hk; rw [if_neg hk]
  obtain ⟨h1, p, h2, h3⟩ := ak7 h
  exact ⟨h1, p, b80 _ h2, h3⟩
def bV1 (M : List Ln) (m : Nat) (S1 : List It) (tm1 : List (Nat × AV)) : Bool :=
 decide (M.length <= S1.length) && (b82 S1.length).all (fun i => match x6 M i, s4 S1 i with
  | .no, .box cs => AV.trOkL M cs
  | .no, .hole _ _ _ => false
  | .no, _ => true
  | .row _, .dat _ => true
  | .tree, .dat _ => decide (m <= i)
  | _, _ => false) && tm1.all fun p => p.2.trOk M
theorem It.ids_lend (M : List Ln) (l : Ln) (x : It) : x.ids = [] \/ (s8 M l x).ids = x.ids := by
 cases x with
 | box cs => cases l <;> first | exact .inr rfl | exact .inr (AV.idsL_tr M cs)
 | hole k i ls => cases l <;> exact .inr rfl
 | _ => exact .inl rfl
theorem w6.frz (G : w6 φ ψ w0 F N m ρ0 ρ S tm a w) (M : List Ln) (S1 : List It) (tm1 : List (Nat × AV)) (hb : bV1 M m S1 tm1 = true := by kernel_rfl) (hS : S = I3 M S1 := by kernel_rfl) (ht : tm = tm1.map (fun p => (p.1, p.2.tr M)) := by kernel_rfl) :
  ∃ ρ', w6 φ ψ w0 F N m ρ0 ρ' S1 tm1 a w := by
 subst hS
 subst ht
 simp only [bV1, b57, decide_eq_true_eq] at hb
 obtain ⟨⟨hM, hall⟩, htm⟩ := hb
 have hlen : (I3 M S1).length = S1.length := by simp [I3]
 have hno : ∀ i, S1.length <= i -> x6 M i = .no := fun i hi => by
  unfold x6; rw [b59, b87 (by omega)]; rfl
 have hat := fun i (hi : i < S1.length) => b68.1 hall i (List.mem_range.2 hi)
 let ρ1 : Nat -> Value := fun i => if (x6 M i).isT then D5 (ρ i) else ρ i
 have hρ1 : ∀ i, ρ1 i = if (x6 M i).isT then D5 (ρ i) else ρ i := fun _ => rfl
 have hρn : ∀ i, (x6 M i).isT = false -> ρ1 i = ρ i := fun i h => by rw [hρ1, h]; rfl
 refine ⟨ρ1, G.size, G.defs, fun t x hx => ?_, fun t x hx i hi => ?_, fun j => ⟨fun i hi => ?_, fun hj => A3 hj⟩, ?_, ?_, fun i hi => ?_⟩
 ·obtain ⟨h1, p, h2, h3⟩ := ak7 (M := M) hx
  rw [G.tmv t _ h1, AV.val_tr hρ1 x (by rw [<- h3]; exact b68.1 htm p h2)]
 ·obtain ⟨h1, _⟩ := ak7 (M := M) hx
  have := G.tmi t _ h1 i (by rw [AV.ids_tr]; exact hi)
  rw [hlen] at this; exact this
 ·have h1 := (G.bd j).1 i
  rw [P6, hlen] at h1
  rcases It.ids_lend M (x6 M j) (s4 S1 j) with h | h
  ·rw [h] at hi; cases hi
  exact h1 (by rw [h]; exact hi)
 ·refine G.mem.release fun k => ?_
  cases k with
  | inl i => exact .inl rfl
  | inr j =>
   simp only [n8]
   rw [P6]
   rcases b86 j S1.length with hj | hj
   case inr => rw [hno j hj, A3 hj]; exact .inl rfl
   have h1 := hat j hj
   cases hl : x6 M j with
   | no =>
    have e : ρ1 j = ρ j := hρn j (by rw [hl]; rfl)
    rw [hl] at h1
    left
    cases hx : s4 S1 j with
    | box cs =>
     rw [hx] at h1
     simp only [s8, It.res]
     rw [e, AV.vals_tr hρ1 cs h1]
    | none => rfl
    | dead => rfl
    | dat d => simp only [s8, It.res]; rw [e]
    | row e' d => simp only [s8, It.res]; rw [e]
    | tree d => simp only [s8, It.res]; rw [e]
    | kept e' d => cases e' <;> (simp only [s8, It.res]; rw [e])
    | hole k i ls => rw [hx] at h1; cases h1
    | err => simp only [s8, It.res]; rw [e]
   | row e' =>
    have e : ρ1 j = ρ j := hρn j (by rw [hl]; rfl)
    rw [hl] at h1
    cases hx : s4 S1 j <;> rw [hx] at h1 <;> first | cases h1 | skip
    rename_i d
    refine .inr ⟨fun b hb => hb, fun φ' hf hown => ⟨RD.nice _ _, ?_⟩⟩
    have hh := G.mem.holds (.inr j)
    simp only [n8] at hh
    rw [P6, hl, hx] at hh
    simp only [s8, It.res] at hh
    obtain ⟨_, xs, o1, o2⟩ := hh
    rw [e]
    exact RD.make (B8 o1 fun g hg => hown g hg) (RW.nice _ _ _ _ _ _ (I5.mono fun b _ hb => hf b hb) o2)
   | tree =>
    have e : ρ1 j = D5 (ρ j) := by rw [hρ1, hl]; rfl
    rw [hl] at h1
    cases hx : s4 S1 j <;> rw [hx] at h1 <;> first | cases h1 | skip
    rename_i d
    refine .inr ⟨fun b hb => hb, fun φ' hf hown => ⟨RD.nice _ _, ?_⟩⟩
    have hh := G.mem.holds (.inr j)
    simp only [n8] at hh
    rw [P6, hl, hx] at hh
    simp only [s8, It.res] at hh
    rw [e]
    exact E4.read hh.2.1 fun b hb => hown b hb
 ·have := G.le; rw [hlen] at this; exact this
 have hm := G.le
 rw [hlen] at hm
 have : (x6 M i).isT = false := by
  cases hl : x6 M i with
  | no => rfl
  | row _ => rfl
  | tree =>
   have h1 := hat i (by omega)
   rw [hl] at h1
   cases hx : s4 S1 i <;> rw [hx] at h1 <;> simp at h1
   omega
 show ρ1 i = ρ0 i
 rw [hρn i this]; exact G.old i hi
end
section
variable {P : Program} {ι κ : Type} {φ ψ : Nat -> Prop} {w0 w w' : World} {F : ι -> Rs} {ρ ρ0 : Nat -> Value}
end
abbrev oP (p : j0) : List It := [.row 3 (.ints p.vars), .row 3 (.ints p.arrays), .tree (.stmts p.body)]
abbrev oA (r : Nat) : AV := .agg [.ref r, .ref (r + 1), .tref (r + 2)]
theorem G9 (e : b7) : j1.ok Tryz.prog ⟨100, [.agg [.v (.int .i64 e.kind), .v (.int .i64 e.value), .ref 0]], [.dat (.exprs e.kids)], [.dat (.exprs e.kids)], .v (.bool (noneB e))⟩ := by
  refine D2 17 Tryz.func100 [dE e.kids] [(0, eA e 0)] fun G => ?_; refine wp_seq (j5 G d7 [0, 1] [dE e.kids, .box (eL e 0)] [(1, .ptr 1 0), (2, bA false)] fun G => b0 (wp_seq ?_)); cases h0 : (e.kind == 0)
  · have q0 := ne_of_beq_false h0; refine j5 G (y7 (fc h0 (fc (b := false) rfl fz)) (us [(4, 6, 0), (1007, 1007, 0), (9, 12, 1), (1013, 1013, 1)])) [0] [dE e.kids] [(2, bA false)] fun G => b0 (wp_ret ?_); exact y9 false G [0] (by rw [b89]; simp [noneB, h0, q0]; done)
  have q0 := eq_of_beq h0; cases h1 : (e.value == 0)
  · have q1 := ne_of_beq_false h1; refine j5 G (y7 (fc h0 (fc h1 fz)) (us [(4, 6, 0), (1007, 1007, 0), (9, 12, 1), (1013, 1013, 1)])) [0] [dE e.kids] [(2, bA false)] fun G => b0 (wp_ret ?_); exact y9 false G [0] (by rw [b89]; simp [noneB, h0, q0, h1, q1]; done)
  have q1 := eq_of_beq h1; refine j5 G (y7 (fc h0 (fc h1 fz)) (us [(4, 6, 0), (1007, 1007, 0), (9, 12, 1), (1013, 1013, 1)])) [0] [dE e.kids] [(2, bA ((e.kids.length : Int) == 0))] fun G => b0 (wp_ret ?_); exact y9 ((e.kids.length : Int) == 0) G [0] (by rw [b89]; simp [noneB, h0, q0, h1, q1]; done)
theorem ad0 (e : b7) : j1.ok Tryz.prog ⟨120, [.agg [.v (.int .i64 e.kind), .v (.int .i64 e.value), .ref 0]], [.dat (.exprs e.kids)], [.dat (.exprs e.kids)], .v (.bool (noneB e))⟩ := by
  refine D2 17 Tryz.func120 [dE e.kids] [(0, eA e 0)] fun G => ?_; refine wp_seq (j5 G d7 [0, 1] [dE e.kids, .box (eL e 0)] [(1, .ptr 1 0), (2, bA false)] fun G => b0 (wp_seq ?_)); cases h0 : (e.kind == 0)
  · have q0 := ne_of_beq_false h0; refine j5 G (y7 (fc h0 (fc (b := false) rfl fz)) (us [(4, 6, 0), (1007, 1007, 0), (9, 12, 1), (1013, 1013, 1)])) [0] [dE e.kids] [(2, bA false)] fun G => b0 (wp_ret ?_); exact y9 false G [0] (by rw [b89]; simp [noneB, h0, q0]; done)
  have q0 := eq_of_beq h0; cases h1 : (e.value == 0)
  · have q1 := ne_of_beq_false h1; refine j5 G (y7 (fc h0 (fc h1 fz)) (us [(4, 6, 0), (1007, 1007, 0), (9, 12, 1), (1013, 1013, 1)])) [0] [dE e.kids] [(2, bA false)] fun G => b0 (wp_ret ?_); exact y9 false G [0] (by rw [b89]; simp [noneB, h0, q0, h1, q1]; done)
  have q1 := eq_of_beq h1; refine j5 G (y7 (fc h0 (fc h1 fz)) (us [(4, 6, 0), (1007, 1007, 0), (9, 12, 1), (1013, 1013, 1)])) [0] [dE e.kids] [(2, bA ((e.kids.length : Int) == 0))] fun G => b0 (wp_ret ?_); exact y9 ((e.kids.length : Int) == 0) G [0] (by rw [b89]; simp [noneB, h0, q0, h1, q1]; done)
theorem ae8 (k : Int) : j1.ok Tryz.prog ⟨136, [.v (.int .i64 k)], [], [], .v (.int .i64 (j9 k))⟩ := by
  refine D2 23 Tryz.func136 [] [(0, iA k)] fun G => ?_; refine wp_seq (j3 G d7 [(2, iA 0)] fun G => b0 (wp_seq (wp_block (wp_seq ?_)))); cases h0 : (k == 1)
  ·
   have q0 := ne_of_beq_false h0; refine j3 G (y7 (fc h0 fz) [(3, 0), (4, 0), (1005, 0)]) [(3, bA (k == 2))] fun G => b0 (rcE G (fun h1 q1 => ?_) fun h1 q1 => ?_)
   ·
    refine wp_seq (j3 G d7 [(10, bA (k == 3))] fun G => b0 (rcE G (fun h2 q2 => ?_) fun h2 q2 => ?_))
    ·
     refine wp_seq ?_; cases h3 : (decide (k >= 4))
     ·
      have q3 := L3 h3; refine j3 G (y7 (fc h3 fz) [(3, 0), (4, 0), (1005, 0)]) [(13, bA false)] fun G => b0 (rF G false (by kernel_rfl) (wp_seq (A4 G d7 [(2, iA 0), (20, bA (k == 11))] fun G => b0 ?_))); cases h4 : (k == 11)
      · have q4 := ne_of_beq_false h4; refine rF G _ h4 (wp_skip (o9 (b0 (wp_seq (j3 G d7 [(2, iA (-1))] fun G => b0 (wp_ret ?_)))))); exact rxI (-1) G [] (by unfold j9; (repeat' split) <;> omega)
      have q4 := eq_of_beq h4; exact False.elim (by omega)
     have q3 := L2 h3; refine j3 G (y7 (fc h3 fz) [(3, 0), (4, 0), (1005, 0)]) [(13, bA (decide (k <= 10)))] fun G => b0 (S9 G (fun h5 q5 => ?_) fun h5 q5 => ?_)
     ·
      refine wp_seq (j3 G d7 [(20, bA (k == 11))] fun G => b0 (rcE G (fun h6 q6 => ?_) fun h6 q6 => ?_))
      · refine wp_skip (o9 (b0 (wp_seq (j3 G d7 [(2, iA (-1))] fun G => b0 (wp_ret ?_))))); exact rxI (-1) G [] (by unfold j9; (repeat' split) <;> omega)
      refine wp_seq (j3 G d7 [(2, iA 3)] fun G => b0 (wp_ret (A2 (j2 ?_)))); exact rxI 3 G [] (by unfold j9; (repeat' split) <;> omega)
     refine wp_seq (j3 G d7 [(2, iA 2)] fun G => b0 (wp_ret (A2 (j2 ?_)))); exact rxI 2 G [] (by unfold j9; (repeat' split) <;> omega)
    refine wp_seq (j3 G d7 [(2, iA 1)] fun G => b0 (wp_ret (A2 (j2 ?_)))); exact rxI 1 G [] (by unfold j9; (repeat' split) <;> omega)
   refine wp_seq (j3 G d7 [] fun G => b0 (wp_ret (A2 (j2 ?_)))); exact rxI 0 G [] (by unfold j9; (repeat' split) <;> omega)
  have q0 := eq_of_beq h0; refine j3 G (y7 (fc h0 fz) [(3, 0), (4, 0), (1005, 0)]) [(3, bA true)] fun G => b0 (rT G true (by kernel_rfl) (wp_seq (j3 G d7 [] fun G => b0 (wp_ret (A2 (j2 ?_)))))); exact rxI 0 G [] (by unfold j9; (repeat' split) <;> omega)
theorem aA8 (e : b7) : j1.ok Tryz.prog ⟨103, [.agg [.v (.int .i64 e.kind), .v (.int .i64 e.value), .ref 0]], [.dat (.exprs e.kids)], [.dat (.exprs e.kids)], .v (.bool (J0 e))⟩ := by
 refine D2 11 Tryz.func103 [dE e.kids] [(0, eA e 0)] fun G => ?_; refine wp_seq (j5 G d7 [0, 1] [dE e.kids, .box (eL e 0)] [(1, .ptr 1 0), (2, bA false)] fun G => b0 (wp_seq ?_)); cases h0 : (e.kind == 1)
 ·have q0 := ne_of_beq_false h0; refine j5 G (y7 (fc h0 fz) [(4, 0), (5, 0), (6, 0), (1007, 0)]) [0] [dE e.kids] [(2, bA (e.kind == 2))] fun G => b0 (wp_ret ?_); exact y9 (e.kind == 2) G [0] (by rw [b89]; simp [J0, h0, q0]; done)
 have q0 := eq_of_beq h0; refine j5 G (y7 (fc h0 fz) [(4, 0), (5, 0), (6, 0), (1007, 0)]) [0] [dE e.kids] [(2, bA true)] fun G => b0 (wp_ret ?_); exact y9 true G [0] (by rw [b89]; simp [J0, h0, q0]; done)
theorem be8 (vs ars : List Int) (b : List b5) (k : Int) : j1.ok Tryz.prog ⟨137, [.agg [.ref 0, .ref 1, .ref 2], .v (.int .i64 k)], [.dat (.ints vs), .dat (.ints ars), .dat (.stmts b)], [.dat (.ints vs), .dat (.ints ars), .dat (.stmts b)], .v (.int .i64 (y6 vs.length ars.length k))⟩ := by
  refine D2 18 Tryz.func137 [dI vs, dI ars, dT b] [(0, pA 0), (1, iA k)] fun G => ?_; refine wp_seq (j5 G d7 (rg 4) [dI vs, dI ars, dT b, .box (pL 0)] [(1, iA k), (2, .ptr 3 0), (4, iA 0)] fun G => b0 (wp_seq (wp_seq (j3 G d7 [(5, iA k)] fun G => b0 (wp_block (wp_seq (j3 G d7 [(6, bA (k == 1))] fun G => b0 (rcE G (fun h0 q0 => ?_) fun h0 q0 => ?_))))))))
  ·
   refine wp_seq (j3 G d7 [(8, bA (k == 2))] fun G => b0 (rcE G (fun h1 q1 => ?_) fun h1 q1 => ?_))
   ·
    refine wp_seq (j3 G d7 [(13, bA (k == 3))] fun G => b0 (rcE G (fun h2 q2 => ?_) fun h2 q2 => ?_))
    · refine wp_skip (o9 (b0 (wp_seq (j5 G d7 [0, 1, 2] [dI vs, dI ars, dT b] [(4, iA 1)] fun G => b0 (wp_ret ?_))))); exact rxI 1 G [0, 1, 2] (by unfold y6; (repeat' split) <;> omega)
    refine wp_seq (j5 G d7 [0, 1, 2] [dI vs, dI ars, dT b] [(4, iA (ars.length : Int))] fun G => b0 (wp_ret (A2 (j2 ?_)))); exact rxI ((ars.length : Int)) G [0, 1, 2] (by unfold y6; (repeat' split) <;> omega)
   refine wp_seq (j5 G d7 [0, 1, 2] [dI vs, dI ars, dT b] [(4, iA (vs.length : Int))] fun G => b0 (wp_ret (A2 (j2 ?_)))); exact rxI ((vs.length : Int)) G [0, 1, 2] (by unfold y6; (repeat' split) <;> omega)
  refine wp_seq (j5 G d7 [0, 1, 2] [dI vs, dI ars, dT b] [(4, iA 256)] fun G => b0 (wp_ret (A2 (j2 ?_)))); exact rxI 256 G [0, 1, 2] (by unfold y6; (repeat' split) <;> omega)
theorem aW3 {α : Type} {l : List α} {k : Nat} {p : α -> Bool} {z : α} (h : (l.take k).all p = true) (hk : k < l.length) (hp : p (l.getD k z) = true) : (l.take (k + 1)).all p = true := by
 rw [V6 p l k hk, h, <- m9 (d := z) hk, hp]; rfl
theorem aB8 {α : Type} {l : List α} {k : Nat} {p : α -> Bool} (h : (l.take k).all p = true) (hk : l.length <= k) : l.all p = true := by
 rw [b75 hk] at h; exact h
section
variable {nv na d : Nat} {e : b7}
theorem bw3 (h : ¬ (e.kids.length : Int) = j9 e.kind) : j6 nv na (d + 1) e = false := by simp [j6, B4, h]
theorem bw2 (h : e.value < 0) : j6 nv na (d + 1) e = false := by
 have : ¬ 0 <= e.value := by omega
 simp [j6, B4, this]
theorem bw1 (h : y6 nv na e.kind <= e.value) : j6 nv na (d + 1) e = false := by
 have : ¬ e.value < y6 nv na e.kind := by omega
 simp [j6, B4, this]
theorem bw0 {k : Nat} {z : b7} (hk : k < e.kids.length) (h : j6 nv na d (e.kids.getD k z) = false) : j6 nv na (d + 1) e = false := by
 rw [m9 hk] at h
 have : e.kids.all (j6 nv na d) = false := at5 hk h
 simp [j6, this]
theorem aY3 (h1 : (e.kids.length : Int) = j9 e.kind) (h2 : ¬ e.value < 0) (h3 : ¬ y6 nv na e.kind <= e.value) : B4 nv na e = true := by
 unfold B4; rw [decide_eq_true h1, decide_eq_true (by omega), decide_eq_true (by omega)]; rfl
theorem bv9 (hn : B4 nv na e = true) (ha : e.kids.all (j6 nv na d) = true) (h : ¬ e.kind = 3) : j6 nv na (d + 1) e = true := by
 rw [j6, hn, ha]; simp [W5, h]
theorem bv8 (hn : B4 nv na e = true) (ha : e.kids.all (j6 nv na d) = true) (h : e.kind = 3) (hl : 0 < e.kids.length) : j6 nv na (d + 1) e = J0 (e.kids.getD 0 b55) := by
 rw [j6, hn, ha, aF3 h hl, m9 hl]; simp [J0]
theorem aG8 (h1 : (e.kids.length : Int) = j9 e.kind) (h : e.kind = 3) : 0 < e.kids.length := by
 rw [h] at h1; simp [j9] at h1; omega
end
theorem a24 (vs ars : List Int) (b : List b5) (e : b7) (n : Int) (hn : n = 0) : j1.ok Tryz.prog ⟨121, [.agg [.ref 0, .ref 1, .ref 2], .agg [.v (.int .i64 e.kind), .v (.int .i64 e.value), .ref 3], .v (.int .i64 n)], [.dat (.ints vs), .dat (.ints ars), .dat (.stmts b), .dat (.exprs e.kids)], [.dat (.ints vs), .dat (.ints ars), .dat (.stmts b), .dat (.exprs e.kids)], .v (.bool (j6 vs.length ars.length 0 e))⟩ := by
 have h100 : decide (n < 1) = true := by simp; omega
 refine D2 60 Tryz.func121 [dI vs, dI ars, dT b, dE e.kids] [(0, pA 0), (1, eA e 3), (2, iA n)] fun G => ?_; refine wp_seq (j5 G d7 [0, 1, 2, 3, 4, 12] [dI vs, dI ars, dT b, dE e.kids, .box (pL 0), .box (eL e 3)] [(2, iA n), (3, .ptr 4 0), (4, .ptr 5 0), (6, bA false)] fun G => b0 (wp_seq (wp_seq (bx1 G (y7 (fc (a := decide (n < 1)) (b := true) (by assumption) (fc (b := true) rfl fz)) (us [(3, 9, 0), (1010, 1010, 0), (12, 14, 1), (1015, 1015, 1), (17, 23, 1), (1024, 1024, 1)])) [0, 1, 3, 7, 15, 31, 7, 71, 199, 511, 1023, 2047, 4095, 8191, 16383, 32767, 65535, 131071, 262143, 131071, 131071, 1179647, 3801087, 8388607, 16777215] [(32, bA true)] fun G => b0 (rT G true (by kernel_rfl) (wp_seq (j3 G d7 [] fun G => b0 (wp_ret (j2 ?_))))))))); exact H9 G (rg 4)
theorem a23 (vs ars : List Int) (b : List b5) (d : Nat) (hd : d <= 5) (ih : ∀ (e : b7) (n : Int), n = d -> j1.ok Tryz.prog ⟨121, [.agg [.ref 0, .ref 1, .ref 2], .agg [.v (.int .i64 e.kind), .v (.int .i64 e.value), .ref 3], .v (.int .i64 n)], [.dat (.ints vs), .dat (.ints ars), .dat (.stmts b), .dat (.exprs e.kids)], [.dat (.ints vs), .dat (.ints ars), .dat (.stmts b), .dat (.exprs e.kids)], .v (.bool (j6 vs.length ars.length d e))⟩)
    (e : b7) (n : Int) (hn : n = (d + 1 : Nat)) : j1.ok Tryz.prog ⟨121, [.agg [.ref 0, .ref 1, .ref 2], .agg [.v (.int .i64 e.kind), .v (.int .i64 e.value), .ref 3], .v (.int .i64 n)], [.dat (.ints vs), .dat (.ints ars), .dat (.stmts b), .dat (.exprs e.kids)], [.dat (.ints vs), .dat (.ints ars), .dat (.stmts b), .dat (.exprs e.kids)], .v (.bool (j6 vs.length ars.length (d + 1) e))⟩ := by
  have h100 : decide (n < 1) = false := by simp; omega
  refine D2 60 Tryz.func121 [dI vs, dI ars, dT b, dE e.kids] [(0, pA 0), (1, eA e 3), (2, iA n)] fun G => ?_; refine wp_seq (j5 G d7 [0, 1, 2, 3, 4, 12] [dI vs, dI ars, dT b, dE e.kids, .box (pL 0), .box (eL e 3)] [(2, iA n), (3, .ptr 4 0), (4, .ptr 5 0), (6, bA false)] fun G => b0 (wp_seq (wp_seq ?_))); cases h0 : ((e.kids.length : Int) != j9 e.kind)
  ·
   have q0 := bne_eq_false_iff_eq.1 h0; cases h1 : (decide (e.value < 0))
   ·
    have q1 := L3 h1; refine bx1 G (x8 (m8 8 [] (ae8 e.kind) (m8 22 [0, 1, 2] (be8 vs ars b e.kind) x7)) (fc (a := decide (n < 1)) (b := false) (by assumption) (fc h0 (fc h1 fz))) (us [(3, 9, 0), (1010, 1010, 0), (12, 14, 1), (1015, 1015, 1), (17, 23, 2), (1024, 1024, 2)])) [0, 1, 3, 7, 15, 31, 7, 71, 199, 511, 1023, 2047, 4095, 8191, 16383, 32767, 65535, 131071, 262143, 131071, 131071, 1179647, 3801087, 8388607, 16777215] [(32, bA (decide (e.value >= y6 vs.length ars.length e.kind)))] fun G => b0 (S9 G (fun h2 q2 => ?_) fun h2 q2 => ?_)
    ·
     refine wp_skip (b0 (wp_seq (wp_seq (A4 G d7 [(2, iA n), (3, .ptr 4 0), (4, .ptr 5 0), (6, bA false), (7, iA 0)] fun G => b0 (wp_block ?_))))); refine x4 (κ := Nat) (fun k => k <= e.kids.length /\ (e.kids.take k).all (j6 vs.length ars.length d) = true) (fun k => e.kids.length - k) (fun k => [dI vs, dI ars, dT b, dE e.kids, .box (pL 0), .box (eL e 3)]) (fun k => [(2, iA n), (3, .ptr 4 0), (4, .ptr 5 0), (6, bA false), (7, iA k)]) 0 (by simp [h100, h0, h1, h2]) (w6.at G _ _) ?_; clear G; intro k ρ a w hp G; have hlen : e.kids.length <= 9223372036854775807 := G.len 3 (d := .exprs e.kids) (by kernel_rfl); have hnode := aY3 (nv := vs.length) (na := ars.length) q0 q1 q2; refine wp_seq (wp_seq (A4 G d7 [(2, iA n), (3, .ptr 4 0), (4, .ptr 5 0), (6, bA false), (7, iA k), (37, bA (decide ((k : Int) < e.kids.length)))] fun G => b0 (S9 G (fun h3 q3 => ?_) fun h3 q3 => ?_)))
     ·
      refine wp_exit (p8 (p8 (p7 (b0 (wp_seq ?_))))); cases h4 : (e.kind != 3)
      · have q4 := bne_eq_false_iff_eq.1 h4; refine G8 G (x8 (m8 8 [62] (aA8 (e.kids.getD 0 b55)) x7) (fc h4 fz) (us [(4, 8, 0), (1009, 1009, 0)])) (rg 4) [dI vs, dI ars, dT b, dE e.kids] [(6, bA (J0 (e.kids.getD 0 b55)))] (iX 0 0 e.kids.length []) (iK (by have := aG8 q0 (by omega); omega) b70) fun G => b0 (wp_ret ?_); exact y9 (J0 (e.kids.getD 0 b55)) G (rg 4) (bv8 hnode (aB8 hp.2 (by omega)) (by omega) (aG8 q0 (by omega)))
      have q4 := bne_iff_ne.1 h4; refine j5 G (y7 (fc h4 fz) (us [(4, 8, 0), (1009, 1009, 0)])) (rg 4) [dI vs, dI ars, dT b, dE e.kids] [(6, bA true)] fun G => b0 (wp_ret ?_); exact y9 true G (rg 4) (bv9 hnode (aB8 hp.2 (by omega)) (by omega))
     refine wp_skip (b0 (wp_seq (wp_block (wp_seq (aQ7 G (n4 8 [0, 1, 2, 46] (ih (e.kids.getD k b55) (n - 1) (by omega))) [0, 0, 2, 0, 14, 30, 0, 64, 255, 511] [(49, .v (.bool !j6 vs.length ars.length d (e.kids.getD k b55)))] (iX k k e.kids.length ((wO (n - 1)) :: [])) (iK (by omega) (o1 (by omega))) fun G => b0 ?_))))); cases h5 : (!j6 vs.length ars.length d (e.kids.getD k b55))
     · have q5 : (j6 vs.length ars.length d (e.kids.getD k b55)) = true := (Eq.mp (b67 _) h5); refine rF G _ h5 (wp_skip (o9 (b0 (G7 G d7 [(7, iA ((k : Int) + 1))] [wO ((k : Int) + 1)] (o1 (by omega)) fun G => b0 ?_)))); exact Z9 G (k + 1) (⟨by omega, aW3 hp.2 (by omega) (by assumption)⟩) (by omega) (rg 6)
     have q5 : (j6 vs.length ars.length d (e.kids.getD k b55)) = false := (Eq.mp (b65 _) h5); refine rT G _ h5 (wp_seq (j3 G d7 [] fun G => b0 (wp_ret (A2 (j2 (j2 (A2 (j2 ?_)))))))); exact y9 false G (rg 4) (bw0 (k := k) (by omega) (by assumption))
    refine wp_seq (j3 G d7 [] fun G => b0 (wp_ret (j2 ?_))); exact y9 false G (rg 4) (bw1 (by omega))
   have q1 := L2 h1; refine bx1 G (x8 (m8 8 [] (ae8 e.kind) x7) (fc (a := decide (n < 1)) (b := false) (by assumption) (fc h0 (fc h1 fz))) (us [(3, 9, 0), (1010, 1010, 0), (12, 14, 1), (1015, 1015, 1), (17, 23, 2), (1024, 1024, 2)])) [0, 1, 3, 7, 15, 31, 7, 71, 199, 511, 1023, 2047, 4095, 8191, 16383, 32767, 65535, 131071, 262143, 131071, 131071, 1179647, 3801087, 8388607, 16777215] [(32, bA true)] fun G => b0 (rT G true (by kernel_rfl) (wp_seq (j3 G d7 [] fun G => b0 (wp_ret (j2 ?_))))); exact y9 false G (rg 4) (bw2 (by omega))
  have q0 := bne_iff_ne.1 h0; refine bx1 G (x8 (m8 8 [] (ae8 e.kind) x7) (fc (a := decide (n < 1)) (b := false) (by assumption) (fc h0 (fc (b := true) rfl fz))) (us [(3, 9, 0), (1010, 1010, 0), (12, 14, 1), (1015, 1015, 1), (17, 23, 2), (1024, 1024, 2)])) [0, 1, 3, 7, 15, 31, 7, 71, 199, 511, 1023, 2047, 4095, 8191, 16383, 32767, 65535, 131071, 262143, 131071, 131071, 1179647, 3801087, 8388607, 16777215] [(32, bA true)] fun G => b0 (rT G true (by kernel_rfl) (wp_seq (j3 G d7 [] fun G => b0 (wp_ret (j2 ?_))))); exact y9 false G (rg 4) (bw3 (by omega))
theorem aS3 (vs ars : List Int) (b : List b5) : ∀ (d : Nat), d <= 5 -> ∀ (e : b7) (n : Int), n = d -> j1.ok Tryz.prog ⟨121, [.agg [.ref 0, .ref 1, .ref 2], .agg [.v (.int .i64 e.kind), .v (.int .i64 e.value), .ref 3], .v (.int .i64 n)], [.dat (.ints vs), .dat (.ints ars), .dat (.stmts b), .dat (.exprs e.kids)], [.dat (.ints vs), .dat (.ints ars), .dat (.stmts b), .dat (.exprs e.kids)], .v (.bool (j6 vs.length ars.length d e))⟩
 | 0, _, e, n, hn => a24 vs ars b e n (by omega)
 | d + 1, hd, e, n, hn => a23 vs ars b d (by omega) (aS3 vs ars b d (by omega)) e n hn
theorem aA5 (vs ars : List Int) (b : List b5) (ky vy : Int) (ks : List b7) (n : Int) (hn : n = 5) : j1.ok Tryz.prog (F9 121 [pA 0, .agg [iA ky, iA vy, .ref 3], iA n] [dI vs, dI ars, dT b, dE ks] (bA (j6 vs.length ars.length 5 ⟨ky, vy, ks⟩))) := aS3 vs ars b 5 (by omega) ⟨ky, vy, ks⟩ n hn
def cnP (d : Nat) (ks : List b7) (k : Nat) : Nat := 1 + ((ks.take k).map (aa7 d)).sum
theorem bW6 (d : Nat) (ks : List b7) : cnP d ks 0 = 1 := rfl
theorem aU8 {d : Nat} {ks : List b7} {k : Nat} (hk : k < ks.length) : cnP d ks (k + 1) = cnP d ks k + aa7 d (ks.getD k b55) := by
 unfold cnP
 rw [B3 ks k hk, List.map_append, List.sum_append, m9 hk]
 simp; omega
theorem bA3 {d : Nat} {e : b7} {k : Nat} (hk : e.kids.length <= k) : cnP d e.kids k = aa7 (d + 1) e := by
 unfold cnP; rw [b75 hk, aa7]
section
variable {nv na d : Nat} {e : b7}
theorem a22 (he : j6 nv na (d + 1) e = true) {k : Nat} (hk : k < e.kids.length) : j6 nv na d (e.kids.getD k b55) = true := by
 rw [m9 hk]; exact (J1 he).2 _ (b64 hk)
theorem bW5 (hd : d <= 5) (he : j6 nv na d e = true) : aa7 d e <= 1024 := by
 rw [aU7 nv na d e he]
 refine b54 (bk4 nv na d e he) ?_
 exact b54 (b91 (by decide) hd) (by decide)
theorem bG3 (hd : d <= 4) (he : j6 nv na (d + 1) e = true) : ∀ k : Nat, k <= e.kids.length -> cnP d e.kids k <= 1 + 1024 * k
 | 0, _ => by rw [bW6]; omega
 | k + 1, hk => by
  have h := bG3 hd he k (by omega)
  have h2 := bW5 (by omega) (a22 he (show k < e.kids.length by omega))
  rw [aU8 (by omega)]
  omega
end
abbrev cnC (d : Nat) (e : b7) (n : Int) : j1 := F9 122 [eA e 0, iA n] (eS e) (iA (aa7 d e : Nat))
theorem bc6 (nv na d : Nat) (hd : d <= 4) (ih : ∀ (e : b7), j6 nv na d e = true -> ∀ n : Int, n = d -> j1.ok Tryz.prog (cnC d e n)) (e : b7) (he : j6 nv na (d + 1) e = true) (n : Int) (hn : n = (d + 1 : Nat)) : j1.ok Tryz.prog (cnC (d + 1) e n) := by
  have hk3 := (J1 he).1; refine D2 29 Tryz.func122 [dE e.kids] [(0, eA e 0), (1, iA n)] fun G => ?_; refine wp_seq (j5 G d7 [0, 1] [dE e.kids, .box (eL e 0)] [(1, iA n), (2, .ptr 1 0), (4, iA 0)] fun G => b0 (wp_seq (j3 G d7 [(5, iA 1)] fun G => b0 (wp_seq (wp_seq (A4 G d7 [(1, iA n), (2, .ptr 1 0), (4, iA 0), (5, iA 1), (6, iA 0)] fun G => b0 (wp_block ?_))))))); refine x4 (κ := Nat) (fun k => k <= e.kids.length) (fun k => e.kids.length - k) (fun k => [dE e.kids, .box (eL e 0)]) (fun k => [(1, iA n), (2, .ptr 1 0), (4, iA 0), (5, iA (cnP d e.kids k : Nat)), (6, iA k)]) 0 (by omega) (w6.at G _ _) ?_; clear G; intro k ρ a w hp G; replace G := w6.at G [dE e.kids, .box (eL e 0)] [(1, iA n), (2, .ptr 1 0), (4, iA 0), (5, iA (↑(cnP d e.kids k) : Int)), (6, iA k)]; have hcb := bG3 hd he k hp; refine wp_seq (wp_seq ?_); cases h0 : (decide ((k : Int) < e.kids.length))
  · have q0 := L3 h0; refine j3 G (y7 (fc h0 fz) [(6, 0), (7, 0), (1008, 0)]) [(15, bA false)] fun G => b0 (rF G false (by kernel_rfl) (wp_exit (p8 (p8 (p7 (b0 (wp_seq (j5 G d7 [0] [dE e.kids] [(4, iA (↑(cnP d e.kids k) : Int))] fun G => b0 (wp_ret ?_))))))))); exact rxI ((↑(cnP d e.kids k) : Int)) G [0] (by rw [<- bA3 (k := k) (by omega)]; done)
  have q0 := L2 h0; refine A4 G (y7 (fc h0 fz) [(6, 0), (7, 0), (1008, 0)]) [(1, iA n), (2, .ptr 1 0), (4, iA 0), (5, iA (↑(cnP d e.kids k) : Int)), (6, iA k), (15, bA (decide (n > 0)))] fun G => b0 ?_; cases h1 : (decide (n > 0))
  · have q1 := L3 h1; exact False.elim (by omega)
  have q1 := L2 h1; refine rT G _ h1 (wp_skip (b0 (wp_seq (wp_block (G7 G (n4 8 [42] (ih (e.kids.getD k b55) (a22 he (by omega)) (n - 1) (by omega))) [(5, iA ((↑(cnP d e.kids k) : Int) + (↑(aa7 d (e.kids.getD k b55)) : Int)))] (iX k k e.kids.length ((wO (n - 1)) :: ((wO ((↑(cnP d e.kids k) : Int) + (↑(aa7 d (e.kids.getD k b55)) : Int))) :: []))) (iK (by omega) ⟨oW (by omega), ⟨(by have h9 := bW5 (nv := nv) (na := na) (d := d) (by omega) (a22 he (show k < e.kids.length by omega)); exact w64 (by omega) (by omega)), b70⟩⟩) fun G => o9 (b0 (G7 G d7 [(6, iA ((k : Int) + 1))] [wO ((k : Int) + 1)] (o1 (by omega)) fun G => b0 ?_))))))); exact Z9 G (k + 1) (by omega) (by omega) [0, 1] (ht := by have e1 : ((↑(cnP d e.kids (k + 1)) : Int) : Int) = ((↑(cnP d e.kids k) : Int) + (↑(aa7 d (e.kids.getD k b55)) : Int)) := (by rw [aU8 (by omega)]; omega); (first | rw [e1] | simp only [e1]) <;> rfl)
theorem aS5 (nv na : Nat) : ∀ (d : Nat), d <= 5 -> ∀ (e : b7), j6 nv na d e = true -> ∀ n : Int, n = d -> j1.ok Tryz.prog (cnC d e n)
 | 0, _, e, h, _, _ => by simp [j6] at h
 | d + 1, hd, e, h, n, hn => bc6 nv na d (by omega) (aS5 nv na d (by omega)) e h n hn
theorem a27 (nv na : Nat) (ky vy : Int) (ks : List b7) (n : Int) (hn : n = 5) (h : j6 nv na 5 ⟨ky, vy, ks⟩ = true) : j1.ok Tryz.prog (F9 122 [.agg [iA ky, iA vy, .ref 0], iA n] [dE ks] (iA (aa7 5 ⟨ky, vy, ks⟩ : Nat))) := aS5 nv na 5 (by omega) ⟨ky, vy, ks⟩ h n hn
theorem bZ7 {nv na : Nat} {e : b7} (h : j6 nv na 5 ⟨e.kind, e.value, e.kids⟩ = false) : j8 nv na e = false := by
 rw [b7.eta] at h
 unfold j8; rw [h]; rfl
theorem bZ6 {nv na : Nat} {e : b7} (h : j6 nv na 5 ⟨e.kind, e.value, e.kids⟩ = true) : j8 nv na e = decide ((aa7 5 ⟨e.kind, e.value, e.kids⟩ : Int) <= 15) := by
 rw [b7.eta] at h ⊢
 rw [aY7, h, Bool.true_and, b89]
 simp only [decide_eq_true_eq]; omega
section
variable {s : b5}
theorem b02 (h : s.kind = 4) (h2 : ¬ (s.els.length : Int) = 0) : m6 s = false := by
 unfold m6; rw [if_pos (.inr h), if_pos h, decide_eq_false (p := s.els.length = 0) (by omega)]; simp
theorem b05 (h : s.kind = 4) (h1 : s.target = 0) (h2 : (s.els.length : Int) = 0) (h3 : s.count >= 1) (h4 : s.count <= 3) (h5 : noneB s.index = true) : m6 s = noneB s.value := by
 unfold m6; rw [if_pos (.inr h), if_pos h, decide_eq_true (p := s.els.length = 0) (by omega), decide_eq_true h1, decide_eq_true (p := 1 <= s.count) h3, decide_eq_true h4, h5]; simp
theorem b04 (h3 : ¬ s.kind = 3) (h4 : ¬ s.kind = 4) (b : ¬ (s.body.length : Int) > 0) (e : ¬ (s.els.length : Int) > 0) (c : s.count = 0) (h2 : ¬ s.kind = 2) : m6 s = noneB s.index := by
 unfold m6; rw [if_neg (by omega), decide_eq_true (p := s.body.length = 0) (by omega), decide_eq_true (p := s.els.length = 0) (by omega), decide_eq_true c, decide_eq_false h2]; simp
theorem b03 (b : ¬ (s.body.length : Int) > 0) (e : ¬ (s.els.length : Int) > 0) (c : s.count = 0) (h2 : s.kind = 2) : m6 s = true := by
 unfold m6; rw [if_neg (by omega), decide_eq_true (p := s.body.length = 0) (by omega), decide_eq_true (p := s.els.length = 0) (by omega), decide_eq_true c, decide_eq_true h2]; simp
theorem b01 (h3 : ¬ s.kind = 3) (h4 : ¬ s.kind = 4) (e : (s.els.length : Int) > 0) : m6 s = false := by
 unfold m6; rw [if_neg (by omega), decide_eq_false (p := s.els.length = 0) (by omega)]; simp
theorem b00 (h3 : ¬ s.kind = 3) (h4 : ¬ s.kind = 4) (e : (s.body.length : Int) > 0) : m6 s = false := by
 unfold m6; rw [if_neg (by omega), decide_eq_false (p := s.body.length = 0) (by omega)]; simp
end
theorem H7 (p : j0) (e : b7) : j1.ok Tryz.prog (F9 102 [pA 0, eA e 3] (pS p ++ eS e) (bA (j8 p.vars.length p.arrays.length e))) := by
 have hcn := fun h => a27 p.vars.length p.arrays.length e.kind e.value e.kids 5 rfl h
 refine D2 13 Tryz.func102 [dI p.vars, dI p.arrays, dT p.body, dE e.kids] [(0, pA 0), (1, eA e 3)] fun G => ?_; refine wp_seq (j5 G d7 [0, 1, 2, 3, 4, 12] [dI p.vars, dI p.arrays, dT p.body, dE e.kids, .box (pL 0), .box (eL e 3)] [(2, .ptr 4 0), (3, .ptr 5 0), (4, bA false)] fun G => b0 (wp_seq ?_)); cases h0 : (j6 p.vars.length p.arrays.length (5 : Nat) (C8 e))
 ·refine j5 G (x8 (m8 2 (rg 4) (aA5 p.vars p.arrays p.body e.kind e.value e.kids 5 (by kernel_rfl)) x7) (fc h0 fz) [(4, 0), (5, 0), (6, 0), (1007, 0)]) (rg 4) [dI p.vars, dI p.arrays, dT p.body, dE e.kids] [(4, bA false)] fun G => b0 (wp_ret ?_); exact y9 false G (rg 4) (bZ7 (by with_reducible assumption))
 refine j5 G (x8 (m8 2 (rg 4) (aA5 p.vars p.arrays p.body e.kind e.value e.kids 5 (by kernel_rfl)) (m8 5 [3] (hcn (by assumption)) x7)) (fc h0 fz) [(4, 0), (5, 0), (6, 0), (1007, 0)]) (rg 4) [dI p.vars, dI p.arrays, dT p.body, dE e.kids] [(4, bA (decide ((↑(aa7 5 (C8 e)) : Int) <= 15)))] fun G => b0 (wp_ret ?_); exact y9 (decide ((↑(aa7 5 (C8 e)) : Int) <= 15)) G (rg 4) (bZ6 (by with_reducible assumption))
abbrev au6 (s : b5) (r0 : List It) : List It := dE s.index.kids :: dE s.value.kids :: dT s.body :: dT s.els :: r0
theorem be7 (s : b5) : j1.ok Tryz.prog (F9 101 [sA s 0] (sS s) (bA (m6 s))) := by
  refine D2 74 Tryz.func101 (au6 s []) [(0, sA s 0)] fun G => ?_; refine wp_seq (j5 G d7 (rg 5) (au6 s [.box (sL s 0)]) [(1, .ptr 4 0), (2, bA false)] fun G => b0 (wp_seq ?_)); cases h0 : (s.kind == 3)
  ·
   have q0 := ne_of_beq_false h0; refine A4 G (y7 (fc h0 fz) [(4, 0), (5, 0), (6, 0), (1007, 0)]) [(1, .ptr 4 0), (2, bA false), (3, bA (s.kind == 4))] fun G => b0 (wp_seq (wp_seq ?_)); cases h1 : (!s.kind == 4)
   ·
    have q1 : s.kind = 4 := (fun hq => eq_of_beq hq) (Eq.mp (b67 _) h1); cases h2 : (s.kind == 4)
    · have q2 := ne_of_beq_false h2; exact False.elim (by omega)
    have q2 := eq_of_beq h2; refine j3 G (y7 (fc h1 (fc (b := false) rfl (fc h2 fz))) (us [(3, 7, 0), (12, 12, 0), (1013, 1013, 0), (15, 16, 1), (17, 19, 2), (20, 20, 1), (1020, 1020, 2), (1021, 1021, 1)])) [(33, bA (s.target != 0))] fun G => b0 (rcN G (fun h3 q3 => ?_) fun h3 q3 => ?_)
    ·
     refine wp_skip (b0 (wp_seq (wp_seq (j3 G d7 [(36, bA (s.kind == 4))] fun G => b0 (rT G _ h2 (wp_seq ?_)))))); cases h4 : ((s.els.length : Int) == 0)
     · have q4 := ne_of_beq_false h4; refine j3 G (y7 (fc h4 (fc (b := false) rfl fz)) (us [(5, 7, 0), (1008, 1008, 0), (10, 12, 1), (1013, 1013, 1), (15, 17, 1), (1018, 1018, 1), (20, 22, 1), (1023, 1023, 1)])) [] fun G => b0 (wp_ret (j2 ?_)); exact y9 false G (rg 4) (b02 (by omega) (by omega))
     have q4 := eq_of_beq h4; cases h5 : (decide (s.count >= 1))
     · have q5 := L3 h5; refine j3 G (y7 (fc h4 (fc h5 (fc (b := false) rfl fz))) (us [(5, 7, 0), (1008, 1008, 0), (10, 12, 1), (1013, 1013, 1), (15, 17, 2), (1018, 1018, 2), (20, 22, 2), (1023, 1023, 2)])) [] fun G => b0 (wp_ret (j2 ?_)); exact y9 false G (rg 4) (by rw [b89]; simp [m6, h0, q0, h1, q1, h2, q2, h3, q3, h4, q4, h5, q5]; done)
     have q5 := L2 h5; cases h6 : (decide (s.count <= 3))
     · have q6 := L3 h6; refine j3 G (y7 (fc h4 (fc h5 (fc h6 (fc (b := false) rfl fz)))) (us [(5, 7, 0), (1008, 1008, 0), (10, 12, 1), (1013, 1013, 1), (15, 17, 2), (1018, 1018, 2), (20, 22, 3), (1023, 1023, 3)])) [] fun G => b0 (wp_ret (j2 ?_)); exact y9 false G (rg 4) (by rw [b89]; simp [m6, h0, q0, h1, q1, h2, q2, h3, q3, h4, q4, h5, q5, h6, q6]; done)
     have q6 := L2 h6; cases h7 : (noneB s.index)
     · refine j3 G (x8 (m8 17 [0] (ad0 s.index) x7) (fc h4 (fc h5 (fc h6 (fc h7 fz)))) (us [(5, 7, 0), (1008, 1008, 0), (10, 12, 1), (1013, 1013, 1), (15, 17, 2), (1018, 1018, 2), (20, 22, 3), (1023, 1023, 3)])) [] fun G => b0 (wp_ret (j2 ?_)); exact y9 false G (rg 4) (by rw [b89]; simp [m6, h0, q0, h1, q1, h2, q2, h3, q3, h4, q4, h5, q5, h6, q6, h7]; done)
     refine j3 G (x8 (m8 17 [0] (ad0 s.index) (m8 22 [1] (ad0 s.value) x7)) (fc h4 (fc h5 (fc h6 (fc h7 fz)))) (us [(5, 7, 0), (1008, 1008, 0), (10, 12, 1), (1013, 1013, 1), (15, 17, 2), (1018, 1018, 2), (20, 22, 3), (1023, 1023, 3)])) [(2, bA (noneB s.value))] fun G => b0 (wp_ret (j2 ?_)); exact y9 (noneB s.value) G (rg 4) (b05 (by omega) (by omega) (by omega) (by omega) (by omega) (by with_reducible assumption))
    refine wp_seq (j3 G d7 [] fun G => b0 (wp_ret (j2 ?_))); exact y9 false G (rg 4) (by rw [b89]; simp [m6, h0, q0, h1, q1, h2, q2, h3, q3]; done)
   have q1 : ¬ (s.kind = 4) := (fun hq => ne_of_beq_false hq) (Eq.mp (b65 _) h1); cases h8 : (decide ((s.body.length : Int) > 0))
   ·
    have q8 := L3 h8; cases h9 : (decide ((s.els.length : Int) > 0))
    ·
     have q9 := L3 h9; cases h10 : (s.kind == 4)
     ·
      have q10 := ne_of_beq_false h10; refine j3 G (y7 (fc h1 (fc h8 (fc h9 (fc h10 fz)))) (us [(3, 7, 0), (8, 11, 1), (12, 12, 0), (1012, 1012, 1), (1013, 1013, 0), (15, 16, 2), (17, 19, 3), (20, 20, 2), (1020, 1020, 3), (1021, 1021, 2)])) [(33, bA false)] fun G => b0 (rF G false (by kernel_rfl) (wp_skip (b0 (wp_seq (wp_seq (j3 G d7 [(36, bA (s.kind == 4))] fun G => b0 (rF G _ h10 (wp_skip (b0 (wp_seq ?_)))))))))); cases h11 : (s.count == 0)
      · have q11 := ne_of_beq_false h11; refine j5 G (y7 (fc h11 fz) (us [(4, 7, 0), (11, 11, 0), (1012, 1012, 0)])) (rg 4) (au6 s []) [(2, bA false)] fun G => b0 (wp_ret ?_); exact y9 false G (rg 4) (by rw [b89]; simp [m6, h0, q0, h1, q1, h8, q8, h9, q9, h10, q10, h11, q11]; done)
      have q11 := eq_of_beq h11; cases h12 : (s.kind == 2)
      · have q12 := ne_of_beq_false h12; refine j5 G (x8 (m8 10 [0] (ad0 s.index) x7) (fc h11 (fc h12 fz)) (us [(4, 7, 0), (8, 10, 1), (11, 11, 0), (1011, 1011, 1), (1012, 1012, 0)])) (rg 4) (au6 s []) [(2, bA (noneB s.index))] fun G => b0 (wp_ret ?_); exact y9 (noneB s.index) G (rg 4) (b04 (by omega) (by omega) (by omega) (by omega) (by omega) (by omega))
      have q12 := eq_of_beq h12; refine j5 G (y7 (fc h11 (fc h12 fz)) (us [(4, 7, 0), (8, 10, 1), (11, 11, 0), (1011, 1011, 1), (1012, 1012, 0)])) (rg 4) (au6 s []) [(2, bA true)] fun G => b0 (wp_ret ?_); exact y9 true G (rg 4) (b03 (by omega) (by omega) (by omega) (by omega))
     have q10 := eq_of_beq h10; exact False.elim (by omega)
    have q9 := L2 h9; refine j3 G (y7 (fc h1 (fc h8 (fc h9 fz))) (us [(3, 7, 0), (8, 11, 1), (12, 12, 0), (1012, 1012, 1), (1013, 1013, 0), (15, 16, 2), (20, 20, 2), (1021, 1021, 2)])) [(33, bA true)] fun G => b0 (rT G true (by kernel_rfl) (wp_seq (j3 G d7 [] fun G => b0 (wp_ret (j2 ?_))))); exact y9 false G (rg 4) (b01 (by omega) (by omega) (by omega))
   have q8 := L2 h8; refine j3 G (y7 (fc h1 (fc h8 (fc (b := true) rfl fz))) (us [(3, 7, 0), (8, 11, 1), (12, 12, 0), (1012, 1012, 1), (1013, 1013, 0), (15, 16, 2), (20, 20, 2), (1021, 1021, 2)])) [(33, bA true)] fun G => b0 (rT G true (by kernel_rfl) (wp_seq (j3 G d7 [] fun G => b0 (wp_ret (j2 ?_))))); exact y9 false G (rg 4) (b00 (by omega) (by omega) (by omega))
  have q0 := eq_of_beq h0; refine j3 G (y7 (fc h0 fz) [(4, 0), (5, 0), (6, 0), (1007, 0)]) [(3, bA true)] fun G => b0 (wp_seq (wp_seq (j3 G (y7 (fc (b := false) rfl (fc (b := true) rfl fz)) (us [(3, 7, 0), (12, 12, 0), (1013, 1013, 0), (15, 16, 0), (17, 19, 1), (20, 20, 0), (1020, 1020, 1), (1021, 1021, 0)])) [(33, bA (s.target != 0))] fun G => b0 (rcN G (fun h13 q13 => ?_) fun h13 q13 => ?_))))
  ·
   refine wp_skip (b0 (wp_seq (wp_seq (A4 G d7 [(1, .ptr 4 0), (2, bA false), (36, bA (s.kind == 4))] fun G => b0 ?_)))); cases h14 : (s.kind == 4)
   ·
    have q14 := ne_of_beq_false h14; refine rF G _ h14 (wp_skip (b0 (wp_seq ?_))); cases h15 : (s.count == 0)
    · have q15 := ne_of_beq_false h15; refine j5 G (y7 (fc h15 fz) (us [(4, 7, 0), (11, 11, 0), (1012, 1012, 0)])) (rg 4) (au6 s []) [(2, bA false)] fun G => b0 (wp_ret ?_); exact y9 false G (rg 4) (by rw [b89]; simp [m6, h0, q0, h13, q13, h14, q14, h15, q15]; done)
    have q15 := eq_of_beq h15; cases h16 : (s.kind == 2)
    · have q16 := ne_of_beq_false h16; refine j5 G (x8 (m8 10 [0] (ad0 s.index) x7) (fc h15 (fc h16 fz)) (us [(4, 7, 0), (8, 10, 1), (11, 11, 0), (1011, 1011, 1), (1012, 1012, 0)])) (rg 4) (au6 s []) [(2, bA (noneB s.index))] fun G => b0 (wp_ret ?_); exact y9 (noneB s.index) G (rg 4) (by rw [b89]; simp [m6, h0, q0, h13, q13, h14, q14, h15, q15, h16, q16]; done)
    have q16 := eq_of_beq h16; exact False.elim (by omega)
   have q14 := eq_of_beq h14; exact False.elim (by omega)
  refine wp_seq (j3 G d7 [] fun G => b0 (wp_ret (j2 ?_))); exact y9 false G (rg 4) (by rw [b89]; simp [m6, h0, q0, h13, q13]; done)
abbrev vbC (p : j0) (d : Nat) (ss : List b5) (n : Int) : j1 := F9 36 [pA 0, .ref 3, iA n] (pS p ++ [dT ss]) (bA (ss.all (j4 p.vars.length p.arrays.length d)))
abbrev vsC (p : j0) (d : Nat) (s : b5) (n : Int) : j1 := F9 64 [pA 0, sA s 3, iA n] (pS p ++ sS s) (bA (j4 p.vars.length p.arrays.length d s))
theorem bc4 (p : j0) (s : b5) (n : Int) (hn : n = 0) : j1.ok Tryz.prog (vsC p 0 s n) := by
 refine D2 96 Tryz.func64 [dI p.vars, dI p.arrays, dT p.body, dE s.index.kids, dE s.value.kids, dT s.body, dT s.els] [(0, pA 0), (1, sA s 3), (2, iA n)] fun G => ?_; refine wp_seq (j5 G d7 [0, 1, 2, 3, 4, 5, 6, 7, 15] [dI p.vars, dI p.arrays, dT p.body, dE s.index.kids, dE s.value.kids, dT s.body, dT s.els, .box (pL 0), .box (sL s 3)] [(2, iA n), (3, .ptr 7 0), (4, .ptr 8 0), (6, bA false)] fun G => b0 (wp_seq (wp_seq ?_))); cases h0 : (decide (n < 1))
 ·have q0 := L3 h0; exact False.elim (by omega)
 have q0 := L2 h0; refine j3 G (y7 (fc h0 fz) [(3, 0), (4, 0), (5, 0), (1006, 0)]) [(13, bA true)] fun G => b0 (rT G true (by kernel_rfl) (wp_seq (j3 G d7 [] fun G => b0 (wp_ret (j2 ?_))))); exact H9 G (rg 7)
section
variable {nv na d : Nat} {s : b5}
theorem bY9 (h : m6 s = false) : j4 nv na (d + 1) s = false := by rw [j4, h]; rfl
theorem bI3 (hp : m6 s = true) (h : s.kind = 1 \/ s.kind = 5) : j4 nv na (d + 1) s = (decide (0 <= s.target) && decide (s.target < nv) && j8 nv na s.value) := by rw [j4, hp, if_pos h]; rfl
theorem bk0 (hp : m6 s = true) (h : s.kind = 2) : j4 nv na (d + 1) s = (decide (0 <= s.target) && decide (s.target < na) && j8 nv na s.index && J0 s.index && j8 nv na s.value) := by rw [j4, hp, if_neg (by omega), if_pos h]; rfl
theorem bI2 (hp : m6 s = true) (h : s.kind = 3) : j4 nv na (d + 1) s = (j8 nv na s.value && s.body.all (j4 nv na d) && s.els.all (j4 nv na d)) := by rw [j4, hp, if_neg (by omega), if_neg (by omega), if_pos h]; rfl
theorem bZ0 (hp : m6 s = true) (h : s.kind = 4) : j4 nv na (d + 1) s = s.body.all (j4 nv na d) := by rw [j4, hp, if_neg (by omega), if_neg (by omega), if_neg (by omega), if_pos h]; rfl
theorem bD7 (hp : m6 s = true) (h : s.kind = 1 \/ s.kind = 5) (q : ¬ s.target >= 0) : j4 nv na (d + 1) s = false := by rw [bI3 hp h, decide_eq_false (p := 0 <= s.target) q]; rfl
theorem bD6 (hp : m6 s = true) (h : s.kind = 1 \/ s.kind = 5) (q : ¬ s.target < (nv : Int)) : j4 nv na (d + 1) s = false := by rw [bI3 hp h, decide_eq_false q, Bool.and_false]; rfl
theorem bD5 (hp : m6 s = true) (h : s.kind = 1 \/ s.kind = 5) (q : s.target >= 0) (r : s.target < (nv : Int)) : j4 nv na (d + 1) s = j8 nv na s.value := by rw [bI3 hp h, decide_eq_true (p := 0 <= s.target) q, decide_eq_true r]; rfl
theorem bR0 (hp : m6 s = true) (h : s.kind = 2) (q : ¬ s.target >= 0) : j4 nv na (d + 1) s = false := by rw [bk0 hp h, decide_eq_false (p := 0 <= s.target) q]; rfl
theorem bQ9 (hp : m6 s = true) (h : s.kind = 2) (q : ¬ s.target < (na : Int)) : j4 nv na (d + 1) s = false := by rw [bk0 hp h, decide_eq_false q, Bool.and_false]; rfl
theorem bQ8 (hp : m6 s = true) (h : s.kind = 2) (q : j8 nv na s.index = false) : j4 nv na (d + 1) s = false := by rw [bk0 hp h, q, Bool.and_false]; rfl
theorem bQ7 (hp : m6 s = true) (h : s.kind = 2) (q : J0 s.index = false) : j4 nv na (d + 1) s = false := by rw [bk0 hp h, q, Bool.and_false]; rfl
theorem bQ6 (hp : m6 s = true) (h : s.kind = 2) (q : s.target >= 0) (r : s.target < (na : Int)) (u : j8 nv na s.index = true) (v : J0 s.index = true) : j4 nv na (d + 1) s = j8 nv na s.value := by rw [bk0 hp h, decide_eq_true (p := 0 <= s.target) q, decide_eq_true r, u, v]; rfl
theorem bQ5 (hp : m6 s = true) (h : s.kind = 3) (q : j8 nv na s.value = false) : j4 nv na (d + 1) s = false := by rw [bI2 hp h, q]; rfl
theorem bQ4 (hp : m6 s = true) (h : s.kind = 3) (q : s.body.all (j4 nv na d) = false) : j4 nv na (d + 1) s = false := by rw [bI2 hp h, q, Bool.and_false]; rfl
theorem bQ3 (hp : m6 s = true) (h : s.kind = 3) (q : j8 nv na s.value = true) (r : s.body.all (j4 nv na d) = true) : j4 nv na (d + 1) s = s.els.all (j4 nv na d) := by rw [bI2 hp h, q, r]; rfl
theorem bZ1 (h1 : ¬ s.kind = 1) (h2 : ¬ s.kind = 2) (h3 : ¬ s.kind = 3) (h4 : ¬ s.kind = 4) (h5 : ¬ s.kind = 5) : j4 nv na (d + 1) s = false := by rw [j4, if_neg (by omega), if_neg h2, if_neg h3, if_neg h4]; simp
end
abbrev N3 (p : j0) (s : b5) (r0 : List It) : List It := dI p.vars :: dI p.arrays :: dT p.body :: dE s.index.kids :: dE s.value.kids :: dT s.body :: dT s.els :: r0
theorem bk6 (p : j0) (d : Nat) (hB : ∀ (ss : List b5) (n : Int), n = d -> j1.ok Tryz.prog (vbC p d ss n)) (s : b5) (n : Int) (hn : n = (d + 1 : Nat)) (hd : d <= 5) : j1.ok Tryz.prog (vsC p (d + 1) s n) := by
  refine D2 96 Tryz.func64 (N3 p s []) [(0, pA 0), (1, sA s 3), (2, iA n)] fun G => ?_; refine wp_seq (j5 G d7 [0, 1, 2, 3, 4, 5, 6, 7, 15] (N3 p s [.box (pL 0), .box (sL s 3)]) [(2, iA n), (3, .ptr 7 0), (4, .ptr 8 0), (6, bA false)] fun G => b0 (wp_seq (wp_seq ?_))); cases h0 : (decide (n < 1))
  ·
   have q0 := L3 h0; refine j3 G (x8 (m8 4 [3, 4, 5, 6] (be7 s) x7) (fc h0 fz) [(3, 0), (4, 0), (5, 0), (1006, 0)]) [(13, .v (.bool !m6 s))] fun G => b0 ?_; cases h1 : (!m6 s)
   ·
    have q1 : (m6 s) = true := (Eq.mp (b67 _) h1); refine rF G _ h1 (wp_skip (b0 (wp_seq (wp_seq (j3 G d7 [(15, iA s.kind)] fun G => b0 (wp_block (wp_seq (wp_seq (j3 G d7 [(16, bA (s.kind == 1))] fun G => b0 (rcE G (fun h2 q2 => ?_) fun h2 q2 => ?_))))))))))
    ·
     refine j3 G d7 [(16, bA (s.kind == 5))] fun G => b0 (rcE G (fun h3 q3 => ?_) fun h3 q3 => ?_)
     ·
      refine wp_seq (j3 G d7 [(36, bA (s.kind == 2))] fun G => b0 (rcE G (fun h4 q4 => ?_) fun h4 q4 => ?_))
      ·
       refine wp_seq (j3 G d7 [(66, bA (s.kind == 3))] fun G => b0 (rcE G (fun h5 q5 => ?_) fun h5 q5 => ?_))
       ·
        refine wp_seq (j3 G d7 [(88, bA (s.kind == 4))] fun G => b0 (rcE G (fun h6 q6 => ?_) fun h6 q6 => ?_))
        · refine wp_skip (o9 (b0 (wp_seq (j5 G d7 (rg 7) (N3 p s []) [(6, bA false)] fun G => b0 (wp_ret ?_))))); exact y9 false G (rg 7) (bZ1 (by omega) (by omega) (by omega) (by omega) (by omega))
        refine wp_seq (G8 G (n4 5 [0, 1, 2, 5] (hB s.body (n - 1) (by omega))) (rg 7) (N3 p s []) [(6, bA (s.body.all (j4 p.vars.length p.arrays.length d)))] [wO (n - 1)] (o1 (by omega)) fun G => b0 (wp_ret (A2 (j2 ?_)))); exact y9 (s.body.all (j4 p.vars.length p.arrays.length d)) G (rg 7) (bZ0 (by with_reducible assumption) (by omega))
       refine wp_seq ?_; cases h7 : (j8 p.vars.length p.arrays.length s.value)
       · refine j5 G (x8 (m8 3 [0, 1, 2, 4] (H7 p s.value) x7) (fc h7 (fc (b := false) rfl fz)) (us [(5, 10, 0), (1011, 1011, 0), (13, 18, 1), (1019, 1019, 1)])) (rg 7) (N3 p s []) [(6, bA false)] fun G => b0 (wp_ret (A2 (j2 ?_))); exact y9 false G (rg 7) (bQ5 (by with_reducible assumption) (by omega) (by with_reducible assumption))
       cases h8 : (s.body.all (j4 p.vars.length p.arrays.length d))
       · refine G8 G (x8 (m8 3 [0, 1, 2, 4] (H7 p s.value) (m8 10 [0, 1, 2, 5] (hB s.body (n - 1) (by omega)) x7)) (fc h7 (fc h8 fz)) (us [(5, 10, 0), (1011, 1011, 0), (13, 18, 1), (1019, 1019, 1)])) (rg 7) (N3 p s []) [(6, bA false)] [wO (n - 1)] (o1 (by omega)) fun G => b0 (wp_ret (A2 (j2 ?_))); exact y9 false G (rg 7) (bQ4 (by with_reducible assumption) (by omega) (by with_reducible assumption))
       refine G8 G (x8 (m8 3 [0, 1, 2, 4] (H7 p s.value) (m8 10 [0, 1, 2, 5] (hB s.body (n - 1) (by omega)) (m8 18 [0, 1, 2, 6] (hB s.els (n - 1) (by omega)) x7))) (fc h7 (fc h8 fz)) (us [(5, 10, 0), (1011, 1011, 0), (13, 18, 1), (1019, 1019, 1)])) (rg 7) (N3 p s []) [(6, bA (s.els.all (j4 p.vars.length p.arrays.length d)))] [wO (n - 1), wO (n - 1)] (o2 (by omega)) fun G => b0 (wp_ret (A2 (j2 ?_))); exact y9 (s.els.all (j4 p.vars.length p.arrays.length d)) G (rg 7) (bQ3 (by with_reducible assumption) (by omega) (by with_reducible assumption) (by with_reducible assumption))
      refine wp_seq ?_; cases h9 : (decide (s.target >= 0))
      · have q9 := L3 h9; refine j5 G (y7 (fc h9 (fc (b := false) rfl fz)) (us [(4, 9, 0), (1010, 1010, 0), (12, 15, 1), (1016, 1016, 1), (18, 20, 1), (1021, 1021, 1), (23, 26, 1), (1027, 1027, 1)])) (rg 7) (N3 p s []) [(6, bA false)] fun G => b0 (wp_ret (A2 (j2 ?_))); exact y9 false G (rg 7) (bR0 (by with_reducible assumption) (by omega) (by omega))
      have q9 := L2 h9; cases h10 : (decide (s.target < (p.arrays.length : Int)))
      · have q10 := L3 h10; refine j5 G (y7 (fc h9 (fc h10 (fc (b := false) rfl fz))) (us [(4, 9, 0), (1010, 1010, 0), (12, 15, 1), (1016, 1016, 1), (18, 20, 2), (1021, 1021, 2), (23, 26, 2), (1027, 1027, 2)])) (rg 7) (N3 p s []) [(6, bA false)] fun G => b0 (wp_ret (A2 (j2 ?_))); exact y9 false G (rg 7) (bQ9 (by with_reducible assumption) (by omega) (by omega))
      have q10 := L2 h10; cases h11 : (j8 p.vars.length p.arrays.length s.index)
      · refine j5 G (x8 (m8 15 (rg 4) (H7 p s.index) x7) (fc h9 (fc h10 (fc h11 (fc (b := false) rfl fz)))) (us [(4, 9, 0), (1010, 1010, 0), (12, 15, 1), (1016, 1016, 1), (18, 20, 2), (1021, 1021, 2), (23, 26, 3), (1027, 1027, 3)])) (rg 7) (N3 p s []) [(6, bA false)] fun G => b0 (wp_ret (A2 (j2 ?_))); exact y9 false G (rg 7) (bQ8 (by with_reducible assumption) (by omega) (by with_reducible assumption))
      cases h12 : (J0 s.index)
      · refine j5 G (x8 (m8 15 (rg 4) (H7 p s.index) (m8 20 [3] (aA8 s.index) x7)) (fc h9 (fc h10 (fc h11 (fc h12 fz)))) (us [(4, 9, 0), (1010, 1010, 0), (12, 15, 1), (1016, 1016, 1), (18, 20, 2), (1021, 1021, 2), (23, 26, 3), (1027, 1027, 3)])) (rg 7) (N3 p s []) [(6, bA false)] fun G => b0 (wp_ret (A2 (j2 ?_))); exact y9 false G (rg 7) (bQ7 (by with_reducible assumption) (by omega) (by with_reducible assumption))
      refine j5 G (x8 (m8 15 (rg 4) (H7 p s.index) (m8 20 [3] (aA8 s.index) (m8 26 [0, 1, 2, 4] (H7 p s.value) x7))) (fc h9 (fc h10 (fc h11 (fc h12 fz)))) (us [(4, 9, 0), (1010, 1010, 0), (12, 15, 1), (1016, 1016, 1), (18, 20, 2), (1021, 1021, 2), (23, 26, 3), (1027, 1027, 3)])) (rg 7) (N3 p s []) [(6, bA (j8 p.vars.length p.arrays.length s.value))] fun G => b0 (wp_ret (A2 (j2 ?_))); exact y9 (j8 p.vars.length p.arrays.length s.value) G (rg 7) (bQ6 (by with_reducible assumption) (by omega) (by omega) (by omega) (by with_reducible assumption) (by with_reducible assumption))
     refine wp_seq ?_; cases h13 : (decide (s.target >= 0))
     · have q13 := L3 h13; refine j5 G (y7 (fc h13 (fc (b := false) rfl fz)) (us [(4, 9, 0), (1010, 1010, 0), (12, 15, 1), (1016, 1016, 1)])) (rg 7) (N3 p s []) [(6, bA false)] fun G => b0 (wp_ret (A2 (j2 ?_))); exact y9 false G (rg 7) (bD7 (by with_reducible assumption) (by omega) (by omega))
     have q13 := L2 h13; cases h14 : (decide (s.target < (p.vars.length : Int)))
     · have q14 := L3 h14; refine j5 G (y7 (fc h13 (fc h14 fz)) (us [(4, 9, 0), (1010, 1010, 0), (12, 15, 1), (1016, 1016, 1)])) (rg 7) (N3 p s []) [(6, bA false)] fun G => b0 (wp_ret (A2 (j2 ?_))); exact y9 false G (rg 7) (bD6 (by with_reducible assumption) (by omega) (by omega))
     have q14 := L2 h14; refine j5 G (x8 (m8 15 [0, 1, 2, 4] (H7 p s.value) x7) (fc h13 (fc h14 fz)) (us [(4, 9, 0), (1010, 1010, 0), (12, 15, 1), (1016, 1016, 1)])) (rg 7) (N3 p s []) [(6, bA (j8 p.vars.length p.arrays.length s.value))] fun G => b0 (wp_ret (A2 (j2 ?_))); exact y9 (j8 p.vars.length p.arrays.length s.value) G (rg 7) (bD5 (by with_reducible assumption) (by omega) (by omega) (by omega))
    refine wp_skip (b0 (rT G _ h2 (wp_seq ?_))); cases h15 : (decide (s.target >= 0))
    · have q15 := L3 h15; refine j5 G (y7 (fc h15 (fc (b := false) rfl fz)) (us [(4, 9, 0), (1010, 1010, 0), (12, 15, 1), (1016, 1016, 1)])) (rg 7) (N3 p s []) [(6, bA false)] fun G => b0 (wp_ret (A2 (j2 ?_))); exact y9 false G (rg 7) (bD7 (by with_reducible assumption) (by omega) (by omega))
    have q15 := L2 h15; cases h16 : (decide (s.target < (p.vars.length : Int)))
    · have q16 := L3 h16; refine j5 G (y7 (fc h15 (fc h16 fz)) (us [(4, 9, 0), (1010, 1010, 0), (12, 15, 1), (1016, 1016, 1)])) (rg 7) (N3 p s []) [(6, bA false)] fun G => b0 (wp_ret (A2 (j2 ?_))); exact y9 false G (rg 7) (bD6 (by with_reducible assumption) (by omega) (by omega))
    have q16 := L2 h16; refine j5 G (x8 (m8 15 [0, 1, 2, 4] (H7 p s.value) x7) (fc h15 (fc h16 fz)) (us [(4, 9, 0), (1010, 1010, 0), (12, 15, 1), (1016, 1016, 1)])) (rg 7) (N3 p s []) [(6, bA (j8 p.vars.length p.arrays.length s.value))] fun G => b0 (wp_ret (A2 (j2 ?_))); exact y9 (j8 p.vars.length p.arrays.length s.value) G (rg 7) (bD5 (by with_reducible assumption) (by omega) (by omega) (by omega))
   have q1 : (m6 s) = false := (Eq.mp (b65 _) h1); refine rT G _ h1 (wp_seq (j3 G d7 [] fun G => b0 (wp_ret (j2 ?_)))); exact y9 false G (rg 7) (bY9 (by with_reducible assumption))
  have q0 := L2 h0; exact False.elim (by omega)
theorem bX6 {nv na d : Nat} {ss : List b5} {k : Nat} (hk : k < ss.length) (h : j4 nv na d (ss.getD k b55) = false) : ss.all (j4 nv na d) = false := by
 rw [m9 hk] at h
 exact at5 hk h
theorem aF0 (p : j0) (d : Nat) (hd : d <= 5) (hS : ∀ (s : b5) (n : Int), n = d -> j1.ok Tryz.prog (vsC p d s n)) (ss : List b5) (n : Int) (hn : n = d) : j1.ok Tryz.prog (vbC p d ss n) := by
  refine D2 22 Tryz.func36 [dI p.vars, dI p.arrays, dT p.body, dT ss] [(0, pA 0), (1, .ref 3), (2, iA n)] fun G => ?_; refine wp_seq (j5 G d7 (rg 5) [dI p.vars, dI p.arrays, dT p.body, dT ss, .box (pL 0)] [(1, .ref 3), (2, iA n), (3, .ptr 4 0), (6, bA false)] fun G => b0 (wp_seq (wp_seq (A4 G d7 [(1, .ref 3), (2, iA n), (3, .ptr 4 0), (6, bA false), (7, iA 0)] fun G => b0 (wp_block ?_))))); refine x4 (κ := Nat) (fun k => k <= ss.length /\ (ss.take k).all (j4 p.vars.length p.arrays.length d) = true) (fun k => ss.length - k) (fun k => [dI p.vars, dI p.arrays, dT p.body, dT ss, .box (pL 0)]) (fun k => [(1, .ref 3), (2, iA n), (3, .ptr 4 0), (6, bA false), (7, iA k)]) 0 (by simp) (w6.at G _ _) ?_; clear G; intro k ρ a w hp G; have hlen : ss.length <= 9223372036854775807 := G.len 3 (d := .stmts ss) (by kernel_rfl); refine wp_seq (wp_seq (A4 G d7 [(1, .ref 3), (2, iA n), (3, .ptr 4 0), (6, bA false), (7, iA k), (11, bA (decide ((k : Int) < ss.length)))] fun G => b0 (S9 G (fun h0 q0 => ?_) fun h0 q0 => ?_)))
  · refine wp_exit (p8 (p8 (p7 (b0 (wp_seq (j5 G d7 (rg 4) [dI p.vars, dI p.arrays, dT p.body, dT ss] [(6, bA true)] fun G => b0 (wp_ret ?_))))))); exact y9 true G (rg 4) (aB8 hp.2 (by omega))
  refine wp_skip (b0 (wp_seq (wp_block (wp_seq (aQ7 G (n4 6 [0, 1, 2, 37, 38, 39, 40] (hS (ss.getD k b55) n (by assumption))) [0, 0, 0, 6, 14, 0, 63, 127] [(21, .v (.bool !j4 p.vars.length p.arrays.length d (ss.getD k b55)))] (iX k k ss.length []) (iK (by omega) b70) fun G => b0 ?_))))); cases h1 : (!j4 p.vars.length p.arrays.length d (ss.getD k b55))
  · have q1 : (j4 p.vars.length p.arrays.length d (ss.getD k b55)) = true := (Eq.mp (b67 _) h1); refine rF G _ h1 (wp_skip (o9 (b0 (G7 G d7 [(7, iA ((k : Int) + 1))] [wO ((k : Int) + 1)] (o1 (by omega)) fun G => b0 ?_)))); exact Z9 G (k + 1) (⟨by omega, aW3 hp.2 (by omega) (by assumption)⟩) (by omega) (rg 5)
  have q1 : (j4 p.vars.length p.arrays.length d (ss.getD k b55)) = false := (Eq.mp (b65 _) h1); refine rT G _ h1 (wp_seq (j3 G d7 [] fun G => b0 (wp_ret (A2 (j2 (j2 (A2 (j2 ?_)))))))); exact y9 false G (rg 4) (bX6 (k := k) (by omega) (by with_reducible assumption))
theorem a93 (p : j0) : ∀ (d : Nat), d <= 5 -> ∀ (s : b5) (n : Int), n = d -> j1.ok Tryz.prog (vsC p d s n)
 | 0, _, s, n, hn => bc4 p s n hn
 | d + 1, hd, s, n, hn => bk6 p d (fun ss n hn => aF0 p d (by omega) (a93 p d (by omega)) ss n hn) s n hn (by omega)
theorem be9 (p : j0) (ss : List b5) (n : Int) (hn : n = 5) : j1.ok Tryz.prog (F9 36 [pA 0, .ref 3, iA n] (pS p ++ [.dat (.stmts ss)]) (bA (ai8 p.vars.length p.arrays.length 5 ss))) :=
 aF0 p 5 (by omega) (a93 p 5 (by omega)) ss n hn
def C7 : Nat -> List b5 -> Nat
 | 0, ss => ss.length
 | d + 1, ss => ss.length + (ss.map fun s => C7 d s.body + C7 d s.els).sum
def szP (d : Nat) (ss : List b5) (k : Nat) : Nat := ss.length + ((ss.take k).map fun s => C7 d s.body + C7 d s.els).sum
theorem bv1 (d : Nat) (ss : List b5) {k : Nat} (h : ss.length <= k) : szP d ss k = C7 (d + 1) ss := by unfold szP; rw [b75 h, C7]
theorem aw0 {d : Nat} {ss : List b5} {k : Nat} (h : k < ss.length) : szP d ss (k + 1) = szP d ss k + (C7 d (ss.getD k b55).body + C7 d (ss.getD k b55).els) := by
 unfold szP
 rw [B3 ss k h, List.map_append, List.sum_append, m9 h]
 simp; omega
theorem bk2 : ∀ (d : Nat) (ss : List b5), C7 d ss <= p9 ss := by
 intro d
 induction d with
 | zero => intro ss; exact aj7 ss
 | succ d ih =>
  intro ss
  induction ss with
  | nil => simp [C7]
  | cons s r ihr =>
   have h1 := ih s.body
   have h2 := ih s.els
   have h3 := aE6 s
   simp only [C7, b94, List.sum_cons, b58, p9] at ihr ⊢
   have h4 : p9 s.body + p9 s.els <= szS s := by
    rcases s with ⟨_, _, _, _, _, b, e⟩
    simp only [szS, b5.body, b5.els]; omega
   omega
theorem aX4 {d : Nat} {ss : List b5} {k : Nat} : szP d ss k <= p9 ss := by
 refine b54 ?_ (bk2 (d + 1) ss)
 unfold szP
 rw [C7]
 have : ∀ (l : List Nat) (k : Nat), (l.take k).sum <= l.sum := fun l k => by
  have := List.sum_append (l₁ := l.take k) (l₂ := l.drop k)
  rw [List.take_append_drop] at this; omega
 have h := this (ss.map fun s => C7 d s.body + C7 d s.els) k
 rw [<- List.map_take] at h
 omega
theorem bb5 {ss : List b5} {k B : Nat} (h : p9 ss <= B) (hk : k < ss.length) : p9 (ss.getD k b55).body <= B /\ p9 (ss.getD k b55).els <= B := by
 rw [m9 hk]
 have h1 := U3 (b64 hk)
 have h2 := aE6 ss[k]
 omega
theorem be6 (ss : List b5) (n : Int) (hn : n = 1) (hb : p9 ss <= 1000000000000000000) : j1.ok Tryz.prog (F9 37 [.ref 0, iA n] [.dat (.stmts ss)] (iA (C7 0 ss : Nat))) := by
 have h100 : decide (n > 1) = false := by simp; omega
 refine D2 39 Tryz.func37 [dT ss] [(0, .ref 0), (1, iA n)] fun G => ?_; refine wp_seq (j3 G d7 [(4, iA 0)] fun G => b0 (wp_seq (j3 G d7 [(5, iA (ss.length : Int))] fun G => b0 (wp_seq (wp_seq (A4 G d7 [(0, .ref 0), (1, iA n), (4, iA 0), (5, iA (ss.length : Int)), (6, iA 0)] fun G => b0 (wp_block ?_))))))); refine x4 (κ := Nat) (fun k => k = 0) (fun k => 0) (fun k => [dT ss]) (fun k => [(0, .ref 0), (1, iA n), (4, iA 0), (5, iA (ss.length : Nat)), (6, iA k)]) 0 (by kernel_rfl) (w6.at G _ _) ?_; clear G; intro k ρ a w hp G; replace G := w6.at G [dT ss] [(0, .ref 0), (1, iA n), (4, iA 0), (5, iA (ss.length : Int)), (6, iA k)]; refine wp_seq (wp_seq ?_); cases h0 : (decide ((k : Int) < ss.length))
 ·have q0 := L3 h0; refine j3 G (y7 (fc h0 fz) [(5, 0), (6, 0), (1007, 0)]) [(16, bA false)] fun G => b0 (rF G false (by kernel_rfl) (wp_exit (p8 (p8 (p7 (b0 (wp_seq (j3 G d7 [(4, iA (ss.length : Int))] fun G => b0 (wp_ret ?_))))))))); exact H9 G [0]
 have q0 := L2 h0; refine j3 G (y7 (fc h0 fz) [(5, 0), (6, 0), (1007, 0)]) [(16, bA (decide (n > 1)))] fun G => b0 (rF G (decide (n > 1)) (by assumption) (wp_exit (p8 (p8 (p7 (b0 (wp_seq (j3 G d7 [(4, iA (ss.length : Int))] fun G => b0 (wp_ret ?_))))))))); exact H9 G [0]
theorem be4 (d : Nat) (hd : d <= 5) (ih : ∀ (ss : List b5) (n : Int), n = (d + 1 : Nat) -> p9 ss <= 1000000000000000000 -> j1.ok Tryz.prog (F9 37 [.ref 0, iA n] [.dat (.stmts ss)] (iA (C7 d ss : Nat))))
  (ss : List b5) (n : Int) (hn : n = (d + 2 : Nat)) (hb : p9 ss <= 1000000000000000000) : j1.ok Tryz.prog (F9 37 [.ref 0, iA n] [.dat (.stmts ss)] (iA (C7 (d + 1) ss : Nat))) := by
 have h100 : decide (n > 1) = true := by simp; omega
 refine D2 39 Tryz.func37 [dT ss] [(0, .ref 0), (1, iA n)] fun G => ?_; refine wp_seq (j3 G d7 [(4, iA 0)] fun G => b0 (wp_seq (j3 G d7 [(5, iA (ss.length : Int))] fun G => b0 (wp_seq (wp_seq (A4 G d7 [(0, .ref 0), (1, iA n), (4, iA 0), (5, iA (ss.length : Int)), (6, iA 0)] fun G => b0 (wp_block ?_))))))); refine x4 (κ := Nat) (fun k => k <= ss.length) (fun k => ss.length - k) (fun k => [dT ss]) (fun k => [(0, .ref 0), (1, iA n), (4, iA 0), (5, iA (szP d ss k : Nat)), (6, iA k)]) 0 (by omega) (w6.at G _ _) ?_; clear G; intro k ρ a w hp G; replace G := w6.at G [dT ss] [(0, .ref 0), (1, iA n), (4, iA 0), (5, iA (↑(szP d ss k) : Int)), (6, iA k)]; have hlen := aj7 ss; refine wp_seq (wp_seq ?_); cases h0 : (decide ((k : Int) < ss.length))
 ·have q0 := L3 h0; refine j3 G (y7 (fc h0 fz) [(5, 0), (6, 0), (1007, 0)]) [(16, bA false)] fun G => b0 (rF G false (by kernel_rfl) (wp_exit (p8 (p8 (p7 (b0 (wp_seq (j3 G d7 [(4, iA (↑(szP d ss k) : Int))] fun G => b0 (wp_ret ?_))))))))); exact rxI ((↑(szP d ss k) : Int)) G [0] (by have h1 := bv1 d ss (k := k) (by omega); omega)
 have q0 := L2 h0; refine j3 G (y7 (fc h0 fz) [(5, 0), (6, 0), (1007, 0)]) [(16, bA (decide (n > 1)))] fun G => b0 (rT G (decide (n > 1)) (by assumption) (wp_skip (b0 (wp_seq (wp_block (aQ7 G (x8 (m8 8 [41] (ih ((ss.getD k b55).body) (n - 1) (by omega) ((bb5 hb (by omega)).1)) (m8 17 [113] (ih ((ss.getD k b55).els) (n - 1) (by omega) ((bb5 hb (by omega)).2)) x7)) fz []) [0, 0, 0, 6, 14, 30, 0, 64, 254, 511, 0, 0, 3072, 7168, 15360, 0, 32768, 130558, 262143, 524287] [(5, iA ((↑(szP d ss k) : Int) + (↑(C7 d (ss.getD k b55).body) : Int) + (↑(C7 d (ss.getD k b55).els) : Int)))] (iX k k ss.length ((wO (n - 1)) :: ((wO ((↑(szP d ss k) : Int) + (↑(C7 d (ss.getD k b55).body) : Int))) :: (iX k k ss.length ((wO (n - 1)) :: ((wO ((↑(szP d ss k) : Int) + (↑(C7 d (ss.getD k b55).body) : Int) + (↑(C7 d (ss.getD k b55).els) : Int))) :: [])))))) (iK (by omega) ⟨oW (by omega), ⟨(by have h1 := aw0 (d := d) (ss := ss) (k := k) (by omega); have h2 := aX4 (d := d) (ss := ss) (k := k + 1); exact w64 (by omega) (by omega)), (iK (by omega) ⟨oW (by omega), ⟨(by have h1 := aw0 (d := d) (ss := ss) (k := k) (by omega); have h2 := aX4 (d := d) (ss := ss) (k := k + 1); exact w64 (by omega) (by omega)), b70⟩⟩)⟩⟩) fun G => o9 (b0 (G7 G d7 [(6, iA ((k : Int) + 1))] [wO ((k : Int) + 1)] (o1 (by omega)) fun G => b0 ?_)))))))); exact Z9 G (k + 1) (by omega) (by omega) [0] (ht := by have e1 : ((↑(szP d ss (k + 1)) : Int) : Int) = ((↑(szP d ss k) : Int) + (↑(C7 d (ss.getD k b55).body) : Int) + (↑(C7 d (ss.getD k b55).els) : Int)) := (by have h1 := aw0 (d := d) (ss := ss) (k := k) (by omega); have h2 := aX4 (d := d) (ss := ss) (k := k + 1); omega); (first | rw [e1] | simp only [e1]) <;> rfl)
theorem be5 : ∀ d, d <= 5 -> ∀ (ss : List b5) (n : Int), n = (d + 1 : Nat) -> p9 ss <= 1000000000000000000 -> j1.ok Tryz.prog (F9 37 [.ref 0, iA n] [.dat (.stmts ss)] (iA (C7 d ss : Nat))) := by
 intro d
 induction d with
 | zero => intro _ ss n hn hb; exact be6 ss n (by omega) hb
 | succ d ih => intro hd ss n hn hb; exact be4 d (by omega) (fun ss n hn hb => ih (by omega) ss n hn hb) ss n (by omega) hb
theorem bt3 (ss : List b5) (n : Int) (hn : n = 5) (hb : p9 ss <= 1000000000000000000) : j1.ok Tryz.prog (F9 37 [.ref 0, iA n] [.dat (.stmts ss)] (iA (C7 4 ss : Nat))) :=
 be5 4 (by omega) ss n (by omega) hb
theorem bk3 {nv na : Nat} : ∀ (d : Nat) (ss : List b5), (∀ s ∈ ss, j4 nv na (d + 1) s = true) -> C7 d ss = S0 ss := by
 intro d
 induction d with
 | zero => intro ss h; rw [aT3 h]; rfl
 | succ d ih =>
  intro ss
  induction ss with
  | nil => intro _; rfl
  | cons s r ihr =>
   intro h
   have h1 := R7 (h s b72)
   have h2 := ih s.body fun x hx => b68.1 h1.1 x hx
   have h3 := ih s.els fun x hx => b68.1 h1.2 x hx
   have h4 := ihr fun x hx => h x (b80 _ hx)
   rw [S0, Y0, <- h2, <- h3, <- h4]
   simp [C7]; omega
theorem ar8 {p : j0} (h : C9 p.vars p.arrays = false) : o6 p = false := by simp [o6, h]
theorem aR2 {p : j0} (h : ai8 p.vars.length p.arrays.length 5 p.body = false) : o6 p = false := by simp [o6, h]
theorem aZ1 {p : j0} (h1 : C9 p.vars p.arrays = true) (h2 : ai8 p.vars.length p.arrays.length 5 p.body = true) : o6 p = decide ((C7 4 p.body : Int) <= 60) := by
 have h3 := bk3 (nv := p.vars.length) (na := p.arrays.length) 4 p.body (fun x hx => b68.1 h2 x hx)
 rw [o6, h1, h2, h3]
 simp
 exact ⟨fun h => by omega, fun h => by omega⟩
theorem aV2 (p : j0) (n : Int) (hn : n = 5) : j1.ok Tryz.prog (F9 36 [pA 0, .ref 2, iA n] (pS p) (bA (ai8 p.vars.length p.arrays.length 5 p.body))) :=
 j1.dup (S := pS p) (S' := pS p) (d := .stmts p.body) (i := 2) (be9 p p.body n hn) rfl rfl rfl (fun ρ h => by simp only [AV.vals, AV.val]; rw [show ρ 3 = ρ 2 from h]) rfl
theorem aa3 (p : j0) (hb : p9 p.body <= 1000000000000000000) : j1.ok Tryz.prog (F9 14 [pA 0] (pS p) (bA (o6 p))) := by
  refine D2 17 Tryz.func14 [dI p.vars, dI p.arrays, dT p.body] [(0, pA 0)] fun G => ?_; refine wp_seq (j5 G d7 (rg 4) [dI p.vars, dI p.arrays, dT p.body, .box (pL 0)] [(1, .ptr 3 0), (2, bA false)] fun G => b0 (wp_seq ?_)); cases h0 : (C9 p.vars p.arrays)
  · refine j5 G (x8 (m8 1 [0, 1, 2] (ap6 p) x7) (fc h0 (fc (b := false) rfl fz)) (us [(3, 6, 0), (1007, 1007, 0), (9, 12, 1), (1013, 1013, 1)])) [0, 1, 2] [dI p.vars, dI p.arrays, dT p.body] [(2, bA false)] fun G => b0 (wp_ret ?_); exact y9 false G [0, 1, 2] (ar8 (by assumption))
  cases h1 : (ai8 p.vars.length p.arrays.length (5 : Nat) p.body)
  · refine j5 G (x8 (m8 1 [0, 1, 2] (ap6 p) (m8 6 [0, 1, 2] (aV2 p 5 (by kernel_rfl)) x7)) (fc h0 (fc h1 fz)) (us [(3, 6, 0), (1007, 1007, 0), (9, 12, 1), (1013, 1013, 1)])) [0, 1, 2] [dI p.vars, dI p.arrays, dT p.body] [(2, bA false)] fun G => b0 (wp_ret ?_); exact y9 false G [0, 1, 2] (aR2 (by assumption))
  refine j5 G (x8 (m8 1 [0, 1, 2] (ap6 p) (m8 6 [0, 1, 2] (aV2 p 5 (by kernel_rfl)) (m8 11 [2] (bt3 p.body 5 (by kernel_rfl) (by assumption)) x7))) (fc h0 (fc h1 fz)) (us [(3, 6, 0), (1007, 1007, 0), (9, 12, 1), (1013, 1013, 1)])) [0, 1, 2] [dI p.vars, dI p.arrays, dT p.body] [(2, bA (decide ((↑(C7 4 p.body) : Int) <= 60)))] fun G => b0 (wp_ret ?_); exact y9 (decide ((↑(C7 4 p.body) : Int) <= 60)) G [0, 1, 2] (aZ1 (by assumption) (by assumption))
theorem ad2 (p : j0) (hb : p9 p.body <= 1048576) : j1.ok Tryz.prog (F9 14 [pA 0] (pS p) (bA (o6 p))) := aa3 p (by omega)
def L1 (nv na : Nat) (s : b5) : Bool := m6 s &&
    (if s.kind = 1 \/ s.kind = 5 then decide (0 <= s.target) && decide (s.target < nv) && j8 nv na s.value
     else if s.kind = 2 then decide (0 <= s.target) && decide (s.target < na) && j8 nv na s.index && J0 s.index && j8 nv na s.value
     else if s.kind = 3 then j8 nv na s.value
     else decide (s.kind = 4))
theorem aw4 {nv na d : Nat} {s : b5} : j4 nv na (d + 1) s = (L1 nv na s && (s.body.all (j4 nv na d) && s.els.all (j4 nv na d))) := by
 rw [b89]
 constructor
 ·intro h
  have h1 := R7 h
  rw [h1.1, h1.2, Bool.and_true, Bool.and_true]
  rw [j4, b57] at h
  rw [L1, h.1, Bool.true_and]
  obtain ⟨-, h⟩ := h
  split at h
  ·rw [if_pos (by assumption)]; exact h
  split at h
  ·rw [if_neg (by assumption), if_pos (by assumption)]; exact h
  split at h
  ·rw [if_neg (by assumption), if_neg (by assumption), if_pos (by assumption)]
   simp only [b57] at h; exact h.1.1
  split at h
  ·rw [if_neg (by assumption), if_neg (by assumption), if_neg (by assumption)]; simp [*]
  simp at h
 intro h
 simp only [b57] at h
 obtain ⟨h, hb, he⟩ := h
 rw [L1, b57] at h
 obtain ⟨h0, h⟩ := h
 rw [j4, h0, Bool.true_and]
 split at h
 ·rw [if_pos (by assumption)]; exact h
 split at h
 ·rw [if_neg (by assumption), if_pos (by assumption)]; exact h
 split at h
 ·rw [if_neg (by assumption), if_neg (by assumption), if_pos (by assumption), h, hb, he]; rfl
 rw [if_neg (by assumption), if_neg (by assumption), if_neg (by assumption), if_pos (by simpa using h), hb]
def B6 (F : Nat -> b5 -> Bool × Nat) : Nat -> List b5 -> Bool × Nat
 | c, [] => (true, c)
 | c, s :: r => if (F c s).1 then B6 F (F c s).2 r else F c s
def w3 (nv na : Nat) : Nat -> Nat -> b5 -> Bool × Nat
 | 0, c, _ => (false, c + 1)
 | d + 1, c, s => if 60 < c + 1 then (false, c + 1) else if L1 nv na s then
   (if (B6 (w3 nv na d) (c + 1) s.body).1 then B6 (w3 nv na d) (B6 (w3 nv na d) (c + 1) s.body).2 s.els else B6 (w3 nv na d) (c + 1) s.body)
   else (false, c + 1)
abbrev k6 (nv na d c : Nat) (ss : List b5) : Bool × Nat := B6 (w3 nv na d) c ss
theorem Y3 (F : Nat -> b5 -> Bool × Nat) : ∀ (a b : List b5) (c : Nat), B6 F c (a ++ b) = if (B6 F c a).1 then B6 F (B6 F c a).2 b else B6 F c a
 | [], b, c => by simp [B6]
 | x :: r, b, c => by
  simp only [List.cons_append, B6]
  by_cases h : (F c x).1 = true
  ·simp only [h, if_true]; exact Y3 F r b _
  simp [h]
theorem ai3 {F : Nat -> b5 -> Bool × Nat} {c k : Nat} {ss : List b5} (h : (B6 F c (ss.take k)).1 = true) (hk : k < ss.length) : B6 F c (ss.take (k + 1)) = F (B6 F c (ss.take k)).2 (ss.getD k b55) := by
 rw [B1 _ _ hk, Y3, if_pos h, m9 hk]
 simp only [B6]
 split
 ·rename_i h; exact Prod.ext h.symm rfl
 rfl
theorem az4 {F : Nat -> b5 -> Bool × Nat} {c k : Nat} {ss : List b5} (h : (B6 F c (ss.take k)).1 = true) (hk : k < ss.length) (hf : (F (B6 F c (ss.take k)).2 (ss.getD k b55)).1 = false) : B6 F c ss = F (B6 F c (ss.take k)).2 (ss.getD k b55) := by
 conv => lhs; rw [<- List.take_append_drop (k + 1) ss]
 rw [Y3, ai3 h hk, hf]
 rfl
theorem az5 {F : Nat -> b5 -> Bool × Nat} {c k : Nat} {ss : List b5} (hk : ss.length <= k) : B6 F c (ss.take k) = B6 F c ss := by rw [b75 hk]
theorem al3 {F : Nat -> b5 -> Bool × Nat} (hF : ∀ c s, c <= 60 -> (F c s).2 <= 61 /\ ((F c s).1 = true -> (F c s).2 <= 60)) : ∀ (ss : List b5) (c : Nat), c <= 60 -> (B6 F c ss).2 <= 61 /\ ((B6 F c ss).1 = true -> (B6 F c ss).2 <= 60)
 | [], c, h => ⟨by simp only [B6]; omega, fun _ => by simp only [B6]; omega⟩
 | s :: r, c, h => by
  simp only [B6]
  by_cases h1 : (F c s).1 = true
  ·rw [if_pos h1]; exact al3 hF r _ ((hF c s h).2 h1)
  rw [if_neg h1]; exact hF c s h
theorem aj8 {nv na : Nat} : ∀ (d c : Nat) (s : b5), c <= 60 -> (w3 nv na d c s).2 <= 61 /\ ((w3 nv na d c s).1 = true -> (w3 nv na d c s).2 <= 60)
 | 0, c, s, h => by simp [w3]; omega
 | d + 1, c, s, h => by
  rw [w3]
  by_cases h1 : 60 < c + 1
  ·rw [if_pos h1]; simp; omega
  rw [if_neg h1]
  by_cases h2 : L1 nv na s = true
  ·rw [if_pos h2]
   have h3 := al3 (aj8 (nv := nv) (na := na) d) s.body (c + 1) (by omega)
   by_cases h4 : (B6 (w3 nv na d) (c + 1) s.body).1 = true
   ·rw [if_pos h4]; exact al3 (aj8 d) s.els _ (h3.2 h4)
   rw [if_neg h4]; exact h3
  rw [if_neg h2]; simp; omega
theorem O2 {nv na d c : Nat} {ss : List b5} (h : c <= 60) (h1 : (k6 nv na d c ss).1 = true) : (k6 nv na d c ss).2 <= 60 := (al3 (aj8 d) ss c h).2 h1
section
variable {nv na d c : Nat} {s : b5}
theorem ah2 (h : 60 < c + 1) : w3 nv na d c s = (false, c + 1) := by cases d with
 | zero => rfl
 | succ d => rw [w3, if_pos h]
theorem i6 (h : L1 nv na s = false) : w3 nv na d c s = (false, c + 1) := by cases d with
 | zero => rfl
 | succ d => rw [w3, h]; simp
theorem C6 (h1 : c + 1 <= 60) (h : L1 nv na s = true) (h2 : (k6 nv na d (c + 1) s.body).1 = false) : w3 nv na (d + 1) c s = k6 nv na d (c + 1) s.body := by
 rw [w3, if_neg (by omega), if_pos h, if_neg (by simp [h2])]
theorem E9 (h1 : c + 1 <= 60) (h : L1 nv na s = true) (h2 : (k6 nv na d (c + 1) s.body).1 = true) : w3 nv na (d + 1) c s = k6 nv na d (k6 nv na d (c + 1) s.body).2 s.els := by
 rw [w3, if_neg (by omega), if_pos h, if_pos h2]
end
theorem al4 {nv na d : Nat} (hF : ∀ c s, c <= 60 -> ((w3 nv na d c s).1 = (j4 nv na d s && decide (c + nS s <= 60))) /\ ((w3 nv na d c s).1 = true -> (w3 nv na d c s).2 = c + nS s)) : ∀ (ss : List b5) (c : Nat), c <= 60 -> ((k6 nv na d c ss).1 = (ss.all (j4 nv na d) && decide (c + S0 ss <= 60))) /\ ((k6 nv na d c ss).1 = true -> (k6 nv na d c ss).2 = c + S0 ss)
 | [], c, h => by simp [B6, S0, h]
 | s :: r, c, h => by
  obtain ⟨h1, h2⟩ := hF c s h
  simp only [k6, B6]
  by_cases h3 : (w3 nv na d c s).1 = true
  ·rw [if_pos h3]
   have e := h2 h3
   have l := (aj8 d c s h).2 h3
   obtain ⟨h4, h5⟩ := al4 hF r (w3 nv na d c s).2 l
   rw [h1, b57] at h3
   constructor
   ·rw [show B6 (w3 nv na d) (w3 nv na d c s).2 r = k6 nv na d (w3 nv na d c s).2 r from rfl, h4, List.all_cons, h3.1, Bool.true_and, e, S0, Nat.add_assoc]
   intro h6; rw [show B6 (w3 nv na d) (w3 nv na d c s).2 r = k6 nv na d (w3 nv na d c s).2 r from rfl, h5 h6, e, S0]; omega
  rw [if_neg h3]
  refine ⟨?_, fun h => absurd h h3⟩
  have h4 := h3
  rw [h1] at h4
  rw [Bool.eq_false_iff.2 h3, List.all_cons, S0]
  cases ha : j4 nv na d s
  ·simp
  rw [ha, Bool.true_and, decide_eq_true_eq] at h4
  rw [Bool.true_and, show decide (c + (nS s + S0 r) <= 60) = false from decide_eq_false (by omega), Bool.and_false]
theorem aw3 {nv na : Nat} : ∀ (d c : Nat) (s : b5), c <= 60 -> ((w3 nv na d c s).1 = (j4 nv na d s && decide (c + nS s <= 60))) /\ ((w3 nv na d c s).1 = true -> (w3 nv na d c s).2 = c + nS s)
 | 0, c, s, h => by simp [w3, j4]
 | d + 1, c, s, h => by
  have hs := Y0 s
  by_cases h1 : 60 < c + 1
  ·rw [ah2 h1, show decide (c + nS s <= 60) = false from decide_eq_false (by omega), Bool.and_false]; simp
  cases h2 : L1 nv na s
  ·rw [i6 h2, aw4, h2]; simp
  obtain ⟨b1, b2⟩ := al4 (aw3 (nv := nv) (na := na) d) s.body (c + 1) (by omega)
  rw [aw4, h2, Bool.true_and]
  cases h3 : (k6 nv na d (c + 1) s.body).1
  ·rw [C6 (by omega) h2 h3, h3]
   refine ⟨?_, fun h => by simp at h⟩
   rw [h3] at b1
   cases h4 : s.body.all (j4 nv na d)
   ·simp
   rw [h4, Bool.true_and] at b1
   have := of_decide_eq_false b1.symm
   rw [show decide (c + nS s <= 60) = false from decide_eq_false (by omega), Bool.and_false]
  rw [E9 (by omega) h2 h3]
  have e := b2 h3
  have l := O2 (nv := nv) (na := na) (d := d) (c := c + 1) (by omega) h3
  obtain ⟨e1, e2⟩ := al4 (aw3 (nv := nv) (na := na) d) s.els _ l
  rw [h3] at b1
  have b3 := b1.symm
  rw [b57] at b3
  rw [b3.1, Bool.true_and, e1, e]
  refine ⟨by rw [show c + 1 + S0 s.body + S0 s.els = c + nS s by omega], fun h => ?_⟩
  have h' : (k6 nv na d (k6 nv na d (c + 1) s.body).2 s.els).1 = true := by rw [e1, e]; exact h
  have := e2 h'
  rw [e] at this
  rw [this]; omega
theorem aP2 {p : j0} (h : C9 p.vars p.arrays = true) : (k6 p.vars.length p.arrays.length 5 0 p.body).1 = o6 p := by
 rw [(al4 (aw3 5) p.body 0 (by omega)).1, o6, h, Bool.true_and, ai8]; simp
theorem bA7 (p : j0) (s : b5) (c : Nat) (hc : c <= 60) (n : Int) (hn : n = 6) : j1.ok Tryz.prog ⟨63, [pA 0, sA s 4, iA n, .ptr 3 0], pS p ++ [.box [iA c]] ++ sS s, pS p ++ [.box [iA (w3 p.vars.length p.arrays.length 0 c s).2]] ++ sS s, bA false⟩ := by
 have h100 : decide (n > 5) = true := by simp; omega
 refine D2 149 Tryz.func63 [dI p.vars, dI p.arrays, dT p.body, .box [iA c], dE s.index.kids, dE s.value.kids, dT s.body, dT s.els] [(0, pA 0), (1, sA s 4), (2, iA n), (3, .ptr 3 0)] fun G => ?_; refine wp_seq (j5 G d7 [0, 1, 2, 3, 4, 5, 6, 7, 8, 16] [dI p.vars, dI p.arrays, dT p.body, .box [iA c], dE s.index.kids, dE s.value.kids, dT s.body, dT s.els, .box (pL 0), .box (sL s 4)] [(2, iA n), (3, .ptr 3 0), (4, .ptr 8 0), (5, .ptr 9 0), (8, bA false)] fun G => b0 (wp_seq (G8 G d7 (rg 10) [dI p.vars, dI p.arrays, dT p.body, .box [iA ((c : Int) + 1)], dE s.index.kids, dE s.value.kids, dT s.body, dT s.els, .box (pL 0), .box (sL s 4)] [(2, iA n), (3, .ptr 3 0), (4, .ptr 8 0), (5, .ptr 9 0), (8, bA false)] [wO ((c : Int) + 1)] (o1 (by omega)) fun G => b0 (wp_seq (wp_seq ?_))))); cases h0 : (decide ((c : Int) + 1 > 60))
 ·have q0 := L3 h0; refine j3 G (y7 (fc h0 fz) [(5, 0), (6, 0), (1007, 0)]) [(27, bA (decide (n > 5)))] fun G => b0 (rT G (decide (n > 5)) (by assumption) (wp_seq (j3 G d7 [] fun G => b0 (wp_ret (j2 ?_))))); exact H9 G (rg 8)
 have q0 := L2 h0; refine j3 G (y7 (fc h0 fz) [(5, 0), (6, 0), (1007, 0)]) [(27, bA true)] fun G => b0 (rT G true (by kernel_rfl) (wp_seq (j3 G d7 [] fun G => b0 (wp_ret (j2 ?_))))); exact H9 G (rg 8)
abbrev bC9 (p : j0) (d c : Nat) (s : b5) (n : Int) : j1 := ⟨63, [pA 0, sA s 4, iA n, .ptr 3 0], pS p ++ [.box [iA c]] ++ sS s, pS p ++ [.box [iA (w3 p.vars.length p.arrays.length d c s).2]] ++ sS s, bA (w3 p.vars.length p.arrays.length d c s).1⟩
abbrev aX7 (p : j0) (d c : Nat) (ss : List b5) (n : Int) : j1 := ⟨34, [pA 0, .ref 4, iA n, .ptr 3 0], pS p ++ [.box [iA c]] ++ [.dat (.stmts ss)], pS p ++ [.box [iA (k6 p.vars.length p.arrays.length d c ss).2]] ++ [.dat (.stmts ss)], bA (k6 p.vars.length p.arrays.length d c ss).1⟩
theorem aU9 (p : j0) (d : Nat) (hd : d <= 5) (ih : ∀ (s : b5) (c : Nat) (n : Int), c <= 60 -> n = 6 - (d : Int) -> j1.ok Tryz.prog (bC9 p d c s n))
    (ss : List b5) (c : Nat) (n : Int) (hc : c <= 60) (hn : n = 6 - (d : Int)) : j1.ok Tryz.prog (aX7 p d c ss n) := by
  refine D2 24 Tryz.func34 [dI p.vars, dI p.arrays, dT p.body, .box [iA c], dT ss] [(0, pA 0), (1, .ref 4), (2, iA n), (3, .ptr 3 0)] fun G => ?_; refine wp_seq (j5 G d7 (rg 6) [dI p.vars, dI p.arrays, dT p.body, .box [iA c], dT ss, .box (pL 0)] [(1, .ref 4), (2, iA n), (3, .ptr 3 0), (4, .ptr 5 0), (8, bA false)] fun G => b0 (wp_seq (wp_seq (A4 G d7 [(2, iA n), (3, .ptr 3 0), (4, .ptr 5 0), (8, bA false), (11, .ref 4), (12, iA (ss.length : Int)), (13, iA 0)] fun G => b0 (wp_block ?_))))); have hlen : ss.length <= 9223372036854775807 := G.len 4 (d := .stmts ss) (by kernel_rfl); refine x4 (κ := Nat) (fun k => k <= ss.length /\ (k6 p.vars.length p.arrays.length d c (ss.take k)).1 = true) (fun k => ss.length - k) (fun k => [dI p.vars, dI p.arrays, dT p.body, .box [iA (k6 p.vars.length p.arrays.length d c (ss.take k)).2], dT ss, .box (pL 0)]) (fun k => [(2, iA n), (3, .ptr 3 0), (4, .ptr 5 0), (8, bA false), (11, .ref 4), (12, iA (ss.length : Int)), (13, iA k)]) 0 (by simp [k6, B6]; done) (w6.at G _ _) ?_; clear G; intro k ρ a w hp G; replace G := w6.at G [dI p.vars, dI p.arrays, dT p.body, .box [iA ((k6 p.vars.length p.arrays.length d c (b63 k ss)).snd : Int)], dT ss, .box (pL 0)] [(2, iA n), (3, .ptr 3 0), (4, .ptr 5 0), (8, bA false), (11, .ref 4), (12, iA (ss.length : Int)), (13, iA k)]; refine wp_seq (j3 G d7 [(14, bA (decide ((k : Int) < ss.length)))] fun G => b0 (wp_seq (S9 G (fun h0 q0 => ?_) fun h0 q0 => ?_)))
  · refine wp_exit (p8 (p8 (p7 (b0 (wp_seq (j5 G d7 (rg 5) [dI p.vars, dI p.arrays, dT p.body, .box [iA ((k6 p.vars.length p.arrays.length d c (b63 k ss)).snd : Int)], dT ss] [(8, bA true)] fun G => b0 (wp_ret ?_))))))); exact y9 true G (rg 5) (by rw [k6, <- az5 (k := k) (by omega)]; exact hp.2) (by show _ = mR (rg 5) [dI p.vars, dI p.arrays, dT p.body, .box [iA ((k6 p.vars.length p.arrays.length d c ss).snd : Int)], dT ss]; have e1 : (((k6 p.vars.length p.arrays.length d c ss).snd : Int) : Int) = (((k6 p.vars.length p.arrays.length d c (b63 k ss)).snd : Int)) := (by rw [k6, <- az5 (k := k) (by omega)]); (first | rw [e1] | simp only [e1]) <;> rfl)
  refine wp_skip (b0 (wp_seq (wp_block (wp_seq (G8 G d7 [0, 1, 2, 3, 4, 5, 14, 15, 16, 17, 22] [dI p.vars, dI p.arrays, dT p.body, .box [iA ((k6 p.vars.length p.arrays.length d c (b63 k ss)).snd : Int)], dT ss, .box (pL 0), dE (ss.getD k b55).index.kids, dE (ss.getD k b55).value.kids, dT (ss.getD k b55).body, dT (ss.getD k b55).els, .box (sL (ss.getD k b55) 6)] [(2, iA n), (3, .ptr 3 0), (4, .ptr 5 0), (8, bA false), (10, .ptr 10 0), (11, .ref 4), (12, iA (ss.length : Int)), (13, iA k)] (iX k k ss.length []) (iK (by omega) b70) fun G => b0 (wp_seq (j5 G (n4 4 [0, 1, 2, 3, 6, 7, 8, 9] (ih (ss.getD k b55) ((k6 p.vars.length p.arrays.length d c (b63 k ss)).snd) n (O2 (by omega) hp.2) (by assumption))) (rg 6) [dI p.vars, dI p.arrays, dT p.body, .box [iA ((w3 p.vars.length p.arrays.length d (k6 p.vars.length p.arrays.length d c (b63 k ss)).snd (ss.getD k b55)).snd : Int)], dT ss, .box (pL 0)] [(2, iA n), (3, .ptr 3 0), (4, .ptr 5 0), (8, bA false), (11, .ref 4), (12, iA (ss.length : Int)), (13, iA k), (22, .v (.bool !(w3 p.vars.length p.arrays.length d (k6 p.vars.length p.arrays.length d c (b63 k ss)).snd (ss.getD k b55)).fst))] fun G => b0 ?_))))))); cases h1 : (!(w3 p.vars.length p.arrays.length d (k6 p.vars.length p.arrays.length d c (b63 k ss)).snd (ss.getD k b55)).fst)
  · have q1 : ((w3 p.vars.length p.arrays.length d (k6 p.vars.length p.arrays.length d c (b63 k ss)).snd (ss.getD k b55)).fst) = true := (Eq.mp (b67 _) h1); refine rF G _ h1 (wp_skip (o9 (b0 (G7 G d7 [(13, iA ((k : Int) + 1))] [wO ((k : Int) + 1)] (o1 (by omega)) fun G => b0 ?_)))); exact Z9 G (k + 1) (⟨by omega, by rw [k6, ai3 hp.2 (by omega)]; assumption⟩) (by omega) (rg 6) (by have e1 : (((k6 p.vars.length p.arrays.length d c (b63 (k + 1) ss)).snd : Int) : Int) = (((w3 p.vars.length p.arrays.length d (k6 p.vars.length p.arrays.length d c (b63 k ss)).snd (ss.getD k b55)).snd : Int)) := (by rw [k6, ai3 hp.2 (by omega)]); (first | rw [e1] | simp only [e1]) <;> rfl)
  have q1 : ((w3 p.vars.length p.arrays.length d (k6 p.vars.length p.arrays.length d c (b63 k ss)).snd (ss.getD k b55)).fst) = false := (Eq.mp (b65 _) h1); refine rT G _ h1 (wp_seq (j3 G d7 [] fun G => b0 (wp_ret (A2 (j2 (j2 (A2 (j2 ?_)))))))); exact y9 false G (rg 5) (by rw [k6, az4 hp.2 (by omega) (by assumption)]; assumption) (by show _ = mR (rg 5) [dI p.vars, dI p.arrays, dT p.body, .box [iA ((k6 p.vars.length p.arrays.length d c ss).snd : Int)], dT ss]; have e1 : (((k6 p.vars.length p.arrays.length d c ss).snd : Int) : Int) = (((w3 p.vars.length p.arrays.length d (k6 p.vars.length p.arrays.length d c (b63 k ss)).snd (ss.getD k b55)).snd : Int)) := (by rw [k6, az4 hp.2 (by omega) (by assumption)]); (first | rw [e1] | simp only [e1]) <;> rfl)
section
variable {nv na : Nat} {s : b5}
theorem C3 (k : s.kind = 1 \/ s.kind = 5) : L1 nv na s = (decide (0 <= s.target /\ s.target < nv /\ s.body.length = 0 /\ s.els.length = 0 /\ s.count = 0) && (noneB s.index && j8 nv na s.value)) := by
 rw [L1, m6, if_pos k, if_neg (by omega), show decide (s.kind = 2) = false from decide_eq_false (by omega), b89]
 simp only [b57, decide_eq_true_eq, Bool.false_or]
 constructor
 ·rintro ⟨⟨⟨⟨a, b⟩, c⟩, d⟩, ⟨e, f⟩, g⟩; exact ⟨⟨e, f, a, b, c⟩, d, g⟩
 rintro ⟨⟨e, f, a, b, c⟩, d, g⟩; exact ⟨⟨⟨⟨a, b⟩, c⟩, d⟩, ⟨e, f⟩, g⟩
theorem N7 (k : s.kind = 2) : L1 nv na s = (decide (0 <= s.target /\ s.target < na /\ s.body.length = 0 /\ s.els.length = 0 /\ s.count = 0) && (j8 nv na s.index && (J0 s.index && j8 nv na s.value))) := by
 rw [L1, m6, if_neg (by omega), if_pos k, if_neg (by omega), show decide (s.kind = 2) = true from decide_eq_true k, b89]
 simp only [b57, decide_eq_true_eq, Bool.true_or]
 constructor
 ·rintro ⟨⟨⟨⟨a, b⟩, c⟩, -⟩, ⟨⟨⟨e, f⟩, i⟩, j⟩, g⟩; exact ⟨⟨e, f, a, b, c⟩, i, j, g⟩
 rintro ⟨⟨e, f, a, b, c⟩, i, j, g⟩; exact ⟨⟨⟨⟨a, b⟩, c⟩, b70⟩, ⟨⟨⟨e, f⟩, i⟩, j⟩, g⟩
theorem aa2 (k : s.kind = 3) : L1 nv na s = (decide (s.target = 0 /\ s.count = 0) && (noneB s.index && j8 nv na s.value)) := by
 rw [L1, m6, if_pos (show s.kind = 3 \/ s.kind = 4 from .inl k), if_neg (show ¬ s.kind = 4 by omega), if_neg (by omega), if_neg (by omega), if_pos k, b89]
 simp only [b57, decide_eq_true_eq]
 constructor
 ·rintro ⟨⟨a, b, c⟩, d⟩; exact ⟨⟨a, b⟩, c, d⟩
 rintro ⟨⟨a, b⟩, c, d⟩; exact ⟨⟨a, b, c⟩, d⟩
theorem U8 (k : s.kind = 4) : L1 nv na s = (decide (s.target = 0 /\ s.els.length = 0 /\ 1 <= s.count /\ s.count <= 3) && (noneB s.index && noneB s.value)) := by
 rw [L1, m6, if_pos (show s.kind = 3 \/ s.kind = 4 from .inr k), if_pos k, if_neg (by omega), if_neg (by omega), if_neg (by omega), show decide (s.kind = 4) = true from decide_eq_true k, b89]
 simp only [b57, decide_eq_true_eq]
 constructor
 ·rintro ⟨⟨a, ⟨⟨⟨b, c⟩, d⟩, e⟩, f⟩, -⟩; exact ⟨⟨a, b, c, d⟩, e, f⟩
 rintro ⟨⟨a, b, c, d⟩, e, f⟩; exact ⟨⟨a, ⟨⟨⟨b, c⟩, d⟩, e⟩, f⟩, b70⟩
theorem bF7 (k : ¬ s.kind = 1 /\ ¬ s.kind = 2 /\ ¬ s.kind = 3 /\ ¬ s.kind = 4 /\ ¬ s.kind = 5) : L1 nv na s = false := by
 rw [L1, if_neg (by omega), if_neg (by omega), if_neg (by omega), show decide (s.kind = 4) = false from decide_eq_false (by omega), Bool.and_false]
theorem R5 {p : Prop} [Decidable p] {a b : Bool} (hp : p) (ha : a = true) (hb : b = true) : (decide p && (a && b)) = true := by rw [ha, hb, decide_eq_true hp]; rfl
theorem aM9 {p : Prop} [Decidable p] {a b c : Bool} (hp : p) (ha : a = true) (hb : b = true) (hc : c = true) : (decide p && (a && (b && c))) = true := by rw [ha, hb, hc, decide_eq_true hp]; rfl
end
abbrev af8 (p : j0) (d : Nat) (s : b5) (c : Nat) := k6 p.vars.length p.arrays.length d (k6 p.vars.length p.arrays.length d (c + 1) s.body).snd s.els
abbrev af7 (p : j0) (d : Nat) (s : b5) (c : Nat) := k6 p.vars.length p.arrays.length d (c + 1) s.body
abbrev l9 (p : j0) (d : Nat) (s : b5) (c : Nat) : List It := [dI p.vars, dI p.arrays, dT p.body, .box [iA ((w3 p.vars.length p.arrays.length (d + 1) c s).snd : Int)], dE s.index.kids, dE s.value.kids, dT s.body, dT s.els]
abbrev V8 (s : b5) (r0 : List It) : List It := dE s.index.kids :: dE s.value.kids :: dT s.body :: dT s.els :: r0
abbrev V7 (p : j0) (r0 : List It) : List It := dI p.vars :: dI p.arrays :: dT p.body :: r0
theorem bA6 (p : j0) (d : Nat) (hd : d <= 4) (ih : ∀ (ss : List b5) (c : Nat) (n : Int), c <= 60 -> n = 6 - (d : Int) -> j1.ok Tryz.prog (aX7 p d c ss n))
    (s : b5) (c : Nat) (n : Int) (hc : c <= 60) (hn : n = 5 - (d : Int)) : j1.ok Tryz.prog (bC9 p (d + 1) c s n) := by
  have h100 : decide (n > 5) = false := by simp; omega
  refine D2 149 Tryz.func63 (V7 p (.box [iA c] :: (V8 s []))) [(0, pA 0), (1, sA s 4), (2, iA n), (3, .ptr 3 0)] fun G => ?_; have hl0 : p.vars.length <= 9223372036854775807 := G.len 0 (d := .ints p.vars) (by kernel_rfl); have hl1 : p.arrays.length <= 9223372036854775807 := G.len 1 (d := .ints p.arrays) (by kernel_rfl); refine wp_seq (j5 G d7 [0, 1, 2, 3, 4, 5, 6, 7, 8, 16] (V7 p (.box [iA c] :: (V8 s [.box (pL 0), .box (sL s 4)]))) [(2, iA n), (3, .ptr 3 0), (4, .ptr 8 0), (5, .ptr 9 0), (8, bA false)] fun G => b0 (wp_seq (G8 G d7 (rg 10) (V7 p (.box [iA ((c : Int) + 1)] :: (V8 s [.box (pL 0), .box (sL s 4)]))) [(2, iA n), (3, .ptr 3 0), (4, .ptr 8 0), (5, .ptr 9 0), (8, bA false)] [wO ((c : Int) + 1)] (o1 (by omega)) fun G => b0 (wp_seq (wp_seq ?_))))); cases h0 : (decide ((c : Int) + 1 > 60))
  ·
   have q0 := L3 h0; refine j3 G (y7 (fc h0 fz) [(5, 0), (6, 0), (1007, 0)]) [(27, bA (decide (n > 5)))] fun G => b0 (rF G (decide (n > 5)) (by assumption) (wp_skip (b0 (wp_seq (j3 G d7 [(9, iA 1), (10, bA false), (11, bA true), (12, bA false), (13, bA false), (14, bA false)] fun G => b0 (wp_seq (wp_seq (j3 G d7 [(29, iA s.kind)] fun G => b0 (wp_block (wp_seq (wp_seq (j3 G d7 [(30, bA (s.kind == 1))] fun G => b0 (rcE G (fun h1 q1 => ?_) fun h1 q1 => ?_)))))))))))))
   ·
    refine j3 G d7 [(30, bA (s.kind == 5))] fun G => b0 (rcE G (fun h2 q2 => ?_) fun h2 q2 => ?_)
    ·
     refine wp_seq (j3 G d7 [(36, bA (s.kind == 2))] fun G => b0 (rcE G (fun h3 q3 => ?_) fun h3 q3 => ?_))
     ·
      refine wp_seq (j3 G d7 [(41, bA (s.kind == 3))] fun G => b0 (rcE G (fun h4 q4 => ?_) fun h4 q4 => ?_))
      ·
       refine wp_seq (j3 G d7 [(43, bA (s.kind == 4))] fun G => b0 (rcE G (fun h5 q5 => ?_) fun h5 q5 => ?_))
       · refine wp_seq (j3 G d7 [] fun G => b0 (wp_ret (A2 (j2 ?_)))); exact y9 false G (rg 8) (by rw [i6 (bF7 (by omega))]; done) (by show _ = mR (rg 8) (l9 p d s c); unfold l9; rw [i6 (bF7 (by omega))] <;> rfl)
       refine j3 G d7 [(11, bA false), (12, bA true), (13, bA true)] fun G => o9 (b0 (wp_seq (wp_seq ?_))); cases h6 : (!(decide ((0 : Int) <= s.target) && decide (s.target <= 0)))
       ·
        have q6 : (0 <= s.target) /\ (s.target <= 0) := (fun hq => And.imp (fun hq => of_decide_eq_true hq) (fun hq => of_decide_eq_true hq) (Bool.and_eq_true_iff.1 hq)) (Eq.mp (b67 _) h6); cases h7 : (!(decide ((1 : Int) <= s.count) && decide (s.count <= 3)))
        ·
         have q7 : (1 <= s.count) /\ (s.count <= 3) := (fun hq => And.imp (fun hq => of_decide_eq_true hq) (fun hq => of_decide_eq_true hq) (Bool.and_eq_true_iff.1 hq)) (Eq.mp (b67 _) h7); refine G7 G (x8 (m8 4 [] (y8 s.target 0 0) (m8 11 [] (y8 s.count 1 3) x7)) (fc h6 (fc (b := true) rfl (fc h7 (fc (b := false) rfl fz)))) (us [(7, 8, 0), (9, 12, 1), (13, 13, 0), (1013, 1013, 1), (1014, 1014, 0), (16, 18, 2), (19, 21, 3), (22, 22, 2), (1022, 1022, 3), (1023, 1023, 2), (25, 32, 3), (1032, 1033, 3), (35, 37, 3), (38, 41, 1), (42, 42, 3), (1042, 1042, 1), (1043, 1043, 3)])) [(88, bA (decide ((s.els.length : Int) > 0)))] [IntKind.i64.wrap ((1 : Int) - 1) = 1 - 1] ⟨(by kernel_rfl), b70⟩ fun G => b0 (S9 G (fun h8 q8 => ?_) fun h8 q8 => ?_)
         ·
          refine wp_skip (b0 (wp_seq (wp_seq ?_))); cases h9 : (!noneB s.index)
          ·
           have q9 : (noneB s.index) = true := (Eq.mp (b67 _) h9); refine j3 G (x8 (m8 20 [4] (G9 s.index) (m8 40 [5] (G9 s.value) x7)) (fc (b := false) rfl (fc (b := true) rfl (fc h9 fz))) (us [(2, 7, 0), (12, 12, 0), (1013, 1013, 0), (15, 17, 0), (18, 21, 1), (22, 22, 0), (1022, 1022, 1), (1023, 1023, 0), (25, 26, 2), (27, 31, 0), (32, 32, 2), (1032, 1032, 0), (1033, 1033, 2), (35, 37, 0), (38, 41, 1), (42, 42, 0), (1042, 1042, 1), (1043, 1043, 0)])) [(132, .v (.bool !noneB s.value))] fun G => b0 ?_; cases h10 : (!noneB s.value)
           ·
            have q10 : (noneB s.value) = true := (Eq.mp (b67 _) h10); refine rF G _ h10 (wp_skip (b0 (wp_seq ?_))); cases h11 : ((k6 p.vars.length p.arrays.length d (c + (1 : Nat)) s.body).fst)
            · refine G8 G (x8 (m8 6 [0, 1, 2, 3, 6] (ih s.body (c + 1) (n + 1) (by simp; omega) (by omega)) x7) (fc h11 fz) (us [(8, 14, 0), (1015, 1015, 0)])) (rg 8) (V7 p (.box [iA ((af7 p d s c).snd : Int)] :: (V8 s []))) [(8, bA false)] [wO (n + 1)] (o1 (by omega)) fun G => b0 (wp_ret ?_); exact y9 false G (rg 8) (by rw [C6 (by omega) (by (rw [U8 (by omega)]; exact R5 (by omega) (by assumption) (by assumption))) (by assumption)]; assumption) (by show _ = mR (rg 8) (l9 p d s c); unfold l9; rw [C6 (by omega) (by (rw [U8 (by omega)]; exact R5 (by omega) (by assumption) (by assumption))) (by assumption)] <;> rfl)
            refine G8 G (x8 (m8 6 [0, 1, 2, 3, 6] (ih s.body (c + 1) (n + 1) (by simp; omega) (by omega)) (m8 14 [0, 1, 2, 3, 7] (ih s.els ((af7 p d s c).snd) (n + 1) (O2 (by omega) (by assumption)) (by omega)) x7)) (fc h11 fz) (us [(8, 14, 0), (1015, 1015, 0)])) (rg 8) (V7 p (.box [iA ((af8 p d s c).snd : Int)] :: (V8 s []))) [(8, bA (af8 p d s c).fst)] [wO (n + 1), wO (n + 1)] (o2 (by omega)) fun G => b0 (wp_ret ?_); exact y9 ((k6 p.vars.length p.arrays.length d (k6 p.vars.length p.arrays.length d (c + 1) s.body).snd s.els).fst) G (rg 8) (by rw [E9 (by omega) (by (rw [U8 (by omega)]; exact R5 (by omega) (by assumption) (by assumption))) (by assumption)]; done) (by show _ = mR (rg 8) (l9 p d s c); unfold l9; rw [E9 (by omega) (by (rw [U8 (by omega)]; exact R5 (by omega) (by assumption) (by assumption))) (by assumption)] <;> rfl)
           have q10 : (noneB s.value) = false := (Eq.mp (b65 _) h10); refine rT G _ h10 (wp_seq (j3 G d7 [] fun G => b0 (wp_ret (j2 ?_)))); exact y9 false G (rg 8) (by rw [i6 (by (rw [U8 (by omega)]; simp [h100, h0, q0, h1, q1, h2, q2, h3, q3, h4, q4, h5, q5, h6, q6, h7, q7, h8, q8, h9, q9, h10, q10]; done))]; done) (by show _ = mR (rg 8) (l9 p d s c); unfold l9; rw [i6 (by (rw [U8 (by omega)]; simp [h100, h0, q0, h1, q1, h2, q2, h3, q3, h4, q4, h5, q5, h6, q6, h7, q7, h8, q8, h9, q9, h10, q10]; done))] <;> rfl)
          have q9 : (noneB s.index) = false := (Eq.mp (b65 _) h9); refine j3 G (x8 (m8 20 [4] (G9 s.index) x7) (fc (b := false) rfl (fc (b := true) rfl (fc h9 fz))) (us [(2, 7, 0), (12, 12, 0), (1013, 1013, 0), (15, 17, 0), (18, 21, 1), (22, 22, 0), (1022, 1022, 1), (1023, 1023, 0), (25, 26, 2), (32, 32, 2), (1033, 1033, 2), (35, 37, 1), (42, 42, 1), (1043, 1043, 1)])) [(132, bA true)] fun G => b0 (rT G true (by kernel_rfl) (wp_seq (j3 G d7 [] fun G => b0 (wp_ret (j2 ?_))))); exact y9 false G (rg 8) (by rw [i6 (by (rw [U8 (by omega)]; simp [h100, h0, q0, h1, q1, h2, q2, h3, q3, h4, q4, h5, q5, h6, q6, h7, q7, h8, q8, h9, q9]; done))]; done) (by show _ = mR (rg 8) (l9 p d s c); unfold l9; rw [i6 (by (rw [U8 (by omega)]; simp [h100, h0, q0, h1, q1, h2, q2, h3, q3, h4, q4, h5, q5, h6, q6, h7, q7, h8, q8, h9, q9]; done))] <;> rfl)
         refine wp_seq (j3 G d7 [] fun G => b0 (wp_ret (j2 ?_))); exact y9 false G (rg 8) (by rw [i6 (by (rw [U8 (by omega), decide_eq_false (by omega)]; rfl))]; done) (by show _ = mR (rg 8) (l9 p d s c); unfold l9; rw [i6 (by (rw [U8 (by omega), decide_eq_false (by omega)]; rfl))] <;> rfl)
        have q7 : (¬ (1 <= s.count)) \/ (¬ (s.count <= 3)) := (fun hq => Or.imp (fun hq => of_decide_eq_false hq) (fun hq => of_decide_eq_false hq) (Bool.and_eq_false_iff.1 hq)) (Eq.mp (b65 _) h7); refine G7 G (x8 (m8 4 [] (y8 s.target 0 0) (m8 11 [] (y8 s.count 1 3) x7)) (fc h6 (fc (b := true) rfl (fc h7 fz))) (us [(7, 8, 0), (9, 12, 1), (13, 13, 0), (1013, 1013, 1), (1014, 1014, 0), (16, 18, 2), (22, 22, 2), (1023, 1023, 2), (25, 27, 1), (32, 32, 1), (1033, 1033, 1), (35, 37, 1), (42, 42, 1), (1043, 1043, 1)])) [(88, bA true)] [IntKind.i64.wrap ((1 : Int) - 1) = 1 - 1] ⟨(by kernel_rfl), b70⟩ fun G => b0 (rT G true (by kernel_rfl) (wp_seq (j3 G d7 [] fun G => b0 (wp_ret (j2 ?_))))); exact y9 false G (rg 8) (by rw [i6 (by (rw [U8 (by omega), decide_eq_false (by omega)]; rfl))]; done) (by show _ = mR (rg 8) (l9 p d s c); unfold l9; rw [i6 (by (rw [U8 (by omega), decide_eq_false (by omega)]; rfl))] <;> rfl)
       have q6 : (¬ (0 <= s.target)) \/ (¬ (s.target <= 0)) := (fun hq => Or.imp (fun hq => of_decide_eq_false hq) (fun hq => of_decide_eq_false hq) (Bool.and_eq_false_iff.1 hq)) (Eq.mp (b65 _) h6); refine G7 G (x8 (m8 4 [] (y8 s.target 0 0) x7) (fc h6 (fc (b := true) rfl fz)) [(7, 0), (8, 0), (13, 0), (1014, 0), (16, 1), (17, 1), (18, 1), (22, 1), (1023, 1), (25, 1), (26, 1), (27, 1), (32, 1), (1033, 1), (35, 1), (36, 1), (37, 1), (42, 1), (1043, 1)]) [(88, bA true)] [IntKind.i64.wrap ((1 : Int) - 1) = 1 - 1] ⟨(by kernel_rfl), b70⟩ fun G => b0 (rT G true (by kernel_rfl) (wp_seq (j3 G d7 [] fun G => b0 (wp_ret (j2 ?_))))); exact y9 false G (rg 8) (by rw [i6 (by (rw [U8 (by omega), decide_eq_false (by omega)]; rfl))]; done) (by show _ = mR (rg 8) (l9 p d s c); unfold l9; rw [i6 (by (rw [U8 (by omega), decide_eq_false (by omega)]; rfl))] <;> rfl)
      refine j3 G d7 [(13, bA true), (14, bA true)] fun G => o9 (b0 (wp_seq (wp_seq ?_))); cases h12 : (!(decide ((0 : Int) <= s.target) && decide (s.target <= 0)))
      ·
       have q12 : (0 <= s.target) /\ (s.target <= 0) := (fun hq => And.imp (fun hq => of_decide_eq_true hq) (fun hq => of_decide_eq_true hq) (Bool.and_eq_true_iff.1 hq)) (Eq.mp (b67 _) h12); cases h13 : (s.count != 0)
       ·
        have q13 := bne_eq_false_iff_eq.1 h13; refine G7 G (x8 (m8 4 [] (y8 s.target 0 0) x7) (fc h12 (fc (b := false) rfl (fc (b := true) rfl (fc h13 fz)))) (us [(7, 8, 0), (9, 12, 1), (13, 13, 0), (1013, 1013, 1), (1014, 1014, 0), (16, 18, 1), (19, 21, 2), (22, 22, 1), (1022, 1022, 2), (1023, 1023, 1), (25, 27, 3), (28, 31, 1), (32, 32, 3), (1032, 1032, 1), (1033, 1033, 3), (35, 42, 1), (1042, 1043, 1)])) [(88, bA false)] [IntKind.i64.wrap ((1 : Int) - 1) = 1 - 1] ⟨(by kernel_rfl), b70⟩ fun G => b0 (rF G false (by kernel_rfl) (wp_skip (b0 (wp_seq (wp_seq ?_))))); cases h14 : (!noneB s.index)
        ·
         have q14 : (noneB s.index) = true := (Eq.mp (b67 _) h14); cases h15 : (!j8 p.vars.length p.arrays.length s.value)
         ·
          have q15 : (j8 p.vars.length p.arrays.length s.value) = true := (Eq.mp (b67 _) h15); refine j3 G (x8 (m8 20 [4] (G9 s.index) (m8 30 [0, 1, 2, 5] (Q4 p s.value) x7)) (fc (b := false) rfl (fc (b := true) rfl (fc h14 (fc h15 fz)))) (us [(2, 7, 0), (12, 12, 0), (1013, 1013, 0), (15, 17, 0), (18, 21, 1), (22, 22, 0), (1022, 1022, 1), (1023, 1023, 0), (25, 26, 2), (27, 31, 1), (32, 32, 2), (1032, 1032, 1), (1033, 1033, 2), (35, 37, 3), (38, 41, 0), (42, 42, 3), (1042, 1042, 0), (1043, 1043, 3)])) [(132, bA false)] fun G => b0 (rF G false (by kernel_rfl) (wp_skip (b0 (wp_seq ?_)))); cases h16 : ((k6 p.vars.length p.arrays.length d (c + (1 : Nat)) s.body).fst)
          · refine G8 G (x8 (m8 6 [0, 1, 2, 3, 6] (ih s.body (c + 1) (n + 1) (by simp; omega) (by omega)) x7) (fc h16 fz) (us [(8, 14, 0), (1015, 1015, 0)])) (rg 8) (V7 p (.box [iA ((af7 p d s c).snd : Int)] :: (V8 s []))) [(8, bA false)] [wO (n + 1)] (o1 (by omega)) fun G => b0 (wp_ret ?_); exact y9 false G (rg 8) (by rw [C6 (by omega) (by (rw [aa2 (by omega)]; exact R5 (by omega) (by assumption) (by assumption))) (by assumption)]; assumption) (by show _ = mR (rg 8) (l9 p d s c); unfold l9; rw [C6 (by omega) (by (rw [aa2 (by omega)]; exact R5 (by omega) (by assumption) (by assumption))) (by assumption)] <;> rfl)
          refine G8 G (x8 (m8 6 [0, 1, 2, 3, 6] (ih s.body (c + 1) (n + 1) (by simp; omega) (by omega)) (m8 14 [0, 1, 2, 3, 7] (ih s.els ((af7 p d s c).snd) (n + 1) (O2 (by omega) (by assumption)) (by omega)) x7)) (fc h16 fz) (us [(8, 14, 0), (1015, 1015, 0)])) (rg 8) (V7 p (.box [iA ((af8 p d s c).snd : Int)] :: (V8 s []))) [(8, bA (af8 p d s c).fst)] [wO (n + 1), wO (n + 1)] (o2 (by omega)) fun G => b0 (wp_ret ?_); exact y9 ((k6 p.vars.length p.arrays.length d (k6 p.vars.length p.arrays.length d (c + 1) s.body).snd s.els).fst) G (rg 8) (by rw [E9 (by omega) (by (rw [aa2 (by omega)]; exact R5 (by omega) (by assumption) (by assumption))) (by assumption)]; done) (by show _ = mR (rg 8) (l9 p d s c); unfold l9; rw [E9 (by omega) (by (rw [aa2 (by omega)]; exact R5 (by omega) (by assumption) (by assumption))) (by assumption)] <;> rfl)
         have q15 : (j8 p.vars.length p.arrays.length s.value) = false := (Eq.mp (b65 _) h15); refine j3 G (x8 (m8 20 [4] (G9 s.index) (m8 30 [0, 1, 2, 5] (Q4 p s.value) x7)) (fc (b := false) rfl (fc (b := true) rfl (fc h14 (fc h15 fz)))) (us [(2, 7, 0), (12, 12, 0), (1013, 1013, 0), (15, 17, 0), (18, 21, 1), (22, 22, 0), (1022, 1022, 1), (1023, 1023, 0), (25, 26, 2), (27, 31, 1), (32, 32, 2), (1032, 1032, 1), (1033, 1033, 2), (35, 37, 3), (42, 42, 3), (1043, 1043, 3)])) [(132, bA true)] fun G => b0 (rT G true (by kernel_rfl) (wp_seq (j3 G d7 [] fun G => b0 (wp_ret (j2 ?_))))); exact y9 false G (rg 8) (by rw [i6 (by (rw [aa2 (by omega)]; simp [h100, h0, q0, h1, q1, h2, q2, h3, q3, h4, q4, h12, q12, h13, q13, h14, q14, h15, q15]; done))]; done) (by show _ = mR (rg 8) (l9 p d s c); unfold l9; rw [i6 (by (rw [aa2 (by omega)]; simp [h100, h0, q0, h1, q1, h2, q2, h3, q3, h4, q4, h12, q12, h13, q13, h14, q14, h15, q15]; done))] <;> rfl)
        have q14 : (noneB s.index) = false := (Eq.mp (b65 _) h14); refine j3 G (x8 (m8 20 [4] (G9 s.index) x7) (fc (b := false) rfl (fc (b := true) rfl (fc h14 fz))) (us [(2, 7, 0), (12, 12, 0), (1013, 1013, 0), (15, 17, 0), (18, 21, 1), (22, 22, 0), (1022, 1022, 1), (1023, 1023, 0), (25, 26, 2), (32, 32, 2), (1033, 1033, 2), (35, 37, 1), (42, 42, 1), (1043, 1043, 1)])) [(132, bA true)] fun G => b0 (rT G true (by kernel_rfl) (wp_seq (j3 G d7 [] fun G => b0 (wp_ret (j2 ?_))))); exact y9 false G (rg 8) (by rw [i6 (by (rw [aa2 (by omega)]; simp [h100, h0, q0, h1, q1, h2, q2, h3, q3, h4, q4, h12, q12, h13, q13, h14, q14]; done))]; done) (by show _ = mR (rg 8) (l9 p d s c); unfold l9; rw [i6 (by (rw [aa2 (by omega)]; simp [h100, h0, q0, h1, q1, h2, q2, h3, q3, h4, q4, h12, q12, h13, q13, h14, q14]; done))] <;> rfl)
       have q13 := bne_iff_ne.1 h13; refine G7 G (x8 (m8 4 [] (y8 s.target 0 0) x7) (fc h12 (fc (b := false) rfl (fc (b := true) rfl (fc h13 fz)))) (us [(7, 8, 0), (9, 12, 1), (13, 13, 0), (1013, 1013, 1), (1014, 1014, 0), (16, 18, 1), (19, 21, 2), (22, 22, 1), (1022, 1022, 2), (1023, 1023, 1), (25, 27, 3), (32, 32, 3), (1033, 1033, 3), (35, 37, 2), (42, 42, 2), (1043, 1043, 2)])) [(88, bA true)] [IntKind.i64.wrap ((1 : Int) - 1) = 1 - 1] ⟨(by kernel_rfl), b70⟩ fun G => b0 (rT G true (by kernel_rfl) (wp_seq (j3 G d7 [] fun G => b0 (wp_ret (j2 ?_))))); exact y9 false G (rg 8) (by rw [i6 (by (rw [aa2 (by omega), decide_eq_false (by omega)]; rfl))]; done) (by show _ = mR (rg 8) (l9 p d s c); unfold l9; rw [i6 (by (rw [aa2 (by omega), decide_eq_false (by omega)]; rfl))] <;> rfl)
      have q12 : (¬ (0 <= s.target)) \/ (¬ (s.target <= 0)) := (fun hq => Or.imp (fun hq => of_decide_eq_false hq) (fun hq => of_decide_eq_false hq) (Bool.and_eq_false_iff.1 hq)) (Eq.mp (b65 _) h12); refine G7 G (x8 (m8 4 [] (y8 s.target 0 0) x7) (fc h12 (fc (b := true) rfl fz)) [(7, 0), (8, 0), (13, 0), (1014, 0), (16, 1), (17, 1), (18, 1), (22, 1), (1023, 1), (25, 1), (26, 1), (27, 1), (32, 1), (1033, 1), (35, 1), (36, 1), (37, 1), (42, 1), (1043, 1)]) [(88, bA true)] [IntKind.i64.wrap ((1 : Int) - 1) = 1 - 1] ⟨(by kernel_rfl), b70⟩ fun G => b0 (rT G true (by kernel_rfl) (wp_seq (j3 G d7 [] fun G => b0 (wp_ret (j2 ?_))))); exact y9 false G (rg 8) (by rw [i6 (by (rw [aa2 (by omega), decide_eq_false (by omega)]; rfl))]; done) (by show _ = mR (rg 8) (l9 p d s c); unfold l9; rw [i6 (by (rw [aa2 (by omega), decide_eq_false (by omega)]; rfl))] <;> rfl)
     refine j3 G d7 [(9, iA (p.arrays.length : Int)), (10, bA true)] fun G => o9 (b0 (wp_seq (wp_seq ?_))); cases h17 : (!(decide ((0 : Int) <= s.target) && decide (s.target <= (p.arrays.length : Int) - 1)))
     ·
      have q17 : (0 <= s.target) /\ (s.target <= (p.arrays.length : Int) - 1) := (fun hq => And.imp (fun hq => of_decide_eq_true hq) (fun hq => of_decide_eq_true hq) (Bool.and_eq_true_iff.1 hq)) (Eq.mp (b67 _) h17); cases h18 : (s.count != 0)
      ·
       have q18 := bne_eq_false_iff_eq.1 h18; cases h19 : (decide ((s.body.length : Int) > 0))
       ·
        have q19 := L3 h19; refine G7 G (x8 (m8 4 [] (y8 s.target 0 ((p.arrays.length : Int) - 1)) x7) (fc h17 (fc (b := false) rfl (fc (b := true) rfl (fc h18 (fc h19 fz))))) (us [(7, 8, 0), (9, 12, 1), (13, 13, 0), (1013, 1013, 1), (1014, 1014, 0), (16, 18, 1), (19, 21, 2), (22, 22, 1), (1022, 1022, 2), (1023, 1023, 1), (25, 27, 3), (28, 31, 2), (32, 32, 3), (1032, 1032, 2), (1033, 1033, 3), (35, 37, 4), (38, 41, 2), (42, 42, 4), (1042, 1042, 2), (1043, 1043, 4)])) [(88, bA (decide ((s.els.length : Int) > 0)))] [wO ((p.arrays.length : Int) - 1)] (o1 (by omega)) fun G => b0 (S9 G (fun h20 q20 => ?_) fun h20 q20 => ?_)
        ·
         refine wp_skip (b0 (wp_seq (wp_seq ?_))); cases h21 : (!j8 p.vars.length p.arrays.length s.index)
         ·
          have q21 : (j8 p.vars.length p.arrays.length s.index) = true := (Eq.mp (b67 _) h21); cases h22 : (!J0 s.index)
          ·
           have q22 : (J0 s.index) = true := (Eq.mp (b67 _) h22); cases h23 : (!j8 p.vars.length p.arrays.length s.value)
           ·
            have q23 : (j8 p.vars.length p.arrays.length s.value) = true := (Eq.mp (b67 _) h23); refine j3 G (x8 (m8 5 [0, 1, 2, 4] (Q4 p s.index) (m8 10 [4] (ap7 s.index) (m8 30 [0, 1, 2, 5] (Q4 p s.value) x7))) (fc (b := true) rfl (fc h21 (fc h22 (fc (b := false) rfl (fc h23 fz))))) (us [(2, 7, 0), (8, 11, 1), (12, 12, 0), (1012, 1012, 1), (1013, 1013, 0), (15, 17, 2), (18, 21, 3), (22, 22, 2), (1022, 1022, 3), (1023, 1023, 2), (25, 26, 3), (27, 31, 0), (32, 32, 3), (1032, 1032, 0), (1033, 1033, 3), (35, 37, 4), (38, 41, 3), (42, 42, 4), (1042, 1042, 3), (1043, 1043, 4)])) [(132, bA false)] fun G => b0 (rF G false (by kernel_rfl) (wp_skip (b0 (wp_seq ?_)))); cases h24 : ((k6 p.vars.length p.arrays.length d (c + (1 : Nat)) s.body).fst)
            · refine G8 G (x8 (m8 6 [0, 1, 2, 3, 6] (ih s.body (c + 1) (n + 1) (by simp; omega) (by omega)) x7) (fc h24 fz) (us [(8, 14, 0), (1015, 1015, 0)])) (rg 8) (V7 p (.box [iA ((af7 p d s c).snd : Int)] :: (V8 s []))) [(8, bA false)] [wO (n + 1)] (o1 (by omega)) fun G => b0 (wp_ret ?_); exact y9 false G (rg 8) (by rw [C6 (by omega) (by (rw [N7 (by omega)]; exact aM9 (by omega) (by assumption) (by assumption) (by assumption))) (by assumption)]; assumption) (by show _ = mR (rg 8) (l9 p d s c); unfold l9; rw [C6 (by omega) (by (rw [N7 (by omega)]; exact aM9 (by omega) (by assumption) (by assumption) (by assumption))) (by assumption)] <;> rfl)
            refine G8 G (x8 (m8 6 [0, 1, 2, 3, 6] (ih s.body (c + 1) (n + 1) (by simp; omega) (by omega)) (m8 14 [0, 1, 2, 3, 7] (ih s.els ((af7 p d s c).snd) (n + 1) (O2 (by omega) (by assumption)) (by omega)) x7)) (fc h24 fz) (us [(8, 14, 0), (1015, 1015, 0)])) (rg 8) (V7 p (.box [iA ((af8 p d s c).snd : Int)] :: (V8 s []))) [(8, bA (af8 p d s c).fst)] [wO (n + 1), wO (n + 1)] (o2 (by omega)) fun G => b0 (wp_ret ?_); exact y9 ((k6 p.vars.length p.arrays.length d (k6 p.vars.length p.arrays.length d (c + 1) s.body).snd s.els).fst) G (rg 8) (by rw [E9 (by omega) (by (rw [N7 (by omega)]; exact aM9 (by omega) (by assumption) (by assumption) (by assumption))) (by assumption)]; done) (by show _ = mR (rg 8) (l9 p d s c); unfold l9; rw [E9 (by omega) (by (rw [N7 (by omega)]; exact aM9 (by omega) (by assumption) (by assumption) (by assumption))) (by assumption)] <;> rfl)
           have q23 : (j8 p.vars.length p.arrays.length s.value) = false := (Eq.mp (b65 _) h23); refine j3 G (x8 (m8 5 [0, 1, 2, 4] (Q4 p s.index) (m8 10 [4] (ap7 s.index) (m8 30 [0, 1, 2, 5] (Q4 p s.value) x7))) (fc (b := true) rfl (fc h21 (fc h22 (fc (b := false) rfl (fc h23 fz))))) (us [(2, 7, 0), (8, 11, 1), (12, 12, 0), (1012, 1012, 1), (1013, 1013, 0), (15, 17, 2), (18, 21, 3), (22, 22, 2), (1022, 1022, 3), (1023, 1023, 2), (25, 26, 3), (27, 31, 0), (32, 32, 3), (1032, 1032, 0), (1033, 1033, 3), (35, 37, 4), (42, 42, 4), (1043, 1043, 4)])) [(132, bA true)] fun G => b0 (rT G true (by kernel_rfl) (wp_seq (j3 G d7 [] fun G => b0 (wp_ret (j2 ?_))))); exact y9 false G (rg 8) (by rw [i6 (by (rw [N7 (by omega)]; simp [h100, h0, q0, h1, q1, h2, q2, h3, q3, h17, q17, h18, q18, h19, q19, h20, q20, h21, q21, h22, q22, h23, q23]; done))]; done) (by show _ = mR (rg 8) (l9 p d s c); unfold l9; rw [i6 (by (rw [N7 (by omega)]; simp [h100, h0, q0, h1, q1, h2, q2, h3, q3, h17, q17, h18, q18, h19, q19, h20, q20, h21, q21, h22, q22, h23, q23]; done))] <;> rfl)
          have q22 : (J0 s.index) = false := (Eq.mp (b65 _) h22); refine j3 G (x8 (m8 5 [0, 1, 2, 4] (Q4 p s.index) (m8 10 [4] (ap7 s.index) x7)) (fc (b := true) rfl (fc h21 (fc h22 fz))) (us [(2, 7, 0), (8, 11, 1), (12, 12, 0), (1012, 1012, 1), (1013, 1013, 0), (15, 17, 2), (22, 22, 2), (1023, 1023, 2), (25, 26, 0), (32, 32, 0), (1033, 1033, 0), (35, 37, 0), (42, 42, 0), (1043, 1043, 0)])) [(132, bA true)] fun G => b0 (rT G true (by kernel_rfl) (wp_seq (j3 G d7 [] fun G => b0 (wp_ret (j2 ?_))))); exact y9 false G (rg 8) (by rw [i6 (by (rw [N7 (by omega)]; simp [h100, h0, q0, h1, q1, h2, q2, h3, q3, h17, q17, h18, q18, h19, q19, h20, q20, h21, q21, h22, q22]; done))]; done) (by show _ = mR (rg 8) (l9 p d s c); unfold l9; rw [i6 (by (rw [N7 (by omega)]; simp [h100, h0, q0, h1, q1, h2, q2, h3, q3, h17, q17, h18, q18, h19, q19, h20, q20, h21, q21, h22, q22]; done))] <;> rfl)
         have q21 : (j8 p.vars.length p.arrays.length s.index) = false := (Eq.mp (b65 _) h21); refine j3 G (x8 (m8 5 [0, 1, 2, 4] (Q4 p s.index) x7) (fc (b := true) rfl (fc h21 fz)) (us [(2, 7, 0), (8, 11, 1), (12, 12, 0), (1012, 1012, 1), (1013, 1013, 0), (15, 17, 0), (22, 22, 0), (1023, 1023, 0), (25, 26, 0), (32, 32, 0), (1033, 1033, 0), (35, 37, 0), (42, 42, 0), (1043, 1043, 0)])) [(132, bA true)] fun G => b0 (rT G true (by kernel_rfl) (wp_seq (j3 G d7 [] fun G => b0 (wp_ret (j2 ?_))))); exact y9 false G (rg 8) (by rw [i6 (by (rw [N7 (by omega)]; simp [h100, h0, q0, h1, q1, h2, q2, h3, q3, h17, q17, h18, q18, h19, q19, h20, q20, h21, q21]; done))]; done) (by show _ = mR (rg 8) (l9 p d s c); unfold l9; rw [i6 (by (rw [N7 (by omega)]; simp [h100, h0, q0, h1, q1, h2, q2, h3, q3, h17, q17, h18, q18, h19, q19, h20, q20, h21, q21]; done))] <;> rfl)
        refine wp_seq (j3 G d7 [] fun G => b0 (wp_ret (j2 ?_))); exact y9 false G (rg 8) (by rw [i6 (by (rw [N7 (by omega), decide_eq_false (by omega)]; rfl))]; done) (by show _ = mR (rg 8) (l9 p d s c); unfold l9; rw [i6 (by (rw [N7 (by omega), decide_eq_false (by omega)]; rfl))] <;> rfl)
       have q19 := L2 h19; refine G7 G (x8 (m8 4 [] (y8 s.target 0 ((p.arrays.length : Int) - 1)) x7) (fc h17 (fc (b := false) rfl (fc (b := true) rfl (fc h18 (fc h19 fz))))) (us [(7, 8, 0), (9, 12, 1), (13, 13, 0), (1013, 1013, 1), (1014, 1014, 0), (16, 18, 1), (19, 21, 2), (22, 22, 1), (1022, 1022, 2), (1023, 1023, 1), (25, 27, 3), (28, 31, 2), (32, 32, 3), (1032, 1032, 2), (1033, 1033, 3), (35, 37, 4), (42, 42, 4), (1043, 1043, 4)])) [(88, bA true)] [wO ((p.arrays.length : Int) - 1)] (o1 (by omega)) fun G => b0 (rT G true (by kernel_rfl) (wp_seq (j3 G d7 [] fun G => b0 (wp_ret (j2 ?_))))); exact y9 false G (rg 8) (by rw [i6 (by (rw [N7 (by omega), decide_eq_false (by omega)]; rfl))]; done) (by show _ = mR (rg 8) (l9 p d s c); unfold l9; rw [i6 (by (rw [N7 (by omega), decide_eq_false (by omega)]; rfl))] <;> rfl)
      have q18 := bne_iff_ne.1 h18; refine G7 G (x8 (m8 4 [] (y8 s.target 0 ((p.arrays.length : Int) - 1)) x7) (fc h17 (fc (b := false) rfl (fc (b := true) rfl (fc h18 fz)))) (us [(7, 8, 0), (9, 12, 1), (13, 13, 0), (1013, 1013, 1), (1014, 1014, 0), (16, 18, 1), (19, 21, 2), (22, 22, 1), (1022, 1022, 2), (1023, 1023, 1), (25, 27, 3), (32, 32, 3), (1033, 1033, 3), (35, 37, 2), (42, 42, 2), (1043, 1043, 2)])) [(88, bA true)] [wO ((p.arrays.length : Int) - 1)] (o1 (by omega)) fun G => b0 (rT G true (by kernel_rfl) (wp_seq (j3 G d7 [] fun G => b0 (wp_ret (j2 ?_))))); exact y9 false G (rg 8) (by rw [i6 (by (rw [N7 (by omega), decide_eq_false (by omega)]; rfl))]; done) (by show _ = mR (rg 8) (l9 p d s c); unfold l9; rw [i6 (by (rw [N7 (by omega), decide_eq_false (by omega)]; rfl))] <;> rfl)
     have q17 : (¬ (0 <= s.target)) \/ (¬ (s.target <= (p.arrays.length : Int) - 1)) := (fun hq => Or.imp (fun hq => of_decide_eq_false hq) (fun hq => of_decide_eq_false hq) (Bool.and_eq_false_iff.1 hq)) (Eq.mp (b65 _) h17); refine G7 G (x8 (m8 4 [] (y8 s.target 0 ((p.arrays.length : Int) - 1)) x7) (fc h17 (fc (b := true) rfl fz)) [(7, 0), (8, 0), (13, 0), (1014, 0), (16, 1), (17, 1), (18, 1), (22, 1), (1023, 1), (25, 1), (26, 1), (27, 1), (32, 1), (1033, 1), (35, 1), (36, 1), (37, 1), (42, 1), (1043, 1)]) [(88, bA true)] [wO ((p.arrays.length : Int) - 1)] (o1 (by omega)) fun G => b0 (rT G true (by kernel_rfl) (wp_seq (j3 G d7 [] fun G => b0 (wp_ret (j2 ?_))))); exact y9 false G (rg 8) (by rw [i6 (by (rw [N7 (by omega), decide_eq_false (by omega)]; rfl))]; done) (by show _ = mR (rg 8) (l9 p d s c); unfold l9; rw [i6 (by (rw [N7 (by omega), decide_eq_false (by omega)]; rfl))] <;> rfl)
    refine j3 G d7 [(9, iA (p.vars.length : Int))] fun G => o9 (b0 (wp_seq (wp_seq ?_))); cases h25 : (!(decide ((0 : Int) <= s.target) && decide (s.target <= (p.vars.length : Int) - 1)))
    ·
     have q25 : (0 <= s.target) /\ (s.target <= (p.vars.length : Int) - 1) := (fun hq => And.imp (fun hq => of_decide_eq_true hq) (fun hq => of_decide_eq_true hq) (Bool.and_eq_true_iff.1 hq)) (Eq.mp (b67 _) h25); cases h26 : (s.count != 0)
     ·
      have q26 := bne_eq_false_iff_eq.1 h26; cases h27 : (decide ((s.body.length : Int) > 0))
      ·
       have q27 := L3 h27; refine G7 G (x8 (m8 4 [] (y8 s.target 0 ((p.vars.length : Int) - 1)) x7) (fc h25 (fc (b := false) rfl (fc (b := true) rfl (fc h26 (fc h27 fz))))) (us [(7, 8, 0), (9, 12, 1), (13, 13, 0), (1013, 1013, 1), (1014, 1014, 0), (16, 18, 1), (19, 21, 2), (22, 22, 1), (1022, 1022, 2), (1023, 1023, 1), (25, 27, 3), (28, 31, 2), (32, 32, 3), (1032, 1032, 2), (1033, 1033, 3), (35, 37, 4), (38, 41, 2), (42, 42, 4), (1042, 1042, 2), (1043, 1043, 4)])) [(88, bA (decide ((s.els.length : Int) > 0)))] [wO ((p.vars.length : Int) - 1)] (o1 (by omega)) fun G => b0 (S9 G (fun h28 q28 => ?_) fun h28 q28 => ?_)
       ·
        refine wp_skip (b0 (wp_seq (wp_seq ?_))); cases h29 : (!noneB s.index)
        ·
         have q29 : (noneB s.index) = true := (Eq.mp (b67 _) h29); cases h30 : (!j8 p.vars.length p.arrays.length s.value)
         ·
          have q30 : (j8 p.vars.length p.arrays.length s.value) = true := (Eq.mp (b67 _) h30); refine j3 G (x8 (m8 20 [4] (G9 s.index) (m8 30 [0, 1, 2, 5] (Q4 p s.value) x7)) (fc (b := false) rfl (fc (b := true) rfl (fc h29 (fc h30 fz)))) (us [(2, 7, 0), (12, 12, 0), (1013, 1013, 0), (15, 17, 0), (18, 21, 1), (22, 22, 0), (1022, 1022, 1), (1023, 1023, 0), (25, 26, 2), (27, 31, 1), (32, 32, 2), (1032, 1032, 1), (1033, 1033, 2), (35, 37, 3), (38, 41, 0), (42, 42, 3), (1042, 1042, 0), (1043, 1043, 3)])) [(132, bA false)] fun G => b0 (rF G false (by kernel_rfl) (wp_skip (b0 (wp_seq ?_)))); cases h31 : ((k6 p.vars.length p.arrays.length d (c + (1 : Nat)) s.body).fst)
          · refine G8 G (x8 (m8 6 [0, 1, 2, 3, 6] (ih s.body (c + 1) (n + 1) (by simp; omega) (by omega)) x7) (fc h31 fz) (us [(8, 14, 0), (1015, 1015, 0)])) (rg 8) (V7 p (.box [iA ((af7 p d s c).snd : Int)] :: (V8 s []))) [(8, bA false)] [wO (n + 1)] (o1 (by omega)) fun G => b0 (wp_ret ?_); exact y9 false G (rg 8) (by rw [C6 (by omega) (by (rw [C3 (by omega)]; exact R5 (by omega) (by assumption) (by assumption))) (by assumption)]; assumption) (by show _ = mR (rg 8) (l9 p d s c); unfold l9; rw [C6 (by omega) (by (rw [C3 (by omega)]; exact R5 (by omega) (by assumption) (by assumption))) (by assumption)] <;> rfl)
          refine G8 G (x8 (m8 6 [0, 1, 2, 3, 6] (ih s.body (c + 1) (n + 1) (by simp; omega) (by omega)) (m8 14 [0, 1, 2, 3, 7] (ih s.els ((af7 p d s c).snd) (n + 1) (O2 (by omega) (by assumption)) (by omega)) x7)) (fc h31 fz) (us [(8, 14, 0), (1015, 1015, 0)])) (rg 8) (V7 p (.box [iA ((af8 p d s c).snd : Int)] :: (V8 s []))) [(8, bA (af8 p d s c).fst)] [wO (n + 1), wO (n + 1)] (o2 (by omega)) fun G => b0 (wp_ret ?_); exact y9 ((k6 p.vars.length p.arrays.length d (k6 p.vars.length p.arrays.length d (c + 1) s.body).snd s.els).fst) G (rg 8) (by rw [E9 (by omega) (by (rw [C3 (by omega)]; exact R5 (by omega) (by assumption) (by assumption))) (by assumption)]; done) (by show _ = mR (rg 8) (l9 p d s c); unfold l9; rw [E9 (by omega) (by (rw [C3 (by omega)]; exact R5 (by omega) (by assumption) (by assumption))) (by assumption)] <;> rfl)
         have q30 : (j8 p.vars.length p.arrays.length s.value) = false := (Eq.mp (b65 _) h30); refine j3 G (x8 (m8 20 [4] (G9 s.index) (m8 30 [0, 1, 2, 5] (Q4 p s.value) x7)) (fc (b := false) rfl (fc (b := true) rfl (fc h29 (fc h30 fz)))) (us [(2, 7, 0), (12, 12, 0), (1013, 1013, 0), (15, 17, 0), (18, 21, 1), (22, 22, 0), (1022, 1022, 1), (1023, 1023, 0), (25, 26, 2), (27, 31, 1), (32, 32, 2), (1032, 1032, 1), (1033, 1033, 2), (35, 37, 3), (42, 42, 3), (1043, 1043, 3)])) [(132, bA true)] fun G => b0 (rT G true (by kernel_rfl) (wp_seq (j3 G d7 [] fun G => b0 (wp_ret (j2 ?_))))); exact y9 false G (rg 8) (by rw [i6 (by (rw [C3 (by omega)]; simp [h100, h0, q0, h1, q1, h2, q2, h25, q25, h26, q26, h27, q27, h28, q28, h29, q29, h30, q30]; done))]; done) (by show _ = mR (rg 8) (l9 p d s c); unfold l9; rw [i6 (by (rw [C3 (by omega)]; simp [h100, h0, q0, h1, q1, h2, q2, h25, q25, h26, q26, h27, q27, h28, q28, h29, q29, h30, q30]; done))] <;> rfl)
        have q29 : (noneB s.index) = false := (Eq.mp (b65 _) h29); refine j3 G (x8 (m8 20 [4] (G9 s.index) x7) (fc (b := false) rfl (fc (b := true) rfl (fc h29 fz))) (us [(2, 7, 0), (12, 12, 0), (1013, 1013, 0), (15, 17, 0), (18, 21, 1), (22, 22, 0), (1022, 1022, 1), (1023, 1023, 0), (25, 26, 2), (32, 32, 2), (1033, 1033, 2), (35, 37, 1), (42, 42, 1), (1043, 1043, 1)])) [(132, bA true)] fun G => b0 (rT G true (by kernel_rfl) (wp_seq (j3 G d7 [] fun G => b0 (wp_ret (j2 ?_))))); exact y9 false G (rg 8) (by rw [i6 (by (rw [C3 (by omega)]; simp [h100, h0, q0, h1, q1, h2, q2, h25, q25, h26, q26, h27, q27, h28, q28, h29, q29]; done))]; done) (by show _ = mR (rg 8) (l9 p d s c); unfold l9; rw [i6 (by (rw [C3 (by omega)]; simp [h100, h0, q0, h1, q1, h2, q2, h25, q25, h26, q26, h27, q27, h28, q28, h29, q29]; done))] <;> rfl)
       refine wp_seq (j3 G d7 [] fun G => b0 (wp_ret (j2 ?_))); exact y9 false G (rg 8) (by rw [i6 (by (rw [C3 (by omega), decide_eq_false (by omega)]; rfl))]; done) (by show _ = mR (rg 8) (l9 p d s c); unfold l9; rw [i6 (by (rw [C3 (by omega), decide_eq_false (by omega)]; rfl))] <;> rfl)
      have q27 := L2 h27; refine G7 G (x8 (m8 4 [] (y8 s.target 0 ((p.vars.length : Int) - 1)) x7) (fc h25 (fc (b := false) rfl (fc (b := true) rfl (fc h26 (fc h27 fz))))) (us [(7, 8, 0), (9, 12, 1), (13, 13, 0), (1013, 1013, 1), (1014, 1014, 0), (16, 18, 1), (19, 21, 2), (22, 22, 1), (1022, 1022, 2), (1023, 1023, 1), (25, 27, 3), (28, 31, 2), (32, 32, 3), (1032, 1032, 2), (1033, 1033, 3), (35, 37, 4), (42, 42, 4), (1043, 1043, 4)])) [(88, bA true)] [wO ((p.vars.length : Int) - 1)] (o1 (by omega)) fun G => b0 (rT G true (by kernel_rfl) (wp_seq (j3 G d7 [] fun G => b0 (wp_ret (j2 ?_))))); exact y9 false G (rg 8) (by rw [i6 (by (rw [C3 (by omega), decide_eq_false (by omega)]; rfl))]; done) (by show _ = mR (rg 8) (l9 p d s c); unfold l9; rw [i6 (by (rw [C3 (by omega), decide_eq_false (by omega)]; rfl))] <;> rfl)
     have q26 := bne_iff_ne.1 h26; refine G7 G (x8 (m8 4 [] (y8 s.target 0 ((p.vars.length : Int) - 1)) x7) (fc h25 (fc (b := false) rfl (fc (b := true) rfl (fc h26 fz)))) (us [(7, 8, 0), (9, 12, 1), (13, 13, 0), (1013, 1013, 1), (1014, 1014, 0), (16, 18, 1), (19, 21, 2), (22, 22, 1), (1022, 1022, 2), (1023, 1023, 1), (25, 27, 3), (32, 32, 3), (1033, 1033, 3), (35, 37, 2), (42, 42, 2), (1043, 1043, 2)])) [(88, bA true)] [wO ((p.vars.length : Int) - 1)] (o1 (by omega)) fun G => b0 (rT G true (by kernel_rfl) (wp_seq (j3 G d7 [] fun G => b0 (wp_ret (j2 ?_))))); exact y9 false G (rg 8) (by rw [i6 (by (rw [C3 (by omega), decide_eq_false (by omega)]; rfl))]; done) (by show _ = mR (rg 8) (l9 p d s c); unfold l9; rw [i6 (by (rw [C3 (by omega), decide_eq_false (by omega)]; rfl))] <;> rfl)
    have q25 : (¬ (0 <= s.target)) \/ (¬ (s.target <= (p.vars.length : Int) - 1)) := (fun hq => Or.imp (fun hq => of_decide_eq_false hq) (fun hq => of_decide_eq_false hq) (Bool.and_eq_false_iff.1 hq)) (Eq.mp (b65 _) h25); refine G7 G (x8 (m8 4 [] (y8 s.target 0 ((p.vars.length : Int) - 1)) x7) (fc h25 (fc (b := true) rfl fz)) [(7, 0), (8, 0), (13, 0), (1014, 0), (16, 1), (17, 1), (18, 1), (22, 1), (1023, 1), (25, 1), (26, 1), (27, 1), (32, 1), (1033, 1), (35, 1), (36, 1), (37, 1), (42, 1), (1043, 1)]) [(88, bA true)] [wO ((p.vars.length : Int) - 1)] (o1 (by omega)) fun G => b0 (rT G true (by kernel_rfl) (wp_seq (j3 G d7 [] fun G => b0 (wp_ret (j2 ?_))))); exact y9 false G (rg 8) (by rw [i6 (by (rw [C3 (by omega), decide_eq_false (by omega)]; rfl))]; done) (by show _ = mR (rg 8) (l9 p d s c); unfold l9; rw [i6 (by (rw [C3 (by omega), decide_eq_false (by omega)]; rfl))] <;> rfl)
   refine wp_skip (b0 (rT G _ h1 (j3 G d7 [(9, iA (p.vars.length : Int))] fun G => o9 (b0 (wp_seq (wp_seq ?_)))))); cases h32 : (!(decide ((0 : Int) <= s.target) && decide (s.target <= (p.vars.length : Int) - 1)))
   ·
    have q32 : (0 <= s.target) /\ (s.target <= (p.vars.length : Int) - 1) := (fun hq => And.imp (fun hq => of_decide_eq_true hq) (fun hq => of_decide_eq_true hq) (Bool.and_eq_true_iff.1 hq)) (Eq.mp (b67 _) h32); cases h33 : (s.count != 0)
    ·
     have q33 := bne_eq_false_iff_eq.1 h33; cases h34 : (decide ((s.body.length : Int) > 0))
     ·
      have q34 := L3 h34; refine G7 G (x8 (m8 4 [] (y8 s.target 0 ((p.vars.length : Int) - 1)) x7) (fc h32 (fc (b := false) rfl (fc (b := true) rfl (fc h33 (fc h34 fz))))) (us [(7, 8, 0), (9, 12, 1), (13, 13, 0), (1013, 1013, 1), (1014, 1014, 0), (16, 18, 1), (19, 21, 2), (22, 22, 1), (1022, 1022, 2), (1023, 1023, 1), (25, 27, 3), (28, 31, 2), (32, 32, 3), (1032, 1032, 2), (1033, 1033, 3), (35, 37, 4), (38, 41, 2), (42, 42, 4), (1042, 1042, 2), (1043, 1043, 4)])) [(88, bA (decide ((s.els.length : Int) > 0)))] [wO ((p.vars.length : Int) - 1)] (o1 (by omega)) fun G => b0 (S9 G (fun h35 q35 => ?_) fun h35 q35 => ?_)
      ·
       refine wp_skip (b0 (wp_seq (wp_seq ?_))); cases h36 : (!noneB s.index)
       ·
        have q36 : (noneB s.index) = true := (Eq.mp (b67 _) h36); cases h37 : (!j8 p.vars.length p.arrays.length s.value)
        ·
         have q37 : (j8 p.vars.length p.arrays.length s.value) = true := (Eq.mp (b67 _) h37); refine j3 G (x8 (m8 20 [4] (G9 s.index) (m8 30 [0, 1, 2, 5] (Q4 p s.value) x7)) (fc (b := false) rfl (fc (b := true) rfl (fc h36 (fc h37 fz)))) (us [(2, 7, 0), (12, 12, 0), (1013, 1013, 0), (15, 17, 0), (18, 21, 1), (22, 22, 0), (1022, 1022, 1), (1023, 1023, 0), (25, 26, 2), (27, 31, 1), (32, 32, 2), (1032, 1032, 1), (1033, 1033, 2), (35, 37, 3), (38, 41, 0), (42, 42, 3), (1042, 1042, 0), (1043, 1043, 3)])) [(132, bA false)] fun G => b0 (rF G false (by kernel_rfl) (wp_skip (b0 (wp_seq ?_)))); cases h38 : ((k6 p.vars.length p.arrays.length d (c + (1 : Nat)) s.body).fst)
         · refine G8 G (x8 (m8 6 [0, 1, 2, 3, 6] (ih s.body (c + 1) (n + 1) (by simp; omega) (by omega)) x7) (fc h38 fz) (us [(8, 14, 0), (1015, 1015, 0)])) (rg 8) (V7 p (.box [iA ((af7 p d s c).snd : Int)] :: (V8 s []))) [(8, bA false)] [wO (n + 1)] (o1 (by omega)) fun G => b0 (wp_ret ?_); exact y9 false G (rg 8) (by rw [C6 (by omega) (by (rw [C3 (by omega)]; exact R5 (by omega) (by assumption) (by assumption))) (by assumption)]; assumption) (by show _ = mR (rg 8) (l9 p d s c); unfold l9; rw [C6 (by omega) (by (rw [C3 (by omega)]; exact R5 (by omega) (by assumption) (by assumption))) (by assumption)] <;> rfl)
         refine G8 G (x8 (m8 6 [0, 1, 2, 3, 6] (ih s.body (c + 1) (n + 1) (by simp; omega) (by omega)) (m8 14 [0, 1, 2, 3, 7] (ih s.els ((af7 p d s c).snd) (n + 1) (O2 (by omega) (by assumption)) (by omega)) x7)) (fc h38 fz) (us [(8, 14, 0), (1015, 1015, 0)])) (rg 8) (V7 p (.box [iA ((af8 p d s c).snd : Int)] :: (V8 s []))) [(8, bA (af8 p d s c).fst)] [wO (n + 1), wO (n + 1)] (o2 (by omega)) fun G => b0 (wp_ret ?_); exact y9 ((k6 p.vars.length p.arrays.length d (k6 p.vars.length p.arrays.length d (c + 1) s.body).snd s.els).fst) G (rg 8) (by rw [E9 (by omega) (by (rw [C3 (by omega)]; exact R5 (by omega) (by assumption) (by assumption))) (by assumption)]; done) (by show _ = mR (rg 8) (l9 p d s c); unfold l9; rw [E9 (by omega) (by (rw [C3 (by omega)]; exact R5 (by omega) (by assumption) (by assumption))) (by assumption)] <;> rfl)
        have q37 : (j8 p.vars.length p.arrays.length s.value) = false := (Eq.mp (b65 _) h37); refine j3 G (x8 (m8 20 [4] (G9 s.index) (m8 30 [0, 1, 2, 5] (Q4 p s.value) x7)) (fc (b := false) rfl (fc (b := true) rfl (fc h36 (fc h37 fz)))) (us [(2, 7, 0), (12, 12, 0), (1013, 1013, 0), (15, 17, 0), (18, 21, 1), (22, 22, 0), (1022, 1022, 1), (1023, 1023, 0), (25, 26, 2), (27, 31, 1), (32, 32, 2), (1032, 1032, 1), (1033, 1033, 2), (35, 37, 3), (42, 42, 3), (1043, 1043, 3)])) [(132, bA true)] fun G => b0 (rT G true (by kernel_rfl) (wp_seq (j3 G d7 [] fun G => b0 (wp_ret (j2 ?_))))); exact y9 false G (rg 8) (by rw [i6 (by (rw [C3 (by omega)]; simp [h100, h0, q0, h1, q1, h32, q32, h33, q33, h34, q34, h35, q35, h36, q36, h37, q37]; done))]; done) (by show _ = mR (rg 8) (l9 p d s c); unfold l9; rw [i6 (by (rw [C3 (by omega)]; simp [h100, h0, q0, h1, q1, h32, q32, h33, q33, h34, q34, h35, q35, h36, q36, h37, q37]; done))] <;> rfl)
       have q36 : (noneB s.index) = false := (Eq.mp (b65 _) h36); refine j3 G (x8 (m8 20 [4] (G9 s.index) x7) (fc (b := false) rfl (fc (b := true) rfl (fc h36 fz))) (us [(2, 7, 0), (12, 12, 0), (1013, 1013, 0), (15, 17, 0), (18, 21, 1), (22, 22, 0), (1022, 1022, 1), (1023, 1023, 0), (25, 26, 2), (32, 32, 2), (1033, 1033, 2), (35, 37, 1), (42, 42, 1), (1043, 1043, 1)])) [(132, bA true)] fun G => b0 (rT G true (by kernel_rfl) (wp_seq (j3 G d7 [] fun G => b0 (wp_ret (j2 ?_))))); exact y9 false G (rg 8) (by rw [i6 (by (rw [C3 (by omega)]; simp [h100, h0, q0, h1, q1, h32, q32, h33, q33, h34, q34, h35, q35, h36, q36]; done))]; done) (by show _ = mR (rg 8) (l9 p d s c); unfold l9; rw [i6 (by (rw [C3 (by omega)]; simp [h100, h0, q0, h1, q1, h32, q32, h33, q33, h34, q34, h35, q35, h36, q36]; done))] <;> rfl)
      refine wp_seq (j3 G d7 [] fun G => b0 (wp_ret (j2 ?_))); exact y9 false G (rg 8) (by rw [i6 (by (rw [C3 (by omega), decide_eq_false (by omega)]; rfl))]; done) (by show _ = mR (rg 8) (l9 p d s c); unfold l9; rw [i6 (by (rw [C3 (by omega), decide_eq_false (by omega)]; rfl))] <;> rfl)
     have q34 := L2 h34; refine G7 G (x8 (m8 4 [] (y8 s.target 0 ((p.vars.length : Int) - 1)) x7) (fc h32 (fc (b := false) rfl (fc (b := true) rfl (fc h33 (fc h34 fz))))) (us [(7, 8, 0), (9, 12, 1), (13, 13, 0), (1013, 1013, 1), (1014, 1014, 0), (16, 18, 1), (19, 21, 2), (22, 22, 1), (1022, 1022, 2), (1023, 1023, 1), (25, 27, 3), (28, 31, 2), (32, 32, 3), (1032, 1032, 2), (1033, 1033, 3), (35, 37, 4), (42, 42, 4), (1043, 1043, 4)])) [(88, bA true)] [wO ((p.vars.length : Int) - 1)] (o1 (by omega)) fun G => b0 (rT G true (by kernel_rfl) (wp_seq (j3 G d7 [] fun G => b0 (wp_ret (j2 ?_))))); exact y9 false G (rg 8) (by rw [i6 (by (rw [C3 (by omega), decide_eq_false (by omega)]; rfl))]; done) (by show _ = mR (rg 8) (l9 p d s c); unfold l9; rw [i6 (by (rw [C3 (by omega), decide_eq_false (by omega)]; rfl))] <;> rfl)
    have q33 := bne_iff_ne.1 h33; refine G7 G (x8 (m8 4 [] (y8 s.target 0 ((p.vars.length : Int) - 1)) x7) (fc h32 (fc (b := false) rfl (fc (b := true) rfl (fc h33 fz)))) (us [(7, 8, 0), (9, 12, 1), (13, 13, 0), (1013, 1013, 1), (1014, 1014, 0), (16, 18, 1), (19, 21, 2), (22, 22, 1), (1022, 1022, 2), (1023, 1023, 1), (25, 27, 3), (32, 32, 3), (1033, 1033, 3), (35, 37, 2), (42, 42, 2), (1043, 1043, 2)])) [(88, bA true)] [wO ((p.vars.length : Int) - 1)] (o1 (by omega)) fun G => b0 (rT G true (by kernel_rfl) (wp_seq (j3 G d7 [] fun G => b0 (wp_ret (j2 ?_))))); exact y9 false G (rg 8) (by rw [i6 (by (rw [C3 (by omega), decide_eq_false (by omega)]; rfl))]; done) (by show _ = mR (rg 8) (l9 p d s c); unfold l9; rw [i6 (by (rw [C3 (by omega), decide_eq_false (by omega)]; rfl))] <;> rfl)
   have q32 : (¬ (0 <= s.target)) \/ (¬ (s.target <= (p.vars.length : Int) - 1)) := (fun hq => Or.imp (fun hq => of_decide_eq_false hq) (fun hq => of_decide_eq_false hq) (Bool.and_eq_false_iff.1 hq)) (Eq.mp (b65 _) h32); refine G7 G (x8 (m8 4 [] (y8 s.target 0 ((p.vars.length : Int) - 1)) x7) (fc h32 (fc (b := true) rfl fz)) [(7, 0), (8, 0), (13, 0), (1014, 0), (16, 1), (17, 1), (18, 1), (22, 1), (1023, 1), (25, 1), (26, 1), (27, 1), (32, 1), (1033, 1), (35, 1), (36, 1), (37, 1), (42, 1), (1043, 1)]) [(88, bA true)] [wO ((p.vars.length : Int) - 1)] (o1 (by omega)) fun G => b0 (rT G true (by kernel_rfl) (wp_seq (j3 G d7 [] fun G => b0 (wp_ret (j2 ?_))))); exact y9 false G (rg 8) (by rw [i6 (by (rw [C3 (by omega), decide_eq_false (by omega)]; rfl))]; done) (by show _ = mR (rg 8) (l9 p d s c); unfold l9; rw [i6 (by (rw [C3 (by omega), decide_eq_false (by omega)]; rfl))] <;> rfl)
  have q0 := L2 h0; refine j3 G (y7 (fc h0 fz) [(5, 0), (6, 0), (1007, 0)]) [(27, bA true)] fun G => b0 (rT G true (by kernel_rfl) (wp_seq (j3 G d7 [] fun G => b0 (wp_ret (j2 ?_))))); exact y9 false G (rg 8) (by simp [ah2 (d := d + 1) (s := s) (show 60 < c + 1 by omega)]; done) (by show _ = mR (rg 8) (l9 p d s c); unfold l9; have e1 : (((w3 p.vars.length p.arrays.length (d + 1) c s).snd : Int) : Int) = ((c : Int) + 1) := (by simp [ah2 (d := d + 1) (s := s) (show 60 < c + 1 by omega)]; done); (first | rw [e1] | simp only [e1]) <;> rfl)
theorem bt0 (p : j0) : ∀ (d : Nat), d <= 5 -> ∀ (ss : List b5) (c : Nat) (n : Int), c <= 60 -> n = 6 - (d : Int) -> j1.ok Tryz.prog (aX7 p d c ss n) := by
 intro d
 induction d with
 | zero => intro hd ss c n hc hn; exact aU9 p 0 hd (fun s c n hc hn => bA7 p s c hc n (by omega)) ss c n hc hn
 | succ d ih => intro hd ss c n hc hn; exact aU9 p (d + 1) hd (fun s c n hc hn => bA6 p d (by omega) (ih (by omega)) s c n hc (by omega)) ss c n hc hn
theorem aV0 (p : j0) (n : Int) (hn : n = 1) : j1.ok Tryz.prog ⟨34, [pA 0, .ref 2, iA n, .ptr 3 0], pS p ++ [.box [iA 0]], pS p ++ [.box [iA (k6 p.vars.length p.arrays.length 5 0 p.body).2]], bA (k6 p.vars.length p.arrays.length 5 0 p.body).1⟩ :=
 j1.dup (S := pS p ++ [.box [iA 0]]) (S' := pS p ++ [.box [iA (k6 p.vars.length p.arrays.length 5 0 p.body).2]]) (d := .stmts p.body) (i := 2) (bt0 p 5 (by omega) p.body 0 n (by omega) (by omega)) rfl rfl rfl (fun ρ h => by simp only [AV.vals, AV.val]; rw [show ρ 4 = ρ 2 from h]) rfl
theorem Q3 (p : j0) : j1.ok Tryz.prog (F9 13 [pA 0] (pS p) (bA (o6 p))) := by
 refine D2 15 Tryz.func13 [dI p.vars, dI p.arrays, dT p.body] [(0, pA 0)] fun G => ?_; refine wp_seq (j5 G d7 (rg 4) [dI p.vars, dI p.arrays, dT p.body, .box (pL 0)] [(1, .ptr 3 0), (2, bA false)] fun G => b0 (wp_seq (j5 G d7 (rg 5) [dI p.vars, dI p.arrays, dT p.body, .box (pL 0), .box [iA 0]] [(1, .ptr 3 0), (2, bA false), (3, .ptr 4 0)] fun G => b0 (wp_seq ?_)))); cases h0 : (C9 p.vars p.arrays)
 ·refine j5 G (x8 (m8 4 [0, 1] (aB2 p.vars p.arrays) x7) (fc h0 fz) (us [(6, 9, 0), (1010, 1010, 0)])) [0, 1, 2] [dI p.vars, dI p.arrays, dT p.body] [(2, bA false)] fun G => b0 (wp_ret ?_); exact y9 false G [0, 1, 2] (ar8 (by assumption))
 refine j5 G (x8 (m8 4 [0, 1] (aB2 p.vars p.arrays) (m8 9 [0, 1, 2, 4] (aV0 p 1 (by kernel_rfl)) x7)) (fc h0 fz) (us [(6, 9, 0), (1010, 1010, 0)])) [0, 1, 2] [dI p.vars, dI p.arrays, dT p.body] [(2, bA (k6 p.vars.length p.arrays.length 5 0 p.body).fst)] fun G => b0 (wp_ret ?_); exact y9 ((k6 p.vars.length p.arrays.length 5 0 p.body).fst) G [0, 1, 2] (by rw [<- aP2 (p := p) (by assumption)])
end Go.Proofs.YtompcdbfongedaaGreatDoor
