/-
  Texts of this claim, part 2: what the functions on the way do, and plain laws. Conditions: as each statement says.
-/
import Derived.Great.BuildSlice
import Derived.Deep.LoopGhost
import Derived.IntWalk
import Derived.Test.YthikdkjjdeehoaaK1
set_option maxRecDepth 100000
set_option maxHeartbeats 16000000

namespace Go.Proofs.Ythikdkjjdeehoaa
set_option linter.unusedVariables false
set_option linter.unusedSimpArgs false
open Go Go.RowKit
def Z9 (P : Program) (t : TypeId) : Option Nat := (P.info? t).map (·.bytes)
def ag9 (P : Program) (dk : TypeId → Nat) (e : Operand → Option AV) (S : Nat → It) (id : Nat) (t : TypeId) (len : Nat) (parts : List (Nat × Operand)) : Option Tr :=
 match O6 P t with
 | none => none
 | some el =>
  match N7 P el, F2 P el, D.nil (dk el) with
  | some n, some z, some d0 =>
   if 0 < n && z.cells.size = n && d0.sz = n && len = parts.length && len * n ≤ 16777216 then
    match T8 e S n 0 parts with
    | some l => (ax6 S (dk el) l).map fun r => ⟨[(id, .row el r.1)], [id], .ref id, r.2⟩
    | none => none
   else none
  | _, _, _ => none
def aJ7 (k n : Nat) : Option (D × Value) :=
 match k with
 | 1 => some (.ints (List.replicate n 0), .int .i64 0)
 | 2 => some (.bools (List.replicate n false), .bool false)
 | 3 => some (.bytes (List.replicate n 0), .int .u8 0)
 | 7 => some (.rows (List.replicate n []), .slice none 0 0)
 | 8 => some (.brows (List.replicate n []), .slice none 0 0)
 | _ => none
def aB1 (P : Program) (dk : TypeId → Nat) (id : Nat) (t : TypeId) (l c : AV) : Option Tr :=
 match l, c, O6 P t with
 | .v (.int .i64 n), .v (.int .i64 m), some el =>
  match aJ7 (dk el) n.toNat, Z9 P el, N7 P el, F2 P el with
  | some (d, z), some by_, some sz, some z' => if sz = 1 then some ⟨[(id, .row el d)], [id], .ref id, [m = n, 0 ≤ n, by_ * n ≤ 281474976710656, n ≤ 9223372036854775807, z' = z]⟩ else none
  | _, _, _, _ => none
 | _, _, _ => none
def aO7 (P : Program) (dk : TypeId → Nat) (S : Nat → It) (id : Nat) (t t' : TypeId) (s x : AV) : Option Tr :=
 if t = t' then
  match O6 P t with
  | none => none
  | some el =>
   match be0 S (dk el) x, Z9 P el, N7 P el, F2 P el with
   | some d2, some by_, some n, some z =>
    if 0 < n && z.cells.size = n && d2.sz = n then
     match s with
     | .ref a => match S a with
      | .row e' d1 => if e' = el then (d1.app d2).map fun d => ⟨[(a, .dead), (id, .row el d)], [id], .ref id, [d1.len + d2.len ≤ 9223372036854775807, (d1.len + d2.len) * by_ ≤ 140737488355328]⟩ else none
      | _ => none
     | .v (.slice none 0 0) => some ⟨[(id, .row el d2)], [id], .ref id, [d2.len ≤ 9223372036854775807, d2.len * by_ ≤ 140737488355328]⟩
     | _ => none
    else none
   | _, _, _, _ => none
 else none
def aC3 (P : Program) (S : Nat → It) (id : Nat) (t : TypeId) (x : AV) (lo hi : Option AV) : Option Tr :=
 match x with
 | .ref a => match S a, (O6 P t).bind (N7 P) with
  | .dat d, some n =>
   if n = d.sz then
    match lo, hi with
    | none, none => some ⟨[(id, .dat (d.sub 0 d.len))], [id], .ref id, []⟩
    | none, some (.v (.int _ h)) => some ⟨[(id, .dat (d.sub 0 h.toNat))], [id], .ref id, [0 ≤ h, h ≤ (d.len : Int)]⟩
    | some (.v (.int _ l)), none => some ⟨[(id, .dat (d.sub l.toNat d.len))], [id], .ref id, [0 ≤ l, l ≤ (d.len : Int)]⟩
    | some (.v (.int _ l)), some (.v (.int _ h)) => some ⟨[(id, .dat (d.sub l.toNat h.toNat))], [id], .ref id, [0 ≤ l, l ≤ h, h ≤ (d.len : Int)]⟩
    | _, _ => none
   else none
  | _, _ => none
 | .v (.string s) => match P.underlying t with
  | some .string =>
   match lo, hi with
   | none, some (.v (.int _ h)) => some ⟨[], [], .v (.string (s.extract 0 h.toNat)), [0 ≤ h, h ≤ (s.size : Int)]⟩
   | some (.v (.int _ l)), none => some ⟨[], [], .v (.string (s.extract l.toNat s.size)), [0 ≤ l, l ≤ (s.size : Int)]⟩
   | some (.v (.int _ l)), some (.v (.int _ h)) => some ⟨[], [], .v (.string (s.extract l.toNat h.toNat)), [0 ≤ l, l ≤ h, h ≤ (s.size : Int)]⟩
   | _, _ => none
  | _ => none
 | _ => none
section
variable {P : Program} {ι : Type} {φ ψ : Nat → Prop} {w0 w w' : World} {F : ι → Rs} {ρ : Nat → Value} {S : Nat → It}
theorem aJ0 (M : l5 φ ψ w0 w (o6 F ρ S)) {dk : TypeId → Nat} {o : Oper} {e : Operand → Option AV} {g : Operand → Value} {t : TypeId} {len : Nat} {parts : Array (Nat × Operand)} (hop : o.op = .buildSlice t len parts) (hg : ∀ p ∈ parts.toList, ∀ v, e p.2 = some v → g p.2 = v.val ρ) {id : Nat} {r : Tr} (h : ag9 P dk e S id t len parts.toList = some r) (ho : v6 r.obs) (hmk : ∀ j ∈ r.made, S j = .none) (hi : V1 S ρ r.made) :
  H0 P o g w (F0 φ ψ w0 F ρ S r) := by
 unfold ag9 at h
 split at h <;> first | cases h | skip
 rename_i el hel
 split at h <;> first | cases h | skip
 rename_i n z d0 h1 h2 h3
 split at h
 case isFalse => cases h
 rename_i hc
 simp only [Bool.and_eq_true, decide_eq_true_eq] at hc
 obtain ⟨⟨⟨⟨hn, hz⟩, hd0⟩, hlen⟩, hbig⟩ := hc
 split at h
 case h_2 => cases h
 rename_i l hl
 obtain ⟨⟨d, obs⟩, h4, h5⟩ := Option.map_eq_some_iff.1 h
 subst h5
 obtain ⟨k1, k2⟩ := ad2 hl
 obtain ⟨m1, m2, m3⟩ := aG3 M h4 ho k2
 have hsz : d.sz = n := by
  rcases m2 with m2 | m2
  ·subst m2
   simp only [ax6, h3, Option.map_some, Option.some.injEq, Prod.mk.injEq] at h4
   rw [← h4.1, hd0]
  ·exact m2
 have hS : S id = .none := hmk id (by simp)
 obtain ⟨ie, hie, hie2⟩ := Option.map_eq_some_iff.1 h1
 have hiz : ie.zero = some z := by
  unfold F2 at h2; rw [hie] at h2; exact h2
 have hu := O0 hel
 have hdl : d.len = len := by rw [m1, k1, hlen]
 have hvl : (AV.vals ρ l.flatten).length = len * n := by
  have : ∀ (l : List (List AV)), (∀ c ∈ l, c.length = n) → l.flatten.length = l.length * n := by
   intro l
   induction l with
   | nil => intro _; simp
   | cons c r ih => intro h; rw [List.flatten_cons, List.length_append, ih fun c hc => h c (List.mem_cons_of_mem _ hc), h c List.mem_cons_self, List.length_cons, Nat.succ_mul]; omega
  rw [AV.vals_length, this l k2, k1, hlen]
 have hrun : (Instr.buildSlice t len (parts.map fun p => (p.1, g p.2))).run P w = .ok (.slice (some ⟨w.heap.size, 0, none⟩) len len) (w.alloc (.cells (AV.vals ρ l.flatten).toArray el)) := by
  rcases Nat.eq_zero_or_pos len with h0 | h0
  ·have hp0 : parts.toList = [] := List.eq_nil_of_length_eq_zero (by omega)
   have hl0 : l = [] := List.eq_nil_of_length_eq_zero (by omega)
   subst hl0
   have hpa : parts = #[] := by apply Array.ext'; simpa using hp0
   subst hpa; subst h0
   have hr0 : Array.range 0 = #[] := rfl
   simp [Instr.buildSlice, run_underlying hu, sizeOf, typeInfo, hie, Instr.fill, newRow, AV.vals, hr0]
  ·refine run_buildSlice w t el len _ _ ie z hu hie hiz (by rw [hie2]; omega) (by rw [hie2]; have := Nat.mul_pos h0 hn; omega) ?_
   have hf := Y2 M parts.toList 0 l [] (((Array.range (len * ie.size)).map (z.cells[· % z.cells.size]!)).toList) hl hg (by simp) (by simp [hie2, hlen])
   rw [hie2] at hf ⊢
   simp only [List.nil_append, Array.toArray_toList] at hf
   simpa using hf
 have hle : len ≤ 16777216 := Nat.le_trans (Nat.le_mul_of_pos_right len hn) hbig
 have hown := (E1 w (AV.vals ρ l.flatten).toArray len n el rfl (by simpa using hvl) (by omega)).1
 rw [← hdl, ← hsz] at hown
 obtain ⟨ρ', q1, q2, q3⟩ := M.newRow (id := id) (e := el) (d := d) ((Below.refl _ _).alloc (Nat.le_refl _) _) hS hi hown (by simpa using m3)
 have hrun2 : (execOp g o).run P w = .ok (.value (.slice (some ⟨w.heap.size, 0, none⟩) len len)) (w.alloc (.cells (AV.vals ρ l.flatten).toArray el)) := by
  simp only [execOp, hop, Sem.run_bind]
  rw [show (parts.map fun (i, x) => (i, g x)) = parts.map fun p => (p.1, g p.2) from rfl, hrun]
  rfl
 exact .inl ⟨_, _, hrun2, ρ', q1, q2, by simp only [AV.val]; rw [← q3, hdl]⟩
theorem be6 {φ : Nat → Prop} {d : D} {v : Value} (h : RD w φ d v) : v.oneCell' = true := by
 obtain ⟨a, cap, rfl, _⟩ := h.open; rfl
theorem a48 (d : D) (i j : Nat) (x : Value) (h : (d.elem i)[j]? = some (.v x)) : x.oneCell' = true := by
 have : ∀ y ∈ d.elem i, ∀ x, y = .v x → x.oneCell' = true := by
  intro y hy x hx
  subst hx
  cases d <;> simp [D.elem, aM9, ad5, at2, aq4] at hy <;> (try rcases hy with rfl | rfl | rfl | rfl | rfl | rfl | rfl) <;> first | rfl | (subst hy; rfl) | (rcases hy with rfl | rfl | rfl | rfl | rfl <;> rfl) | (rcases hy with rfl | rfl <;> rfl)
 exact this _ (List.mem_of_getElem? h) x rfl
theorem aE9 {φ : Nat → Prop} {d : D} {xs : List Value} (hl : xs.length = d.len * d.sz) (h : RW w φ d xs) : ∀ u ∈ xs, u.oneCell' = true := by
 intro u hu
 obtain ⟨p, hp⟩ := List.mem_iff_getElem?.1 hu
 have hp' := (List.getElem?_eq_some_iff.1 hp).1
 have hs : 0 < d.sz := by cases d <;> simp [D.sz]
 have hi : p / d.sz < d.len := by rw [hl] at hp'; exact Nat.div_lt_of_lt_mul (by rw [Nat.mul_comm]; exact hp')
 have hj : p % d.sz < (d.elem (p / d.sz)).length := by rw [D.elem_len]; exact Nat.mod_lt _ hs
 obtain ⟨v, h3, h4⟩ := h _ hi _ _ (List.getElem?_eq_getElem hj)
 rw [Nat.mul_comm, Nat.div_add_mod, hp] at h3
 cases h3
 cases hx : (d.elem (p / d.sz))[p % d.sz] with
 | v x =>
  rw [hx] at h4
  rw [show u = x from h4]
  exact a48 d _ _ x (by rw [List.getElem?_eq_getElem hj, hx])
 | sl d' => rw [hx] at h4; exact be6 (show RD _ _ _ _ from h4)
theorem a81 (M : l5 φ ψ w0 w (o6 F ρ S)) {k : Nat} {x : AV} {d : D} (h : be0 S k x = some d) : ∃ xs, H8 w (x.val ρ) d.len d.sz xs ∧ RW w (W5 φ (o6 F ρ S)) d xs := by
 unfold be0 at h
 split at h <;> first | cases h | skip
 ·rename_i id
  cases hS : S id with
  | dat d' =>
   rw [hS] at h; cases h
   obtain ⟨xs, h1, h2⟩ := (M.datAt hS).split
   exact ⟨xs, h1.row, h2⟩
  | row e d' =>
   rw [hS] at h; cases h
   obtain ⟨xs, h1, h2⟩ := M.rowAt hS
   exact ⟨xs, Y3 h1, h2⟩
  | none => rw [hS] at h; cases h
  | dead => rw [hS] at h; cases h
  | box cs => rw [hS] at h; cases h
  | tree d => rw [hS] at h; cases h
  | kept e d => rw [hS] at h; cases h
 ·refine ⟨[], ?_, RW.nil (D.nil_len h) _⟩
  rw [D.nil_len h]; exact H8.nil _ _
theorem l5.move (M : l5 φ ψ w0 w (o6 F ρ S)) {a id : Nat} {e : TypeId} {d1 d : D} {v : Value} {xs : List Value} (hS : S a = .row e d1) (hSi : S id = .none) (hi : V1 S ρ [id]) (hk : A8 (fun b => ¬ (ρ a).ownBlock = some b) w w')
  (ho : w'.ownsRow 0 e d.sz v d.len xs) (hx : RW w (W5 φ (o6 F ρ S)) d xs) (hg : ∀ g, v.ownBlock = some g → (ρ a).ownBlock = some g ∨ w.heap.size ≤ g) :
  ∃ ρ', A1 [id] ρ ρ' ∧ l5 φ ψ w0 w' (o6 F ρ' (n6 S [(a, .dead), (id, .row e d)])) ∧ v = ρ' id := by
 have hne : id ≠ a := fun h => by rw [h, hS] at hSi; cases hSi
 have ha : A1 [id] ρ (fun j => if j = id then v else ρ j) := fun j hj => by
  have : j ≠ id := by simpa using hj
  simp [this]
 have M1 : l5 φ ψ w0 w' (fun k : ι ⊕ Nat => match k with | .inl i => F i | .inr j => if j = a then .row e d.sz v d.len (fun xs w φ => RW w φ d xs) else (S j).res ρ j) := by
  refine l5.put M (.inr a) (fun k hk' => ?_) ?_ ?_ ?_
  ·cases k with
   | inl i => rfl
   | inr j =>
    have : j ≠ a := fun e => hk' (by rw [e])
    simp [o6, this]
  ·simp only [o6, hS, It.res]; exact hk
  ·simp only [if_true]
   refine ⟨fun xs => RW.nice d xs, xs, ho, RW.nice d xs _ _ _ _ ⟨hk.size, fun b hb hf => ⟨⟨hf.1, fun k hk' => ?_⟩, hk.block b hb fun he => by have := hf.2 (.inr a); simp only [o6, hS, It.res] at this; exact this he⟩⟩ hx⟩
   cases k with
   | inl i => exact hf.2 (.inl i) hk'
   | inr j =>
    by_cases e' : j = a
    ·subst e'
     simp only [if_true] at hk'
     have h2 := hf.2 (.inr j)
     simp only [o6, hS, It.res] at h2
     rcases hg b hk' with h3 | h3
     ·exact h2 h3
     ·omega
    ·simp only [if_neg e'] at hk'
     exact hf.2 (.inr j) hk'
  ·intro g hg'
   simp only [if_true] at hg'
   simp only [o6, hS, It.res]
   exact hg g hg'
 refine ⟨_, ha, ?_, by simp⟩
 refine M1.map (fun k : ι ⊕ Nat => (match k with | .inl i => some (.inl i) | .inr j => if j = id then some (.inr a) else if j = a then none else some (.inr j) : Option (ι ⊕ Nat))) ?_ ?_
 ·intro k k' i h1 h2
  cases k with
  | inl x =>
   cases k' with
   | inl y => simp at h1 h2; rw [h1] at *; cases h2; rfl
   | inr y => simp at h1; subst h1; simp at h2; split at h2 <;> first | cases h2 | (split at h2 <;> cases h2)
  | inr x =>
   cases k' with
   | inl y => simp at h2; subst h2; simp at h1; split at h1 <;> first | cases h1 | (split at h1 <;> cases h1)
   | inr y =>
    simp only at h1 h2
    by_cases e1 : x = id
    ·rw [if_pos e1] at h1
     cases h1
     by_cases e2 : y = id
     ·rw [e1, e2]
     ·rw [if_neg e2] at h2
      by_cases e3 : y = a
      ·rw [if_pos e3] at h2; cases h2
      ·rw [if_neg e3] at h2; simp at h2; exact absurd h2 e3
    ·rw [if_neg e1] at h1
     by_cases e3 : x = a
     ·rw [if_pos e3] at h1; cases h1
     ·rw [if_neg e3] at h1
      simp at h1; subst h1
      by_cases e2 : y = id
      ·rw [if_pos e2] at h2; simp at h2; exact absurd h2.symm e3
      ·rw [if_neg e2] at h2
       by_cases e4 : y = a
       ·rw [if_pos e4] at h2; cases h2
       ·rw [if_neg e4] at h2; simp at h2; rw [h2]
 ·intro k
  cases k with
  | inl i => exact .inl ⟨_, rfl, rfl⟩
  | inr j =>
   by_cases e1 : j = id
   ·subst e1
    refine .inl ⟨.inr a, by simp, ?_⟩
    simp [o6, n6, hne, It.res]
   ·by_cases e2 : j = a
    ·subst e2
     exact .inr (by simp [o6, n6, It.res])
    ·refine .inl ⟨.inr j, by simp [e1, e2], ?_⟩
     simp only [o6, n6, if_neg e1, if_neg e2]
     exact hi _ ha j
theorem app_ok (M : l5 φ ψ w0 w (o6 F ρ S)) {dk : TypeId → Nat} {o : Oper} {g : Operand → Value} {t t' : TypeId} {s x : Operand} (hop : o.op = .call { callee := .builtin .append, args := #[s, x], argTypes := #[t, t'] }) {sa xa : AV} (hs : g s = sa.val ρ) (hx : g x = xa.val ρ) {id : Nat} {r : Tr} (h : aO7 P dk S id t t' sa xa = some r) (ho : v6 r.obs) (hmk : ∀ j ∈ r.made, S j = .none) (hi : V1 S ρ r.made) :
  H0 P o g w (F0 φ ψ w0 F ρ S r) := by
 unfold aO7 at h
 split at h
 case isFalse => cases h
 rename_i htt
 subst htt
 split at h <;> first | cases h | skip
 rename_i el hel
 split at h <;> first | cases h | skip
 rename_i d2 by_ n z h1 h2 h3 h4
 split at h
 case isFalse => cases h
 rename_i hc
 simp only [Bool.and_eq_true, decide_eq_true_eq] at hc
 obtain ⟨⟨hn, hz⟩, hd2⟩ := hc
 have hu := O0 hel
 obtain ⟨ie, hie, hie2⟩ := Option.map_eq_some_iff.1 h3
 have hiz : ie.zero = some z := by unfold F2 at h4; rw [hie] at h4; exact h4
 have hib : ie.bytes = by_ := by
  unfold Z9 at h2; rw [hie] at h2; exact Option.some.inj h2
 have hinfo : (P.info? el).map (fun i => (i.zero, i.size, i.bytes)) = some (some z, n, by_) := by rw [hie]; simp [hiz, hie2, hib]
 obtain ⟨news, k1, k2⟩ := a81 M h1
 have k1' := k1
 rw [hd2] at k1'
 have h1c := aE9 k1.1 k2
 have hexec : ∀ v w', (Builtin.append_ #[t, t] o.type #[sa.val ρ, xa.val ρ]).run P w = .ok v w' → (execOp g o).run P w = .ok (.value v) w' := by
  intro v w' hr
  simp only [execOp, hop, resolve, invoke, builtin, Sem.run_bind, Sem.run_pure, Result.andThen_ok, List.map_toArray, List.map_cons, List.map_nil, hs, hx, hr]
 split at h
 ·rename_i a
  split at h <;> first | cases h | skip
  rename_i e' d1 hS
  split at h
  case isFalse => cases h
  rename_i he'
  subst he'
  obtain ⟨d, hd, hr⟩ := Option.map_eq_some_iff.1 h
  subst hr
  simp only [v6] at ho
  obtain ⟨q1, q2, q3, q4⟩ := D.app_ok hd
  obtain ⟨xs, m1, m2⟩ := M.rowAt hS
  have hsz : d1.sz = n := by omega
  rw [hsz] at m1
  obtain ⟨a', k', w', hrun, r2, r3, r4, r5⟩ := af7 (P := P) (lo := 0) (ty := o.type) hu hinfo hz hn m1 k1' h1c ho.1 ho.2.1 (Nat.zero_le _)
  obtain ⟨ρ', p1, p2, p3⟩ := M.move (id := id) (d := d) (v := .slice a' (d1.len + d2.len) k') (xs := xs ++ news) hS (hmk id (by simp)) hi ⟨r4.os, r4.tape, r4.output, r4.size, fun b hb hne => r4.block b hb fun h => hne h.symm⟩
   (by rw [q2, hsz, q1]; exact r2) (RW.append hd (by rw [m1.1, hsz]) m2 k2) r5
  exact .inl ⟨_, _, hexec _ _ hrun, ρ', p1, p2, p3⟩
 ·cases h
  simp only [v6] at ho
  have m1 : w.ownsRow 0 el n (.slice none 0 0) 0 [] := World.ownsRow_nil _ _ _ _
  obtain ⟨a', k', w', hrun, r2, r3, r4, r5⟩ := af7 (P := P) (lo := w.heap.size) (ty := o.type) hu hinfo hz hn (World.ownsRow_nil _ _ _ _) k1' h1c (by omega) (by rw [Nat.zero_add]; exact ho.2.1) (Nat.le_refl _)
  rw [Nat.zero_add, List.nil_append] at r2
  obtain ⟨ρ', p1, p2, p3⟩ := M.newRow (id := id) (e := el) (d := d2) (w' := w') r3 (hmk id (by simp)) hi (by rw [hd2]; exact r2) k2
  refine .inl ⟨_, _, hexec _ _ hrun, ρ', p1, p2, ?_⟩
  rw [Nat.zero_add]; exact p3
 ·cases h
theorem D.sub_len (d : D) (l h : Nat) (hh : h ≤ d.len) : (d.sub l h).len = h - l := by
 cases d <;> simp only [D.sub, D.len, List.length_drop, List.length_take] <;> (simp only [D.len] at hh; omega)
theorem D.sub_sz (d : D) (l h : Nat) : (d.sub l h).sz = d.sz := by cases d <;> rfl
theorem a43 {α : Type} (x : List α) (z : α) (l h i : Nat) (hi : i < h - l) : ((x.take h).drop l).getD i z = x.getD (l + i) z := by
 simp only [List.getD_eq_getElem?_getD, List.getElem?_drop, List.getElem?_take]
 rw [if_pos (by omega)]
theorem D.sub_elem (d : D) (l h i : Nat) (hi : i < h - l) : (d.sub l h).elem i = d.elem (l + i) := by
 cases d <;> simp only [D.sub, D.elem] <;> rw [a43 _ _ _ _ _ hi]
theorem RD.sub {φ : Nat → Prop} {d : D} {a : Option Addr} {n cap l h : Nat} (hr : RD w φ d (.slice a n cap)) (hl : l ≤ h) (hh : h ≤ d.len) : RD w φ (d.sub l h) (.slice (if cap = l then a else a.map (·.add (l * d.sz))) (h - l) (cap - l)) := by
 obtain ⟨xs, ⟨k0, a', cap', he, k1, k2, k3⟩, k4⟩ := hr.split
 cases he
 have hs : 0 < d.sz := by cases d <;> simp [D.sz]
 have hle : h * d.sz ≤ d.len * d.sz := Nat.mul_le_mul_right _ hh
 have hle2 : l * d.sz ≤ h * d.sz := Nat.mul_le_mul_right _ hl
 refine RD.make (xs := (xs.take (h * d.sz)).drop (l * d.sz)) ⟨?_, _, _, by rw [D.sub_len d l h hh], by rw [D.sub_len d l h hh]; omega, by omega, fun hp => ?_⟩ ?_
 ·rw [D.sub_len d l h hh, D.sub_sz, List.length_drop, List.length_take, k0, Nat.sub_mul]; omega
 ·rw [D.sub_len d l h hh] at hp
  obtain ⟨b, off, rfl, hb, hf, hc⟩ := k3 (by omega)
  rw [if_neg (by omega)]
  refine ⟨b, off + l * d.sz, ?_, hb, hf, fun j u hj => ?_⟩
  ·simp only [Option.map_some, Addr.add]; split
   ·rename_i h0; rw [h0, Nat.add_zero]
   ·rfl
  ·rw [List.getElem?_drop, List.getElem?_take] at hj
   split at hj
   ·have := hc _ u hj; rw [← Nat.add_assoc] at this; exact this
   ·cases hj
 ·intro i hi j x hx
  rw [D.sub_len d l h hh] at hi
  rw [D.sub_elem d l h i hi] at hx
  have hj : j < d.sz := by
   have := (List.getElem?_eq_some_iff.1 hx).1
   rw [D.elem_len] at this; exact this
  obtain ⟨u, m1, m2⟩ := k4 (l + i) (by omega) j x hx
  refine ⟨u, ?_, m2⟩
  rw [D.sub_sz, List.getElem?_drop, List.getElem?_take, if_pos, ← m1]
  ·congr 1; rw [Nat.add_mul]; omega
  ·have : (i + 1) * d.sz ≤ (h - l) * d.sz := Nat.mul_le_mul_right _ (by omega)
   rw [Nat.succ_mul, Nat.sub_mul] at this; omega
theorem I8 {k : IntKind} {i : Int} {y : Nat} {c : BoundsCode} (h1 : 0 ≤ i) (h2 : i ≤ y) : (Instr.sliceBound (.int k i) y c).run P w = .ok i.toNat w := by
 simp [Instr.sliceBound, asIntOf, h1, h2]
theorem l5.newDat (M : l5 φ ψ w0 w (o6 F ρ S)) {id : Nat} {d : D} {v : Value} (hS : S id = .none) (hi : V1 S ρ [id]) (h : RD w (W5 φ (o6 F ρ S)) d v) : ∃ ρ', A1 [id] ρ ρ' ∧ l5 φ ψ w0 w (o6 F ρ' (n6 S [(id, .dat d)])) ∧ v = ρ' id := by
 obtain ⟨ρ', h1, h2, h3⟩ := M.dats [.sl d] [v] id ⟨h, trivial⟩ (fun j hj => by simp [M8] at hj; rw [hj]; exact hS) (by simpa [M8] using hi)
 simp only [M8, List.map_cons, List.map_nil] at h1
 simp only [xav, AV.vals, AV.val, List.cons.injEq, and_true] at h3
 exact ⟨ρ', h1, h2, h3⟩
theorem a55 (M : l5 φ ψ w0 w (o6 F ρ S)) {o : Oper} {g : Operand → Value} {t : TypeId} {x : Operand} {lo hi : Option Operand} {e : Operand → Option AV} (hop : o.op = .slice t x lo hi none) {xa : AV} (hx : g x = xa.val ρ) {la ha : Option AV} (hlo : lo.map g = la.map (AV.val ρ)) (hhi : hi.map g = ha.map (AV.val ρ)) {id : Nat} {r : Tr} (h : aC3 P S id t xa la ha = some r) (ho : v6 r.obs) (hmk : ∀ j ∈ r.made, S j = .none) (hin : V1 S ρ r.made) :
  H0 P o g w (F0 φ ψ w0 F ρ S r) := by
 have hexec : ∀ v, (Instr.slice t (xa.val ρ) (la.map (AV.val ρ)) (ha.map (AV.val ρ)) none).run P w = .ok v w → P.underlying t = some .string ∨ (∃ el, P.underlying t = some (.slice el)) → (execOp g o).run P w = .ok (.value v) w := by
  intro v hr hu
  have hA : (Instr.sliceAt t (xa.val ρ) (la.map (AV.val ρ)) (ha.map (AV.val ρ)) none).run P w = .ok v w := by
   unfold Instr.sliceAt
   rcases hu with hu | ⟨el, hu⟩
   ·rw [Sem.run_bind, run_underlying hu]; exact hr
   ·rw [Sem.run_bind, run_underlying hu]; exact hr
  simp only [execOp, hop, Sem.run_bind, hx, hlo, hhi, Option.map_none, hA]
  rfl
 unfold aC3 at h
 split at h
 ·rename_i a
  split at h
  case h_2 => cases h
  rename_i d n hS hn
  split at h
  case isFalse => cases h
  rename_i hsz
  obtain ⟨el, h1, h2⟩ := Option.bind_eq_some_iff.1 hn
  have hu := O0 h1
  have hrd := M.datAt hS
  obtain ⟨aa, cap, hra, hcap, hmax, _⟩ := hrd.open
  rw [hra] at hrd
  have fin : ∀ (l hh : Nat) (obs : List Prop), l ≤ hh → hh ≤ d.len → r = ⟨[(id, .dat (d.sub l hh))], [id], .ref id, obs⟩ → (Instr.slice t (ρ a) (la.map (AV.val ρ)) (ha.map (AV.val ρ)) none).run P w = .ok (.slice (if cap = l then aa else aa.map (·.add (l * d.sz))) (hh - l) (cap - l)) w → H0 P o g w (F0 φ ψ w0 F ρ S r) := by
   intro l hh obs hl hhd hr hrun
   subst hr
   obtain ⟨ρ', p1, p2, p3⟩ := M.newDat (id := id) (hmk id (by simp)) hin (hrd.sub hl hhd)
   exact .inl ⟨_, _, hexec _ hrun (.inr ⟨el, hu⟩), ρ', p1, p2, p3⟩
  have hsz' : (sizeOf el).run P w = .ok d.sz w := by rw [B7 h2, hsz]
  split at h
  ·cases h
   refine fin 0 d.len _ (Nat.zero_le _) (Nat.le_refl _) rfl ?_
   simp [Instr.slice, run_underlying hu, hra, Instr.sliceBounds, hsz']
  ·cases h
   simp only [v6] at ho
   refine fin 0 _ _ (Nat.zero_le _) (by omega) rfl ?_
   rename_i k hh
   have e1 := I8 (P := P) (w := w) (k := k) (i := hh) (y := cap) (c := .sliceAcap) ho.1 (by omega)
   simp [Instr.slice, run_underlying hu, hra, Instr.sliceBounds, hsz', AV.val, e1]
  ·cases h
   simp only [v6] at ho
   refine fin _ d.len _ (by omega) (Nat.le_refl _) rfl ?_
   rename_i k l
   have e1 := I8 (P := P) (w := w) (k := k) (i := l) (y := d.len) (c := .sliceB) ho.1 (by omega)
   simp [Instr.slice, run_underlying hu, hra, Instr.sliceBounds, hsz', AV.val, e1]
  ·cases h
   simp only [v6] at ho
   refine fin _ _ _ (by omega) (by omega) rfl ?_
   rename_i k l k' hh
   have e1 := I8 (P := P) (w := w) (k := k) (i := l) (y := hh.toNat) (c := .sliceB) ho.1 (by omega)
   have e2 := I8 (P := P) (w := w) (k := k') (i := hh) (y := cap) (c := .sliceAcap) (by omega) (by omega)
   simp [Instr.slice, run_underlying hu, hra, Instr.sliceBounds, hsz', AV.val, e1, e2]
  ·cases h
 ·rename_i s
  split at h
  case h_2 => cases h
  rename_i hu
  have fin : ∀ (l hh : Nat) (obs : List Prop), r = ⟨[], [], .v (.string (s.extract l hh)), obs⟩ → (Instr.slice t (.string s) (la.map (AV.val ρ)) (ha.map (AV.val ρ)) none).run P w = .ok (.string (s.extract l hh)) w → H0 P o g w (F0 φ ψ w0 F ρ S r) := by
   intro l hh obs hr hrun
   subst hr
   exact .inl ⟨_, _, hexec _ hrun (.inl hu), ρ, A1.refl _ _, M, rfl⟩
  split at h
  ·cases h
   simp only [v6] at ho
   refine fin 0 _ _ rfl ?_
   rename_i k hh
   have e1 := I8 (P := P) (w := w) (k := k) (i := hh) (y := s.size) (c := .sliceAlen) ho.1 (by omega)
   simp [Instr.slice, run_underlying hu, Instr.sliceBounds, AV.val, e1]
  ·cases h
   simp only [v6] at ho
   refine fin _ s.size _ rfl ?_
   rename_i k l
   have e1 := I8 (P := P) (w := w) (k := k) (i := l) (y := s.size) (c := .sliceB) ho.1 (by omega)
   simp [Instr.slice, run_underlying hu, Instr.sliceBounds, AV.val, e1]
  ·cases h
   simp only [v6] at ho
   refine fin _ _ _ rfl ?_
   rename_i k l k' hh
   have e1 := I8 (P := P) (w := w) (k := k) (i := l) (y := hh.toNat) (c := .sliceB) ho.1 (by omega)
   have e2 := I8 (P := P) (w := w) (k := k') (i := hh) (y := s.size) (c := .sliceAlen) (by omega) (by omega)
   simp [Instr.slice, run_underlying hu, Instr.sliceBounds, AV.val, e1, e2]
  ·cases h
 ·cases h
end
section
variable {P : Program} {ι : Type} {φ ψ : Nat → Prop} {w0 w w' : World} {F : ι → Rs} {ρ : Nat → Value} {S : Nat → It}
theorem l5.eat {L L' : ι → Rs} (M : l5 φ ψ w0 w L) (K : ι → Prop) (i : ι) (ho : ∀ j, j ≠ i → ¬ K j → L' j = L j) (hK : ∀ j, j ≠ i → K j → L' j = Rs.none) (hi : K i ∨ ∀ b, ¬ (L i).blk b)
  (hk : A8 (fun b => ¬ ∃ j, K j ∧ (L j).blk b) w w') (h : (L' i).holds w' (W5 φ L')) (hg : ∀ g, (L' i).blk g → (∃ j, K j ∧ (L j).blk g) ∨ w.heap.size ≤ g) : l5 φ ψ w0 w' L' := by
 have old : ∀ j b, j ≠ i → (L' j).blk b → ¬ K j ∧ (L j).blk b := fun j b hj hb => by
  by_cases e : K j
  ·rw [hK j hj e] at hb; exact hb.elim
  ·rw [ho j hj e] at hb; exact ⟨e, hb⟩
 have hfr : ∀ b, b < w.heap.size → W5 φ L b → W5 φ L' b := fun b hb hf => ⟨hf.1, fun j hj => by
  by_cases e : j = i
  ·subst e
   rcases hg b hj with ⟨k, _, h2⟩ | h2
   ·exact hf.2 k h2
   ·omega
  ·exact hf.2 j (old j b e hj).2⟩
 refine ⟨⟨hk.os.trans M.kept.os, hk.tape.trans M.kept.tape, hk.output.trans M.kept.output, Nat.le_trans M.size hk.size, fun b hb hp => (hk.block b (Nat.lt_of_lt_of_le hb M.size) ?_).trans (M.kept.block b hb hp)⟩, M.fresh, fun j => ?_, fun j k g hjk hj hk' => ?_, fun j b hj => ?_, fun j b hj => ?_⟩
 ·rintro ⟨j, _, hj⟩
  rcases M.ge j b hj with h' | h'
  ·omega
  ·exact h' hp
 ·by_cases e : j = i
  ·subst e; exact h
  ·by_cases e2 : K j
   ·rw [hK j e e2]; exact Rs.none_holds _ _
   ·rw [ho j e e2]
    refine Rs.keep (M.holds j) ⟨hk.size, fun b hb hf => ⟨hfr b hb hf, hk.block b hb ?_⟩⟩ fun g hgx => hk.block g (M.lt hgx) ?_
    ·rintro ⟨k, _, h2⟩; exact hf.2 k h2
    ·rintro ⟨k, h1, h2⟩
     exact M.dis j k g (fun h => e2 (h ▸ h1)) hgx h2
 ·by_cases e : j = i
  ·subst e
   obtain ⟨n2, h2⟩ := old k g (fun h => hjk h.symm) hk'
   rcases hg g hj with ⟨q, h3, h4⟩ | h3
   ·exact M.dis q k g (fun h => n2 (h ▸ h3)) h4 h2
   ·have := M.lt h2; omega
  ·obtain ⟨n1, h1⟩ := old j g e hj
   by_cases e' : k = i
   ·subst e'
    rcases hg g hk' with ⟨q, h3, h4⟩ | h3
    ·exact M.dis j q g (fun h => n1 (h ▸ h3)) h1 h4
    ·have := M.lt h1; omega
   ·exact M.dis j k g hjk h1 (old k g e' hk').2
 ·by_cases e : j = i
  ·subst e
   rcases hg b hj with ⟨k, _, h2⟩ | h2
   ·exact M.ge k b h2
   ·exact .inl (Nat.le_trans M.size h2)
  ·exact M.ge j b (old j b e hj).2
 ·by_cases e : j = i
  ·subst e
   rcases hg b hj with ⟨k, _, h2⟩ | h2
   ·exact M.ph k b h2
   ·exact M.fresh b (Nat.le_trans M.size h2)
  ·exact M.ph j b (old j b e hj).2
def Bk (S : Nat → It) (ρ : Nat → Value) (ids : List Nat) (b : Nat) : Prop := ∃ j ∈ ids, ((S j).res ρ j).blk b
theorem ai4 (S : Nat → It) (j : Nat) : ∀ (ids : List Nat), n6 S (ids.map fun i => (i, It.dead)) j = if j ∈ ids then It.dead else S j
 | [] => rfl
 | a :: r => by
  simp only [List.map_cons, n6, List.mem_cons]
  rw [ai4 S j r]
  by_cases e : j = a
  ·simp [e]
  ·simp [e]
theorem l5.graft (M : l5 φ ψ w0 w (o6 F ρ S)) {id : Nat} {ids : List Nat} {d : D} {v : Value} {T : Nat → Prop} (hS : S id = .none) (hid : id ∉ ids) (hi : V1 S ρ [id]) (hk : A8 (fun b => ¬ Bk S ρ ids b) w w') (hT : D4 w' T d v) (hg : ∀ b, T b → Bk S ρ ids b ∨ w.heap.size ≤ b) :
  ∃ ρ', A1 [id] ρ ρ' ∧ l5 φ ψ w0 w' (o6 F ρ' (n6 S ((id, .tree d) :: ids.map fun j => (j, .dead)))) ∧ v = H4 (ρ' id) := by
 obtain ⟨x, hx1, hx2⟩ := at4 v (fun b => T b ∧ b < w'.heap.size) w'.heap.size fun b h => h.2
 have ha : A1 [id] ρ (fun j => if j = id then x else ρ j) := fun j hj => by
  have : j ≠ id := by simpa using hj
  simp [this]
 refine ⟨_, ha, ?_, by simp [hx1]⟩
 refine M.eat (fun k => ∃ j ∈ ids, k = .inr j) (.inr id) (fun k hk1 hk2 => ?_) (fun k hk1 hk2 => ?_) (.inr fun b hb => by simp only [o6, hS, It.res] at hb; exact hb) ?_ ?_ fun g hg' => ?_
 ·cases k with
  | inl i => rfl
  | inr j =>
   have h1 : j ≠ id := fun e => hk1 (by rw [e])
   have h2 : j ∉ ids := fun e => hk2 ⟨j, e, rfl⟩
   simp only [o6, n6, if_neg h1]
   rw [ai4, if_neg h2]
   exact hi _ ha j
 ·obtain ⟨j, hj, rfl⟩ := hk2
  have h1 : j ≠ id := fun e => hk1 (by rw [e])
  simp only [o6, n6, if_neg h1]
  rw [ai4, if_pos hj]; rfl
 ·refine ⟨hk.os, hk.tape, hk.output, hk.size, fun b hb hn => hk.block b hb fun ⟨j, h1, h2⟩ => hn ⟨.inr j, ⟨j, h1, rfl⟩, h2⟩⟩
 ·simp only [o6, n6, if_true, It.res]
  have e : F7 x = fun b => T b ∧ b < w'.heap.size := funext fun b => propext (hx2 b)
  rw [hx1, e]
  exact ⟨fun _ _ h hs => h.same hs, hT.cut, fun b hb => hb.2⟩
 ·simp only [o6, n6, if_true, It.res] at hg'
  have h1 := (hx2 g).1 hg'
  rcases hg g h1.1 with ⟨j, h2, h3⟩ | h2
  ·exact .inl ⟨.inr j, ⟨j, h2, rfl⟩, h3⟩
  ·exact .inr h2
def ad4 (S : Nat → It) : AV → Option (List f5 × List Nat)
 | .tref id => match S id with
  | .tree (.exprs l) => some (l, [id])
  | _ => none
 | .v (.slice none 0 0) => some ([], [])
 | _ => none
def ai6 (S : Nat → It) : AV → Option (List d9 × List Nat)
 | .tref id => match S id with
  | .tree (.stmts l) => some (l, [id])
  | _ => none
 | .v (.slice none 0 0) => some ([], [])
 | _ => none
def aG6 (S : Nat → It) : AV → Option (List Int × List Nat)
 | .ref id => match S id with
  | .row e (.ints l) => if natEq e 3 then some (l, [id]) else none
  | _ => none
 | .v (.slice none 0 0) => some ([], [])
 | _ => none
def a19 (S : Nat → It) (k : Nat) (l : List AV) : Option (D × List Nat) :=
 match k, l with
 | 9, [.v (.int .i64 a), .v (.int .i64 b), x] => (ad4 S x).map fun r => (.exprs [⟨a, b, r.1⟩], r.2)
 | 10, [.v (.int .i64 a), .v (.int .i64 b), .v (.int .i64 c), .v (.int .i64 d), x, .v (.int .i64 e), .v (.int .i64 f), y, .v (.int .i64 g), z, u] =>
  match ad4 S x, ad4 S y, ai6 S z, ai6 S u with
  | some x, some y, some z, some u => some (.stmts [⟨a, b, ⟨c, d, x.1⟩, ⟨e, f, y.1⟩, g, z.1, u.1⟩], x.2 ++ (y.2 ++ (z.2 ++ u.2)))
  | _, _, _, _ => none
 | 7, [x] => (aG6 S x).map fun r => (.rows [r.1], r.2)
 | _, _ => none
theorem a33 (w : World) (T : Nat → Prop) : D5 w (.slice none 0 0) [] T := ⟨[], fun _ => False, World.ownsRow_nil _ _ _ _, (fun g hg => by cases hg), fun _ h => h.elim, rfl⟩
theorem aW2 (w : World) (T : Nat → Prop) : E4 w (.slice none 0 0) [] T := ⟨[], fun _ => False, World.ownsRow_nil _ _ _ _, (fun g hg => by cases hg), fun _ h => h.elim, rfl⟩
theorem aj3 (M : l5 φ ψ w0 w (o6 F ρ S)) {x : AV} {l : List f5} {ids : List Nat} (h : ad4 S x = some (l, ids)) : D5 w (x.val ρ) l (Bk S ρ ids) := by
 unfold ad4 at h
 split at h <;> first | cases h | skip
 ·rename_i id
  split at h <;> first | cases h | skip
  rename_i hS
  have h1 := (M.treeAt (id := id) (d := .exprs l) (by rw [hS]; rfl)).1
  exact (D4.kids.1 h1).mono fun b hb => ⟨id, by simp, by rw [hS]; exact hb⟩
 ·exact a33 _ _
theorem aw5 (M : l5 φ ψ w0 w (o6 F ρ S)) {x : AV} {l : List d9} {ids : List Nat} (h : ai6 S x = some (l, ids)) : E4 w (x.val ρ) l (Bk S ρ ids) := by
 unfold ai6 at h
 split at h <;> first | cases h | skip
 ·rename_i id
  split at h <;> first | cases h | skip
  rename_i hS
  have h1 := (M.treeAt (id := id) (d := .stmts l) (by rw [hS]; rfl)).1
  exact (D4.block.1 h1).mono fun b hb => ⟨id, by simp, by rw [hS]; exact hb⟩
 ·exact aW2 _ _
theorem a88 {φ : Nat → Prop} {l : List Int} {xs : List Value} (hl : xs.length = l.length) (h : RW w φ (.ints l) xs) : xs = ints l := by
 apply List.ext_getElem?
 intro j
 by_cases hj : j < l.length
 ·obtain ⟨u, h1, h2⟩ := h j hj 0 _ rfl
  simp only [D.sz, Nat.mul_one, Nat.add_zero] at h1
  rw [h1, show u = _ from h2]
  simp [ints, hj]
 ·rw [List.getElem?_eq_none (by omega), List.getElem?_eq_none (by simp [ints]; omega)]
theorem a38 (M : l5 φ ψ w0 w (o6 F ρ S)) {x : AV} {l : List Int} {ids : List Nat} (h : aG6 S x = some (l, ids)) : w.ownsRow 0 3 1 (x.val ρ) l.length (ints l) ∧ ∀ g, (x.val ρ).ownBlock = some g → Bk S ρ ids g := by
 unfold aG6 at h
 split at h <;> first | cases h | skip
 ·rename_i id
  split at h <;> first | cases h | skip
  rename_i e l' hS
  split at h <;> first | cases h | skip
  rename_i he
  have he' : e = 3 := by simpa [natEq] using he
  subst he'
  obtain ⟨xs, h1, h2⟩ := M.rowAt hS
  have h3 : xs.length = l.length := by have := h1.1; simpa [D.len, D.sz] using this
  rw [a88 h3 h2] at h1
  exact ⟨h1, fun g hg => ⟨id, by simp, by rw [hS]; exact hg⟩⟩
 ·exact ⟨World.ownsRow_nil _ _ _ _, fun g hg => by cases hg⟩
theorem ak3 (M : l5 φ ψ w0 w (o6 F ρ S)) {a b : List Nat} (h : ∀ x ∈ a, x ∉ b) {g : Nat} (h1 : Bk S ρ a g) : ¬ Bk S ρ b g := by
 rintro ⟨j, hj, hb⟩
 obtain ⟨i, hi, ha⟩ := h1
 exact M.dis (.inr i) (.inr j) g (fun e => h i hi (by cases e; exact hj)) ha hb
theorem a99 (M : l5 φ ψ w0 w (o6 F ρ S)) {k : Nat} {l : List AV} {d : D} {ids : List Nat} (h : a19 S k l = some (d, ids)) (hn : ids.Nodup) : d.len = 1 ∧ d.sz = l.length ∧ K2 w d (Bk S ρ ids) (AV.vals ρ l) := by
 unfold a19 at h
 split at h <;> first | cases h | skip
 ·rename_i a b x
  obtain ⟨r, h1, h2⟩ := Option.map_eq_some_iff.1 h
  cases h2
  refine ⟨rfl, rfl, ?_⟩
  simp only [K2]
  exact ⟨_, [], Bk S ρ r.2, fun _ => False, (List.append_nil _).symm, fun b hb => ⟨hb, fun h => h⟩, fun b hb => hb.elim, (A9.iff _ _ _).2 ⟨_, rfl, aj3 M h1⟩, rfl⟩
 ·rename_i a b c d x e f y g z u
  split at h <;> first | cases h | skip
  rename_i rx ry rz ru hx hy hz hu
  refine ⟨rfl, rfl, ?_⟩
  simp only [List.nodup_append, List.mem_append] at hn
  obtain ⟨-, ⟨-, ⟨-, -, n3⟩, n2⟩, n1⟩ := hn
  have d1 : ∀ q ∈ rx.2, q ∉ ry.2 := fun q h1 h2 => n1 q h1 q (.inl h2) rfl
  have d2 : ∀ q ∈ rx.2, q ∉ rz.2 := fun q h1 h2 => n1 q h1 q (.inr (.inl h2)) rfl
  have d3 : ∀ q ∈ rx.2, q ∉ ru.2 := fun q h1 h2 => n1 q h1 q (.inr (.inr h2)) rfl
  have d4 : ∀ q ∈ ry.2, q ∉ rz.2 := fun q h1 h2 => n2 q h1 q (.inl h2) rfl
  have d5 : ∀ q ∈ ry.2, q ∉ ru.2 := fun q h1 h2 => n2 q h1 q (.inr h2) rfl
  have d6 : ∀ q ∈ rz.2, q ∉ ru.2 := fun q h1 h2 => n3 q h1 q h2 rfl
  have up : ∀ (s : List Nat), (∀ q ∈ s, q ∈ rx.2 ++ (ry.2 ++ (rz.2 ++ ru.2))) → ∀ b, Bk S ρ s b → Bk S ρ (rx.2 ++ (ry.2 ++ (rz.2 ++ ru.2))) b := fun s hs b ⟨j, h1, h2⟩ => ⟨j, hs j h1, h2⟩
  simp only [K2]
  refine ⟨_, [], Bk S ρ (rx.2 ++ (ry.2 ++ (rz.2 ++ ru.2))), fun _ => False, (List.append_nil _).symm, fun b hb => ⟨hb, fun h => h⟩, fun b hb => hb.elim, (C4.iff _ _ _).2 ⟨_, _, _, _, Bk S ρ rx.2, Bk S ρ ry.2, Bk S ρ rz.2, Bk S ρ ru.2, rfl, ⟨fun b hb => ⟨up _ (fun q hq => by simp [hq]) b hb, ak3 M d1 hb, ak3 M d2 hb, ak3 M d3 hb⟩, fun b hb => ⟨up _ (fun q hq => by simp [hq]) b hb, ak3 M d4 hb, ak3 M d5 hb⟩, fun b hb => ⟨up _ (fun q hq => by simp [hq]) b hb, ak3 M d6 hb⟩, fun b hb => up _ (fun q hq => by simp [hq]) b hb⟩, aj3 M hx, aj3 M hy, aw5 M hz, aw5 M hu⟩, rfl⟩
 ·rename_i x
  obtain ⟨r, h1, h2⟩ := Option.map_eq_some_iff.1 h
  cases h2
  obtain ⟨k1, k2⟩ := a38 M h1
  refine ⟨rfl, rfl, ?_⟩
  simp only [K2]
  exact ⟨_, [], fun _ => False, rfl, k1, fun g hg => ⟨k2 g hg, fun h => h⟩, fun b hb => hb.elim, rfl⟩
def ai5 (d : D) (el : TypeId) : Bool := match ab7 d with
 | some e => natEq e el
 | none => false
theorem O2 {d : D} {el : TypeId} (h : ai5 d el = true) : ab7 d = some el := by
 unfold ai5 at h
 split at h
 ·rename_i e he; rw [he, show e = el by simpa [natEq] using h]
 ·cases h
def S8 (P : Program) (dk : TypeId → Nat) (e : Operand → Option AV) (S : Nat → It) (id : Nat) (t : TypeId) (len : Nat) (parts : List (Nat × Operand)) : Option Tr :=
 match O6 P t with
 | none => none
 | some el =>
  match N7 P el, F2 P el with
  | some n, some z =>
   if 0 < n && z.cells.size = n && len = 1 && parts.length = 1 && n ≤ 16777216 then
    match T8 e S n 0 parts with
    | some [c] => match a19 S (dk el) c with
     | some (d, ids) => if nodupB ids && ai5 d el then some ⟨(id, .tree d) :: ids.map fun j => (j, .dead), [id], .tref id, []⟩ else none
     | none => none
    | _ => none
   else none
  | _, _ => none
where nodupB : List Nat → Bool
 | [] => true
 | x :: r => !(r.any (natEq x)) && nodupB r
theorem aM2 {l : List Nat} (h : S8.nodupB l = true) : l.Nodup := by
 induction l with
 | nil => simp
 | cons x r ih =>
  simp only [S8.nodupB, Bool.and_eq_true, Bool.not_eq_true'] at h
  refine List.nodup_cons.2 ⟨fun hm => ?_, ih h.2⟩
  have : r.any (natEq x) = true := List.any_eq_true.2 ⟨x, hm, by simp [natEq]⟩
  rw [this] at h; cases h.1
theorem aW0 (M : l5 φ ψ w0 w (o6 F ρ S)) {dk : TypeId → Nat} {o : Oper} {e : Operand → Option AV} {g : Operand → Value} {t : TypeId} {len : Nat} {parts : Array (Nat × Operand)} (hop : o.op = .buildSlice t len parts) (hg : ∀ p ∈ parts.toList, ∀ v, e p.2 = some v → g p.2 = v.val ρ) {id : Nat} {r : Tr} (h : S8 P dk e S id t len parts.toList = some r) (hmk : ∀ j ∈ r.made, S j = .none) (hi : V1 S ρ r.made) :
  H0 P o g w (F0 φ ψ w0 F ρ S r) := by
 unfold S8 at h
 split at h <;> first | cases h | skip
 rename_i el hel
 split at h <;> first | cases h | skip
 rename_i n z h1 h2
 split at h
 case isFalse => cases h
 rename_i hc
 simp only [Bool.and_eq_true, decide_eq_true_eq] at hc
 obtain ⟨⟨⟨⟨hn, hz⟩, hlen⟩, hpl⟩, hbig⟩ := hc
 split at h <;> first | cases h | skip
 rename_i c hl
 split at h <;> first | cases h | skip
 rename_i d ids h4
 split at h
 case isFalse => cases h
 rename_i hcc
 simp only [Bool.and_eq_true] at hcc
 cases h
 subst hlen
 obtain ⟨k1, k2⟩ := ad2 hl
 obtain ⟨m1, m2, m3⟩ := a99 M h4 (aM2 hcc.1)
 have hte := O2 hcc.2
 have hsz : d.sz = n := by rw [m2]; exact k2 c (by simp)
 have hS : S id = .none := hmk id (by simp)
 obtain ⟨ie, hie, hie2⟩ := Option.map_eq_some_iff.1 h1
 have hiz : ie.zero = some z := by
  unfold F2 at h2; rw [hie] at h2; exact h2
 have hu := O0 hel
 have hvl : (AV.vals ρ c).length = 1 * n := by rw [AV.vals_length, k2 c (by simp), Nat.one_mul]
 have hrun : (Instr.buildSlice t 1 (parts.map fun p => (p.1, g p.2))).run P w = .ok (.slice (some ⟨w.heap.size, 0, none⟩) 1 1) (w.alloc (.cells (AV.vals ρ c).toArray el)) := by
  refine run_buildSlice w t el 1 _ _ ie z hu hie hiz (by omega) (by rw [hie2]; omega) ?_
  have hf := Y2 M parts.toList 0 [c] [] (((Array.range (1 * ie.size)).map (z.cells[· % z.cells.size]!)).toList) hl hg (by simp) (by simp [hie2, hpl])
  rw [hie2] at hf ⊢
  simp only [List.nil_append, Array.toArray_toList, List.flatten_cons, List.flatten_nil, List.append_nil] at hf
  simpa using hf
 have hown := (E1 w (g := w.heap.size) (AV.vals ρ c).toArray 1 n el rfl (by simpa using hvl) (by omega)).1
 have hb : Below w.heap.size w (w.alloc (.cells (AV.vals ρ c).toArray el)) := (Below.refl _ _).alloc (Nat.le_refl _) _
 have hbk : ∀ j ∈ ids, ∀ b, ((S j).res ρ j).blk b → b < w.heap.size := fun j _ b hb => M.lt (i := .inr j) hb
 obtain ⟨ρ', q1, q2, q3⟩ := M.graft (id := id) (ids := ids) (d := d) (v := .slice (some ⟨w.heap.size, 0, none⟩) 1 1) (T := fun b => Bk S ρ ids b ∨ b = w.heap.size) hS (fun hm => by
   have : ∀ (k : Nat) (l : List AV) (r : D × List Nat), a19 S k l = some r → ∀ j ∈ r.2, S j ≠ .none := by
    intro k l r h j hj
    have hE : ∀ {x : AV} {q : List f5 × List Nat}, ad4 S x = some q → ∀ j ∈ q.2, S j ≠ .none := by
     intro x q h j hj
     unfold ad4 at h
     split at h <;> first | cases h | skip
     ·split at h <;> first | cases h | skip
      rename_i hS; simp at hj; subst hj; rw [hS]; intro h; cases h
     ·cases hj
    have hT : ∀ {x : AV} {q : List d9 × List Nat}, ai6 S x = some q → ∀ j ∈ q.2, S j ≠ .none := by
     intro x q h j hj
     unfold ai6 at h
     split at h <;> first | cases h | skip
     ·split at h <;> first | cases h | skip
      rename_i hS; simp at hj; subst hj; rw [hS]; intro h; cases h
     ·cases hj
    have hI : ∀ {x : AV} {q : List Int × List Nat}, aG6 S x = some q → ∀ j ∈ q.2, S j ≠ .none := by
     intro x q h j hj
     unfold aG6 at h
     split at h <;> first | cases h | skip
     ·split at h <;> first | cases h | skip
      split at h <;> first | cases h | skip
      rename_i hS _; simp at hj; subst hj; rw [hS]; intro h; cases h
     ·cases hj
    unfold a19 at h
    split at h <;> first | cases h | skip
    ·obtain ⟨q, h1, h2⟩ := Option.map_eq_some_iff.1 h
     cases h2; exact hE h1 j hj
    ·split at h <;> first | cases h | skip
     rename_i hx hy hz hu
     simp only [List.mem_append] at hj
     rcases hj with hj | hj | hj | hj
     ·exact hE hx j hj
     ·exact hE hy j hj
     ·exact hT hz j hj
     ·exact hT hu j hj
    ·obtain ⟨q, h1, h2⟩ := Option.map_eq_some_iff.1 h
     cases h2; exact hI h1 j hj
   exact this _ _ _ h4 id hm hS) hi (A8.any hb)
  ⟨el, _, Bk S ρ ids, hte, by rw [m1, hsz]; exact B5 hown (Nat.zero_le _), fun g hg => by
   cases hg
   exact ⟨.inr rfl, fun ⟨j, h1, h2⟩ => Nat.lt_irrefl _ (hbk j h1 _ h2)⟩, fun b hb => .inl hb, by
   simpa using m3.same (w' := w.alloc (.cells (AV.vals ρ c).toArray el)) fun b _ hlt => hb.block b hlt⟩
  (fun b hb => hb.imp (fun h => h) fun h => by omega)
 have hrun2 : (execOp g o).run P w = .ok (.value (.slice (some ⟨w.heap.size, 0, none⟩) 1 1)) (w.alloc (.cells (AV.vals ρ c).toArray el)) := by
  simp only [execOp, hop, Sem.run_bind]
  rw [show (parts.map fun (i, x) => (i, g x)) = parts.map fun p => (p.1, g p.2) from rfl, hrun]
  rfl
 exact .inl ⟨_, _, hrun2, ρ', q1, q2, by simp only [AV.val]; exact q3⟩
def ak2 (P : Program) (dk : TypeId → Nat) (id : Nat) (t : TypeId) (len : Nat) (parts : List (Nat × Operand)) : Option Tr :=
 match O6 P t with
 | none => none
 | some el =>
  match N7 P el, F2 P el, D.nil (dk el) with
  | some n, some z, some d =>
   if 0 < n && z.cells.size = n && d.sz = n && natEq len 0 && natEq parts.length 0 && ai5 d el && decide (9 ≤ dk el) then some ⟨[(id, .tree d)], [id], .tref id, []⟩ else none
  | _, _, _ => none
theorem a80 {k : Nat} {d : D} (h : D.nil k = some d) (h9 : 9 ≤ k) (w : World) (T : Nat → Prop) : K2 w d T [] := by
 unfold D.nil at h
 split at h <;> first | omega | skip
 ·cases h; rfl
 ·cases h; rfl
 ·cases h
theorem aW1 (M : l5 φ ψ w0 w (o6 F ρ S)) {dk : TypeId → Nat} {o : Oper} {g : Operand → Value} {t : TypeId} {len : Nat} {parts : Array (Nat × Operand)} (hop : o.op = .buildSlice t len parts) {id : Nat} {r : Tr} (h : ak2 P dk id t len parts.toList = some r) (hmk : ∀ j ∈ r.made, S j = .none) (hi : V1 S ρ r.made) :
  H0 P o g w (F0 φ ψ w0 F ρ S r) := by
 unfold ak2 at h
 split at h <;> first | cases h | skip
 rename_i el hel
 split at h <;> first | cases h | skip
 rename_i n z d h1 h2 h3
 split at h
 case isFalse => cases h
 rename_i hc
 simp only [Bool.and_eq_true, decide_eq_true_eq, natEq, beq_iff_eq] at hc
 obtain ⟨⟨⟨⟨⟨⟨hn, hz⟩, hsz⟩, hlen⟩, hpl⟩, ht⟩, h9⟩ := hc
 cases h
 subst hlen
 have hp0 : parts = #[] := by
  apply Array.ext'
  exact List.eq_nil_of_length_eq_zero hpl
 subst hp0
 have hte := O2 ht
 have hd0 := D.nil_len h3
 have hS : S id = .none := hmk id (by simp)
 obtain ⟨ie, hie, hie2⟩ := Option.map_eq_some_iff.1 h1
 have hiz : ie.zero = some z := by
  unfold F2 at h2; rw [hie] at h2; exact h2
 have hu := O0 hel
 have hrun : (Instr.buildSlice t 0 (#[] : Array (Nat × Value))).run P w = .ok (.slice (some ⟨w.heap.size, 0, none⟩) 0 0) (w.alloc (.cells #[] el)) := by
  have hr0 : Array.range 0 = #[] := rfl
  simp [Instr.buildSlice, run_underlying hu, sizeOf, typeInfo, hie, Instr.fill, newRow, hr0]
 have hown := (E1 w (g := w.heap.size) (#[] : Array Value) 0 n el rfl (by simp) (by omega)).1
 have hb : Below w.heap.size w (w.alloc (.cells #[] el)) := (Below.refl _ _).alloc (Nat.le_refl _) _
 obtain ⟨ρ', q1, q2, q3⟩ := M.graft (id := id) (ids := []) (d := d) (v := .slice (some ⟨w.heap.size, 0, none⟩) 0 0) (T := fun b => b = w.heap.size) hS (by simp) hi (A8.any hb)
  ⟨el, [], fun _ => False, hte, by rw [hd0, hsz]; exact B5 hown (Nat.zero_le _), fun g hg => by
   cases hg
   exact ⟨rfl, fun h => h⟩, fun b hb => hb.elim, a80 h3 h9 _ _⟩
  (fun b hb => .inr (by omega))
 have hrun2 : (execOp g o).run P w = .ok (.value (.slice (some ⟨w.heap.size, 0, none⟩) 0 0)) (w.alloc (.cells #[] el)) := by
  simp only [execOp, hop, Sem.run_bind, List.map_toArray, List.map_nil, hrun]
  rfl
 exact .inl ⟨_, _, hrun2, ρ', q1, q2, by simp only [AV.val]; exact q3⟩
def aC7 (P : Program) (S : Nat → It) (id : Nat) (t t' : TypeId) (s x : AV) : Option Tr :=
 if t = t' then
  match O6 P t, x with
  | some el, .tref b =>
   match S b, Z9 P el, N7 P el, F2 P el with
   | .tree d2, some by_, some n, some z =>
    if 0 < n && z.cells.size = n && d2.sz = n && ai5 d2 el then
     match s with
     | .tref a => if natEq a b then none else match S a with
      | .tree d1 => if ai5 d1 el then (d1.app d2).map fun d => ⟨(id, .tree d) :: [a, b].map fun j => (j, .dead), [id], .tref id, [d1.len + d2.len ≤ 9223372036854775807, (d1.len + d2.len) * by_ ≤ 140737488355328]⟩ else none
      | _ => none
     | .v (.slice none 0 0) => some ⟨(id, .tree d2) :: [b].map fun j => (j, .dead), [id], .tref id, [d2.len ≤ 9223372036854775807, d2.len * by_ ≤ 140737488355328]⟩
     | _ => none
    else none
   | _, _, _, _ => none
  | _, _ => none
 else none
theorem aK9 {v : Value} {n sz : Nat} {xs ys : List Value} (h : H8 w v n sz xs) (k : H8 w v n sz ys) : xs = ys := by
 obtain ⟨h0, a, cap, rfl, _, _, h1⟩ := h
 obtain ⟨k0, a', cap', he, _, _, k1⟩ := k
 cases he
 apply List.ext_getElem?
 intro j
 by_cases hj : j < n * sz
 ·have hn : 0 < n := Nat.pos_of_ne_zero fun h => by subst h; simp at hj
  obtain ⟨b, off, rfl, _, h2⟩ := h1 hn
  obtain ⟨b', off', he, _, k2⟩ := k1 hn
  cases he
  have e1 := h2 j _ (List.getElem?_eq_getElem (by omega))
  have e2 := k2 j _ (List.getElem?_eq_getElem (by omega))
  rw [e1] at e2
  rw [List.getElem?_eq_getElem (by omega), List.getElem?_eq_getElem (by omega)]; exact e2
 ·rw [List.getElem?_eq_none (by omega), List.getElem?_eq_none (by omega)]
theorem K2.app {d1 d2 d : D} {S T S' : Nat → Prop} {xs ys : List Value} (h : d1.app d2 = some d) (h1 : K2 w d1 S xs) (h2 : K2 w d2 T ys) (h3 : ∀ x, S x → S' x ∧ ¬ T x) (h4 : ∀ x, T x → S' x) : K2 w d S' (xs ++ ys) := by
 cases d1 <;> cases d2 <;> simp only [D.app] at h <;> first | cases h | skip
 all_goals simp only [K2] at h1 h2 ⊢
 ·exact h1.app h2 h3 h4
 ·exact n5.app h1 h2 h3 h4
 ·exact n4.app h1 h2 h3 h4
theorem aS7 {d1 d2 d : D} (h : d1.app d2 = some d) : ab7 d = ab7 d1 := by
 cases d1 <;> cases d2 <;> simp only [D.app] at h <;> first | cases h | skip
 all_goals rfl
theorem bb9 (M : l5 φ ψ w0 w (o6 F ρ S)) {o : Oper} {g : Operand → Value} {t t' : TypeId} {s x : Operand} (hop : o.op = .call { callee := .builtin .append, args := #[s, x], argTypes := #[t, t'] }) {sa xa : AV} (hs : g s = sa.val ρ) (hx : g x = xa.val ρ) {id : Nat} {r : Tr} (h : aC7 P S id t t' sa xa = some r) (ho : v6 r.obs) (hmk : ∀ j ∈ r.made, S j = .none) (hi : V1 S ρ r.made) :
  H0 P o g w (F0 φ ψ w0 F ρ S r) := by
 unfold aC7 at h
 split at h
 case isFalse => cases h
 rename_i htt
 subst htt
 split at h <;> first | cases h | skip
 rename_i el b hel
 split at h <;> first | cases h | skip
 rename_i d2 by_ n z hSb h2 h3 h4
 split at h
 case isFalse => cases h
 rename_i hc
 simp only [Bool.and_eq_true, decide_eq_true_eq] at hc
 obtain ⟨⟨⟨hn, hz⟩, hd2⟩, ht2⟩ := hc
 have hu := O0 hel
 obtain ⟨ie, hie, hie2⟩ := Option.map_eq_some_iff.1 h3
 have hiz : ie.zero = some z := by unfold F2 at h4; rw [hie] at h4; exact h4
 have hib : ie.bytes = by_ := by
  unfold Z9 at h2; rw [hie] at h2; exact Option.some.inj h2
 have hinfo : (P.info? el).map (fun i => (i.zero, i.size, i.bytes)) = some (some z, n, by_) := by rw [hie]; simp [hiz, hie2, hib]
 obtain ⟨hTb, hltb⟩ := M.treeAt (id := b) (d := d2) (by rw [hSb]; rfl)
 have hrd := D4.read (φ := fun _ => True) hTb fun _ _ => trivial
 obtain ⟨e2, news, S2, f0, f1, f2, f3, f4⟩ := hTb
 rw [O2 ht2] at f0; cases f0
 have k1 := Y3 f1
 have h1c : ∀ u ∈ news, u.oneCell' = true := by
  obtain ⟨xs', r1, r2⟩ := hrd.split
  rw [aK9 k1 r1.row]
  exact aE9 r1.1 r2
 rw [hd2] at k1
 have hexec : ∀ v w', (Builtin.append_ #[t, t] o.type #[sa.val ρ, AV.val ρ (.tref b)]).run P w = .ok v w' → (execOp g o).run P w = .ok (.value v) w' := by
  intro v w' hr
  simp only [execOp, hop, resolve, invoke, builtin, Sem.run_bind, Sem.run_pure, Result.andThen_ok, List.map_toArray, List.map_cons, List.map_nil, hs, hx, hr]
 have hbk : ∀ c, F7 (ρ b) c → ((S b).res ρ b).blk c := fun c hc => by rw [hSb]; exact hc
 split at h
 ·rename_i a
  split at h
  case isTrue => cases h
  rename_i hab
  have hab' : a ≠ b := by simpa [natEq] using hab
  split at h <;> first | cases h | skip
  rename_i d1 hSa
  split at h
  case isFalse => cases h
  rename_i ht1
  obtain ⟨d, hd, hr⟩ := Option.map_eq_some_iff.1 h
  subst hr
  simp only [v6] at ho
  obtain ⟨q1, q2, q3, q4⟩ := D.app_ok hd
  obtain ⟨hTa, hlta⟩ := M.treeAt (id := a) (d := d1) (by rw [hSa]; rfl)
  obtain ⟨e1, xs, S1, g0, g1, g2, g3, g4⟩ := hTa
  rw [O2 ht1] at g0; cases g0
  have hak : ∀ c, F7 (ρ a) c → ((S a).res ρ a).blk c := fun c hc => by rw [hSa]; exact hc
  have hdis : ∀ c, F7 (ρ a) c → ¬ F7 (ρ b) c := fun c h1 h2 => M.dis (.inr a) (.inr b) c (fun e => hab' (by cases e; rfl)) (hak c h1) (hbk c h2)
  have hsz : d1.sz = n := by omega
  rw [hsz] at g1
  obtain ⟨a', k', w', hrun, r2, r3, r4, r5⟩ := af7 (P := P) (lo := 0) (ty := o.type) hu hinfo hz hn g1 k1 h1c ho.1 ho.2.1 (Nat.zero_le _)
  have hkeep : ∀ c, c < w.heap.size → (H4 (ρ a)).ownBlock ≠ some c → w'.heap[c]? = w.heap[c]? := fun c hc hne => r4.block c hc fun h => hne h.symm
  obtain ⟨ρ', p1, p2, p3⟩ := M.graft (id := id) (ids := [a, b]) (d := d) (v := .slice a' (d1.len + d2.len) k') (T := fun c => F7 (ρ a) c ∨ F7 (ρ b) c ∨ (w.heap.size ≤ c ∧ (Value.slice a' (d1.len + d2.len) k').ownBlock = some c)) (hmk id (by simp))
   (fun hm => by
    have h0 := hmk id (by simp)
    simp only [List.mem_cons, List.not_mem_nil, or_false] at hm
    rcases hm with rfl | rfl
    ·rw [hSa] at h0; cases h0
    ·rw [hSb] at h0; cases h0) hi
   ⟨r4.os, r4.tape, r4.output, r4.size, fun c hc hne => hkeep c hc fun he => hne ⟨a, by simp, hak c (g2 c he).1⟩⟩
   ⟨el, xs ++ news, fun c => S1 c ∨ S2 c, by rw [aS7 hd, O2 ht1], by rw [q2, hsz, q1]; exact r2, fun c hc => by
    rcases r5 c hc with h | h
    ·exact ⟨.inl (g2 c h).1, fun hh => hh.elim (g2 c h).2 fun h2 => hdis c (g2 c h).1 (f3 c h2)⟩
    ·exact ⟨.inr (.inr ⟨h, hc⟩), fun hh => hh.elim (fun h2 => by have := hlta c (g3 c h2); omega) fun h2 => by have := hltb c (f3 c h2); omega⟩,
    fun c hc => hc.imp (g3 c) fun h => .inl (f3 c h), by
    refine K2.app hd (g4.same fun c hc hlt => hkeep c hlt fun he => (g2 c he).2 hc) (f4.same fun c hc hlt => hkeep c hlt fun he => hdis c (g2 c he).1 (f3 c hc)) (fun c hc => ⟨.inl hc, fun h2 => hdis c (g3 c hc) (f3 c h2)⟩) fun c hc => .inr hc⟩
   (fun c hc => by
    rcases hc with h | h | h
    ·exact .inl ⟨a, by simp, hak c h⟩
    ·exact .inl ⟨b, by simp, hbk c h⟩
    ·exact .inr h.1)
  exact .inl ⟨_, _, hexec _ _ hrun, ρ', p1, p2, p3⟩
 ·cases h
  simp only [v6] at ho
  obtain ⟨a', k', w', hrun, r2, r3, r4, r5⟩ := af7 (P := P) (lo := w.heap.size) (ty := o.type) hu hinfo hz hn (World.ownsRow_nil _ _ _ _) k1 h1c (by omega) (by rw [Nat.zero_add]; exact ho.2.1) (Nat.le_refl _)
  rw [Nat.zero_add, List.nil_append] at r2
  obtain ⟨ρ', p1, p2, p3⟩ := M.graft (id := id) (ids := [b]) (d := d2) (v := .slice a' (0 + d2.len) k') (w' := w') (T := fun c => F7 (ρ b) c ∨ (w.heap.size ≤ c ∧ (Value.slice a' (0 + d2.len) k').ownBlock = some c)) (hmk id (by simp))
   (fun hm => by
    have h0 := hmk id (by simp)
    simp only [List.mem_cons, List.not_mem_nil, or_false] at hm
    subst hm
    rw [hSb] at h0; cases h0) hi (A8.any r3)
   ⟨el, news, S2, O2 ht2, by rw [hd2, Nat.zero_add]; exact B5 r2 (Nat.zero_le _), fun c hc => by
    rcases r5 c hc with h | h
    ·cases h
    ·exact ⟨.inr ⟨h, hc⟩, fun h2 => by have := hltb c (f3 c h2); omega⟩, fun c hc => .inl (f3 c hc), f4.same fun c _ hlt => r3.block c hlt⟩
   (fun c hc => hc.imp (fun h => ⟨b, by simp, hbk c h⟩) fun h => h.1)
  exact .inl ⟨_, _, hexec _ _ hrun, ρ', p1, p2, p3⟩
 ·cases h
theorem aD4 (S : Nat → It) (l2 : List (Nat × It)) : ∀ (l1 : List (Nat × It)) (j : Nat), n6 (n6 S l2) l1 j = n6 S (l1 ++ l2) j
 | [], _ => rfl
 | (k, x) :: r, j => by
  simp only [n6, List.cons_append]
  rw [aD4 S l2 r j]
theorem l5.rowDat (M : l5 φ ψ w0 w (o6 F ρ S)) {a : Nat} {el : TypeId} {d : D} (hS : S a = .row el d) : l5 φ ψ w0 w (o6 F ρ (n6 S [(a, .dat d)])) := by
 obtain ⟨xs, h1, h2⟩ := M.rowAt hS
 have e0 : n6 S [(a, .dat d)] a = .dat d := by simp [n6]
 have e1 : ∀ j, j ≠ a → n6 S [(a, .dat d)] j = S j := fun j h => by simp [n6, h]
 generalize n6 S [(a, .dat d)] = S' at e0 e1
 have hoth : ∀ k : ι ⊕ Nat, k ≠ .inr a → o6 F ρ S' k = o6 F ρ S k := fun k hk => by
  cases k with
  | inl q => rfl
  | inr j =>
   have : j ≠ a := fun e => hk (by rw [e])
   simp only [o6]; rw [e1 j this]
 have hno : ∀ g, ¬ (o6 F ρ S' (.inr a)).blk g := fun g hg => by
  simp only [o6] at hg
  rw [e0] at hg; exact hg
 refine M.put (.inr a) hoth (A8.refl _ _) ?_ fun g hg => (hno g hg).elim
 show (((S' a).res ρ a)).holds w _
 rw [e0]
 refine ⟨RD.nice _ _, ?_⟩
 have hfr : ∀ b, W5 φ (o6 F ρ S) b → W5 φ (o6 F ρ S') b := fun b hb => ⟨hb.1, fun k hk => by
  by_cases e : k = .inr a
  ·subst e; exact hno b hk
  ·rw [hoth k e] at hk; exact hb.2 k hk⟩
 refine RD.make (B4 h1 fun g hg => ?_) (RW.nice _ _ _ _ _ _ (W6.mono fun b _ hb => hfr b hb) h2)
 have ho : (o6 F ρ S (.inr a)).blk g := by simp only [o6]; rw [hS]; exact hg
 refine ⟨M.ph _ _ ho, fun k hk => ?_⟩
 by_cases e : k = .inr a
 ·subst e; exact hno g hk
 ·rw [hoth k e] at hk
  exact M.dis _ _ g (fun h => e h.symm) ho hk
def aj7 (P : Program) (S : Nat → It) (id : Nat) (t : TypeId) (x : AV) (lo hi : Option AV) : Option Tr :=
 match x with
 | .ref a => match S a with
  | .row _ d => (aC3 P (n6 S [(a, .dat d)]) id t x lo hi).map fun r => ⟨r.new ++ [(a, .dat d)], r.made, r.res, r.obs⟩
  | _ => none
 | _ => none
theorem aU6 (M : l5 φ ψ w0 w (o6 F ρ S)) {o : Oper} {g : Operand → Value} {t : TypeId} {x : Operand} {lo hi : Option Operand} {e : Operand → Option AV} (hop : o.op = .slice t x lo hi none) {xa : AV} (hx : g x = xa.val ρ) {la ha : Option AV} (hlo : lo.map g = la.map (AV.val ρ)) (hhi : hi.map g = ha.map (AV.val ρ)) {id : Nat} {r : Tr} (h : aj7 P S id t xa la ha = some r) (ho : v6 r.obs) (hmk : ∀ j ∈ r.made, S j = .none) (hin : V1 S ρ r.made) :
  H0 P o g w (F0 φ ψ w0 F ρ S r) := by
 unfold aj7 at h
 split at h <;> first | cases h | skip
 rename_i a
 split at h <;> first | cases h | skip
 rename_i el d hS
 obtain ⟨r', h1, h2⟩ := Option.map_eq_some_iff.1 h
 subst h2
 have ha : ∀ j ∈ r'.made, j ≠ a := fun j hj e => by
  have := hmk j hj
  rw [e, hS] at this; cases this
 have hin' : V1 (n6 S [(a, .dat d)]) ρ r'.made := fun ρ' hag j => by
  simp only [n6]
  split
  ·rename_i e
   subst e
   have := hin ρ' hag j
   refine It.res_congr _ (fun i hi => by cases hi) (.inr (.inr (hag j fun hm => ha j hm rfl)))
  ·exact hin ρ' hag j
 have D1 := a55 (e := e) (M.rowDat hS) hop hx hlo hhi h1 ho (fun j hj => by
  simp only [n6]
  rw [if_neg (ha j hj)]
  exact hmk j hj) hin'
 refine D1.mono fun v w' ⟨ρ', q1, q2, q3⟩ => ⟨ρ', q1, ?_, q3⟩
 have e2 : n6 S (r'.new ++ [(a, .dat d)]) = n6 (n6 S [(a, .dat d)]) r'.new := funext fun j => (aD4 S _ _ j).symm
 simp only
 rw [e2]; exact q2
def aa8 (P : Program) (S : Nat → It) (id : Nat) (t : TypeId) (x : AV) (lo hi : Option AV) : Option Tr := match aC3 P S id t x lo hi with
 | some r => some r
 | none => aj7 P S id t x lo hi
theorem ao7 (M : l5 φ ψ w0 w (o6 F ρ S)) {o : Oper} {g : Operand → Value} {t : TypeId} {x : Operand} {lo hi : Option Operand} {e : Operand → Option AV} (hop : o.op = .slice t x lo hi none) {xa : AV} (hx : g x = xa.val ρ) {la ha : Option AV} (hlo : lo.map g = la.map (AV.val ρ)) (hhi : hi.map g = ha.map (AV.val ρ)) {id : Nat} {r : Tr} (h : aa8 P S id t xa la ha = some r) (ho : v6 r.obs) (hmk : ∀ j ∈ r.made, S j = .none) (hin : V1 S ρ r.made) :
  H0 P o g w (F0 φ ψ w0 F ρ S r) := by
 unfold aa8 at h
 split at h
 ·rename_i r' h1
  cases h
  exact a55 (e := e) M hop hx hlo hhi h1 ho hmk hin
 ·exact aU6 (e := e) M hop hx hlo hhi h ho hmk hin
end
section
variable {P : Program} {ι : Type} {φ ψ : Nat → Prop} {w0 w w' : World} {F : ι → Rs} {ρ : Nat → Value} {S : Nat → It}
theorem aW7 {φ : Nat → Prop} {k n : Nat} {d : D} {z : Value} (h : aJ7 k n = some (d, z)) : d.len = n ∧ d.sz = 1 ∧ z.cells = #[z] ∧ RW w φ d (List.replicate n z) := by
 have key : ∀ (d : D) (z : Value), d.len = n → d.sz = 1 → (∀ i, i < n → ∃ x, d.elem i = [x] ∧ XH w φ x z) → RW w φ d (List.replicate n z) := by
  intro d z h1 h2 h3 i hi j x hx
  obtain ⟨y, hy, hz⟩ := h3 i (by omega)
  rw [hy] at hx
  cases j with
  | zero => simp at hx; subst hx; exact ⟨z, by rw [h1] at hi; rw [h2, Nat.mul_one, Nat.add_zero, List.getElem?_replicate, if_pos hi], hz⟩
  | succ j => simp at hx
 unfold aJ7 at h
 split at h <;> first | cases h | skip
 ·exact ⟨by simp [D.len], rfl, rfl, key _ _ (by simp [D.len]) rfl fun i hi => ⟨_, rfl, by simp [XH, hi]⟩⟩
 ·exact ⟨by simp [D.len], rfl, rfl, key _ _ (by simp [D.len]) rfl fun i hi => ⟨_, rfl, by simp [XH, hi]⟩⟩
 ·exact ⟨by simp [D.len], rfl, rfl, key _ _ (by simp [D.len]) rfl fun i hi => ⟨_, rfl, by simp [XH, hi]⟩⟩
 ·exact ⟨by simp [D.len], rfl, rfl, key _ _ (by simp [D.len]) rfl fun i hi => ⟨_, rfl, by simp only [XH, List.getD_eq_getElem?_getD, List.getElem?_replicate, hi, if_true, Option.getD_some]; exact t8.nil _ _ _⟩⟩
 ·exact ⟨by simp [D.len], rfl, rfl, key _ _ (by simp [D.len]) rfl fun i hi => ⟨_, rfl, by simp only [XH, List.getD_eq_getElem?_getD, List.getElem?_replicate, hi, if_true, Option.getD_some]; exact t8.nil _ _ _⟩⟩
theorem ba3 (M : l5 φ ψ w0 w (o6 F ρ S)) {dk : TypeId → Nat} {o : Oper} {g : Operand → Value} {t : TypeId} {l c : Operand} (hop : o.op = .makeSlice t l c) {la ca : AV} (hl : g l = la.val ρ) (hc : g c = ca.val ρ) {id : Nat} {r : Tr} (h : aB1 P dk id t la ca = some r) (ho : v6 r.obs) (hmk : ∀ j ∈ r.made, S j = .none) (hi : V1 S ρ r.made) :
  H0 P o g w (F0 φ ψ w0 F ρ S r) := by
 unfold aB1 at h
 split at h
 case h_2 => cases h
 rename_i n m el hel
 split at h
 case h_2 => cases h
 rename_i d z by_ sz z' h1 h2 h3 h4
 split at h
 case isFalse => cases h
 rename_i hsz
 cases h
 simp only [v6] at ho
 obtain ⟨hm, hn, hb, hbig, hzz, -⟩ := ho
 subst hm; subst hzz; subst hsz
 obtain ⟨k1, k2, k3, k4⟩ := aW7 (w := w) (φ := W5 φ (o6 F ρ S)) h1
 obtain ⟨ie, hie, hie2⟩ := Option.map_eq_some_iff.1 h3
 have hiz : ie.zero = some z' := by unfold F2 at h4; rw [hie] at h4; exact h4
 have hib : ie.bytes = by_ := by
  unfold Z9 at h2; rw [hie] at h2; exact Option.some.inj h2
 have hinfo : (P.info? el).map (fun i => (i.zero, i.size, i.bytes)) = some (some z', 1, by_) := by rw [hie]; simp [hiz, hie2, hib]
 have hb' : by_ * m.toNat ≤ 281474976710656 := by
  have : ((by_ * m.toNat : Nat) : Int) = by_ * m := by rw [Int.natCast_mul, Int.toNat_of_nonneg hn]
  omega
 have hrun := a27 (P := P) (O0 hel) hinfo (by rw [k3]; rfl) (by omega) m.toNat hb' (by omega) w
 rw [Int.toNat_of_nonneg hn] at hrun
 have hown := (a18 w z'.cells.toList m.toNat 1 el (by rw [k3]; rfl) (by omega)).1
 rw [k3, ak8, ← k1, ← k2] at hown
 obtain ⟨ρ', q1, q2, q3⟩ := M.newRow (id := id) (e := el) (d := d) ((Below.refl _ _).alloc (Nat.le_refl _) _) (hmk id (by simp)) hi hown (by rw [k1]; exact k4)
 have hrun2 : (execOp g o).run P w = .ok (.value (.slice (some ⟨w.heap.size, 0, none⟩) m.toNat m.toNat)) (w.alloc (.cells (B6 z'.cells.toList m.toNat).toArray el)) := by
  simp only [execOp, hop, Sem.run_bind, hl, hc, AV.val, hrun]
  rfl
 rw [k3, ak8, ← k1] at hrun2
 exact .inl ⟨_, _, hrun2, ρ', q1, q2, q3⟩
end
def AV.agN : AV → AV
 | .v (.agg l) => .agg (l.toList.map .v)
 | x => x
theorem AV.val_agN (ρ : Nat → Value) (x : AV) : x.agN.val ρ = x.val ρ := by
 cases x <;> try rfl
 rename_i v
 cases v <;> try rfl
 simp only [AV.agN, AV.val, P9, Array.toArray_toList]
def evN (e : Operand → Option AV) (x : Operand) : Option AV := (e x).map AV.agN
def aj1 (P : Program) (dk : TypeId → Nat) (e : Operand → Option AV) (S : Nat → It) (id : Nat) : Op → Option Tr
 | .load t x => (e x).bind fun a => aB2 P S id t a
 | .store t x y => match e x, e y with
  | some a, some v => X7 P S t v a
  | _, _ => none
 | .alloc t => match F2 P t with
  | some z => if z.cells.toList.all (·.oneCell') then some ⟨[(id, .box (z.cells.toList.map .v))], [id], .ptr id 0, []⟩ else none
  | none => none
 | .box _ x => (e x).bind fun v => aM4 S id v
 | .buildSlice t len parts => match ak2 P dk id t len parts.toList with
  | some r => some r
  | none => match S8 P dk e S id t len parts.toList with
   | some r => some r
   | none => match ag9 P dk e S id t len parts.toList with
    | some r => some r
    | none => ag9 P dk (evN e) S id t len parts.toList
 | .makeSlice t l c => match e l, e c with
  | some a, some b => aB1 P dk id t a b
  | _, _ => none
 | .slice t x lo hi none => match e x, lo.map e, hi.map e with
  | some a, none, none => aa8 P S id t a none none
  | some a, some (some l), none => aa8 P S id t a (some l) none
  | some a, none, some (some h) => aa8 P S id t a none (some h)
  | some a, some (some l), some (some h) => aa8 P S id t a (some l) (some h)
  | _, _, _ => none
 | .call { callee := .builtin .append, args, argTypes } =>
  match args.toList, argTypes.toList with
  | [s, x], [t, t'] => match e s, e x with
   | some a, some b => match aO7 P dk S id t t' a b with
    | some r => some r
    | none => aC7 P S id t t' a b
   | _, _ => none
  | _, _ => none
 | _ => none
def aZ0 (P : Program) (dk : TypeId → Nat) (e : Operand → Option AV) (S : Nat → It) (id : Nat) (op : Op) : Option Tr :=
 match aa4 P e S op with
 | some r => some ⟨[], [], r.1, r.2⟩
 | none => aj1 P dk e S id op
section
variable {P : Program} {ι : Type} {φ ψ : Nat → Prop} {w0 w w' : World} {F : ι → Rs} {ρ : Nat → Value} {S : Nat → It}
theorem ba1 (M : l5 φ ψ w0 w (o6 F ρ S)) {o : Oper} {g : Operand → Value} {t : TypeId} {cs : List AV} {v : Value} (hop : (execOp g o).run P w = .ok (.value (.pointer (some ⟨w.heap.size, 0, none⟩))) (w.alloc (.cells v.cells t))) (hv : v.cells = (AV.vals ρ cs).toArray) {id : Nat} (hn : id ∉ AV.idsL cs) (hS : S id = .none) (hi : V1 S ρ [id]) :
  H0 P o g w (F0 φ ψ w0 F ρ S ⟨[(id, .box cs)], [id], .ptr id 0, []⟩) := by
 have ha : A1 [id] ρ (fun j => if j = id then .pointer (some ⟨w.heap.size, 0, none⟩) else ρ j) := fun j hj => by
  have : j ≠ id := by simpa using hj
  simp [this]
 refine .inl ⟨_, _, hop, _, ha, M.one id _ [id] hi ha (A8.any ((Below.refl _ _).alloc (Nat.le_refl _) _)) (fun g hg => ?_) ?_, ?_⟩
 ·simp only [It.res, if_true, N6] at hg
  exact .inr (by rw [show g = w.heap.size from hg]; exact Nat.le_refl _)
 ·simp only [It.res, if_true, N6, Rs.holds]
  have e : AV.vals (fun j => if j = id then .pointer (some ⟨w.heap.size, 0, none⟩) else ρ j) cs = AV.vals ρ cs := AV.vals_congr _ fun k hk => by
   have : k ≠ id := fun e => hn (e ▸ hk)
   simp [this]
  rw [e, hv]
  exact y8.new _ _ _
 ·simp [AV.val, N6]
theorem aN3 (l : List Value) : AV.idsL (l.map .v) = [] := by
 induction l with
 | nil => rfl
 | cons a r ih => simp [AV.idsL, AV.ids, ih]
theorem aY9 (M : l5 φ ψ w0 w (o6 F ρ S)) {dk : TypeId → Nat} {o : Oper} {e : Operand → Option AV} {g : Operand → Value} (hg : ∀ x ∈ o.op.operands, ∀ v, e x = some v → g x = v.val ρ) {id : Nat} {r : Tr} (h : aZ0 P dk e S id o.op = some r) (ho : v6 r.obs) (hmk : ∀ j ∈ r.made, S j = .none) (hi : V1 S ρ r.made) :
  H0 P o g w (F0 φ ψ w0 F ρ S r) := by
 unfold aZ0 at h
 split at h
 ·rename_i q hq
  cases h
  exact .inl ⟨_, _, a89 M hg (r := q.1) (obs := q.2) hq ho, ρ, A1.refl _ _, M, rfl⟩
 rename_i hnone
 clear hnone
 cases hop : o.op <;> rw [hop] at h hg <;> simp only [aj1] at h <;> first | cases h | skip
 case load t x =>
  obtain ⟨a, h1, h2⟩ := Option.bind_eq_some_iff.1 h
  exact ba5 M hop (hg x (by simp [Op.operands]) _ h1) h2 ho hmk hi
 case store t x y =>
  split at h
  case h_2 => cases h
  rename_i a v h1 h2
  exact aY7 M hop (hg x (by simp [Op.operands]) _ h1) (hg y (by simp [Op.operands]) _ h2) h ho
 case alloc t =>
  split at h
  case h_2 => cases h
  rename_i z hz
  split at h
  case isFalse => cases h
  cases h
  have hrun : (execOp g o).run P w = .ok (.value (.pointer (some ⟨w.heap.size, 0, none⟩))) (w.alloc (.cells z.cells t)) := by
   simp [execOp, hop, Instr.alloc, aT0 hz, newVar, newRow]
  exact ba1 M hrun (by rw [P9]) (by rw [aN3]; simp) (hmk id (by simp)) hi
 case box t x =>
  obtain ⟨a, h1, h2⟩ := Option.bind_eq_some_iff.1 h
  have hx := hg x (by simp [Op.operands]) _ h1
  have hrun : (execOp g o).run P w = .ok (.value (.pointer (some ⟨w.heap.size, 0, none⟩))) (w.alloc (.cells (a.val ρ).cells t)) := by
   simp [execOp, hop, Instr.box, newVar, newRow, hx]
  exact bf6 M hrun rfl h2 hmk hi
 case buildSlice t len parts =>
  split at h
  ·rename_i r' h'
   cases h
   exact aW1 M hop h' hmk hi
  split at h
  ·rename_i r' h'
   cases h
   exact aW0 M hop (fun p hp v hv => hg p.2 (by simp [Op.operands]; exact ⟨p.1, by simpa using hp⟩) v hv) h' hmk hi
  split at h
  ·rename_i r' h'
   cases h
   exact aJ0 M hop (fun p hp v hv => hg p.2 (by simp [Op.operands]; exact ⟨p.1, by simpa using hp⟩) v hv) h' ho hmk hi
  ·refine aJ0 M hop (e := evN e) (fun p hp v hv => ?_) h ho hmk hi
   obtain ⟨y, h1, rfl⟩ := Option.map_eq_some_iff.1 hv
   rw [AV.val_agN]
   exact hg p.2 (by simp [Op.operands]; exact ⟨p.1, by simpa using hp⟩) y h1
 case makeSlice t l c =>
  split at h
  case h_2 => cases h
  rename_i a b h1 h2
  exact ba3 M hop (hg l (by simp [Op.operands]) _ h1) (hg c (by simp [Op.operands]) _ h2) h ho hmk hi
 case slice t x lo hi' mx =>
  cases mx with
  | some mx => simp only [aj1] at h; cases h
  | none =>
  simp only [aj1] at h
  split at h <;> first | cases h | skip
  ·rename_i a h1 h2 h3
   have : lo = none := by cases lo <;> simp at h2 ⊢
   subst this
   have : hi' = none := by cases hi' <;> simp at h3 ⊢
   subst this
   exact ao7 M (e := e) hop (hg x (by simp [Op.operands]) _ h1) rfl rfl h ho hmk hi
  ·rename_i a l h1 h2 h3
   obtain ⟨lo', rfl, hlo⟩ := Option.map_eq_some_iff.1 h2
   have : hi' = none := by cases hi' <;> simp at h3 ⊢
   subst this
   exact ao7 M (e := e) hop (hg x (by simp [Op.operands]) _ h1) (by simp [hg lo' (by simp [Op.operands]) _ hlo]) rfl h ho hmk hi
  ·rename_i a l h1 h2 h3
   obtain ⟨hi'', rfl, hhi⟩ := Option.map_eq_some_iff.1 h3
   have : lo = none := by cases lo <;> simp at h2 ⊢
   subst this
   exact ao7 M (e := e) hop (hg x (by simp [Op.operands]) _ h1) rfl (by simp [hg hi'' (by simp [Op.operands]) _ hhi]) h ho hmk hi
  ·rename_i a l hh h1 h2 h3
   obtain ⟨lo', rfl, hlo⟩ := Option.map_eq_some_iff.1 h2
   obtain ⟨hi'', rfl, hhi⟩ := Option.map_eq_some_iff.1 h3
   exact ao7 M (e := e) hop (hg x (by simp [Op.operands]) _ h1) (by simp [hg lo' (by simp [Op.operands]) _ hlo]) (by simp [hg hi'' (by simp [Op.operands]) _ hhi]) h ho hmk hi
 case call c =>
  obtain ⟨callee, args, argTypes⟩ := c
  cases callee <;> (try simp only [aj1] at h) <;> first | cases h | skip
  rename_i b
  cases b <;> (try simp only [aj1] at h) <;> first | cases h | skip
  split at h <;> first | cases h | skip
  rename_i s x t t' hx ht
  have hx' : args = #[s, x] := by apply Array.ext'; simpa using hx
  have ht' : argTypes = #[t, t'] := by apply Array.ext'; simpa using ht
  subst hx'; subst ht'
  split at h
  case h_2 => cases h
  rename_i a b h1 h2
  split at h
  ·rename_i r' h'
   cases h
   exact app_ok M hop (hg s (by simp [Op.operands, Call.operands]) _ h1) (hg x (by simp [Op.operands, Call.operands]) _ h2) h' ho hmk hi
  ·exact bb9 M hop (hg s (by simp [Op.operands, Call.operands]) _ h1) (hg x (by simp [Op.operands, Call.operands]) _ h2) h ho hmk hi
end
structure p7 where
 f : FuncId
 args : List AV
 pre : List It
 post : List It
 res : AV
def p7.ok (P : Program) (c : p7) : Prop := ∀ (ι : Type) (φ ψ : Nat → Prop) (w0 w : World) (F : ι → Rs) (ρ : Nat → Value), l5 φ ψ w0 w (o6 F ρ (s9 c.pre)) →
 Calls P c.f (AV.vals ρ c.args).toArray w fun x w' => ∃ ρ', (∀ i, i < c.pre.length → ρ' i = ρ i) ∧ x = .returned (c.res.val ρ') ∧ l5 φ ψ w0 w' (o6 F ρ' (s9 c.post))
def ao6 (P : Program) (f : FuncId) : Bool :=
 match P.funcs[f]? with
 | some fn => fn.body.isSome && !(fn.name == "runtime.NumGoroutine")
 | none => false
theorem ax7 {P : Program} {f : FuncId} (h : ao6 P f = true) (args : Array Value) (w : World) : (callFunc f args).run P w = .ok (.enter f args) w := by
 unfold ao6 at h
 cases hf : P.funcs[f]? with
 | none => rw [hf] at h; cases h
 | some fn =>
  rw [hf] at h
  simp only [Bool.and_eq_true, Bool.not_eq_true'] at h
  cases hb : fn.body with
  | none => rw [hb] at h; cases h.1
  | some c => exact aj4 hf h.2 hb args w
def memN (j : Nat) : List Nat → Bool
 | [] => false
 | x :: r => natEq j x || memN j r
def nodupB : List Nat → Bool
 | [] => true
 | x :: r => !memN x r && nodupB r
theorem r8 {j : Nat} {l : List Nat} : memN j l = true ↔ j ∈ l := by
 induction l with
 | nil => simp [memN]
 | cons x r ih => simp [memN, natEq, ih]
theorem ar5 {l : List Nat} (h : nodupB l = true) : l.Nodup := by
 induction l with
 | nil => simp
 | cons x r ih =>
  simp only [nodupB, Bool.and_eq_true, Bool.not_eq_true'] at h
  refine List.nodup_cons.2 ⟨fun hm => ?_, ih h.2⟩
  rw [r8.2 hm] at h; cases h.1
def Y6 (n : Nat) (l : List Nat) : Bool := l.all fun j => decide (j < n)
theorem I9 {n : Nat} {l : List Nat} (h : Y6 n l = true) : ∀ j ∈ l, j < n := fun j hj => by simpa using List.all_eq_true.1 h j hj
def W2 : List Nat → List It → List (Nat × It)
 | a :: r, x :: s => (a, x) :: W2 r s
 | _, _ => []
def nth (σ : List Nat) (i : Nat) : Nat := σ.getD i 0
def ah2 : List Nat → List It → List It → List (Nat × It)
 | a :: r, p :: q, x :: s => match p, x with
  | .dat _, .dat _ => ah2 r q s
  | .row _ _, .kept (some _) _ => ah2 r q s
  | .tree _, .kept none _ => ah2 r q s
  | _, _ => (a, x.unK) :: ah2 r q s
 | a :: r, [], x :: s => (a, x.unK) :: ah2 r [] s
 | _, _, _ => []
def aj6 : List It → List It → List It
 | p :: q, x :: s => match p, x with
  | .dat d, .dat _ => .dat d :: aj6 q s
  | .row e d, .kept (some _) _ => .row e d :: aj6 q s
  | .tree d, .kept none _ => .tree d :: aj6 q s
  | _, _ => aj6 q s
 | _, _ => []
def aj5 : List It → List It → List It
 | p :: q, x :: s => match p, x with
  | .dat _, .dat e => .dat e :: aj5 q s
  | .row _ _, .kept (some e) d => .row e d :: aj5 q s
  | .tree _, .kept none d => .tree d :: aj5 q s
  | _, _ => aj5 q s
 | _, _ => []
def as6 : It → It → Bool
 | .dat _, .dat _ => true
 | .row _ _, .kept (some _) _ => true
 | .tree _, .kept none _ => true
 | _, _ => false
theorem aS4 (a : Nat) (r : List Nat) (p : It) (q : List It) (x : It) (s : List It) : ah2 (a :: r) (p :: q) (x :: s) = if as6 p x then ah2 r q s else (a, x.unK) :: ah2 r q s := by
 cases p <;> cases x <;> first | rfl | (rename_i e d; cases e <;> rfl) | (rename_i d e; cases e <;> rfl) | (rename_i e d f g; cases f <;> rfl) | (rename_i d f g; cases f <;> rfl)
theorem aU5 (p : It) (q : List It) (x : It) (s : List It) : aj6 (p :: q) (x :: s) = if as6 p x then p :: aj6 q s else aj6 q s := by
 cases p <;> cases x <;> first | rfl | (rename_i e d; cases e <;> rfl) | (rename_i d e; cases e <;> rfl) | (rename_i e d f g; cases f <;> rfl) | (rename_i d f g; cases f <;> rfl)
theorem aU4 (p : It) (q : List It) (x : It) (s : List It) : aj5 (p :: q) (x :: s) = if as6 p x then x.unK :: aj5 q s else aj5 q s := by
 cases p <;> cases x <;> first | rfl | (rename_i e d; cases e <;> rfl) | (rename_i d e; cases e <;> rfl) | (rename_i e d f g; cases f <;> rfl) | (rename_i d f g; cases f <;> rfl)
theorem aB3 : ∀ {P X : List It} {i : Nat} {p x : It}, aj6 P X = aj5 P X → P[i]? = some p → X[i]? = some x → as6 p x = true → p = x.unK
 | [], _, _, _, _, _, h, _, _ => by simp at h
 | _ :: _, [], _, _, _, _, _, h, _ => by simp at h
 | p :: q, x :: s, i, p1, x1, h, h1, h2, hk => by
  rw [aU5, aU4] at h
  cases i with
  | zero =>
   simp at h1 h2
   subst h1 h2
   rw [if_pos hk, if_pos hk] at h
   exact (List.cons.inj h).1
  | succ i =>
   refine aB3 (P := q) (X := s) (i := i) ?_ (by simpa using h1) (by simpa using h2) hk
   split at h
   ·exact (List.cons.inj h).2
   ·exact h
theorem bg7 {P X : List It} {i : Nat} {d e : D} (h : aj6 P X = aj5 P X) (h1 : P[i]? = some (.dat d)) (h2 : X[i]? = some (.dat e)) : d = e := by
 have := aB3 h h1 h2 rfl
 simpa [It.unK] using this
theorem ai2 {S : Nat → It} : ∀ {σ : List Nat} {P X : List It}, σ.Nodup → (∀ (i j : Nat) (p x : It), σ[i]? = some j → P[i]? = some p → X[i]? = some x → as6 p x = true → S j = x.unK) → ∀ j, n6 S (ah2 σ P X) j = n6 S (W2 σ (X.map It.unK)) j
 | [], _, _, _, _, j => by simp [ah2, W2]
 | a :: r, P, [], _, _, j => by cases P <;> simp [ah2, W2]
 | a :: r, [], x :: s, hn, h, j => by
  simp only [ah2, W2, n6, List.map_cons]
  rw [ai2 (List.nodup_cons.1 hn).2 (fun i j d e _ h2 _ => by simp at h2) j]
 | a :: r, p :: q, x :: s, hn, h, j => by
  have ih := ai2 (S := S) (P := q) (X := s) (List.nodup_cons.1 hn).2 (fun i j d e h1 h2 h3 h4 => h (i + 1) j d e (by simpa using h1) (by simpa using h2) (by simpa using h3) h4) j
  rw [aS4]
  simp only [W2, List.map_cons]
  split
  ·rename_i hk
   rw [ih]
   simp only [n6]
   split
   ·rename_i hj
    subst hj
    rw [ae8 fun hm => (List.nodup_cons.1 hn).1 (by
     have : ∀ {σ : List Nat} {L : List It} {j : Nat}, j ∈ (W2 σ L).map (·.1) → j ∈ σ := fun {σ} => by
      induction σ with
      | nil => intro L j h; simp [W2] at h
      | cons a r ih => intro L j h; cases L with
       | nil => simp [W2] at h
       | cons y s => simp only [W2, List.map_cons, List.mem_cons] at h ⊢; exact h.imp id ih
     exact this hm)]
    exact h 0 j p x rfl rfl rfl hk
   ·rfl
  ·simp only [n6]
   rw [ih]
def aS1 : AV → Option (Nat × List AV × List AV)
 | .fn f l => some (f, [], l)
 | .bm f l => some (f, l, [])
 | _ => none
def ao8 (P : Program) (e : Operand → Option AV) (S : Nat → It) (id : Nat) (c : p7) (τ : List Nat) : Op → Option Tr
 | .call { callee := .value fo, args, .. } =>
  match (e fo).bind aS1, args.toList.mapM e with
  | some (f, _, _), some xs =>
   if natEq f c.f && ao6 P f && natEq τ.length c.pre.length && decide (c.pre.length ≤ c.post.length) && nodupB (τ ++ List.range' id (c.post.length - c.pre.length)) && c.post.all (fun x => Y6 c.post.length x.ids) && Y6 c.post.length c.res.ids then
    some ⟨ah2 (τ ++ List.range' id (c.post.length - c.pre.length)) c.pre (c.post.map (It.ren (nth (τ ++ List.range' id (c.post.length - c.pre.length))))),
     List.range' id (c.post.length - c.pre.length), c.res.ren (nth (τ ++ List.range' id (c.post.length - c.pre.length))),
     []⟩
   else none
  | _, _ => none
 | _ => none
def ao9 (e : Operand → Option AV) (S : Nat → It) (id : Nat) (c : p7) (τ : List Nat) : Op → List (List AV × List It) × List (List AV × List It)
 | .call { callee := .value fo, args, .. } =>
  match (e fo).bind aS1, args.toList.mapM e with
  | some (_, fst, caps), some xs => ([(fst ++ (xs ++ caps), τ.map S ++ aj6 c.pre c.post)], [(AV.renL (nth (τ ++ List.range' id (c.post.length - c.pre.length))) c.args, c.pre.map (It.ren (nth (τ ++ List.range' id (c.post.length - c.pre.length)))) ++ aj5 c.pre c.post)])
  | _, _ => ([], [])
 | _ => ([], [])
section
variable {P : Program} {ι : Type} {φ ψ : Nat → Prop} {w0 w w' : World} {F : ι → Rs} {ρ : Nat → Value} {S : Nat → It}
theorem aD3 {S : Nat → It} : ∀ {σ : List Nat} {L : List It} {i j : Nat} {x : It}, σ.Nodup → σ[i]? = some j → L[i]? = some x → n6 S (W2 σ L) j = x
 | [], _, _, _, _, _, h, _ => by simp at h
 | a :: r, [], _, _, _, _, _, h => by simp at h
 | a :: r, y :: s, 0, j, x, _, h1, h2 => by
  simp at h1 h2
  subst h1 h2
  simp [W2, n6]
 | a :: r, y :: s, i + 1, j, x, hn, h1, h2 => by
  have h1' : r[i]? = some j := by simpa using h1
  have hne : j ≠ a := fun e => (List.nodup_cons.1 hn).1 (e ▸ List.mem_of_getElem? h1')
  simp only [W2, n6, if_neg hne]
  exact aD3 (List.nodup_cons.1 hn).2 h1' (by simpa using h2)
theorem aC8 : ∀ {σ : List Nat} {L : List It} {j : Nat}, j ∈ (W2 σ L).map (·.1) → j ∈ σ
 | [], _, _, h => by simp [W2] at h
 | a :: r, [], _, h => by simp [W2] at h
 | a :: r, y :: s, j, h => by
  simp only [W2, List.map_cons, List.mem_cons] at h ⊢
  exact h.imp id aC8
theorem I3 {σ : List Nat} {i j : Nat} (h : σ[i]? = some j) : nth σ i = j := by simp [nth, List.getD_eq_getElem?_getD, h]
theorem ad3 {σ : List Nat} (hn : σ.Nodup) {i j : Nat} (h : σ[i]? = some j) : σ.idxOf j = i := by
 have hl := (List.getElem?_eq_some_iff.1 h).1
 have hm := List.mem_of_getElem? h
 have h1 : σ[σ.idxOf j]? = some j := by
  have := List.idxOf_lt_length_of_mem hm
  rw [List.getElem?_eq_getElem this, List.getElem_idxOf]
 exact (List.getElem?_inj (List.idxOf_lt_length_of_mem hm) hn).1 (h1.trans h.symm)
theorem p7.okPost {c : p7} (hc : c.ok P) (post : List It) (h : ∀ (ρ : Nat → Value) (i : Nat), (s9 post i).res ρ i = (s9 c.post i).res ρ i) : p7.ok P ⟨c.f, c.args, c.pre, post, c.res⟩ := by
 intro ι φ ψ w0 w F ρ M
 refine (hc ι φ ψ w0 w F ρ M).mono ?_
 rintro x w' ⟨ρ', h1, h2, M2⟩
 refine ⟨ρ', h1, h2, ?_⟩
 have e : o6 F ρ' (s9 post) = o6 F ρ' (s9 c.post) := by
  funext k
  cases k with
  | inl i => rfl
  | inr j => exact h ρ' j
 simp only
 rw [e]; exact M2
theorem ba4 {f : It → It} (hf : f .none = .none) (l : List It) (i : Nat) : s9 (l.map f) i = f (s9 l i) := by
 simp only [s9, List.getD_eq_getElem?_getD, List.getElem?_map]
 cases l[i]? with
 | none => exact hf.symm
 | some x => rfl
theorem aV2 (M : l5 φ ψ w0 w (o6 F ρ S)) {o : Oper} {e : Operand → Option AV} {g : Operand → Value} {fo : Operand} {args : Array Operand} {argTypes : Array TypeId} (hop : o.op = .call { callee := .value fo, args := args, argTypes := argTypes })
  (hg : ∀ x ∈ (Op.call { callee := .value fo, args := args, argTypes := argTypes }).operands, ∀ v, e x = some v → g x = v.val ρ) {c : p7} (hc : c.ok P) {fst caps xs : List AV} (hf : (e fo).bind aS1 = some (c.f, fst, caps)) (has : args.toList.mapM e = some xs) {τ σ : List Nat} {id m : Nat} (hm0 : m = c.post.length - c.pre.length) (hσ : τ ++ List.range' id m = σ)
  (hent : ao6 P c.f = true) (hτ : τ.length = c.pre.length) (hle : c.pre.length ≤ c.post.length) (hn : σ.Nodup) (hpost : c.post.all (fun x => Y6 c.post.length x.ids) = true) (hres : Y6 c.post.length c.res.ids = true) (hargs : fst ++ (xs ++ caps) = AV.renL (nth σ) c.args) (hSpre : ∀ i j, i < c.pre.length → σ[i]? = some j → S j = ((s9 c.pre) i).ren (nth σ))
  (L : List (Nat × It)) (hzip : n6 S L = n6 S (W2 σ (c.post.map (It.ren (nth σ))))) (hi : V1 S ρ (List.range' id m)) : H0 P o g w (F0 φ ψ w0 F ρ S ⟨L, List.range' id m, c.res.ren (nth σ), []⟩) := by
 subst hm0
 have hσl : σ.length = c.post.length := by rw [← hσ, List.length_append, List.length_range']; omega
 have hmade : ∀ i, c.pre.length ≤ i → ∀ j, σ[i]? = some j → j ∈ List.range' id (c.post.length - c.pre.length) := fun i hi' j hj => by
  rw [← hσ, List.getElem?_append_right (by omega)] at hj
  exact List.mem_of_getElem? hj
 let F' : ι ⊕ Nat → Rs := fun k => match k with | .inl i => F i | .inr j => if memN j σ then Rs.none else (S j).res ρ j
 have M1 : l5 φ ψ w0 w (o6 F' (fun i => ρ (nth σ i)) (s9 c.pre)) := by
  refine M.map (fun k : (ι ⊕ Nat) ⊕ Nat => (match k with | .inl (.inl i) => some (.inl i) | .inl (.inr j) => if memN j σ then none else some (.inr j) | .inr i => if i < c.pre.length then some (.inr (nth σ i)) else none : Option (ι ⊕ Nat))) ?_ ?_
  ·intro k k' x h1 h2
   match k, k' with
   | .inl (.inl i), .inl (.inl i') => simp at h1 h2; subst h1; simpa using h2.symm
   | .inl (.inl i), .inl (.inr j') => simp at h1; subst h1; simp at h2
   | .inl (.inl i), .inr j' => simp at h1; subst h1; simp at h2
   | .inl (.inr j), .inl (.inl i') => simp at h2; subst h2; simp at h1
   | .inr j, .inl (.inl i') => simp at h2; subst h2; simp at h1
   | .inl (.inr j), .inl (.inr j') =>
    simp at h1 h2
    rw [← h1.2] at h2
    rw [Sum.inr.inj h2.2]
   | .inl (.inr j), .inr i' =>
    simp at h1 h2
    rw [← h1.2] at h2
    have hj := Sum.inr.inj h2.2
    have hlt : i' < σ.length := by omega
    have : memN j σ = true := r8.2 (by rw [← hj, I3 (List.getElem?_eq_getElem hlt)]; exact List.getElem_mem hlt)
    rw [this] at h1; cases h1.1
   | .inr i, .inl (.inr j') =>
    simp at h1 h2
    rw [← h1.2] at h2
    have hj := Sum.inr.inj h2.2
    have hlt : i < σ.length := by omega
    have : memN j' σ = true := r8.2 (by rw [hj, I3 (List.getElem?_eq_getElem hlt)]; exact List.getElem_mem hlt)
    rw [this] at h2; cases h2.1
   | .inr i, .inr i' =>
    simp at h1 h2
    rw [← h1.2] at h2
    have hj := Sum.inr.inj h2.2
    have hlt : i < σ.length := by omega
    have hlt' : i' < σ.length := by omega
    rw [I3 (List.getElem?_eq_getElem hlt), I3 (List.getElem?_eq_getElem hlt')] at hj
    have := (List.getElem?_inj hlt hn).1 ((List.getElem?_eq_getElem hlt).trans (by rw [← hj]; exact (List.getElem?_eq_getElem hlt').symm))
    rw [this]
  ·intro k
   match k with
   | .inl (.inl i) => exact .inl ⟨.inl i, rfl, rfl⟩
   | .inl (.inr j) =>
    cases hm : memN j σ
    ·exact .inl ⟨.inr j, by simp [hm], by simp [o6, F', hm]⟩
    ·exact .inr (by simp [o6, F', hm])
   | .inr i =>
    by_cases hlt : i < c.pre.length
    ·refine .inl ⟨.inr (nth σ i), by simp [hlt], ?_⟩
     have hlt' : i < σ.length := by omega
     have h1 := hSpre i _ hlt (List.getElem?_eq_getElem hlt')
     simp only [o6]
     rw [I3 (List.getElem?_eq_getElem hlt'), h1, ← It.res_ren, I3 (List.getElem?_eq_getElem hlt')]
    ·refine .inr ?_
     simp only [o6, s9, List.getD_eq_getElem?_getD, List.getElem?_eq_none (Nat.le_of_not_lt hlt)]
     rfl
 have hcalls := hc _ φ ψ w0 w F' (fun i => ρ (nth σ i)) M1
 obtain ⟨av, hav, hcal⟩ := Option.bind_eq_some_iff.1 hf
 have hgf := hg fo (by simp [Op.operands, Call.operands]) _ hav
 have hga := aa6 (ρ := ρ) (g := g) (fun x hx v hv => hg x (by simp [Op.operands, Call.operands]; exact .inr (by simpa using hx)) v hv) has
 have hrun : (execOp g o).run P w = .ok (.enter c.f (AV.vals (fun i => ρ (nth σ i)) c.args).toArray) w := by
  have e1 : (AV.vals ρ fst).toArray ++ args.map g ++ (AV.vals ρ caps).toArray = (AV.vals (fun i => ρ (nth σ i)) c.args).toArray := by
   rw [← AV.vals_ren (ρ := ρ) (σ := nth σ) c.args, ← hargs, AV.vals_append, AV.vals_append, ← hga]
   apply Array.ext'; simp
  simp only [execOp, hop, resolve, Deferred.ofValue, Sem.run_bind, Sem.run_pure, Result.andThen_ok]
  rw [hgf]
  cases av <;> simp only [aS1, Option.some.injEq, Prod.mk.injEq, reduceCtorEq] at hcal
  ·obtain ⟨rfl, rfl, rfl⟩ := hcal
   simp only [AV.val, Sem.run_pure, Result.andThen_ok, invoke]
   simp only [AV.vals] at e1
   rw [e1]
   exact ax7 hent _ _
  ·obtain ⟨rfl, rfl, rfl⟩ := hcal
   simp only [AV.val, Sem.run_pure, Result.andThen_ok, invoke]
   simp only [AV.vals] at e1
   rw [e1]
   exact ax7 hent _ _
 refine .inr (.inr ⟨_, _, _, hrun, hcalls.mono ?_⟩)
 rintro x w' ⟨ρ', h1, rfl, M2⟩
 refine ⟨_, rfl, fun j => if memN j σ then ρ' (σ.idxOf j) else ρ j, ?_, ?_, ?_⟩
 ·intro j hj
  show (if memN j σ then ρ' (σ.idxOf j) else ρ j) = ρ j
  cases hm : memN j σ
  ·rfl
  ·obtain ⟨i, hi'⟩ := List.mem_iff_getElem?.1 (r8.1 hm)
   have hlt : i < c.pre.length := by
    rcases Nat.lt_or_ge i c.pre.length with h | h
    ·exact h
    ·exact absurd (hmade i h j hi') hj
   simp only [if_true]
   rw [ad3 hn hi', h1 i hlt, I3 hi']
 ·have hag : ∀ j, j ∉ List.range' id (c.post.length - c.pre.length) → (fun j => if memN j σ then ρ' (σ.idxOf j) else ρ j) j = ρ j := by
   intro j hj
   show (if memN j σ then ρ' (σ.idxOf j) else ρ j) = ρ j
   cases hm : memN j σ
   ·rfl
   ·obtain ⟨i, hi'⟩ := List.mem_iff_getElem?.1 (r8.1 hm)
    have hlt : i < c.pre.length := by
     rcases Nat.lt_or_ge i c.pre.length with h | h
     ·exact h
     ·exact absurd (hmade i h j hi') hj
    simp only [if_true]
    rw [ad3 hn hi', h1 i hlt, I3 hi']
  have hρσ : ∀ i, i < c.post.length → (fun j => if memN j σ then ρ' (σ.idxOf j) else ρ j) (nth σ i) = ρ' i := by
   intro i hlt
   have hi' := List.getElem?_eq_getElem (show i < σ.length by omega)
   show (if memN (nth σ i) σ then ρ' (σ.idxOf (nth σ i)) else ρ (nth σ i)) = ρ' i
   rw [I3 hi', r8.2 (List.getElem_mem _), if_pos rfl, ad3 hn hi']
  rw [hzip]
  refine M2.map (fun k : ι ⊕ Nat => (match k with | .inl i => some (.inl (.inl i)) | .inr j => if memN j σ then some (.inr (σ.idxOf j)) else some (.inl (.inr j)) : Option ((ι ⊕ Nat) ⊕ Nat))) ?_ ?_
  ·intro k k' x h2 h3
   match k, k' with
   | .inl i, .inl i' => simp at h2 h3; rw [← h2] at h3; simpa using h3.symm
   | .inl i, .inr j => simp at h2; subst h2; simp at h3; split at h3 <;> simp at h3
   | .inr j, .inl i => simp at h3; subst h3; simp at h2; split at h2 <;> simp at h2
   | .inr j, .inr j' =>
    simp only at h2 h3
    cases hm : memN j σ <;> cases hm' : memN j' σ <;> rw [hm] at h2 <;> rw [hm'] at h3 <;> simp at h2 h3 <;> subst h2 <;> simp at h3
    ·rw [h3]
    ·obtain ⟨i, hi1⟩ := List.mem_iff_getElem?.1 (r8.1 hm)
     obtain ⟨i', hi2⟩ := List.mem_iff_getElem?.1 (r8.1 hm')
     rw [ad3 hn hi1, ad3 hn hi2] at h3
     subst h3
     rw [hi1] at hi2; cases hi2; rfl
  ·intro k
   match k with
   | .inl i => exact .inl ⟨_, rfl, rfl⟩
   | .inr j =>
    cases hm : memN j σ
    ·refine .inl ⟨.inl (.inr j), by simp [hm], ?_⟩
     simp only [o6, F', hm]
     rw [ae8 fun hh => by have := r8.2 (aC8 hh); rw [hm] at this; cases this]
     exact hi _ hag j
    ·obtain ⟨i, hi'⟩ := List.mem_iff_getElem?.1 (r8.1 hm)
     have hlt : i < c.post.length := by have := (List.getElem?_eq_some_iff.1 hi').1; omega
     refine .inl ⟨.inr (σ.idxOf j), by simp [hm], ?_⟩
     rw [ad3 hn hi']
     have hx : (c.post.map (It.ren (nth σ)))[i]? = some ((c.post[i]).ren (nth σ)) := by simp [hlt]
     simp only [o6]
     rw [aD3 hn hi' hx]
     conv => lhs; rw [← I3 hi']
     rw [It.res_ren]
     have hl : s9 c.post i = c.post[i] := by simp [s9, List.getD_eq_getElem?_getD, hlt]
     rw [hl]
     exact It.res_congr _ (fun q hq => hρσ q (I9 (List.all_eq_true.1 hpost _ (List.getElem_mem hlt)) q hq)) (.inr (.inr (hρσ i hlt)))
 ·rw [AV.val_ren]
  refine (AV.val_congr _ fun q hq => ?_).symm
  have hlt := I9 hres q hq
  have hi' := List.getElem?_eq_getElem (show q < σ.length by omega)
  show (if memN (nth σ q) σ then ρ' (σ.idxOf (nth σ q)) else ρ (nth σ q)) = ρ' q
  rw [I3 hi', r8.2 (List.getElem_mem _), if_pos rfl, ad3 hn hi']
theorem bb7 (M : l5 φ ψ w0 w (o6 F ρ S)) {o : Oper} {e : Operand → Option AV} {g : Operand → Value} (hg : ∀ x ∈ o.op.operands, ∀ v, e x = some v → g x = v.val ρ) {c : p7} (hc : c.ok P) {τ : List Nat} {id : Nat} {r : Tr} (h : ao8 P e S id c τ o.op = some r) (ho : (ao9 e S id c τ o.op).1 = (ao9 e S id c τ o.op).2) (hmk : ∀ j ∈ r.made, S j = .none) (hi : V1 S ρ r.made) :
  H0 P o g w (F0 φ ψ w0 F ρ S r) := by
 cases hop : o.op <;> rw [hop] at h hg ho <;> simp only [ao8] at h <;> first | cases h | skip
 rename_i cl
 obtain ⟨callee, args, argTypes⟩ := cl
 cases callee <;> (try simp only [ao8] at h) <;> first | cases h | skip
 rename_i fo
 split at h
 case h_2 => cases h
 rename_i f fst caps xs hf has
 split at h
 case isFalse => cases h
 rename_i hcond
 cases h
 simp only [ao9, hf, has, List.cons.injEq, Prod.mk.injEq, and_true] at ho
 generalize hσ : τ ++ List.range' id (c.post.length - c.pre.length) = σ at *
 simp only [Bool.and_eq_true, decide_eq_true_eq, natEq, beq_iff_eq] at hcond
 obtain ⟨⟨⟨⟨⟨⟨rfl, hent⟩, hτ⟩, hle⟩, hnd⟩, hpost⟩, hres⟩ := hcond
 have hn := ar5 hnd
 obtain ⟨hargs, hpre⟩ := ho
 obtain ⟨hpre, hsame⟩ := List.append_inj hpre (by simp [hτ])
 have hσl : σ.length = c.post.length := by rw [← hσ, List.length_append, List.length_range']; omega
 have hστ : ∀ i, i < c.pre.length → σ[i]? = τ[i]? := fun i hi' => by rw [← hσ, List.getElem?_append_left (by omega)]
 have hmade : ∀ i, c.pre.length ≤ i → ∀ j, σ[i]? = some j → j ∈ List.range' id (c.post.length - c.pre.length) := fun i hi' j hj => by
  rw [← hσ, List.getElem?_append_right (by omega)] at hj
  exact List.mem_of_getElem? hj
 have hSpre : ∀ i j, i < c.pre.length → σ[i]? = some j → S j = ((s9 c.pre) i).ren (nth σ) := fun i j hi' hj => by
  have h1 : (τ.map S)[i]? = (c.pre.map (It.ren (nth σ)))[i]? := by rw [hpre]
  rw [List.getElem?_map, List.getElem?_map, ← hστ i hi', hj] at h1
  simp only [s9, List.getD_eq_getElem?_getD]
  rw [List.getElem?_eq_getElem hi'] at h1 ⊢
  simpa using h1
 have hc1 : p7.ok P ⟨c.f, c.args, c.pre, c.post.map It.unK, c.res⟩ := p7.okPost hc _ fun ρ i => by rw [ba4 rfl, It.res_unK]
 have hll : (c.post.map It.unK).length = c.post.length := List.length_map It.unK
 refine aV2 M hop hg hc1 hf has (by simp only; rw [hll]) hσ hent hτ (by simp only; omega) hn ?_ (by simp only; rw [hll]; exact hres) hargs hSpre _ ?_ hi
 ·simp only
  rw [hll, List.all_map]
  refine List.all_eq_true.2 fun x hx => ?_
  simp only [Function.comp, It.ids_unK]
  exact List.all_eq_true.1 hpost x hx
 ·funext j
  rw [ai2 hn (fun i j p x h1 h2 h3 hk => ?_) j]
  ·simp only [List.map_map]
   congr 3
   funext x
   exact It.unK_ren _ x
  ·have hlt : i < c.pre.length := (List.getElem?_eq_some_iff.1 h2).1
   rw [hSpre i j hlt h1]
   rw [List.getElem?_map] at h3
   cases hx : c.post[i]? with
   | none => rw [hx] at h3; simp at h3
   | some y =>
    rw [hx] at h3
    simp at h3
    subst h3
    have hk2 : as6 p y = true := by
     cases p <;> cases y <;> first | exact hk | (simp [as6, It.ren] at hk; done)
    have := aB3 hsame h2 hx hk2
    rw [show s9 c.pre i = p by simp [s9, List.getD_eq_getElem?_getD, h2], this, It.unK_ren]
end
def x9 : List (Nat × AV) → Nat → Option AV
 | [], _ => none
 | (k, x) :: r, t => if natEq t k then some x else x9 r t
abbrev rg (n : Nat) : List Nat := List.range n
theorem Y9 {p : Prop} [Decidable p] (h : decide p = false) : ¬ p := of_decide_eq_false h
theorem Y8 {p : Prop} [Decidable p] (h : decide p = true) : p := of_decide_eq_true h
def us : List (Nat × Nat × Nat) → List (Nat × Nat)
 | [] => []
 | (a, b, k) :: r => ((List.range (b + 1 - a)).map fun i => (a + i, k)) ++ us r
structure O1 where
 calls : List (Nat × p7 × List Nat)
 facts : List (Bool × Bool)
 uses : List (Nat × Nat)
def H2 : List (Nat × p7 × List Nat) → Nat → Option (p7 × List Nat)
 | [], _ => none
 | (k, x) :: r, i => if natEq i k then some x else H2 r i
def bk5 : List (Nat × Nat) → Nat → Option Nat
 | [], _ => none
 | (k, x) :: r, i => if natEq i k then some x else bk5 r i
def aR3 (H : O1) (i : Nat) : Option (Bool × Bool) := (bk5 H.uses i).bind fun k => H.facts[k]?
def P3 : List (Bool × Bool) → Prop
 | [] => True
 | p :: r => p.1 = p.2 ∧ P3 r
theorem aH9 : ∀ {l : List (Bool × Bool)} {k : Nat} {p : Bool × Bool}, P3 l → l[k]? = some p → p.1 = p.2
 | [], _, _, _, h => by simp at h
 | q :: r, 0, p, hf, h => by simp at h; subst h; exact hf.1
 | q :: r, k + 1, p, hf, h => aH9 hf.2 (by simpa using h)
theorem aH0 {H : O1} (hF : P3 H.facts) {i : Nat} {p : Bool × Bool} (h : aR3 H i = some p) : p.1 = p.2 := by
 obtain ⟨k, _, h2⟩ := Option.bind_eq_some_iff.1 h
 exact aH9 hF h2
def opT (op : Op) : List Nat := op.operands.toList.filterMap fun | .tmp t => some t | _ => none
def rtm (tm : Nat → Option AV) (l : List Nat) : Nat → Option AV := fun t => if memN t l then tm t else none
def rS (S : Nat → It) (l : List Nat) : Nat → It := fun j => if memN j l then S j else .none
def aP5 (tm : Nat → Option AV) (l : List Nat) : List Nat := (l.filterMap tm).flatMap AV.ids
def tch (tm : Nat → Option AV) (op : Op) : List Nat := match op with
 | .move _ => []
 | _ => aP5 tm (opT op)
def aA3 (d : Option (Bool × Bool)) (e : Operand → Option AV) : Op → Option Tr
 | .pick c a b =>
  match d, e c with
  | some d, some (.v (.bool _)) => (e (if d.2 then a else b)).map fun r => ⟨[], [], r, []⟩
  | _, _ => none
 | _ => none
def aA4 (d : Option (Bool × Bool)) (e : Operand → Option AV) : Op → List (List AV × List It) × List (List AV × List It)
 | .pick c _ _ =>
  match d, e c with
  | some d, some x => ([([x], [])], [([.v (.bool d.1)], [])])
  | _, _ => ([], [])
 | _ => ([], [])
def ar2 (P : Program) (dk : TypeId → Nat) (H : O1) (tm : Nat → Option AV) (S : Nat → It) (id i : Nat) (op : Op) : Option Tr :=
 match H2 H.calls i with
 | some (c, τ) => ao8 P (ev (rtm tm (opT op))) (rS S (tch tm op ++ τ)) id c τ op
 | none =>
  match aA3 (aR3 H (i + 1000)) (ev (rtm tm (opT op))) op with
  | some r => some r
  | none => aZ0 P dk (ev (rtm tm (opT op))) (rS S (tch tm op)) id op
def aL9 (H : O1) (tm : Nat → Option AV) (S : Nat → It) (id i : Nat) (op : Op) : List (List AV × List It) × List (List AV × List It) :=
 match H2 H.calls i with
 | some (c, τ) => ao9 (ev (rtm tm (opT op))) (rS S (tch tm op ++ τ)) id c τ op
 | none => aA4 (aR3 H (i + 1000)) (ev (rtm tm (opT op))) op
def aq0 (ops : List Oper) (H : O1) (tm : Nat → Option AV) (i : Nat) (o : Oper) : Option (Bool × List AV × List AV) :=
 match o.guard with
 | none => some (true, [], [])
 | some (j, want) =>
  match (ops[j]?).bind (·.dst) with
  | none => none
  | some t =>
   match tm t with
   | some (.v (.bool b)) => (aR3 H i).map fun d => (d.2 == want, [.v (.bool b)], [.v (.bool d.1)])
   | some (.v (.tuple _)) => some (false, [], [])
   | _ => none
section
variable {P : Program} {ι : Type} {φ ψ : Nat → Prop} {w0 w w' : World} {F : ι → Rs} {ρ : Nat → Value} {S : Nat → It}
theorem ac8 {S S' : Nat → It} {j : Nat} (h : S j = S' j) : ∀ (l : List (Nat × It)), n6 S l j = n6 S' l j
 | [] => h
 | (k, x) :: r => by simp only [n6]; split; rfl; exact ac8 h r
theorem H0.frame {o : Oper} {g : Operand → Value} {t : Tr} (l : List Nat) (M : l5 φ ψ w0 w (o6 F ρ S)) (hi : V1 S ρ t.made) (hmk : ∀ j ∈ t.made, S j = .none) (hnew : ∀ j ∈ t.new.map (·.1), j ∈ l ∨ S j = .none)
  (h : ∀ {κ : Type} (F' : κ → Rs), l5 φ ψ w0 w (o6 F' ρ (rS S l)) → V1 (rS S l) ρ t.made → (∀ j ∈ t.made, rS S l j = .none) → H0 P o g w (F0 φ ψ w0 F' ρ (rS S l) t)) : H0 P o g w (F0 φ ψ w0 F ρ S t) := by
 let F' : ι ⊕ Nat → Rs := fun k => match k with | .inl i => F i | .inr j => if memN j l then Rs.none else (S j).res ρ j
 have M1 : l5 φ ψ w0 w (o6 F' ρ (rS S l)) := by
  refine M.map (fun k : (ι ⊕ Nat) ⊕ Nat => (match k with | .inl (.inl i) => some (.inl i) | .inl (.inr j) => if memN j l then none else some (.inr j) | .inr j => if memN j l then some (.inr j) else none : Option (ι ⊕ Nat))) ?_ ?_
  ·intro k k' x h1 h2
   match k, k' with
   | .inl (.inl i), .inl (.inl i') => simp at h1 h2; subst h1; simpa using h2.symm
   | .inl (.inl i), .inl (.inr j') => simp at h1; subst h1; simp at h2
   | .inl (.inl i), .inr j' => simp at h1; subst h1; simp at h2
   | .inl (.inr j), .inl (.inl i') => simp at h2; subst h2; simp at h1
   | .inr j, .inl (.inl i') => simp at h2; subst h2; simp at h1
   | .inl (.inr j), .inl (.inr j') => simp at h1 h2; rw [← h1.2] at h2; rw [Sum.inr.inj h2.2]
   | .inl (.inr j), .inr j' =>
    simp at h1 h2
    rw [← h1.2] at h2
    have := Sum.inr.inj h2.2
    subst this
    rw [h1.1] at h2; cases h2.1
   | .inr j, .inl (.inr j') =>
    simp at h1 h2
    rw [← h1.2] at h2
    have := Sum.inr.inj h2.2
    subst this
    rw [h1.1] at h2; cases h2.1
   | .inr j, .inr j' => simp at h1 h2; rw [← h1.2] at h2; rw [Sum.inr.inj h2.2]
  ·intro k
   match k with
   | .inl (.inl i) => exact .inl ⟨.inl i, rfl, rfl⟩
   | .inl (.inr j) =>
    cases hm : memN j l
    ·exact .inl ⟨.inr j, by simp [hm], by simp [o6, F', hm]⟩
    ·exact .inr (by simp [o6, F', hm])
   | .inr j =>
    cases hm : memN j l
    ·exact .inr (by simp [o6, rS, hm, It.res])
    ·exact .inl ⟨.inr j, by simp [hm], by simp [o6, rS, hm]⟩
 have hi1 : V1 (rS S l) ρ t.made := fun ρ' ha j => by
  unfold rS
  split
  ·exact hi ρ' ha j
  ·rfl
 refine (h F' M1 hi1 fun j hj => by unfold rS; split; exact hmk j hj; rfl).mono ?_
 rintro v w' ⟨ρ', ha, M2, rfl⟩
 refine ⟨ρ', ha, ?_, rfl⟩
 refine M2.map (fun k : ι ⊕ Nat => (match k with | .inl i => some (.inl (.inl i)) | .inr j => if memN j l || memN j (t.new.map (·.1)) then some (.inr j) else some (.inl (.inr j)) : Option ((ι ⊕ Nat) ⊕ Nat))) ?_ ?_
 ·intro k k' x h1 h2
  match k, k' with
  | .inl i, .inl i' => simp at h1 h2; rw [← h1] at h2; simpa using h2.symm
  | .inl i, .inr j => simp only at h1 h2; cases h1; split at h2 <;> simp at h2
  | .inr j, .inl i => simp only at h1 h2; cases h2; split at h1 <;> simp at h1
  | .inr j, .inr j' =>
   simp only at h1 h2
   split at h1 <;> split at h2 <;> simp at h1 h2 <;> subst h1 <;> simp at h2 <;> rw [h2]
 ·intro k
  match k with
  | .inl i => exact .inl ⟨_, rfl, rfl⟩
  | .inr j =>
   cases hc : (memN j l || memN j (t.new.map (·.1)))
   ·refine .inl ⟨.inl (.inr j), by simp only [hc]; rfl, ?_⟩
    simp only [Bool.or_eq_false_iff] at hc
    simp only [o6, F', hc.1]
    rw [ae8 fun hh => by rw [r8.2 hh] at hc; cases hc.2]
    exact hi ρ' ha j
   ·refine .inl ⟨.inr j, by simp only [hc, if_true], ?_⟩
    simp only [o6]
    cases hm : memN j l
    ·rw [hm] at hc
     simp only [Bool.false_or] at hc
     rcases hnew j (r8.1 hc) with h1 | h1
     ·rw [r8.2 h1] at hm; cases hm
     ·rw [ac8 (S := rS S l) (S' := S) (by unfold rS; rw [hm, h1]; rfl)]
    ·rw [ac8 (S := rS S l) (S' := S) (by unfold rS; rw [hm]; rfl)]
theorem aN7 {tm : Nat → Option AV} {l : List Nat} {a : Act} {x : Operand} {v : AV} (ht : ∀ t y, t ∈ l → tm t = some y → a.tmps[t]? = some (y.val ρ)) (h : ev (rtm tm l) x = some v) : a.eval x = v.val ρ := by
 cases x with
 | tmp t =>
  simp only [ev, rtm] at h
  split at h
  ·rename_i hm
   have := ht t v (r8.1 hm) h
   simp [Act.eval, Array.getD_eq_getD_getElem?, this]
  ·cases h
 | const c => cases h; rfl
 | global g => cases h; rfl
 | func f => cases h; rfl
theorem a97 (M : l5 φ ψ w0 w (o6 F ρ S)) {o : Oper} {e : Operand → Option AV} {g : Operand → Value} (hg : ∀ x, ∀ v, e x = some v → g x = v.val ρ) {d : Option (Bool × Bool)} {r : Tr} (h : aA3 d e o.op = some r) (hd : ∀ p, d = some p → p.1 = p.2) (he : (aA4 d e o.op).1 = (aA4 d e o.op).2) : H0 P o g w (F0 φ ψ w0 F ρ S r) := by
 cases hop : o.op <;> rw [hop] at h he <;> simp only [aA3] at h <;> first | cases h | skip
 rename_i c a b
 split at h
 case h_2 => cases h
 rename_i d' x hx
 obtain ⟨v, h1, h2⟩ := Option.map_eq_some_iff.1 h
 subst h2
 simp only [aA4, hx, List.cons.injEq, Prod.mk.injEq, and_true, AV.v.injEq, Value.bool.injEq] at he
 have hc := hg c _ hx
 have hv := hg _ _ h1
 have hx2 : x = d'.2 := he.trans (hd d' rfl)
 refine .inl ⟨v.val ρ, w, ?_, ρ, A1.refl _ _, M, rfl⟩
 simp only [execOp, hop, hc, AV.val, hx2]
 cases hdd : d'.2 <;> rw [hdd] at hv <;> simp [asBool] at hv ⊢ <;> exact hv
def bj5 (l : List Nat) (made : List Nat) (t : Tr) : Bool := t.new.all fun p => memN p.1 l || memN p.1 made
theorem aF9 (M : l5 φ ψ w0 w (o6 F ρ S)) {dk : TypeId → Nat} {H : O1} (hH : ∀ i c τ, H2 H.calls i = some (c, τ) → c.ok P) (hF : P3 H.facts) {tm : Nat → Option AV} {a : Act} {o : Oper} (ht : ∀ t y, t ∈ opT o.op → tm t = some y → a.tmps[t]? = some (y.val ρ)) {id i : Nat} {r : Tr} (h : ar2 P dk H tm S id i o.op = some r) (ho : v6 r.obs) (he : (aL9 H tm S id i o.op).1 = (aL9 H tm S id i o.op).2) (hmk : ∀ j ∈ r.made, S j = .none) (hi : V1 S ρ r.made)
  (hnew : ∀ j ∈ r.new.map (·.1), j ∈ tch tm o.op ++ (match H2 H.calls i with | some (_, τ) => τ | none => []) ∨ j ∈ r.made) :
  H0 P o a.eval w (F0 φ ψ w0 F ρ S r) := by
 unfold ar2 at h
 unfold aL9 at he
 split at h
 ·rename_i c τ hcl
  rw [hcl] at hnew he
  refine H0.frame (tch tm o.op ++ τ) M hi hmk (fun j hj => (hnew j hj).imp (fun h => h) (hmk j)) fun F' M' hi' hmk' => ?_
  exact bb7 M' (e := ev (rtm tm (opT o.op))) (fun x _ v hv => aN7 ht hv) (hH i c τ hcl) h he hmk' hi'
 ·rename_i hcl
  rw [hcl] at hnew he
  refine H0.frame (tch tm o.op) M hi hmk (fun j hj => (hnew j hj).imp (fun h => by simpa using h) (hmk j)) fun F' M' hi' hmk' => ?_
  split at h
  ·rename_i q hq
   cases h
   exact a97 M' (e := ev (rtm tm (opT o.op))) (fun x v hv => aN7 ht hv) hq (fun p hp => aH0 hF hp) he
  ·exact aY9 M' (e := ev (rtm tm (opT o.op))) (fun x _ v hv => aN7 ht hv) h ho hmk' hi'
theorem ae7 {ops : List Oper} {H : O1} (hF : P3 H.facts) {tm : Nat → Option AV} {i : Nat} {o : Oper} {a : Act} {b : Bool} {l r : List AV} (h : aq0 ops H tm i o = some (b, l, r)) (ho : l = r)
  (ht : ∀ t y, (∃ j wnt, o.guard = some (j, wnt) ∧ (ops[j]?).bind (·.dst) = some t) → tm t = some y → a.tmps[t]? = some (y.val ρ)) : Region.wanted o (yielded ops.toArray a.tmps) = b := by
 unfold aq0 at h
 unfold Region.wanted
 cases hg : o.guard with
 | none => rw [hg] at h; cases h; rfl
 | some q =>
  obtain ⟨j, want⟩ := q
  rw [hg] at h
  simp only at h ⊢
  split at h
  case h_1 => cases h
  rename_i t hd
  have hy : ∀ y, tm t = some y → a.tmps[t]? = some (y.val ρ) := fun y hy => ht t y ⟨j, want, hg, hd⟩ hy
  unfold yielded
  rw [show ((ops.toArray[j]?).bind (·.dst)).bind (a.tmps[·]?) = a.tmps[t]? by simp only [List.getElem?_toArray, hd]; rfl]
  split at h
  ·rename_i x b' hb
   rw [hy _ hb]
   obtain ⟨d, h1, h2⟩ := Option.map_eq_some_iff.1 h
   cases h2
   simp only [List.cons.injEq, AV.v.injEq, Value.bool.injEq, and_true] at ho
   simp only [AV.val]
   rw [ho, aH0 hF h1]
   rfl
  ·rename_i x b' hb
   rw [hy _ hb]
   cases h
   rfl
  ·cases h
end
structure Ac where
 dst : Option Nat
 t : Tr
 want : Bool
 rt : List Nat
 ri : List Nat
 eqs : List (List AV × List It) × List (List AV × List It)
 eqw : List AV × List AV
def bf5 : Tr := ⟨[], [], .v undef, []⟩
def aL5 (dst : Option Nat) (x : AV) (tm : List (Nat × AV)) : List (Nat × AV) :=
 match dst with
 | some d => (d, x) :: tm
 | none => tm
def au9 (dst : Option Nat) (x : AV) (tm : Nat → Option AV) : Nat → Option AV := fun t => if dst = some t then some x else tm t
def a50 (N : Nat) (dst : Option Nat) : Bool := match dst with | some d => decide (d < N) | none => true
def aH6 (n : Nat) (t : Tr) : Bool :=
 t.new.all (fun p => decide (p.1 < n + 8) && Y6 (n + 8) p.2.ids) && t.made.all (fun j => decide (n ≤ j) && decide (j < n + 8)) && Y6 (n + 8) t.res.ids
def aB7 (ops : List Oper) (o : Oper) : List Nat :=
 match o.guard with
 | some (j, _) => ((ops[j]?).bind (·.dst)).toList
 | none => []
def aS0 (H : O1) (i : Nat) : List Nat := match H2 H.calls i with
 | some (_, τ) => τ
 | none => []
def opA (P : Program) (dk : TypeId → Nat) (N : Nat) (ops : List Oper) (H : O1) (i : Nat) (o : Oper) (tm : Nat → Option AV) (S : Nat → It) (n : Nat) : Option (Ac × List Prop) :=
 if a50 N o.dst then
  match aq0 ops H tm i o with
  | none => none
  | some (false, l, r) => some (⟨o.dst, bf5, false, aB7 ops o, [], ([], []), (l, r)⟩, [])
  | some (true, l, r) =>
   match ar2 P dk H tm S n i o.op with
   | none => none
   | some t =>
    if aH6 n t && bj5 (tch tm o.op ++ aS0 H i) t.made t then some (⟨o.dst, t, true, opT o.op ++ aB7 ops o, tch tm o.op ++ aS0 H i, aL9 H tm S n i o.op, (l, r)⟩, t.obs) else none
 else none
structure RS where
 acts : List Ac
 obs : List Prop
 tm : List (Nat × AV)
 S : Nat → It
def I2 (P : Program) (dk : TypeId → Nat) (N : Nat) (ops : List Oper) (H : O1) : List Oper → Nat → List (Nat × AV) → (Nat → It) → Nat → Option RS
 | [], _, tm, S, _ => some ⟨[], [], tm, S⟩
 | o :: r, i, tm, S, n =>
  match opA P dk N ops H i o (x9 tm) S n with
  | none => none
  | some (a, ob) =>
   match I2 P dk N ops H r (i + 1) (aL5 a.dst a.t.res tm) (n6 S a.t.new) (n + 8) with
   | none => none
   | some s => some ⟨a :: s.acts, ob ++ s.obs, s.tm, s.S⟩
section
variable {P : Program} {ι : Type} {φ ψ : Nat → Prop} {w0 w w' : World} {F : ι → Rs} {ρ : Nat → Value} {S : Nat → It} {N m n : Nat} {ρ0 : Nat → Value}
structure Inn (φ ψ : Nat → Prop) (w0 : World) (F : ι → Rs) (N m : Nat) (ρ0 : Nat → Value) (n : Nat) (ρ : Nat → Value) (tm : Nat → Option AV) (S : Nat → It) (a : Act) (w : World) : Prop where
 size : a.tmps.size = N
 defs : a.defers = []
 tmv : ∀ t x, tm t = some x → a.tmps[t]? = some (x.val ρ)
 tmi : ∀ t x, tm t = some x → ∀ id ∈ x.ids, id < n
 bd : ∀ j, (∀ id ∈ (S j).ids, id < n) ∧ (n ≤ j → S j = .none)
 mem : l5 φ ψ w0 w (o6 F ρ S)
 le : m ≤ n
 old : ∀ i, i < m → ρ i = ρ0 i
theorem Inn.inv {tm : Nat → Option AV} {a : Act} (I : Inn φ ψ w0 F N m ρ0 n ρ tm S a w) {mk : List Nat} (h : ∀ j ∈ mk, n ≤ j) : V1 S ρ mk := fun ρ' ha j => by
 have hlt : ∀ id, id < n → ρ' id = ρ id := fun id hid => ha id fun hm => by have := h id hm; omega
 refine It.res_congr _ (fun id hid => hlt id ((I.bd j).1 id hid)) ?_
 rcases Nat.lt_or_ge j n with hj | hj
 ·exact .inr (.inr (hlt j hj))
 ·exact .inl ((I.bd j).2 hj)
theorem ax3 {dst : Option Nat} {x : AV} {tm : List (Nat × AV)} : x9 (aL5 dst x tm) = au9 dst x (x9 tm) := by
 funext t
 cases dst with
 | none => simp [aL5, au9]
 | some d =>
  simp only [aL5, x9, au9, natEq]
  by_cases h : t = d
  ·subst h; simp
  ·simp [h, Ne.symm h]
theorem U4 {t : Tr} (h : aH6 n t = true) : (∀ p ∈ t.new, p.1 < n + 8 ∧ ∀ id ∈ p.2.ids, id < n + 8) ∧ (∀ j ∈ t.made, n ≤ j ∧ j < n + 8) ∧ ∀ id ∈ t.res.ids, id < n + 8 := by
 simp only [aH6, Bool.and_eq_true] at h
 refine ⟨fun p hp => ?_, fun j hj => ?_, I9 h.2⟩
 ·have := List.all_eq_true.1 h.1.1 p hp
  simp only [Bool.and_eq_true, decide_eq_true_eq] at this
  exact ⟨this.1, I9 this.2⟩
 ·have := List.all_eq_true.1 h.1.2 j hj
  simpa using this
theorem a75 {l : List (Nat × It)} {m : Nat} (hS : ∀ j, (∀ id ∈ (S j).ids, id < m) ∧ (m ≤ j → S j = .none)) (h : ∀ p ∈ l, p.1 < m ∧ ∀ id ∈ p.2.ids, id < m) : ∀ j, (∀ id ∈ (n6 S l j).ids, id < m) ∧ (m ≤ j → n6 S l j = .none) := by
 induction l with
 | nil => exact hS
 | cons p r ih =>
  obtain ⟨k, x⟩ := p
  intro j
  have hp := h (k, x) List.mem_cons_self
  simp only at hp
  simp only [n6]
  by_cases e : j = k
  ·rw [if_pos e]
   exact ⟨hp.2, fun hm => by omega⟩
  ·rw [if_neg e]
   exact ih (fun p hp => h p (List.mem_cons_of_mem _ hp)) j
theorem aF3 (a : Act) (dst : Option Nat) (v : Value) : (a.put dst v).tmps.size = a.tmps.size := by cases dst <;> simp [Act.put]
theorem aF4 (a : Act) (dst : Option Nat) (v : Value) : (a.put dst v).defers = a.defers := by cases dst <;> simp [Act.put]
theorem a09 {a : Act} {dst : Option Nat} {v : Value} {t : Nat} (h : a50 a.tmps.size dst = true) : (a.put dst v).tmps[t]? = if dst = some t then some v else a.tmps[t]? := by
 cases dst with
 | none => simp [Act.put]
 | some d =>
  have hd : d < a.tmps.size := by simpa [a50] using h
  simp only [Act.put, Option.some.injEq]
  rw [Array.getElem?_setIfInBounds]
  by_cases e : d = t
  ·subst e; simp [hd]
  ·simp [e]
theorem Inn.next {tm : Nat → Option AV} {a : Act} (I : Inn φ ψ w0 F N m ρ0 n ρ tm S a w) {t : Tr} {dst : Option Nat} (hd : a50 N dst = true) (hf : aH6 n t = true) {ρ' : Nat → Value} (ha : A1 t.made ρ ρ') (M : l5 φ ψ w0 w' (o6 F ρ' (n6 S t.new))) :
  Inn φ ψ w0 F N m ρ0 (n + 8) ρ' (au9 dst t.res tm) (n6 S t.new) (a.put dst (t.res.val ρ')) w' := by
 obtain ⟨h1, h2, h3⟩ := U4 hf
 have hlt : ∀ id, id < n → ρ' id = ρ id := fun id hid => ha id fun hm => by have := (h2 id hm).1; omega
 refine ⟨(aF3 _ _ _).trans I.size, (aF4 _ _ _).trans I.defs, fun s x hx => ?_, fun s x hx => ?_, a75 (fun j => ⟨fun id hid => by have := (I.bd j).1 id hid; omega, fun hj => (I.bd j).2 (by omega)⟩) h1, M, by have := I.le; omega, fun i hi => (hlt i (by have := I.le; omega)).trans (I.old i hi)⟩
 ·rw [a09 (by rw [I.size]; exact hd)]
  simp only [au9] at hx
  split
  ·rename_i e; rw [if_pos e] at hx; cases hx; rfl
  ·rename_i e
   rw [if_neg e] at hx
   rw [I.tmv s x hx, AV.val_congr x fun id hid => hlt id (I.tmi s x hx id hid)]
 ·simp only [au9] at hx
  split at hx
  ·cases hx; exact h3
  ·intro id hid; have := I.tmi s x hx id hid; omega
theorem bf1 {dk : TypeId → Nat} {H : O1} (hH : ∀ i c τ, H2 H.calls i = some (c, τ) → c.ok P) (hF : P3 H.facts) {ops : List Oper} {i : Nat} {o : Oper} {tm : Nat → Option AV} {a : Act} (I : Inn φ ψ w0 F N m ρ0 n ρ tm S a w) {ac : Ac} {obs : List Prop} (h : opA P dk N ops H i o tm S n = some (ac, obs)) (ho : v6 obs) (he : ac.eqs.1 = ac.eqs.2) (hw' : ac.eqw.1 = ac.eqw.2)
  {Q : Exit → Act → World → Prop} {rest : List Oper} (hk : ∀ ρ' w', A1 ac.t.made ρ ρ' → l5 φ ψ w0 w' (o6 F ρ' (n6 S ac.t.new)) → wpList P ops.toArray Q rest (a.put o.dst (ac.t.res.val ρ')) w') : wpList P ops.toArray Q (o :: rest) a w := by
 unfold opA at h
 split at h
 case isFalse => cases h
 rename_i hd
 split at h
 case h_1 => cases h
 ·rename_i l r hw
  cases h
  refine aP9 (ae7 (ρ := ρ) hF hw hw' fun t y _ hy => I.tmv t y hy) ?_
  exact hk ρ w (A1.refl _ _) (by simpa [bf5, n6] using I.mem)
 ·rename_i l r hw
  split at h
  case h_1 => cases h
  rename_i t ht
  split at h
  case isFalse => cases h
  rename_i hf
  cases h
  simp only [Bool.and_eq_true] at hf
  obtain ⟨h1, h2, h3⟩ := U4 hf.1
  refine H0.wp (ae7 (ρ := ρ) hF hw hw' fun t y _ hy => I.tmv t y hy) ?_
  refine (aF9 I.mem hH hF (fun t y _ hy => I.tmv t y hy) ht ho he (fun j hj => (I.bd j).2 (h2 j hj).1) (I.inv fun j hj => (h2 j hj).1) (fun j hj => ?_)).mono ?_
  ·obtain ⟨p, hp, rfl⟩ := List.mem_map.1 hj
   have := List.all_eq_true.1 hf.2 p hp
   simp only [Bool.or_eq_true] at this
   exact this.imp r8.1 r8.1
  ·rintro v w' ⟨ρ', p1, p2, rfl⟩
   exact hk ρ' w' p1 p2
theorem aA6 {dk : TypeId → Nat} {H : O1} {ops : List Oper} {i : Nat} {o : Oper} {tm : Nat → Option AV} {ac : Ac} {obs : List Prop} (h : opA P dk N ops H i o tm S n = some (ac, obs)) : ac.dst = o.dst ∧ a50 N o.dst = true ∧ aH6 n ac.t = true := by
 unfold opA at h
 split at h
 case isFalse => cases h
 rename_i hd
 split at h
 case h_1 => cases h
 ·cases h; exact ⟨rfl, hd, rfl⟩
 ·split at h
  case h_1 => cases h
  split at h
  case isFalse => cases h
  rename_i hf
  cases h
  simp only [Bool.and_eq_true] at hf
  exact ⟨rfl, hd, hf.1⟩
theorem aQ2 {dk : TypeId → Nat} {H : O1} (hH : ∀ i c τ, H2 H.calls i = some (c, τ) → c.ok P) (hF : P3 H.facts) {ops : List Oper} {Q : Exit → Act → World → Prop} : ∀ (l : List Oper) (i n : Nat) {tm : List (Nat × AV)} {S : Nat → It} {ρ : Nat → Value} {a : Act} {w : World} {r : RS}, Inn φ ψ w0 F N m ρ0 n ρ (x9 tm) S a w → I2 P dk N ops H l i tm S n = some r → v6 r.obs → r.acts.map (·.eqs.1) = r.acts.map (·.eqs.2) → r.acts.map (·.eqw.1) = r.acts.map (·.eqw.2) →
  (∀ ρ' a' w' n', Inn φ ψ w0 F N m ρ0 n' ρ' (x9 r.tm) r.S a' w' → Q .normal a' w') → wpList P ops.toArray Q l a w
 | [], i, n, tm, S, ρ, a, w, r, I, h, _, _, _, hk => by cases h; exact hk _ _ _ _ I
 | o :: l, i, n, tm, S, ρ, a, w, r, I, h, ho, he, hw', hk => by
  simp only [I2] at h
  split at h
  case h_1 => cases h
  rename_i ac ob h1
  split at h
  case h_1 => cases h
  rename_i s h2
  cases h
  simp only [v6.append] at ho
  simp only [List.map_cons, List.cons.injEq] at he hw'
  obtain ⟨q1, q2, q3⟩ := aA6 h1
  refine bf1 hH hF I h1 ho.1 he.1 hw'.1 fun ρ' w' ha M => ?_
  have I' : Inn φ ψ w0 F N m ρ0 (n + 8) ρ' (x9 (aL5 ac.dst ac.t.res tm)) (n6 S ac.t.new) (a.put o.dst (ac.t.res.val ρ')) w' := by
   rw [ax3, q1]
   exact I.next q2 q3 ha M
  exact aQ2 hH hF l (i + 1) (n + 8) I' h2 ho.2 he.2 hw'.2 hk
end
section
variable {P : Program}
structure T0 (wr w : World) (S : Nat → Prop) : Prop where
 below : Below wr.heap.size wr w
 box : ∀ b, S b → wr.heap.size ≤ b ∧ b < w.heap.size
theorem T0.start (w : World) : T0 w w.drew fun _ => False := ⟨(Below.refl _ _).drew, fun _ h => h.elim⟩
theorem T0.call {wr w w' : World} {S : Nat → Prop} (h : T0 wr w S) (b : Below w.heap.size w w') : T0 wr w' S := ⟨h.below.trans (b.mono h.below.size), fun c hc => ⟨(h.box c hc).1, Nat.lt_of_lt_of_le (h.box c hc).2 b.size⟩⟩
theorem T0.new {wr w w' : World} {S : Nat → Prop} (h : T0 wr w S) (b : Below w.heap.size w w') (hs : w.heap.size < w'.heap.size) : T0 wr w' fun c => S c ∨ c = w.heap.size :=
 ⟨h.below.trans (b.mono h.below.size), fun c hc => by
  rcases hc with hc | rfl
  ·exact ⟨(h.box c hc).1, Nat.lt_of_lt_of_le (h.box c hc).2 b.size⟩
  ·exact ⟨h.below.size, hs⟩⟩
def RF (φ S : Nat → Prop) (b : Nat) : Prop := φ b ∧ ¬ S b
theorem T0.fresh {wr w : World} {S φ : Nat → Prop} (h : T0 wr w S) (hf : ∀ b, wr.heap.size ≤ b → φ b) : ∀ b, w.heap.size ≤ b → RF φ S b := fun b hb => ⟨hf b (Nat.le_trans h.below.size hb), fun hs => by have := (h.box b hs).2; omega⟩
theorem T0.old {wr w : World} {S φ : Nat → Prop} (h : T0 wr w S) {R : World → (Nat → Prop) → Prop} (hn : U9 R) (hr : R wr φ) : R w (RF φ S) :=
 hn _ _ _ _ ⟨h.below.size, fun b hb hf => ⟨⟨hf, fun hs => by have := (h.box b hs).1; omega⟩, h.below.block b hb⟩⟩ hr
end
theorem C1.region {φ ψ : Nat → Prop} {w0 wr w : World} {L : List W0} {S : Nat → Prop} (M : C1 φ ψ w0 wr L) (hg : T0 wr w S) {g : Nat} {cs : List Value} (hb : y8 w g cs) (hs : S g) : C1 φ ψ w0 w (L ++ [.box g cs]) :=
 M.add hg.below _ hb fun g' h => by cases h; exact (hg.box _ hs).1
theorem RF.app {φ S : Nat → Prop} {L : List W0} {b : Nat} (h : RF (Fr φ L) S b) (X : List W0) (hX : ∀ r ∈ X, ∀ g, r.blk g → S g) : Fr φ (L ++ X) b :=
 ⟨h.1.1, fun r hr he => by
  rcases List.mem_append.1 hr with hr | hr
  ·exact h.1.2 r hr he
  ·exact h.2 (hX r hr b he)⟩
section
variable {P : Program}
def Z6 (ops : Array Oper) : Bool := (List.range ops.size).all fun j => (ops[j]?).any fun o => o.after.all fun e => !Region.binds .any e || decide (e.on < j)
theorem au3 {ops : Array Oper} (hb : Z6 ops = true) {k : Nat} {o : Oper} (hk : k < ops.size) (ho : ops[k]? = some o) {e : Edge} (he : e ∈ o.after) (hbi : Region.binds .any e = true) : e.on < k := by
 have h1 := List.all_eq_true.1 hb k (List.mem_range.2 hk)
 rw [ho] at h1
 simp only [Option.any_some] at h1
 have h2 := Array.all_eq_true'.1 h1 e he
 rw [hbi] at h2
 simpa using h2
theorem aE2 {ops : Array Oper} (hb : Z6 ops = true) {listed : Array Bool} (hsz : listed.size = ops.size) : ∀ k, k < ops.size → listed.getD k true = false → Region.ready .any ops listed ≠ [] := by
 intro k
 induction k using Nat.strongRecOn with
 | _ k ih =>
  intro hk hl hn
  by_cases hall : ∃ j, j < k ∧ listed.getD j true = false
  ·obtain ⟨j, hj, hlj⟩ := hall
   exact ih j hj (by omega) hlj hn
  ·have hok : ops[k]? = some ops[k] := Array.getElem?_eq_getElem hk
   have : k ∈ Region.ready .any ops listed := by
    refine mem_ready.2 ⟨hl, ops[k], hok, fun e he hbi => ?_⟩
    have h2 := au3 hb hk hok he hbi
    cases h3 : listed.getD e.on true
    ·exact absurd ⟨e.on, h2, h3⟩ hall
    ·have : e.on < listed.size := by omega
     simp [this] at h3 ⊢
     exact h3
   rw [hn] at this
   cases this
theorem aR4 {a : Array Bool} {j : Nat} (h : j < a.size) : a.getD j true = a.getD j false := by simp [h]
end
def pf {β : Type} (wr : Ac → Option β) : List Ac → Nat → (Nat → Bool) → β → β
 | [], _, _, v => v
 | a :: r, k, B, v => pf wr r (k + 1) B (match wr a with | some x => if B k then x else v | none => v)
theorem M4 {β : Type} {wr : Ac → Option β} {B B' : Nat → Bool} : ∀ {az : List Ac} {k : Nat} {v : β}, (∀ j a, az[j]? = some a → (wr a).isSome = true → B (k + j) = B' (k + j)) → pf wr az k B v = pf wr az k B' v
 | [], _, _, _ => rfl
 | a :: r, k, v, h => by
  simp only [pf]
  have h0 := h 0 a rfl
  have hr : ∀ j b, r[j]? = some b → (wr b).isSome = true → B (k + 1 + j) = B' (k + 1 + j) := fun j b hb hw => by
   have := h (j + 1) b (by simpa using hb) hw
   rw [show k + (j + 1) = k + 1 + j by omega] at this; exact this
  cases hw : wr a with
  | none => exact M4 hr
  | some x =>
   rw [hw] at h0
   simp only [Nat.add_zero, Option.isSome_some, forall_const] at h0
   rw [h0]
   exact M4 hr
theorem Q4 {β : Type} {wr : Ac → Option β} {B : Nat → Bool} : ∀ {az : List Ac} {k : Nat} {v : β}, (∀ j a, az[j]? = some a → (wr a).isSome = true → B (k + j) = false) → pf wr az k B v = v
 | [], _, _, _ => rfl
 | a :: r, k, v, h => by
  simp only [pf]
  have h0 := h 0 a rfl
  have hr : ∀ j b, r[j]? = some b → (wr b).isSome = true → B (k + 1 + j) = false := fun j b hb hw => by
   have := h (j + 1) b (by simpa using hb) hw
   rw [show k + (j + 1) = k + 1 + j by omega] at this; exact this
  rw [Q4 hr]
  cases hw : wr a with
  | none => rfl
  | some x =>
   rw [hw] at h0
   simp only [Nat.add_zero, Option.isSome_some, forall_const] at h0
   simp [h0]
theorem aA5 {β : Type} {wr : Ac → Option β} {B : Nat → Bool} : ∀ {az : List Ac} {k i : Nat} {v x : β} {a : Ac}, az[i]? = some a → wr a = some x → B (k + i) = true → (∀ j b, i < j → az[j]? = some b → (wr b).isSome = true → B (k + j) = false) → pf wr az k B v = x
 | [], _, _, _, _, _, h, _, _, _ => by simp at h
 | b :: r, k, 0, v, x, a, h, hw, hB, hn => by
  simp at h; subst h
  simp only [pf, hw]
  rw [Nat.add_zero] at hB
  rw [hB, if_pos rfl]
  refine Q4 fun j c hc hs => ?_
  have := hn (j + 1) c (by omega) (by simpa using hc) hs
  rw [show k + (j + 1) = k + 1 + j by omega] at this; exact this
 | b :: r, k, i + 1, v, x, a, h, hw, hB, hn => by
  simp only [pf]
  refine aA5 (i := i) (by simpa using h) hw (by rw [show k + 1 + i = k + (i + 1) by omega]; exact hB) fun j c hj hc hs => ?_
  have := hn (j + 1) c (by omega) (by simpa using hc) hs
  rw [show k + (j + 1) = k + 1 + j by omega] at this; exact this
theorem af9 {β : Type} {wr : Ac → Option β} {B : Nat → Bool} (p : β → Prop) : ∀ {az : List Ac} {k : Nat} {v : β}, p v → (∀ j a x, az[j]? = some a → B (k + j) = true → wr a = some x → p x) → p (pf wr az k B v)
 | [], _, _, h, _ => h
 | a :: r, k, v, h, hs => by
  simp only [pf]
  refine af9 p ?_ fun j b x hb hB hw => hs (j + 1) b x (by simpa using hb) (by rw [show k + (j + 1) = k + 1 + j by omega]; exact hB) hw
  cases hw : wr a with
  | none => exact h
  | some x =>
   simp only
   split
   ·rename_i hB; exact hs 0 a x rfl (by simpa using hB) hw
   ·exact h
def at1 : List (Nat × It) → Nat → Option It
 | [], _ => none
 | (k, x) :: r, i => if i = k then some x else at1 r i
theorem ai3 (S : Nat → It) (i : Nat) : ∀ (l : List (Nat × It)), n6 S l i = match at1 l i with | some x => x | none => S i
 | [] => rfl
 | (k, x) :: r => by simp only [n6, at1]; split; rfl; exact ai3 S i r
theorem L5 {l : List (Nat × It)} {i : Nat} {x : It} (h : at1 l i = some x) : (i, x) ∈ l := by
 induction l with
 | nil => cases h
 | cons p r ih =>
  obtain ⟨k, y⟩ := p
  simp only [at1] at h
  split at h
  ·rename_i e; cases h; rw [e]; exact List.mem_cons_self
  ·exact List.mem_cons_of_mem _ (ih h)
def wrT (t : Nat) (a : Ac) : Option (Option AV) := if a.dst = some t then some (some a.t.res) else none
def wrS (i : Nat) (a : Ac) : Option It := at1 a.t.new i
def tmD (az : List Ac) (B : Nat → Bool) (tm : Nat → Option AV) : Nat → Option AV := fun t => pf (wrT t) az 0 B (tm t)
def sD (az : List Ac) (B : Nat → Bool) (S : Nat → It) : Nat → It := fun i => pf (wrS i) az 0 B (S i)
def bef (ms : List Nat) (j i : Nat) : Bool := (nth ms i).testBit j
def aM6 (ms : List Nat) (o : Oper) : Nat := o.after.foldl (fun s e => if Region.binds .any e then s ||| (2 ^ e.on ||| nth ms e.on) else s) 0
def aB0 (ms : List Nat) (l : List Oper) : Bool := (List.range l.length).all fun i => match l[i]? with | some o => natEq (nth ms i) (aM6 ms o) | none => false
def V9 (a b : Ac) : Bool :=
 (match b.dst with | some t => memN t a.rt || (match a.dst with | some s => natEq s t | none => false) | none => false) ||
 b.t.new.any (fun p => memN p.1 a.ri || a.t.new.any fun q => natEq q.1 p.1)
def be8 (ms : List Nat) (az : List Ac) : Bool :=
 (List.range az.length).all fun i => (List.range az.length).all fun j =>
  match az[i]?, az[j]? with
  | some a, some b => natEq i j || !V9 a b || (if decide (j < i) then bef ms j i else bef ms i j)
  | _, _ => false
def a26 (ms : List Nat) (n0 : Nat) (az : List Ac) : Bool :=
 (List.range az.length).all fun i =>
  match az[i]? with
  | some a => (a.t.res.ids ++ a.t.new.map (·.1) ++ a.t.new.flatMap (fun p => p.2.ids)).all fun id => decide (id < n0) || natEq ((id - n0) / 8) i || bef ms ((id - n0) / 8) i
  | none => false
section
variable {P : Program} {ι : Type} {φ ψ : Nat → Prop} {w0 w w' : World} {F : ι → Rs} {ρ : Nat → Value} {S : Nat → It} {N n : Nat}
theorem as9 {α β : Type} {f g : α → Option β} : ∀ {l : List α}, (∀ x ∈ l, f x = g x) → l.filterMap f = l.filterMap g
 | [], _ => rfl
 | a :: r, h => by rw [List.filterMap_cons, List.filterMap_cons, h a List.mem_cons_self, as9 fun x hx => h x (List.mem_cons_of_mem _ hx)]
theorem al7 {ops : List Oper} {H : O1} {tm tm' : Nat → Option AV} {i : Nat} {o : Oper} (h : ∀ t ∈ aB7 ops o, tm' t = tm t) : aq0 ops H tm' i o = aq0 ops H tm i o := by
 unfold aq0
 unfold aB7 at h
 cases hg : o.guard with
 | none => rfl
 | some q =>
  obtain ⟨j, want⟩ := q
  rw [hg] at h
  simp only at h ⊢
  cases hd : (ops[j]?).bind (·.dst) with
  | none => rfl
  | some t =>
   rw [hd] at h
   simp only at h ⊢
   rw [h t (by simp)]
theorem aT5 {dk : TypeId → Nat} {H : O1} {ops : List Oper} {i : Nat} {o : Oper} {tm tm' : Nat → Option AV} {S S' : Nat → It} {ac : Ac} {ob : List Prop} (h : opA P dk N ops H i o tm S n = some (ac, ob)) (ht : ∀ t ∈ ac.rt, tm' t = tm t) (hs : ∀ j ∈ ac.ri, S' j = S j) : opA P dk N ops H i o tm' S' n = some (ac, ob) := by
 unfold opA at h ⊢
 split at h
 case isFalse => cases h
 rename_i hd
 rw [if_pos hd]
 cases hw : aq0 ops H tm i o with
 | none => rw [hw] at h; cases h
 | some q =>
  obtain ⟨b, lq, rq⟩ := q
  rw [hw] at h
  cases b
  ·simp only at h
   cases h
   rw [al7 (tm := tm) ht, hw]
  ·simp only at h
   cases hr : ar2 P dk H tm S n i o.op with
   | none => rw [hr] at h; cases h
   | some t =>
    rw [hr] at h
    simp only at h
    split at h
    case isFalse => cases h
    rename_i hf
    cases h
    simp only at ht hs
    rw [al7 (tm := tm) fun t ht' => ht t (List.mem_append_right _ ht'), hw]
    have e1 : rtm tm' (opT o.op) = rtm tm (opT o.op) := by
     funext t
     unfold rtm
     split
     ·rename_i hm; exact ht t (List.mem_append_left _ (r8.1 hm))
     ·rfl
    have e2 : tch tm' o.op = tch tm o.op := by
     have e9 : aP5 tm' (opT o.op) = aP5 tm (opT o.op) := by
      unfold aP5
      congr 1
      exact as9 fun t ht' => ht t (List.mem_append_left _ ht')
     unfold tch
     split
     ·rfl
     ·exact e9
    have e3 : ar2 P dk H tm' S' n i o.op = ar2 P dk H tm S n i o.op := by
     unfold ar2
     cases hc : H2 H.calls i with
     | none =>
      simp only
      rw [e1, e2]
      have e5 : rS S' (tch tm o.op) = rS S (tch tm o.op) := by
       funext j
       unfold rS
       split
       ·rename_i hm; exact hs j (List.mem_append_left _ (r8.1 hm))
       ·rfl
      rw [e5]
     | some q =>
      obtain ⟨c, τ⟩ := q
      simp only
      rw [e1, e2]
      congr 1
      funext j
      unfold rS
      split
      ·rename_i hm
       refine hs j ?_
       unfold aS0
       rw [hc]; exact r8.1 hm
      ·rfl
    have e4 : aL9 H tm' S' n i o.op = aL9 H tm S n i o.op := by
     unfold aL9
     cases hc : H2 H.calls i with
     | none => simp only; rw [e1]
     | some q =>
      obtain ⟨c, τ⟩ := q
      simp only
      rw [e1, e2]
      congr 1
      funext j
      unfold rS
      split
      ·rename_i hm
       refine hs j ?_
       unfold aS0
       rw [hc]; exact r8.1 hm
      ·rfl
    rw [e3, hr, e4]
    simp only
    rw [e2, if_pos hf]
theorem a98 {dk : TypeId → Nat} {H : O1} (hH : ∀ i c τ, H2 H.calls i = some (c, τ) → c.ok P) (hF : P3 H.facts) {ops : List Oper} {i : Nat} {o : Oper} {tm : Nat → Option AV} {a : Act} (hv : ∀ t x, tm t = some x → a.tmps[t]? = some (x.val ρ)) (M : l5 φ ψ w0 w (o6 F ρ S)) {ac : Ac} {obs : List Prop} (h : opA P dk N ops H i o tm S n = some (ac, obs)) (ho : v6 obs) (he : ac.eqs.1 = ac.eqs.2) (hw' : ac.eqw.1 = ac.eqw.2)
  (hmk : ∀ j ∈ ac.t.made, S j = .none) (hi : V1 S ρ ac.t.made)
  {Q : Exit → Act → World → Prop} {rest : List Oper} (hk : ∀ ρ' w', A1 ac.t.made ρ ρ' → l5 φ ψ w0 w' (o6 F ρ' (n6 S ac.t.new)) → wpList P ops.toArray Q rest (a.put o.dst (ac.t.res.val ρ')) w') : wpList P ops.toArray Q (o :: rest) a w := by
 unfold opA at h
 split at h
 case isFalse => cases h
 rename_i hd
 split at h
 case h_1 => cases h
 ·rename_i l r hw
  cases h
  refine aP9 (ae7 (ρ := ρ) hF hw hw' fun t y _ hy => hv t y hy) ?_
  exact hk ρ w (A1.refl _ _) (by simpa [bf5, n6] using M)
 ·rename_i l r hw
  split at h
  case h_1 => cases h
  rename_i t ht
  split at h
  case isFalse => cases h
  rename_i hf
  cases h
  simp only [Bool.and_eq_true] at hf
  refine H0.wp (ae7 (ρ := ρ) hF hw hw' fun t y _ hy => hv t y hy) ?_
  refine (aF9 M hH hF (fun t y _ hy => hv t y hy) ht ho he hmk hi (fun j hj => ?_)).mono ?_
  ·obtain ⟨p, hp, rfl⟩ := List.mem_map.1 hj
   have := List.all_eq_true.1 hf.2 p hp
   simp only [Bool.or_eq_true] at this
   exact this.imp r8.1 r8.1
  ·rintro v w' ⟨ρ', p1, p2, rfl⟩
   exact hk ρ' w' p1 p2
theorem aQ3 {dk : TypeId → Nat} {H : O1} {ops : List Oper} : ∀ (l : List Oper) (i n : Nat) {tm : List (Nat × AV)} {S : Nat → It} {r : RS}, I2 P dk N ops H l i tm S n = some r → v6 r.obs →
  r.acts.length = l.length ∧ (∀ t, x9 r.tm t = pf (wrT t) r.acts i (fun _ => true) (x9 tm t)) ∧ (∀ j, r.S j = pf (wrS j) r.acts i (fun _ => true) (S j)) ∧
  ∀ k o, l[k]? = some o → ∃ ac ob, r.acts[k]? = some ac ∧ v6 ob ∧ opA P dk N ops H (i + k) o (fun t => pf (wrT t) r.acts i (fun j => decide (j < i + k)) (x9 tm t)) (fun j => pf (wrS j) r.acts i (fun q => decide (q < i + k)) (S j)) (n + 8 * k) = some (ac, ob)
 | [], i, n, tm, S, r, h, _ => by cases h; exact ⟨rfl, fun _ => rfl, fun _ => rfl, fun k o h => by simp at h⟩
 | o :: l, i, n, tm, S, r, h, ho => by
  simp only [I2] at h
  split at h
  case h_1 => cases h
  rename_i ac ob h1
  split at h
  case h_1 => cases h
  rename_i s h2
  cases h
  simp only [v6.append] at ho
  obtain ⟨k1, k2, k3, k4⟩ := aQ3 l (i + 1) (n + 8) h2 ho.2
  have eT : ∀ t, x9 (aL5 ac.dst ac.t.res tm) t = match wrT t ac with | some x => x | none => x9 tm t := fun t => by
   rw [ax3]
   simp only [au9, wrT]
   split <;> rfl
  have eS : ∀ j, n6 S ac.t.new j = match wrS j ac with | some x => x | none => S j := fun j => ai3 S j _
  refine ⟨by simp [k1], fun t => ?_, fun j => ?_, fun k o' hk => ?_⟩
  ·rw [k2 t, eT]; simp only [pf]; cases wrT t ac <;> rfl
  ·rw [k3 j, eS]; simp only [pf]; cases wrS j ac <;> rfl
  ·cases k with
   | zero =>
    simp at hk; subst hk
    refine ⟨ac, ob, rfl, ho.1, ?_⟩
    have e1 : (fun t => pf (wrT t) (ac :: s.acts) i (fun j => decide (j < i + 0)) (x9 tm t)) = x9 tm := by
     funext t; exact Q4 fun j a _ _ => by simp
    have e2 : (fun j => pf (wrS j) (ac :: s.acts) i (fun q => decide (q < i + 0)) (S j)) = S := by
     funext j; exact Q4 fun j a _ _ => by simp
    rw [e1, e2]; exact h1
   | succ k =>
    obtain ⟨ac', ob', m1, m2, m3⟩ := k4 k o' (by simpa using hk)
    refine ⟨ac', ob', by simpa using m1, m2, ?_⟩
    have hi : decide (i < i + (k + 1)) = true := by simp
    have e1 : (fun t => pf (wrT t) (ac :: s.acts) i (fun j => decide (j < i + (k + 1))) (x9 tm t)) = fun t => pf (wrT t) s.acts (i + 1) (fun j => decide (j < i + 1 + k)) (x9 (aL5 ac.dst ac.t.res tm) t) := by
     funext t
     rw [eT]
     simp only [pf, hi, if_true]
     rw [show i + (k + 1) = i + 1 + k by omega]
     cases wrT t ac <;> rfl
    have e2 : (fun j => pf (wrS j) (ac :: s.acts) i (fun q => decide (q < i + (k + 1))) (S j)) = fun j => pf (wrS j) s.acts (i + 1) (fun q => decide (q < i + 1 + k)) (n6 S ac.t.new j) := by
     funext j
     rw [eS]
     simp only [pf, hi, if_true]
     rw [show i + (k + 1) = i + 1 + k by omega]
     cases wrS j ac <;> rfl
    rw [e1, e2, show i + (k + 1) = i + 1 + k by omega, show n + 8 * (k + 1) = n + 8 + 8 * k by omega]
    exact m3
def a73 (l : List Oper) (B : Nat → Bool) : Prop := ∀ j o, l[j]? = some o → B j = true → ∀ e ∈ o.after, Region.binds .any e = true → B e.on = true
theorem ar7 {ms : List Nat} {o : Oper} {j : Nat} (h : (aM6 ms o).testBit j = true) : ∃ e ∈ o.after, Region.binds .any e = true ∧ (e.on = j ∨ bef ms j e.on = true) := by
 unfold aM6 at h
 rw [← Array.foldl_toList] at h
 have key : ∀ (es : List Edge) (s : Nat), (es.foldl (fun s e => if Region.binds .any e then s ||| (2 ^ e.on ||| nth ms e.on) else s) s).testBit j = true → s.testBit j = true ∨ ∃ e ∈ es, Region.binds .any e = true ∧ (e.on = j ∨ bef ms j e.on = true) := by
  intro es
  induction es with
  | nil => intro s h; exact .inl h
  | cons e r ih =>
   intro s h
   simp only [List.foldl_cons] at h
   rcases ih _ h with h1 | ⟨e', he', h2⟩
   ·split at h1
    ·rename_i hb
     simp only [Nat.testBit_or, Bool.or_eq_true, Nat.testBit_two_pow, decide_eq_true_eq] at h1
     rcases h1 with h1 | h1 | h1
     ·exact .inl h1
     ·exact .inr ⟨e, List.mem_cons_self, hb, .inl h1⟩
     ·exact .inr ⟨e, List.mem_cons_self, hb, .inr h1⟩
    ·exact .inl h1
   ·exact .inr ⟨e', List.mem_cons_of_mem _ he', h2⟩
 rcases key _ _ h with h1 | ⟨e, he, h2⟩
 ·simp at h1
 ·exact ⟨e, by simpa using he, h2⟩
theorem au2 {ms : List Nat} {l : List Oper} (hm : aB0 ms l = true) (hb : Z6 l.toArray = true) {B : Nat → Bool} (hc : a73 l B) : ∀ i, i < l.length → B i = true → ∀ j, bef ms j i = true → B j = true := by
 intro i
 induction i using Nat.strongRecOn with
 | _ i ih =>
  intro hi hB j hj
  have h1 := List.all_eq_true.1 hm i (List.mem_range.2 hi)
  rw [List.getElem?_eq_getElem hi] at h1
  simp only [natEq, beq_iff_eq] at h1
  unfold bef at hj
  rw [h1] at hj
  obtain ⟨e, he, h2, h3⟩ := ar7 hj
  have h4 := hc i _ (List.getElem?_eq_getElem hi) hB e he h2
  have h5 := au3 hb (show i < l.toArray.size by simpa using hi) (show l.toArray[i]? = some l[i] by simp [hi]) he h2
  rcases h3 with rfl | h3
  ·exact h4
  ·exact ih e.on h5 (by omega) h4 j h3
theorem aW4 {ms : List Nat} {l : List Oper} (hm : aB0 ms l = true) (hb : Z6 l.toArray = true) {B : Nat → Bool} (hc : a73 l B) {i : Nat} {o : Oper} (ho : l[i]? = some o) (hr : ∀ e ∈ o.after, Region.binds .any e = true → B e.on = true) {j : Nat} (hj : bef ms j i = true) : B j = true := by
 have hi := (List.getElem?_eq_some_iff.1 ho).1
 have h1 := List.all_eq_true.1 hm i (List.mem_range.2 hi)
 rw [ho] at h1
 simp only [natEq, beq_iff_eq] at h1
 unfold bef at hj
 rw [h1] at hj
 obtain ⟨e, he, h2, h3⟩ := ar7 hj
 have h5 := au3 hb (show i < l.toArray.size by simpa using hi) (show l.toArray[i]? = some o by simpa using ho) he h2
 rcases h3 with rfl | h3
 ·exact hr e he h2
 ·exact au2 hm hb hc e.on (by omega) (hr e he h2) j h3
end
section
variable {P : Program} {ι : Type} {φ ψ : Nat → Prop} {w0 w w' : World} {F : ι → Rs} {ρ : Nat → Value} {S : Nat → It} {N m n : Nat} {ρ0 : Nat → Value}
theorem aJ8 {l : List Oper} {Q : Exit → Act → World → Prop} (I : Array Bool → Act → World → Prop) (hb : Z6 l.toArray = true)
  (step : ∀ listed a w, I listed a w → ∀ i o, l[i]? = some o → listed.getD i true = false → (∀ e ∈ o.after, Region.binds .any e = true → listed.getD e.on false = true) →
   ∀ Q' : Exit → Act → World → Prop, (∀ a w, I (listed.setIfInBounds i true) a w → Q' .normal a w) → wpList P l.toArray Q' [o] a w)
  (done : ∀ listed a w, I listed a w → (∀ j, j < l.length → listed.getD j true = true) → Q .normal a w) :
  ∀ (fuel : Nat) (listed : Array Bool) (a : Act) (w : World), listed.size = l.toArray.size → listed.toList.count false = fuel → I listed a w → wpAny P .any l.toArray Q fuel listed a w := by
 have hfin : ∀ (listed : Array Bool) (a : Act) (w : World), listed.size = l.toArray.size → Region.ready .any l.toArray listed = [] → I listed a w → Q .normal a w := by
  intro listed a w hsz hr hI
  refine done listed a w hI fun j hj => ?_
  cases hl : listed.getD j true
  ·exact absurd hr (aE2 hb hsz j (by simpa using hj) hl)
  ·rfl
 intro fuel
 induction fuel with
 | zero =>
  intro listed a w hsz hc hI
  have hr : Region.ready .any l.toArray listed = [] := by
   rw [List.eq_nil_iff_forall_not_mem]
   intro j hj
   have := G7 (mem_ready.1 hj).1
   omega
  exact ⟨hr, hfin listed a w hsz hr hI⟩
 | succ f ih =>
  intro listed a w hsz hc hI
  refine ⟨fun hr => hfin listed a w hsz hr hI, fun i hi => ?_⟩
  obtain ⟨h1, o, ho, h2⟩ := mem_ready.1 hi
  have ho' : l[i]? = some o := by simpa using ho
  have hcl := G7 h1
  have hs := step listed a w hI i o ho' h1 h2 (fun e a w => e = .normal ∧ I (listed.setIfInBounds i true) a w) fun a w h => ⟨rfl, h⟩
  unfold wpOp
  rw [ho]
  simp only
  unfold wpList at hs
  split
  ·rename_i hw
   rw [if_pos hw] at hs
   rcases hs with hs | ⟨_, a, w, he, _⟩
   ·exact .inl (aw2 (fun _ _ _ h => h.1) (Oper.wp_mono (fun a' w' h => ih _ a' w' (by simpa using hsz) (by omega) h.2) hs))
   ·cases he
  ·rename_i hw
   rw [if_neg hw] at hs
   exact ih _ _ _ (by simpa using hsz) (by omega) hs.2
theorem ap8 {id : Nat} {l : List Oper} {Q : Exit → Act → World → Prop} {a : Act} {w : World} (I : Array Bool → Act → World → Prop) (hm : P.follows .mixedOrders = true) (hb : Z6 l.toArray = true)
  (h0 : I (Array.replicate l.length false) a w.drew)
  (step : ∀ listed a w, I listed a w → ∀ i o, l[i]? = some o → listed.getD i true = false → (∀ e ∈ o.after, Region.binds .any e = true → listed.getD e.on false = true) →
   ∀ Q' : Exit → Act → World → Prop, (∀ a w, I (listed.setIfInBounds i true) a w → Q' .normal a w) → wpList P l.toArray Q' [o] a w)
  (done : ∀ listed a w, I listed a w → (∀ j, j < l.length → listed.getD j true = true) → Q .normal a w) : (Code.region id l.toArray true).wp P Q a w :=
 wp_region_any hm (aJ8 I hb step done _ _ _ _ (by simp) (by simp) (by simpa using h0))
def RI (φ ψ : Nat → Prop) (w0 : World) (F : ι → Rs) (N m : Nat) (ρ0 : Nat → Value) (l : List Oper) (az : List Ac) (tm : Nat → Option AV) (S : Nat → It) (listed : Array Bool) (a : Act) (w : World) : Prop :=
 listed.size = l.length ∧ a73 l (fun j => listed.getD j false) ∧ ∃ ρ, (∀ i, i < m → ρ i = ρ0 i) ∧ a.tmps.size = N ∧ a.defers = [] ∧ (∀ t x, tmD az (fun j => listed.getD j false) tm t = some x → a.tmps[t]? = some (x.val ρ)) ∧ l5 φ ψ w0 w (o6 F ρ (sD az (fun j => listed.getD j false) S))
theorem aL8 {ms : List Nat} {az : List Ac} (h : be8 ms az = true) {i j : Nat} {a b : Ac} (ha : az[i]? = some a) (hb : az[j]? = some b) (hij : i ≠ j) (hm : V9 a b = true) : (j < i → bef ms j i = true) ∧ (i < j → bef ms i j = true) := by
 have hi := (List.getElem?_eq_some_iff.1 ha).1
 have hj := (List.getElem?_eq_some_iff.1 hb).1
 have h1 := List.all_eq_true.1 (List.all_eq_true.1 h i (List.mem_range.2 hi)) j (List.mem_range.2 hj)
 rw [ha, hb] at h1
 have hne : natEq i j = false := by simp [natEq, hij]
 simp only [hne, hm, Bool.not_true, Bool.false_or] at h1
 constructor
 ·intro hlt; rw [if_pos (by simpa using hlt)] at h1; exact h1
 ·intro hlt; rw [if_neg (by simp; omega)] at h1; exact h1
theorem aQ9 {ms : List Nat} {n0 : Nat} {az : List Ac} (h : a26 ms n0 az = true) {i : Nat} {a : Ac} (ha : az[i]? = some a) : ∀ id, (id ∈ a.t.res.ids ∨ id ∈ a.t.new.map (·.1) ∨ ∃ p ∈ a.t.new, id ∈ p.2.ids) → id < n0 ∨ (id - n0) / 8 = i ∨ bef ms ((id - n0) / 8) i = true := by
 intro id hid
 have hi := (List.getElem?_eq_some_iff.1 ha).1
 have h1 := List.all_eq_true.1 h i (List.mem_range.2 hi)
 rw [ha] at h1
 have h2 := List.all_eq_true.1 h1 id (by
  rcases hid with h | h | ⟨p, hp, h⟩
  ·exact List.mem_append_left _ (List.mem_append_left _ h)
  ·exact List.mem_append_left _ (List.mem_append_right _ h)
  ·exact List.mem_append_right _ (List.mem_flatMap.2 ⟨p, hp, h⟩))
 simp only [Bool.or_eq_true, decide_eq_true_eq, natEq, beq_iff_eq] at h2
 rcases h2 with (h2 | h2) | h2
 ·exact .inl h2
 ·exact .inr (.inl h2)
 ·exact .inr (.inr h2)
theorem ay9 {dk : TypeId → Nat} {H : O1} (hH : ∀ i c τ, H2 H.calls i = some (c, τ) → c.ok P) (hF : P3 H.facts) {l : List Oper} {id : Nat} {Q : Exit → Act → World → Prop} {tm : List (Nat × AV)} {a : Act} {wr : World} (I0 : Inn φ ψ w0 F N m ρ0 n ρ (x9 tm) S a wr) {r : RS} (hrun : I2 P dk N l H l 0 tm S n = some r) (ho : v6 r.obs) (heq : r.acts.map (·.eqs.1) = r.acts.map (·.eqs.2)) (hew : r.acts.map (·.eqw.1) = r.acts.map (·.eqw.2))
  (ms : List Nat) (hm : P.follows .mixedOrders = true) (hb : Z6 l.toArray = true) (hms : aB0 ms l = true) (hord : be8 ms r.acts = true) (hment : a26 ms n r.acts = true)
  (done : ∀ ρ' a' w' n', Inn φ ψ w0 F N m ρ0 n' ρ' (x9 r.tm) r.S a' w' → Q .normal a' w') : (Code.region id l.toArray true).wp P Q a wr := by
 obtain ⟨hlen, hfT, hfS, hat⟩ := aQ3 l 0 n hrun ho
 have hmt : ∀ (i : Nat) ac, r.acts[i]? = some ac → ∀ t b, b.dst = some t → t ∈ ac.rt → V9 ac b = true := fun i ac _ t b hb ht => by
  simp [V9, hb, r8.2 ht]
 have hmd : ∀ ac b t, ac.dst = some t → b.dst = some t → V9 ac b = true := fun ac b t h1 h2 => by
  simp [V9, h1, h2, natEq]
 have hms' : ∀ (ac b : Ac) (j : Nat), j ∈ ac.ri → j ∈ b.t.new.map (·.1) → V9 ac b = true := fun ac b j h1 h2 => by
  obtain ⟨p, hp, rfl⟩ := List.mem_map.1 h2
  unfold V9
  have : b.t.new.any (fun p => memN p.1 ac.ri || ac.t.new.any fun q => natEq q.1 p.1) = true := List.any_eq_true.2 ⟨p, hp, by simp [r8.2 h1]⟩
  rw [this]; simp
 have hmn : ∀ (ac b : Ac) (j : Nat), j ∈ ac.t.new.map (·.1) → j ∈ b.t.new.map (·.1) → V9 ac b = true := fun ac b j h1 h2 => by
  obtain ⟨p, hp, rfl⟩ := List.mem_map.1 h2
  obtain ⟨q, hq, e⟩ := List.mem_map.1 h1
  unfold V9
  have : b.t.new.any (fun p => memN p.1 ac.ri || ac.t.new.any fun q => natEq q.1 p.1) = true := List.any_eq_true.2 ⟨p, hp, by
   have : ac.t.new.any (fun q => natEq q.1 p.1) = true := List.any_eq_true.2 ⟨q, hq, by simp [natEq, e]⟩
   rw [this]; simp⟩
  rw [this]; simp
 refine ap8 (RI φ ψ w0 F N m ρ0 l r.acts (x9 tm) S) hm hb ?_ ?_ ?_
 ·refine ⟨by simp, fun j o _ hj => ?_, ρ, I0.old, I0.size, I0.defs, fun t x hx => ?_, ?_⟩
  ·have hj' : (Array.replicate l.length false).getD j false = true := hj
   rw [getD_replicate_false] at hj'; cases hj'
  ·refine I0.tmv t x ?_
   rw [← hx]
   exact (Q4 fun j b _ _ => getD_replicate_false _ _).symm
  ·have e : sD r.acts (fun j => (Array.replicate l.length false).getD j false) S = S := by
    funext j; exact Q4 fun j b _ _ => getD_replicate_false _ _
   rw [e]; exact I0.mem.drew
 ·rintro listed a w ⟨hsz, hdn, ρ, hold, hN, hdf, hv, M⟩ i o hoi hun hdep Q' hQ
  generalize hB : (fun j => listed.getD j false) = B at *
  have hBj : ∀ j, B j = listed.getD j false := fun j => by rw [← hB]
  have hil := (List.getElem?_eq_some_iff.1 hoi).1
  have hBi : B i = false := by
   rw [hBj, ← aR4 (by omega)]; exact hun
  obtain ⟨ac, ob, hac, hob, hop⟩ := hat i o hoi
  simp only [Nat.zero_add] at hop
  have heqi : ac.eqs.1 = ac.eqs.2 := by
   have := congrArg (·[i]?) heq
   simpa [hac] using this
  have hewi : ac.eqw.1 = ac.eqw.2 := by
   have := congrArg (·[i]?) hew
   simpa [hac] using this
  obtain ⟨hdst, hdN, hfine⟩ := aA6 hop
  obtain ⟨hf1, hf2, hf3⟩ := U4 hfine
  have hdep' : ∀ e ∈ o.after, Region.binds .any e = true → B e.on = true := fun e he hbi => by rw [hBj]; exact hdep e he hbi
  have ahead : ∀ j, bef ms j i = true → B j = true := fun j hj => aW4 hms hb hdn hoi hdep' hj
  have behind : ∀ j, j < l.length → bef ms i j = true → B j = false := fun j hjl hj => by
   cases h : B j
   ·rfl
   ·have := au2 hms hb hdn j hjl h i hj
    rw [hBi] at this; cases this
  have hagree : ∀ (j : Nat) b, r.acts[j]? = some b → V9 ac b = true → B j = decide (j < i) := fun j b hj hmm => by
   have hjl : j < l.length := by have := (List.getElem?_eq_some_iff.1 hj).1; omega
   rcases Nat.lt_trichotomy j i with h | h | h
   ·rw [ahead j ((aL8 hord hac hj (by omega) hmm).1 h)]; simp [h]
   ·subst h; rw [hBi]; simp
   ·rw [behind j hjl ((aL8 hord hac hj (by omega) hmm).2 h)]
    have : ¬ j < i := by omega
    simp [this]
  have hop2 := aT5 hop (tm' := tmD r.acts B (x9 tm)) (S' := sD r.acts B S) (fun t ht => M4 fun j b hj hw => by
    rw [Nat.zero_add]
    refine hagree j b hj (hmt i ac hac t b ?_ ht)
    unfold wrT at hw
    split at hw
    ·assumption
    ·cases hw)
   (fun q hq => M4 fun j b hj hw => by
    rw [Nat.zero_add]
    obtain ⟨x, hx⟩ := Option.isSome_iff_exists.1 hw
    exact hagree j b hj (hms' ac b q hq (List.mem_map.2 ⟨_, L5 hx, rfl⟩)))
  have hrange : ∀ id, n + 8 * i ≤ id → id < n + 8 * i + 8 → (id - n) / 8 = i := fun id h1 h2 => by omega
  have hmk : ∀ j ∈ ac.t.made, sD r.acts B S j = .none := fun j hj => by
   obtain ⟨g1, g2⟩ := hf2 j hj
   have e : sD r.acts B S j = S j := Q4 fun k b hk hw => by
    rw [Nat.zero_add]
    obtain ⟨x, hx⟩ := Option.isSome_iff_exists.1 hw
    have hkl : k < l.length := by have := (List.getElem?_eq_some_iff.1 hk).1; omega
    rcases aQ9 hment hk j (.inr (.inl (List.mem_map.2 ⟨_, L5 hx, rfl⟩))) with h | h | h
    ·omega
    ·rw [hrange j g1 g2] at h; subst h; exact hBi
    ·rw [hrange j g1 g2] at h; exact behind k hkl h
   rw [e]; exact (I0.bd j).2 (by omega)
  have hnot : ∀ (k : Nat) b, r.acts[k]? = some b → B k = true → ∀ id, (id ∈ b.t.res.ids ∨ id ∈ b.t.new.map (·.1) ∨ ∃ p ∈ b.t.new, id ∈ p.2.ids) → id ∉ ac.t.made := fun k b hk hBk id hid hm => by
   obtain ⟨g1, g2⟩ := hf2 id hm
   have hkl : k < l.length := by have := (List.getElem?_eq_some_iff.1 hk).1; omega
   rcases aQ9 hment hk id hid with h | h | h
   ·omega
   ·rw [hrange id g1 g2] at h; subst h; rw [hBi] at hBk; cases hBk
   ·rw [hrange id g1 g2] at h; rw [behind k hkl h] at hBk; cases hBk
  have hitem : ∀ j, ∀ id ∈ (sD r.acts B S j).ids, id ∉ ac.t.made := fun j => by
   refine af9 (fun x : It => ∀ id ∈ x.ids, id ∉ ac.t.made) (fun id hid hm => ?_) fun k b x hk hBk hw id hid => ?_
   ·have := (I0.bd j).1 id hid; have := (hf2 id hm).1; omega
   ·rw [Nat.zero_add] at hBk
    exact hnot k b hk hBk id (.inr (.inr ⟨_, L5 hw, hid⟩))
  have htm : ∀ t x, tmD r.acts B (x9 tm) t = some x → ∀ id ∈ x.ids, id ∉ ac.t.made := fun t => by
   refine af9 (fun y : Option AV => ∀ x, y = some x → ∀ id ∈ x.ids, id ∉ ac.t.made) (fun x hx id hid hm => ?_) fun k b y hk hBk hw x hx id hid => ?_
   ·have := I0.tmi t x hx id hid; have := (hf2 id hm).1; omega
   ·rw [Nat.zero_add] at hBk
    unfold wrT at hw
    split at hw
    ·cases hw; cases hx
     exact hnot k b hk hBk id (.inl hid)
    ·cases hw
  have hinv : V1 (sD r.acts B S) ρ ac.t.made := fun ρ' ha j => by
   refine It.res_congr _ (fun id hid => ha id (hitem j id hid)) ?_
   by_cases hj : j ∈ ac.t.made
   ·exact .inl (hmk j hj)
   ·exact .inr (.inr (ha j hj))
  refine a98 hH hF hv M hop2 hob heqi hewi hmk hinv fun ρ' w' ha M' => ?_
  refine hQ _ _ ?_
  have hB' : ∀ j, (listed.setIfInBounds i true).getD j false = if j = i then true else B j := fun j => by
   by_cases e : j = i
   ·subst e
    have : j < listed.size := by omega
    simp [this]
   ·rw [if_neg e, getD_set_ne false (fun h => e h.symm), hBj]
  have hBe : (fun j => (listed.setIfInBounds i true).getD j false) = fun j => if j = i then true else B j := funext hB'
  have later : ∀ (j : Nat) b, i < j → r.acts[j]? = some b → V9 ac b = true → (if j = i then true else B j) = false := fun j b hij hj hmm => by
   have hjl : j < l.length := by have := (List.getElem?_eq_some_iff.1 hj).1; omega
   rw [if_neg (by omega)]
   exact behind j hjl ((aL8 hord hac hj (by omega) hmm).2 hij)
  have eT : tmD r.acts (fun j => if j = i then true else B j) (x9 tm) = au9 ac.dst ac.t.res (tmD r.acts B (x9 tm)) := by
   funext t
   simp only [au9]
   by_cases e : ac.dst = some t
   ·rw [if_pos e]
    refine aA5 (i := i) hac (by simp [wrT, e]) (by simp) fun j b hij hj hw => ?_
    rw [Nat.zero_add]
    refine later j b hij hj (hmd ac b t e ?_)
    unfold wrT at hw
    split at hw
    ·assumption
    ·cases hw
   ·rw [if_neg e]
    refine M4 fun j b hj hw => ?_
    have : j ≠ i := fun h => by
     subst h
     rw [hac] at hj; cases hj
     simp [wrT, e] at hw
    simp [this]
  have eS : sD r.acts (fun j => if j = i then true else B j) S = n6 (sD r.acts B S) ac.t.new := by
   funext q
   rw [ai3]
   cases hx : at1 ac.t.new q with
   | some x =>
    refine aA5 (i := i) hac hx (by simp) fun j b hij hj hw => ?_
    rw [Nat.zero_add]
    obtain ⟨y, hy⟩ := Option.isSome_iff_exists.1 hw
    exact later j b hij hj (hmn ac b q (List.mem_map.2 ⟨_, L5 hx, rfl⟩) (List.mem_map.2 ⟨_, L5 hy, rfl⟩))
   | none =>
    refine M4 fun j b hj hw => ?_
    have : j ≠ i := fun h => by
     subst h
     rw [hac] at hj; cases hj
     unfold wrS at hw
     rw [hx] at hw; cases hw
    simp [this]
  refine ⟨by simpa using hsz, ?_, ρ', fun j hj => (ha j fun hm => by have := (hf2 j hm).1; have := I0.le; omega).trans (hold j hj), (aF3 _ _ _).trans hN, (aF4 _ _ _).trans hdf, ?_, ?_⟩
  ·rw [hBe]
   intro j oj hj hBj' e he hbi
   show (if e.on = i then true else B e.on) = true
   by_cases e1 : e.on = i
   ·simp [e1]
   ·rw [if_neg e1]
    by_cases e2 : j = i
    ·subst e2
     rw [hoi] at hj; cases hj
     exact hdep' e he hbi
    ·simp only [if_neg e2] at hBj'
     exact hdn j oj hj hBj' e he hbi
  ·rw [hBe, eT, hdst]
   intro t x hx
   rw [a09 (by rw [hN]; exact hdN)]
   simp only [au9] at hx
   split
   ·rename_i e; rw [if_pos e] at hx; cases hx; rfl
   ·rename_i e
    rw [if_neg e] at hx
    rw [hv t x hx, AV.val_congr x fun id hid => ha id (htm t x hx id hid)]
  ·rw [hBe, eS]; exact M'
 ·rintro listed a w ⟨hsz, hdn, ρ, hold, hN, hdf, hv, M⟩ hall
  have hall' : ∀ j, j < l.length → listed.getD j false = true := fun j hj => by rw [← aR4 (by omega)]; exact hall j hj
  have eT : tmD r.acts (fun j => listed.getD j false) (x9 tm) = x9 r.tm := by
   funext t
   rw [hfT t]
   refine M4 fun j b hj _ => ?_
   rw [Nat.zero_add]
   exact hall' j (by have := (List.getElem?_eq_some_iff.1 hj).1; omega)
  have eS : sD r.acts (fun j => listed.getD j false) S = r.S := by
   funext q
   rw [hfS q]
   refine M4 fun j b hj _ => ?_
   rw [Nat.zero_add]
   exact hall' j (by have := (List.getElem?_eq_some_iff.1 hj).1; omega)
  have hids : ∀ (k : Nat) b, r.acts[k]? = some b → ∀ id, (id ∈ b.t.res.ids ∨ id ∈ b.t.new.map (·.1) ∨ ∃ p ∈ b.t.new, id ∈ p.2.ids) → id < n + 8 * l.length := fun k b hk id hid => by
   have hkl : k < l.length := by have := (List.getElem?_eq_some_iff.1 hk).1; omega
   obtain ⟨o, ho'⟩ : ∃ o, l[k]? = some o := ⟨_, List.getElem?_eq_getElem hkl⟩
   obtain ⟨ac, ob, hac, _, hop⟩ := hat k o ho'
   rw [hk] at hac; cases hac
   obtain ⟨_, _, hfine⟩ := aA6 hop
   obtain ⟨hf1, hf2, hf3⟩ := U4 hfine
   rcases hid with h | h | ⟨p, hp, h⟩
   ·have := hf3 id h; omega
   ·obtain ⟨p, hp, rfl⟩ := List.mem_map.1 h
    have := (hf1 p hp).1; omega
   ·have := (hf1 p hp).2 id h; omega
  refine done ρ a w (n + 8 * l.length) ⟨hN, hdf, by rw [← eT]; exact hv, fun t x hx => ?_, fun j => ?_, by rw [← eS]; exact M, by have := I0.le; omega, hold⟩
  ·rw [hfT t] at hx
   revert x
   refine af9 (fun y : Option AV => ∀ x, y = some x → ∀ id ∈ x.ids, id < n + 8 * l.length) (fun x hx id hid => ?_) fun k b y hk _ hw x hx id hid => ?_
   ·have := I0.tmi t x hx id hid; omega
   ·unfold wrT at hw
    split at hw
    ·cases hw; cases hx
     exact hids k b hk id (.inl hid)
    ·cases hw
  ·refine ⟨?_, fun hj => ?_⟩
   ·rw [hfS j]
    refine af9 (fun x : It => ∀ id ∈ x.ids, id < n + 8 * l.length) (fun id hid => ?_) fun k b x hk _ hw id hid => ?_
    ·have := (I0.bd j).1 id hid; omega
    ·exact hids k b hk id (.inr (.inr ⟨_, L5 hw, hid⟩))
   ·rw [hfS j, Q4 fun k b hk hw => ?_]
    ·exact (I0.bd j).2 (by omega)
    ·obtain ⟨x, hx⟩ := Option.isSome_iff_exists.1 hw
     have := hids k b hk j (.inr (.inl (List.mem_map.2 ⟨_, L5 hx, rfl⟩)))
     omega
end
def p6 {ι : Type} (φ ψ : Nat → Prop) (w0 : World) (F : ι → Rs) (N m : Nat) (ρ0 ρ : Nat → Value) (S : List It) (tm : List (Nat × AV)) (a : Act) (w : World) : Prop := Inn φ ψ w0 F N m ρ0 S.length ρ (x9 tm) (s9 S) a w
def wfB (S : List It) (tm : List (Nat × AV)) : Bool := S.all (fun x => Y6 S.length x.ids) && tm.all (fun p => Y6 S.length p.2.ids)
def bk2 (m : Nat) (js : List Nat) : Bool := (List.range m).all fun i => natEq (nth js i) i && decide (i < js.length)
def ai8 (m : Nat) (js : List Nat) (S : List It) (tm : List (Nat × AV)) : Bool := nodupB js && natEq js.length S.length && wfB S tm && bk2 m js
section
variable {P : Program} {ι : Type} {φ ψ : Nat → Prop} {w0 w w' : World} {F : ι → Rs} {ρ ρ0 : Nat → Value} {N m n : Nat} {S : List It} {tm : List (Nat × AV)} {a : Act} {Q : Exit → Act → World → Prop}
theorem as2 : ∀ {tm : List (Nat × AV)} {t : Nat} {x : AV}, x9 tm t = some x → (t, x) ∈ tm
 | [], _, _, h => by cases h
 | (k, y) :: r, t, x, h => by
  simp only [x9, natEq, beq_iff_eq] at h
  split at h
  ·rename_i e; subst e; cases h; exact List.mem_cons_self
  ·exact List.mem_cons_of_mem _ (as2 h)
theorem as1 {l : List It} {i : Nat} (h : i < l.length) : s9 l i = l[i] := by simp [s9, List.getD_eq_getElem?_getD, h]
theorem B9 {l : List It} {i : Nat} (h : l.length ≤ i) : s9 l i = .none := by simp [s9, List.getD_eq_getElem?_getD, h]
theorem bc6 {S : List It} {tm : List (Nat × AV)} (h : wfB S tm = true) : (∀ j, (∀ id ∈ (s9 S j).ids, id < S.length) ∧ (S.length ≤ j → s9 S j = .none)) ∧ ∀ t x, x9 tm t = some x → ∀ id ∈ x.ids, id < S.length := by
 simp only [wfB, Bool.and_eq_true] at h
 refine ⟨fun j => ⟨fun id hid => ?_, fun hj => B9 hj⟩, fun t x hx id hid => ?_⟩
 ·rcases Nat.lt_or_ge j S.length with hj | hj
  ·rw [as1 hj] at hid
   exact I9 (List.all_eq_true.1 h.1 _ (List.getElem_mem hj)) id hid
  ·rw [B9 hj] at hid; cases hid
 ·exact I9 (List.all_eq_true.1 h.2 _ (as2 hx)) id hid
theorem Inn.sel {tf : Nat → Option AV} {Sf : Nat → It} (I : Inn φ ψ w0 F N m ρ0 n ρ tf Sf a w) (js : List Nat) (S1 : List It) (tm1 : List (Nat × AV)) (hb : ai8 m js S1 tm1 = true) (hS : js.map Sf = S1.map (It.ren (nth js))) (ht : (tm1.map (·.1)).map tf = tm1.map fun p => some (p.2.ren (nth js))) :
  p6 φ ψ w0 F N m ρ0 (fun i => ρ (nth js i)) S1 tm1 a w := by
 simp only [ai8, Bool.and_eq_true, natEq, beq_iff_eq] at hb
 obtain ⟨⟨⟨hnd, hl⟩, hwf⟩, hkeep⟩ := hb
 have hn := ar5 hnd
 obtain ⟨b1, b2⟩ := bc6 hwf
 have hk : ∀ i, i < m → nth js i = i ∧ i < js.length := fun i hi => by
  have := List.all_eq_true.1 hkeep i (List.mem_range.2 hi)
  simpa [natEq] using this
 refine ⟨I.size, I.defs, fun t x hx => ?_, b2, b1, ?_, ?_, fun i hi => ?_⟩
 ·obtain ⟨i, hi⟩ := List.mem_iff_getElem?.1 (as2 hx)
  have h1 := congrArg (·[i]?) ht
  simp only [List.getElem?_map, hi, Option.map_some] at h1
  rw [I.tmv t _ (Option.some.inj h1), AV.val_ren]
 ·refine I.mem.map (fun k : ι ⊕ Nat => (match k with | .inl i => some (.inl i) | .inr i => if i < js.length then some (.inr (nth js i)) else none : Option (ι ⊕ Nat))) ?_ ?_
  ·intro k k' x h1 h2
   match k, k' with
   | .inl i, .inl i' => simp at h1 h2; rw [← h1] at h2; simpa using h2.symm
   | .inl i, .inr j => simp only at h1 h2; cases h1; split at h2 <;> simp at h2
   | .inr j, .inl i => simp only at h1 h2; cases h2; split at h1 <;> simp at h1
   | .inr j, .inr j' =>
    simp at h1 h2
    obtain ⟨f1, f2⟩ := h1
    obtain ⟨g1, g2⟩ := h2
    rw [← f2] at g2
    have hj := Sum.inr.inj g2
    have e1 := List.getElem?_eq_getElem f1
    have e2 := List.getElem?_eq_getElem g1
    rw [I3 e2, I3 e1] at hj
    have := (List.getElem?_inj f1 hn).1 (e1.trans (by rw [← hj]; exact e2.symm))
    rw [this]
  ·intro k
   match k with
   | .inl i => exact .inl ⟨_, rfl, rfl⟩
   | .inr i =>
    by_cases hlt : i < js.length
    ·refine .inl ⟨.inr (nth js i), by simp [hlt], ?_⟩
     have h1 := congrArg (·[i]?) hS
     have hlt' : i < S1.length := by omega
     simp only [List.getElem?_map, List.getElem?_eq_getElem hlt, List.getElem?_eq_getElem hlt', Option.map_some, Option.some.injEq] at h1
     simp only [o6]
     rw [as1 hlt', I3 (List.getElem?_eq_getElem hlt), h1, ← It.res_ren, I3 (List.getElem?_eq_getElem hlt)]
    ·refine .inr ?_
     simp only [o6]
     rw [B9 (by omega)]
     rfl
 ·rcases Nat.lt_or_ge S1.length m with h | h
  ·have := (hk S1.length h).2; omega
  ·exact h
 ·rw [(hk i hi).1]; exact I.old i hi
def av1 (o : Option RS) (js ts : List Nat) : Option (List Prop × List It × List (Option AV) × List (List (List AV × List It)) × List (List AV)) := o.map fun r => (r.obs, js.map r.S, ts.map (x9 r.tm), r.acts.map (·.eqs.1), r.acts.map (·.eqw.1))
def av0 (o : Option RS) (obs : List Prop) (js : List Nat) (S : List It) (tm : List (Nat × AV)) : Option (List Prop × List It × List (Option AV) × List (List (List AV × List It)) × List (List AV)) := o.map fun r => (obs, S.map (It.ren (nth js)), tm.map (fun p => some (p.2.ren (nth js))), r.acts.map (·.eqs.2), r.acts.map (·.eqw.2))
def aR7 (l : List Oper) (ms : List Nat) (n : Nat) (o : Option RS) : Bool := aB0 ms l && Z6 l.toArray && match o with
 | some r => be8 ms r.acts && a26 ms n r.acts
 | none => false
theorem a03 {dk : TypeId → Nat} {l : List Oper} {id : Nat} (G : p6 φ ψ w0 F N m ρ0 ρ S tm a w) (H : O1) (hH : ∀ i c τ, H2 H.calls i = some (c, τ) → c.ok P) (hF : P3 H.facts) (js : List Nat) (S1 : List It) (tm1 : List (Nat × AV)) (obs : List Prop)
  (hs : ((I2 P dk N l H l 0 tm (s9 S) S.length).isSome && ai8 m js S1 tm1) = true)
  (hc : av1 (I2 P dk N l H l 0 tm (s9 S) S.length) js (tm1.map (·.1)) = av0 (I2 P dk N l H l 0 tm (s9 S) S.length) obs js S1 tm1)
  (ho : v6 obs) (k : ∀ ρ' a' w', p6 φ ψ w0 F N m ρ0 ρ' S1 tm1 a' w' → Q .normal a' w') : (Code.region id l.toArray false).wp P Q a w := by
 simp only [Bool.and_eq_true] at hs
 obtain ⟨r, hr⟩ := Option.isSome_iff_exists.1 hs.1
 rw [hr] at hc
 simp only [av1, av0, Option.map_some, Option.some.injEq, Prod.mk.injEq] at hc
 obtain ⟨h1, h2, h3, h4, h5⟩ := hc
 refine wp_region_lit (aQ2 hH hF l 0 S.length G hr (by rw [h1]; exact ho) h4 h5 fun ρ' a' w' n' I => ?_)
 exact k _ a' w' (I.sel js S1 tm1 hs.2 h2 h3)
theorem a87 {dk : TypeId → Nat} {l : List Oper} {id : Nat} (G : p6 φ ψ w0 F N m ρ0 ρ S tm a w) (H : O1) (hH : ∀ i c τ, H2 H.calls i = some (c, τ) → c.ok P) (hF : P3 H.facts) (ms : List Nat) (js : List Nat) (S1 : List It) (tm1 : List (Nat × AV)) (obs : List Prop) (hm : P.follows .mixedOrders = true)
  (hs : (aR7 l ms S.length (I2 P dk N l H l 0 tm (s9 S) S.length) && ai8 m js S1 tm1) = true)
  (hc : av1 (I2 P dk N l H l 0 tm (s9 S) S.length) js (tm1.map (·.1)) = av0 (I2 P dk N l H l 0 tm (s9 S) S.length) obs js S1 tm1)
  (ho : v6 obs) (k : ∀ ρ' a' w', p6 φ ψ w0 F N m ρ0 ρ' S1 tm1 a' w' → Q .normal a' w') : (Code.region id l.toArray true).wp P Q a w := by
 simp only [Bool.and_eq_true, aR7] at hs
 obtain ⟨⟨⟨q1, q2⟩, q3⟩, q4⟩ := hs
 cases hr : I2 P dk N l H l 0 tm (s9 S) S.length with
 | none => rw [hr] at q3; cases q3
 | some r =>
  rw [hr] at q3 hc
  simp only [Bool.and_eq_true] at q3
  simp only [av1, av0, Option.map_some, Option.some.injEq, Prod.mk.injEq] at hc
  obtain ⟨h1, h2, h3, h4, h5⟩ := hc
  refine ay9 hH hF G hr (by rw [h1]; exact ho) h4 h5 ms hm q2 q1 q3.1 q3.2 fun ρ' a' w' n' I => ?_
  exact k _ a' w' (I.sel js S1 tm1 q4 h2 h3)
theorem v5 {dk : TypeId → Nat} {l : List Oper} {id : Nat} (G : p6 φ ψ w0 F N m ρ0 ρ S tm a w) (H : O1) (hH : ∀ i c τ, H2 H.calls i = some (c, τ) → c.ok P) (hF : P3 H.facts) (js : List Nat) (S1 : List It) (tm1 : List (Nat × AV)) (obs : List Prop)
  (ho : v6 obs) (k : ∀ ρ' a' w', p6 φ ψ w0 F N m ρ0 ρ' S1 tm1 a' w' → Q .normal a' w')
  (hs : ((I2 P dk N l H l 0 tm (s9 S) S.length).isSome && ai8 m js S1 tm1) = true := by kernel_rfl)
  (hc : av1 (I2 P dk N l H l 0 tm (s9 S) S.length) js (tm1.map (·.1)) = av0 (I2 P dk N l H l 0 tm (s9 S) S.length) obs js S1 tm1 := by kernel_rfl) : (Code.region id l.toArray false).wp P Q a w := a03 G H hH hF js S1 tm1 obs hs hc ho k
theorem rd1 {dk : TypeId → Nat} {l : List Oper} {id : Nat} (G : p6 φ ψ w0 F N m ρ0 ρ S tm a w) (H : O1) (hH : ∀ i c τ, H2 H.calls i = some (c, τ) → c.ok P) (hF : P3 H.facts) (ms : List Nat) (js : List Nat) (S1 : List It) (tm1 : List (Nat × AV)) (obs : List Prop)
  (ho : v6 obs) (k : ∀ ρ' a' w', p6 φ ψ w0 F N m ρ0 ρ' S1 tm1 a' w' → Q .normal a' w') (hm : P.follows .mixedOrders = true := by kernel_rfl)
  (hs : (aR7 l ms S.length (I2 P dk N l H l 0 tm (s9 S) S.length) && ai8 m js S1 tm1) = true := by kernel_rfl)
  (hc : av1 (I2 P dk N l H l 0 tm (s9 S) S.length) js (tm1.map (·.1)) = av0 (I2 P dk N l H l 0 tm (s9 S) S.length) obs js S1 tm1 := by kernel_rfl) : (Code.region id l.toArray true).wp P Q a w := a87 G H hH hF ms js S1 tm1 obs hm hs hc ho k
theorem b0 : ∀ i c τ, H2 [] i = some (c, τ) → p7.ok P c := fun i c τ h => by cases h
theorem b6 {i0 : Nat} {c0 : p7} {τ0 : List Nat} {r : List (Nat × p7 × List Nat)} (h0 : c0.ok P) (hr : ∀ i c τ, H2 r i = some (c, τ) → p7.ok P c) : ∀ i c τ, H2 ((i0, c0, τ0) :: r) i = some (c, τ) → p7.ok P c := fun i c τ h => by
 simp only [H2] at h
 split at h
 ·cases h; exact h0
 ·exact hr i c τ h
theorem p6.sel (G : p6 φ ψ w0 F N m ρ0 ρ S tm a w) (js : List Nat) (S1 : List It) (tm1 : List (Nat × AV)) (hb : ai8 m js S1 tm1 = true) (hS : js.map (s9 S) = S1.map (It.ren (nth js))) (ht : (tm1.map (·.1)).map (x9 tm) = tm1.map fun p => some (p.2.ren (nth js))) : ∃ ρ', p6 φ ψ w0 F N m ρ0 ρ' S1 tm1 a w := ⟨_, Inn.sel G js S1 tm1 hb hS ht⟩
theorem p6.as (G : p6 φ ψ w0 F N m ρ0 ρ S tm a w) (S1 : List It) (tm1 : List (Nat × AV)) (hS : S = S1) (ht : tm = tm1) : p6 φ ψ w0 F N m ρ0 ρ S1 tm1 a w := by subst hS; subst ht; exact G
theorem p6.at (G : p6 φ ψ w0 F N m ρ0 ρ S tm a w) (S1 : List It) (tm1 : List (Nat × AV)) (hS : S = S1 := by kernel_rfl) (ht : tm = tm1 := by kernel_rfl) : p6 φ ψ w0 F N m ρ0 ρ S1 tm1 a w := G.as S1 tm1 hS ht
theorem aQ1 {c : Nat} {x y : Code} (G : p6 φ ψ w0 F N m ρ0 ρ S tm a w) (b : Bool) (hc : x9 tm c = some (.v (.bool b))) (ht : b = true → x.wp P Q a w) (hf : b = false → y.wp P Q a w) : (Code.cond (.tmp c) x y).wp P Q a w := by
 have h := G.tmv c _ hc
 refine wp_cond_split (t := b) ?_ ht hf
 simp [Act.eval, Array.getD_eq_getD_getElem?, h, AV.val]
theorem a04 {c : Nat} {x y : Code} (G : p6 φ ψ w0 F N m ρ0 ρ S tm a w) (b : Bool) (hc : x9 tm c = some (.v (.bool b))) (hb : b = true) (h : x.wp P Q a w) : (Code.cond (.tmp c) x y).wp P Q a w := aQ1 G b hc (fun _ => h) fun hf => by rw [hb] at hf; cases hf
theorem a05 {c : Nat} {x y : Code} (G : p6 φ ψ w0 F N m ρ0 ρ S tm a w) (b : Bool) (hc : x9 tm c = some (.v (.bool b))) (hb : b = false) (h : y.wp P Q a w) : (Code.cond (.tmp c) x y).wp P Q a w := aQ1 G b hc (fun ht => by rw [hb] at ht; cases ht) fun _ => h
def aL1 (P : Program) (tm : Nat → Option AV) (S : Nat → It) : List ResultVar → Option (List AV)
 | [] => some []
 | .tmp t :: r =>
  match tm t, aL1 P tm S r with
  | some x, some l => some (x :: l)
  | _, _ => none
 | .cell t ty :: r =>
  match tm t, aL1 P tm S r with
  | some (.ptr b off), some l =>
   match S b with
   | .box cs => (aW5 P ty ((cs.drop off).take (aq1 P ty))).map fun x => x :: l
   | _ => none
  | _, _ => none
def be5 (P : Program) (fn : Func) (tm : List (Nat × AV)) (S : List It) : Option AV :=
 match aL1 P (x9 tm) (s9 S) fn.results.toList with
 | some [x] => some x
 | some l => some (.tup l)
 | none => none
theorem a69 {cs : List AV} {ty : TypeId} {b off : Nat} {x : AV} (hB : y8 w b (AV.vals ρ cs)) (h : aW5 P ty ((cs.drop off).take (aq1 P ty)) = some x) : (loadVar ty ⟨b, off, none⟩).run P w = .ok (x.val ρ) w :=
 ak5 h ⟨b, off, none⟩ fun j u hj => by
  rw [AV.vals_take, AV.vals_drop] at hj
  have hadd : (⟨b, off, none⟩ : Addr).add j = ⟨b, off + j, none⟩ := by unfold Addr.add; split <;> simp_all
  rw [hadd, hB.cell]
  rw [List.getElem?_take] at hj
  split at hj
  ·rw [List.getElem?_drop] at hj; exact hj
  ·cases hj
theorem aA2 (G : p6 φ ψ w0 F N m ρ0 ρ S tm a w) : ∀ {rs : List ResultVar} {l : List AV}, aL1 P (x9 tm) (s9 S) rs = some l →
  (rs.mapM (fun r => (match r with | .tmp t => pure (a.tmps.getD t undef) | .cell b t => do loadVar t (← asAddr (a.tmps.getD b undef)) : Sem Value))).run P w = .ok (AV.vals ρ l) w
 | [], l, h => by cases h; simp [AV.vals]
 | .tmp t :: r, l, h => by
  simp only [aL1] at h
  split at h
  case h_2 => cases h
  rename_i x l' h1 h2
  cases h
  have ht := G.tmv t x h1
  have ih := aA2 G h2
  have e : (pure (a.tmps.getD t undef) : Sem Value).run P w = .ok (x.val ρ) w := by simp [Array.getD_eq_getD_getElem?, ht]
  rw [List.mapM_cons, Sem.run_bind, e, Result.andThen_ok, Sem.run_bind, ih]
  rfl
 | .cell t ty :: r, l, h => by
  simp only [aL1] at h
  split at h
  case h_2 => cases h
  rename_i b off l' h1 h2
  split at h
  case h_2 => cases h
  rename_i cs hS
  obtain ⟨x, h3, h4⟩ := Option.map_eq_some_iff.1 h
  subst h4
  have ht := G.tmv t _ h1
  have ih := aA2 G h2
  have hl := a69 (P := P) (G.mem.boxAt hS) h3
  have e : (do loadVar ty (← asAddr (a.tmps.getD t undef)) : Sem Value).run P w = .ok (x.val ρ) w := by
   rw [show a.tmps.getD t undef = .pointer (some ⟨N6 (ρ b), off, none⟩) by simp [Array.getD_eq_getD_getElem?, ht, AV.val]]
   simp [asAddr, hl]
  rw [List.mapM_cons, Sem.run_bind, e, Result.andThen_ok, Sem.run_bind, ih]
  rfl
theorem be3 {fn : Func} {R : Ending → World → Prop} {v : AV} (G : p6 φ ψ w0 F N m ρ0 ρ S tm a w) (h : be5 P fn tm S = some v) (hR : R (.returned (v.val ρ)) w) : bodyPost P fn R .ret a w := by
 refine ⟨G.defs, v.val ρ, ?_, hR⟩
 unfold be5 at h
 cases hl : aL1 P (x9 tm) (s9 S) fn.results.toList with
 | none => rw [hl] at h; cases h
 | some l =>
  rw [hl] at h
  have := aA2 G hl
  unfold results
  rw [Sem.run_bind, Array.mapM_eq_mapM_toList, Sem.run_map]
  erw [this]
  simp only [Result.andThen_ok, Sem.run_pure]
  match l, h with
  | [], h => cases h; rfl
  | [x], h => cases h; rfl
  | x :: y :: r, h => cases h; rfl
def aJ4 (i : Nat) : List AV → List (Nat × AV)
 | [] => []
 | x :: r => (i, x) :: aJ4 (i + 1) r
theorem aJ3 (ρ : Nat → Value) : ∀ {l : List AV} {i t : Nat} {x : AV}, x9 (aJ4 i l) t = some x → i ≤ t ∧ (AV.vals ρ l)[t - i]? = some (x.val ρ)
 | [], _, _, _, h => by cases h
 | y :: r, i, t, x, h => by
  simp only [aJ4, x9, natEq, beq_iff_eq] at h
  split at h
  ·rename_i e; subst e; cases h; exact ⟨Nat.le_refl _, by simp [AV.vals]⟩
  ·obtain ⟨h1, h2⟩ := aJ3 ρ h
   refine ⟨by omega, ?_⟩
   rw [show t - i = (t - (i + 1)) + 1 by omega]
   simpa [AV.vals] using h2
def bn2 (φ ψ : Nat → Prop) (w0 : World) (F : ι → Rs) (ρ0 : Nat → Value) (c : p7) (x : Ending) (w' : World) : Prop := ∃ ρ', (∀ i, i < c.pre.length → ρ' i = ρ0 i) ∧ x = .returned (c.res.val ρ') ∧ l5 φ ψ w0 w' (o6 F ρ' (s9 c.post))
theorem m8 {c : p7} {fn : Func} {code : Code} (N : Nat) (hf : P.funcs[c.f]? = some fn) (hb : fn.body = some code) (hN : fn.ntmps = N) (hw : (wfB c.pre (aJ4 0 c.args) && decide (c.args.length ≤ N)) = true)
  (k : ∀ {ι : Type} (φ ψ : Nat → Prop) (w0 w : World) (F : ι → Rs) (ρ0 ρ : Nat → Value) (a : Act), p6 φ ψ w0 F N c.pre.length ρ0 ρ c.pre (aJ4 0 c.args) a w → code.wp P (bodyPost P fn (bn2 φ ψ w0 F ρ0 c)) a w) : c.ok P := by
 intro ι φ ψ w0 w F ρ M
 simp only [Bool.and_eq_true, decide_eq_true_eq] at hw
 obtain ⟨b1, b2⟩ := bc6 hw.1
 refine calls_of_wp hf hb (k φ ψ w0 w F ρ ρ _ ⟨?_, rfl, fun t x hx => ?_, b2, b1, M, Nat.le_refl _, fun _ _ => rfl⟩)
 ·simp [AV.vals_length, hN]; omega
 ·obtain ⟨_, h1⟩ := aJ3 ρ hx
  rw [Nat.sub_zero] at h1
  have hlt := (List.getElem?_eq_some_iff.1 h1).1
  rw [Array.getElem?_append_left (by simpa using hlt)]
  simpa using h1
theorem i7 {fn : Func} {c : p7} {v : AV} (G : p6 φ ψ w0 F N c.pre.length ρ0 ρ S tm a w) (js : List Nat) (h : be5 P fn tm S = some v) (hb : ai8 c.pre.length js c.post [] = true) (hS : js.map (s9 S) = c.post.map (It.ren (nth js))) (hv : v = c.res.ren (nth js)) : bodyPost P fn (bn2 φ ψ w0 F ρ0 c) .ret a w := by
 have G1 := Inn.sel G js c.post [] hb hS rfl
 refine be3 G h ⟨fun i => ρ (nth js i), G1.old, ?_, G1.mem⟩
 rw [hv, AV.val_ren]
theorem b9 {K : Act → World → Prop} (h : K a w) : Exit.then K Q .normal a w := h
theorem D9 {K : Act → World → Prop} {id : Nat} (h : Q (.exit id) a w) : Exit.then K Q (.exit id) a w := h
theorem H5 {K : Act → World → Prop} (h : Q .ret a w) : Exit.then K Q .ret a w := h
theorem o5 {id : Nat} (h : Q .normal a w) : Exit.inBlock id Q .normal a w := h
theorem ah0 {id : Nat} (h : Q .ret a w) : Exit.inBlock id Q .ret a w := h
theorem D7 {id : Nat} (h : Q .normal a w) : Exit.inBlock id Q (.exit id) a w := by simp only [Exit.inBlock, if_true]; exact h
theorem w6 {x : Int} (h1 : -9223372036854775808 ≤ x) (h2 : x ≤ 9223372036854775807) : IntKind.i64.wrap x = x := IntWalk.i64_in x ⟨h1, h2⟩
theorem rT {c : Nat} {x y : Code} (G : p6 φ ψ w0 F N m ρ0 ρ S tm a w) (b : Bool) (hb : b = true) (h : x.wp P Q a w) (hc : x9 tm c = some (.v (.bool b)) := by kernel_rfl) : (Code.cond (.tmp c) x y).wp P Q a w := a04 G b hc hb h
theorem rF {c : Nat} {x y : Code} (G : p6 φ ψ w0 F N m ρ0 ρ S tm a w) (b : Bool) (hb : b = false) (h : y.wp P Q a w) (hc : x9 tm c = some (.v (.bool b)) := by kernel_rfl) : (Code.cond (.tmp c) x y).wp P Q a w := a05 G b hc hb h
theorem F4 {κ : Type} {c : Code} (pre : κ → Prop) (μ : κ → Nat) (Sk : κ → List It) (Tk : κ → List (Nat × AV)) (k0 : κ) (hp : pre k0) (G : p6 φ ψ w0 F N m ρ0 ρ (Sk k0) (Tk k0) a w)
  (round : ∀ k ρ a w, pre k → p6 φ ψ w0 F N m ρ0 ρ (Sk k) (Tk k) a w → c.wp P (Exit.then (fun a' w' => ∃ k' ρ', pre k' ∧ μ k' < μ k ∧ p6 φ ψ w0 F N m ρ0 ρ' (Sk k') (Tk k') a' w') Q) a w) : (Code.loop c).wp P Q a w := by
 refine wp_loop_ghost (fun n a w => ∃ k ρ, μ k = n ∧ pre k ∧ p6 φ ψ w0 F N m ρ0 ρ (Sk k) (Tk k) a w) (μ k0) ⟨k0, ρ, rfl, hp, G⟩ ?_
 rintro n a w ⟨k, ρ, rfl, hk, Gk⟩
 refine wp_mono (round k ρ a w hk Gk) ?_
 intro e a' w' hq
 cases e with
 | normal =>
  obtain ⟨k', ρ', h1, h2, h3⟩ := hq
  exact ⟨μ k', h2, k', ρ', rfl, h1, h3⟩
 | _ => exact hq
theorem m0 {κ : Type} {pre : κ → Prop} {μ : κ → Nat} {Sk : κ → List It} {Tk : κ → List (Nat × AV)} {k : κ} (G : p6 φ ψ w0 F N m ρ0 ρ S tm a w) (k' : κ) (hp : pre k') (hμ : μ k' < μ k) (js : List Nat) (S1 : List It) (tm1 : List (Nat × AV)) (hs1 : Sk k' = S1) (ht1 : Tk k' = tm1)
  (hb : ai8 m js S1 tm1 = true) (hS : js.map (s9 S) = S1.map (It.ren (nth js))) (ht : (tm1.map (·.1)).map (x9 tm) = tm1.map fun p => some (p.2.ren (nth js))) :
  ∃ k' ρ', pre k' ∧ μ k' < μ k ∧ p6 φ ψ w0 F N m ρ0 ρ' (Sk k') (Tk k') a w := by
 subst hs1; subst ht1
 exact ⟨k', _, hp, hμ, Inn.sel G js _ _ hb hS ht⟩
theorem p6.len (G : p6 φ ψ w0 F N m ρ0 ρ S tm a w) (i : Nat) {d : D} (h : itD (s9 S i) = some d) : d.len ≤ 9223372036854775807 := by
 obtain ⟨_, cap, _, h1, h2, _⟩ := G.mem.sliceAt h
 unfold maxLen at h2; omega
end
end Go.Proofs.Ythikdkjjdeehoaa

namespace Go.Proofs.Ythikdkjjdeehoaa
set_option linter.unusedVariables false
set_option linter.unusedSimpArgs false
def l9 (k : Int) : Int := if k = 1 ∨ k = 2 then 0 else if k = 3 then 1 else if 4 ≤ k ∧ k ≤ 10 then 2 else if k = 11 then 3 else -1
def as5 (nv na : Nat) (k : Int) : Int := if k = 1 then 256 else if k = 2 then nv else if k = 3 then na else 1
def P2 (e : f5) : Bool := decide (e.kind = 1) || decide (e.kind = 2)
def Y5 (nv na : Nat) (e : f5) : Bool := decide ((e.kids.length : Int) = l9 e.kind) && decide (0 ≤ e.value) && decide (e.value < as5 nv na e.kind)
def ax2 (e : f5) : Bool := decide (e.kind ≠ 3) || (match e.kids with | k :: _ => P2 k | [] => false)
def E2 (nv na : Nat) : Nat → f5 → Bool
 | 0, _ => false
 | d + 1, e => Y5 nv na e && e.kids.all (E2 nv na d) && ax2 e
def l6 (nv na : Nat) (e : f5) : Bool := E2 nv na 5 e && decide (1 + L9 e ≤ 15)
theorem af2 (e : f5) : L9 e = G2 e.kids := by cases e; rfl
theorem af1 (ks : List f5) (k : Nat) : G2 (ks.take k) ≤ G2 ks := by
 have := L8 (ks.take k) (ks.drop k)
 rw [List.take_append_drop] at this
 omega
def noneB (e : f5) : Bool := decide (e.kind = 0) && decide (e.value = 0) && decide (e.kids.length = 0)
def x6 (s : d9) : Bool :=
 if (s.kind = 3 ∨ s.kind = 4) then
  decide (s.target = 0) && (if s.kind = 4 then decide (s.els.length = 0) && decide (1 ≤ s.count) && decide (s.count ≤ 3) && noneB s.index && noneB s.value
   else decide (s.count = 0) && noneB s.index)
 else decide (s.body.length = 0) && decide (s.els.length = 0) && decide (s.count = 0) && (decide (s.kind = 2) || noneB s.index)
def i9 (nv na : Nat) : Nat → d9 → Bool
  | 0, _ => false
  | d + 1, s => x6 s &&
    (if s.kind = 1 ∨ s.kind = 5 then decide (0 ≤ s.target) && decide (s.target < nv) && l6 nv na s.value
     else if s.kind = 2 then decide (0 ≤ s.target) && decide (s.target < na) && l6 nv na s.index && P2 s.index && l6 nv na s.value
     else if s.kind = 3 then l6 nv na s.value && s.body.all (i9 nv na d) && s.els.all (i9 nv na d)
     else if s.kind = 4 then s.body.all (i9 nv na d)
     else false)
def R4 (nv na : Nat) (d : Nat) (ss : List d9) : Bool := ss.all (i9 nv na d)
mutual
def nS : d9 → Nat
 | ⟨_, _, _, _, _, b, e⟩ => 1 + H1 b + H1 e
def H1 : List d9 → Nat
 | [] => 0
 | s :: r => nS s + H1 r
end
def A0 (p : m6) : Bool := A6 p.vars p.arrays && R4 p.vars.length p.arrays.length 5 p.body && decide (H1 p.body ≤ 60)
end Go.Proofs.Ythikdkjjdeehoaa

namespace Go.Proofs.Ythikdkjjdeehoaa
set_option linter.unusedVariables false
set_option linter.unusedSimpArgs false
open Go Go.RowKit
def p5 (t : TypeId) : Nat :=
 if natEq t 3 then 1 else
 if natEq t 4 then 2 else
 if natEq t 5 then 3 else
 if natEq t 9 then 4 else
if natEq t 38 then 5 else
 if natEq t 23 then 7 else
if natEq t 81 then 9 else
if natEq t 83 then 10 else
 0
abbrev eA (e : f5) (r : Nat) : AV := .agg [.v (.int .i64 e.kind), .v (.int .i64 e.value), .ref r]
abbrev eS (e : f5) : List It := [.dat (.exprs e.kids)]
abbrev sA (s : d9) (r : Nat) : AV := .agg [.v (.int .i64 s.kind), .v (.int .i64 s.target), .v (.int .i64 s.index.kind), .v (.int .i64 s.index.value), .ref r, .v (.int .i64 s.value.kind), .v (.int .i64 s.value.value), .ref (r + 1), .v (.int .i64 s.count), .ref (r + 2), .ref (r + 3)]
abbrev sS (s : d9) : List It := [.dat (.exprs s.index.kids), .dat (.exprs s.value.kids), .dat (.stmts s.body), .dat (.stmts s.els)]
abbrev pA (r : Nat) : AV := .agg [.ref r, .ref (r + 1), .ref (r + 2)]
abbrev pS (p : m6) : List It := [.dat (.ints p.vars), .dat (.ints p.arrays), .dat (.stmts p.body)]
abbrev iA (n : Int) : AV := .v (.int .i64 n)
abbrev bA (b : Bool) : AV := .v (.bool b)
abbrev fnC (f : FuncId) (args : List AV) (S : List It) (res : AV) : p7 := ⟨f, args, S, S, res⟩
abbrev dI (l : List Int) : It := .dat (.ints l)
abbrev dY (l : List UInt8) : It := .dat (.bytes l)
abbrev dN (l : List d8) : It := .dat (.instrs l)
abbrev dE (l : List f5) : It := .dat (.exprs l)
abbrev dT (l : List d9) : It := .dat (.stmts l)
abbrev eL (e : f5) (r : Nat) : List AV := [.v (.int .i64 e.kind), .v (.int .i64 e.value), .ref r]
abbrev sL (s : d9) (r : Nat) : List AV := [.v (.int .i64 s.kind), .v (.int .i64 s.target), .v (.int .i64 s.index.kind), .v (.int .i64 s.index.value), .ref r, .v (.int .i64 s.value.kind), .v (.int .i64 s.value.value), .ref (r + 1), .v (.int .i64 s.count), .ref (r + 2), .ref (r + 3)]
abbrev pL (r : Nat) : List AV := [.ref r, .ref (r + 1), .ref (r + 2)]
section
variable {P : Program} {ι : Type} {φ ψ : Nat → Prop} {w0 w w' : World} {F : ι → Rs} {ρ ρ0 : Nat → Value} {N m n : Nat} {S : List It} {tm : List (Nat × AV)} {a : Act} {Q : Exit → Act → World → Prop}
theorem D8 {l : List Oper} {id : Nat} (G : p6 φ ψ w0 F N m ρ0 ρ S tm a w) (js : List Nat) (S1 : List It) (tm1 : List (Nat × AV)) (k : ∀ ρ' a' w', p6 φ ψ w0 F N m ρ0 ρ' S1 tm1 a' w' → Q .normal a' w')
  (hs : ((I2 P p5 N l ⟨[], [], []⟩ l 0 tm (s9 S) S.length).isSome && ai8 m js S1 tm1) = true := by kernel_rfl)
  (hc : av1 (I2 P p5 N l ⟨[], [], []⟩ l 0 tm (s9 S) S.length) js (tm1.map (·.1)) = av0 (I2 P p5 N l ⟨[], [], []⟩ l 0 tm (s9 S) S.length) [] js S1 tm1 := by kernel_rfl) : (Code.region id l.toArray false).wp P Q a w := a03 G ⟨[], [], []⟩ b0 trivial js S1 tm1 [] hs hc trivial k
theorem l0 {l : List Oper} {id : Nat} (G : p6 φ ψ w0 F N m ρ0 ρ S tm a w) (tm1 : List (Nat × AV)) (k : ∀ ρ' a' w', p6 φ ψ w0 F N m ρ0 ρ' S tm1 a' w' → Q .normal a' w')
  (hs : ((I2 P p5 N l ⟨[], [], []⟩ l 0 tm (s9 S) S.length).isSome && ai8 m (List.range S.length) S tm1) = true := by kernel_rfl)
  (hc : av1 (I2 P p5 N l ⟨[], [], []⟩ l 0 tm (s9 S) S.length) (List.range S.length) (tm1.map (·.1)) = av0 (I2 P p5 N l ⟨[], [], []⟩ l 0 tm (s9 S) S.length) [] (List.range S.length) S tm1 := by kernel_rfl) : (Code.region id l.toArray false).wp P Q a w := D8 G _ S tm1 k hs hc
theorem m9 {l : List Oper} {id : Nat} (G : p6 φ ψ w0 F N m ρ0 ρ S tm a w) (H : O1) (hH : ∀ i c τ, H2 H.calls i = some (c, τ) → c.ok P) (hF : P3 H.facts) (tm1 : List (Nat × AV)) (obs : List Prop)
  (ho : v6 obs) (k : ∀ ρ' a' w', p6 φ ψ w0 F N m ρ0 ρ' S tm1 a' w' → Q .normal a' w')
  (hs : ((I2 P p5 N l H l 0 tm (s9 S) S.length).isSome && ai8 m (List.range S.length) S tm1) = true := by kernel_rfl)
  (hc : av1 (I2 P p5 N l H l 0 tm (s9 S) S.length) (List.range S.length) (tm1.map (·.1)) = av0 (I2 P p5 N l H l 0 tm (s9 S) S.length) obs (List.range S.length) S tm1 := by kernel_rfl) : (Code.region id l.toArray false).wp P Q a w := v5 G H hH hF _ S tm1 obs ho k hs hc
theorem bi6 {l : List Oper} {id : Nat} (G : p6 φ ψ w0 F N m ρ0 ρ S tm a w) (H : O1) (hH : ∀ i c τ, H2 H.calls i = some (c, τ) → c.ok P) (hF : P3 H.facts) (ms : List Nat) (tm1 : List (Nat × AV)) (obs : List Prop)
  (ho : v6 obs) (k : ∀ ρ' a' w', p6 φ ψ w0 F N m ρ0 ρ' S tm1 a' w' → Q .normal a' w') (hm : P.follows .mixedOrders = true := by kernel_rfl)
  (hs : (aR7 l ms S.length (I2 P p5 N l H l 0 tm (s9 S) S.length) && ai8 m (List.range S.length) S tm1) = true := by kernel_rfl)
  (hc : av1 (I2 P p5 N l H l 0 tm (s9 S) S.length) (List.range S.length) (tm1.map (·.1)) = av0 (I2 P p5 N l H l 0 tm (s9 S) S.length) obs (List.range S.length) S tm1 := by kernel_rfl) : (Code.region id l.toArray true).wp P Q a w := rd1 G H hH hF ms _ S tm1 obs ho k hm hs hc
end
theorem f5.eta (e : f5) : (⟨e.kind, e.value, e.kids⟩ : f5) = e := by cases e; rfl
theorem d9.eta (s : d9) : (⟨s.kind, s.target, s.index, s.value, s.count, s.body, s.els⟩ : d9) = s := by cases s; rfl
theorem V7 (l : Int) (w : World) : Calls Try.prog 45 #[.int .i64 l] w fun e w' => e = .returned (.bool (C9 l)) ∧ w = w' := by
 go_enter Try.func45, Try.ntmps45
 go_wp2
 all_goals go_ret
 all_goals exact ⟨f8 (by simp [C9]; try omega), rfl⟩
theorem az6 (v1 v2 v3 : Value) (n1 n2 : Nat) (x1 x2 : List Value) (w : World) (h1 : H8 w v1 n1 1 x1) (h2 : H8 w v2 n2 1 x2) :
  Calls Try.prog 27 #[.agg #[v1, v2, v3]] w fun e w' => e = .returned (.agg #[v1, v2, .slice none 0 0]) ∧ Below w.heap.size w w' := by
 obtain ⟨a1, k1, rfl⟩ := h1.form
 obtain ⟨a2, k2, rfl⟩ := h2.form
 clear h1 h2
 go_enter Try.func27, Try.ntmps27
 go_wp2
 go_returns
 exact ⟨rfl, by go_grown⟩
theorem af3 (v1 v2 v3 : Value) (vars arrays : List Int) (w : World) (h1 : H8 w v1 vars.length 1 (ints vars)) (h2 : H8 w v2 arrays.length 1 (ints arrays)) :
  Calls Try.prog 26 #[.agg #[v1, v2, v3]] w fun e w' => e = .returned (.bool (A6 vars arrays)) ∧ Below w.heap.size w w' := by
 have B0 : Below w.heap.size w (w.alloc (.cells #[v1, v2, v3] 51)) := by go_grown
 obtain ⟨a1, c1, rfl, -, hm1, -, hc1⟩ := (h1.below B0).open1
 obtain ⟨a2, c2, rfl, -, hm2, -, hc2⟩ := (h2.below B0).open1
 have HT : Hid (A6 vars arrays = (vars.all C9 && arrays.all C9 && decide (1 ≤ vars.length) && decide (vars.length ≤ 12) && decide (arrays.length ≤ 2))) := rfl
 clear h1 h2
 go_enter Try.func26, Try.ntmps26
 go_wp2_with fail
 go_loop [3] (fun i => ∃ k : Nat, k ≤ vars.length ∧ i = .int .i64 k ∧ (vars.take k).all C9 = true) (fun i => vars.length - (intOf i).toNat)
 case atStart => exact ⟨0, Nat.zero_le _, rfl, rfl⟩
 case round =>
  obtain ⟨k, hk, rfl, ha⟩ := hrel
  have HA := show Hid _ from ha
  clear ha
  by_cases hlt : k < vars.length
  ·obtain ⟨b1, o1, rfl, hb1, hx⟩ := hc1 k hlt
   rw [Y7 _ _ hlt] at hx
   have HS := show Hid _ from R6 C9 vars k hlt
   clear hc1 hc2
   cases hl : C9 vars[k]
   all_goals
    have HL := show Hid _ from hl
    clear hl
    go_wp2_with fail
    refine (V7 _ _).mono ?_
    rintro e w1 ⟨rfl, rfl⟩
    rw [HL.out]
    go_wp2_with fail
   ·go_ret
    exact ⟨f8 (by rw [HT.out, aA7 hlt HL.out]; rfl), B0⟩
   ·go_round
    case rel => exact ⟨k + 1, by omega, by go_num, by rw [HS.out, HA.out, HL.out]; rfl⟩
    case measure => simp [intOf]; omega
  ·have HA' := show Hid (vars.all C9 = true) from by have := HA.out; rwa [List.take_of_length_le (by omega)] at this
   clear HA hc1
   go_wp2_with fail
   go_loop [4] (fun i => ∃ k : Nat, k ≤ arrays.length ∧ i = .int .i64 k ∧ (arrays.take k).all C9 = true) (fun i => arrays.length - (intOf i).toNat)
   case atStart => exact ⟨0, Nat.zero_le _, rfl, rfl⟩
   case round =>
    obtain ⟨j, hj, rfl, ha⟩ := hrel
    have HB := show Hid _ from ha
    clear ha
    by_cases hlj : j < arrays.length
    ·obtain ⟨b1, o1, rfl, hb1, hx⟩ := hc2 j hlj
     rw [Y7 _ _ hlj] at hx
     have HS := show Hid _ from R6 C9 arrays j hlj
     clear hc2
     cases hl : C9 arrays[j]
     all_goals
      have HL := show Hid _ from hl
      clear hl
      go_wp2_with fail
      refine (V7 _ _).mono ?_
      rintro e w1 ⟨rfl, rfl⟩
      rw [HL.out]
      go_wp2_with fail
     ·go_ret
      exact ⟨f8 (by rw [HT.out, aA7 hlj HL.out]; simp), B0⟩
     ·go_round
      case rel => exact ⟨j + 1, by omega, by go_num, by rw [HS.out, HB.out, HL.out]; rfl⟩
      case measure => simp [intOf]; omega
    ·have HB' := show Hid (arrays.all C9 = true) from by have := HB.out; rwa [List.take_of_length_le (by omega)] at this
     clear HB hc2
     go_wp2_with fail
     all_goals go_ret
     all_goals refine ⟨f8 ?_, B0⟩
     all_goals rw [HT.out, HA'.out, HB'.out]
     all_goals rw [Bool.eq_iff_iff]
     all_goals simp
     all_goals omega
theorem az3 (v1 v2 v3 : Value) (c : f7) (kd : UInt8) (n : Int) (w : World) (h1 : H8 w v1 c.vars.length 1 (ints c.vars)) (h2 : H8 w v2 c.arrays.length 1 (ints c.arrays)) (h3 : L6 w v3 c.list) :
  Calls Try.prog 48 #[.agg #[v1, v2, v3], .int .u8 kd.toNat, .int .i64 n] w fun e w' => e = .returned (.bool (J7 c kd n)) ∧ Below w.heap.size w w' := by
 obtain ⟨a1, k1, rfl, -, q1, -, -⟩ := h1.open1
 obtain ⟨a2, k2, rfl, -, q2, -, -⟩ := h2.open1
 obtain ⟨a3, k3, rfl, -, q3, -, -⟩ := h3.open
 have hk : kd.toNat < 256 := kd.toNat_lt
 have HK : ∀ m : UInt8, (kd = m) = ((kd.toNat : Int) = (m.toNat : Int)) := fun m => by
  rw [eq_iff_iff]
  constructor
  ·rintro rfl; rfl
  ·intro h; exact UInt8.toNat_inj.1 (by omega)
 have HK' := show Hid _ from HK
 clear HK h1 h2 h3
 obtain ⟨z, hz⟩ : ∃ z, z = kd.toNat := ⟨_, rfl⟩
 rw [← hz] at hk ⊢
 have HZ := show Hid _ from hz
 clear hz
 go_enter Try.func48, Try.ntmps48
 go_wp2_with fail
 all_goals go_ret
 all_goals refine ⟨f8 ?_, by go_grown⟩
 all_goals unfold J7
 all_goals simp only [HK'.out, ← HZ.out, show (UInt8.toNat 114) = 114 from rfl, show (UInt8.toNat 99) = 99 from rfl, show (UInt8.toNat 118) = 118 from rfl, show (UInt8.toNat 97) = 97 from rfl, show (UInt8.toNat 111) = 111 from rfl]
 all_goals clear HK' HZ hk q1 q2 q3
 all_goals simp_all
 all_goals omega
theorem ac0 (op : Int) (w : World) (h1 : 1 ≤ op) (h2 : op ≤ 13) :
  Calls Try.prog 46 #[.int .i64 op] w fun e w' => e = .returned (.string ⟨(b8 op).toArray⟩) ∧ Below w.heap.size w w' := by
 have h : op = 1 ∨ op = 2 ∨ op = 3 ∨ op = 4 ∨ op = 5 ∨ op = 6 ∨ op = 7 ∨ op = 8 ∨ op = 9 ∨ op = 10 ∨ op = 11 ∨ op = 12 ∨ op = 13 := by omega
 clear h1 h2
 rcases h with rfl | rfl | rfl | rfl | rfl | rfl | rfl | rfl | rfl | rfl | rfl | rfl | rfl
 all_goals
  go_enter Try.func46, Try.ntmps46
  go_wp2_with fail
  go_ret
  exact ⟨by simp [b8], by go_grown⟩
theorem az4 (x : d8) (w : World) :
  Calls Try.prog 47 #[x.v] w fun e w' => ∃ u, e = .returned u ∧ I5 w' w.heap.size w'.heap.size 3 1 u 4 (ints [x.a, x.b, x.c, x.d]) ∧ Below w.heap.size w w' := by
 obtain ⟨x0, x1, x2, x3, x4⟩ := x
 go_enter Try.func47, Try.ntmps47
 go_wp2_with fail
 go_ret
 refine ⟨_, rfl, (E1 _ #[.int .i64 x1, .int .i64 x2, .int .i64 x3, .int .i64 x4] 4 1 _ (by simp) rfl (by omega)).wide (by simp) (by simp), by go_grown⟩
theorem aA1 (k : Int) (w : World) : Calls Try.prog 72 #[.int .i64 k] w fun e w' => e = .returned (.int .i64 (l9 k)) ∧ w = w' := by
 go_enter Try.func72, Try.ntmps72
 go_wp2
 all_goals
  go_ret
  exact ⟨H7 (by unfold l9; (repeat' split) <;> simp_all <;> omega), rfl⟩
theorem am0 (k n : Int) (kv : Value) (w : World) : Calls Try.prog 71 #[.agg #[.int .i64 k, .int .i64 n, kv]] w fun e w' => e = .returned (.bool (decide (k = 1) || decide (k = 2))) ∧ Below w.heap.size w w' := by
 by_cases h1 : k = 1
 ·have p1 : (k == 1) = true := by simp [h1]
  have Q := show Hid _ from h1
  clear h1
  go_enter Try.func71, Try.ntmps71
  go_wp2
  go_ret
  exact ⟨f8 (by simp [Q.out]), by go_grown⟩
 ·have p1 : (k == 1) = false := by simp [h1]
  have Q := show Hid _ from h1
  clear h1
  by_cases h2 : k = 2
  ·have p2 : (k == 2) = true := by simp [h2]
   have Q2 := show Hid _ from h2
   clear h2
   go_enter Try.func71, Try.ntmps71
   go_wp2
   go_ret
   exact ⟨f8 (by simp [Q2.out]), by go_grown⟩
  ·have p2 : (k == 2) = false := by simp [h2]
   have Q2 := show Hid _ from h2
   clear h2
   go_enter Try.func71, Try.ntmps71
   go_wp2
   go_ret
   exact ⟨f8 (by rw [decide_eq_false Q.out, decide_eq_false Q2.out]; rfl), by go_grown⟩
theorem az9 (a1 a2 : Option Addr) (nv c1 na c2 : Nat) (v3 : Value) (k : Int) (w : World) (h1 : nv ≤ 9223372036854775807) (h2 : na ≤ 9223372036854775807) :
  Calls Try.prog 76 #[.agg #[.slice a1 nv c1, .slice a2 na c2, v3], .int .i64 k] w fun e w' => e = .returned (.int .i64 (as5 nv na k)) ∧ Below w.heap.size w w' := by
 go_enter Try.func76, Try.ntmps76
 go_wp2
 all_goals
  go_ret
  exact ⟨H7 (by unfold as5; (repeat' split) <;> simp_all), by go_grown⟩
theorem aT2 {e : f5} (h3 : e.kind = 3) (hl : 0 < e.kids.length) : ax2 e = (decide (e.kids[0].kind = 1) || decide (e.kids[0].kind = 2)) := by
 rcases e with ⟨k, n, ks⟩
 cases ks with
 | nil => simp [f5.kids] at hl
 | cons a r =>
  have h3' : k = 3 := h3
  subst h3'
  simp only [ax2, f5.kids, List.getElem_cons_zero, P2]
  rw [decide_eq_false (by simp [f5.kind])]
  rfl
theorem az7 (a1 a2 : Option Addr) (nv c1 na c2 : Nat) (v3 : Value) (h1 : nv ≤ 9223372036854775807) (h2 : na ≤ 9223372036854775807) : ∀ d : Nat, d ≤ 5 → ∀ (e : f5) (φ : Nat → Prop) (v : Value) (w : World), Z8 w φ v e →
  Calls Try.prog 73 #[.agg #[.slice a1 nv c1, .slice a2 na c2, v3], v, .int .i64 d] w fun x w' => x = .returned (.bool (E2 nv na d e)) ∧ Below w.heap.size w w' := by
 intro d
 induction d with
 | zero =>
  intro _ e φ v w h
  obtain ⟨kv, rfl, hk⟩ := h
  have HS : Hid (E2 nv na 0 e = false) := rfl
  obtain ⟨W, hW, M⟩ : ∃ W, W = (w.alloc (.cells #[.slice a1 nv c1, .slice a2 na c2, v3] 51)).alloc (.cells #[.int .i64 e.kind, .int .i64 e.value, kv] 81) ∧ C1 (fun _ => True) (fun _ => True) w W [.box w.heap.size [.slice a1 nv c1, .slice a2 na c2, v3], .box (w.heap.size + 1) [.int .i64 e.kind, .int .i64 e.value, kv]] :=
   ⟨_, rfl, ((C1.start fun _ _ => trivial).box _ _).box' _ _ (by simp)⟩
  have HB := show Hid _ from M.below fun _ _ => trivial
  clear hk M
  go_enter Try.func73, Try.ntmps73
  go_wp2_with fail
  rw [← hW]
  clear hW
  refine o7 (by kernel_rfl) (by kernel_rfl) ?_
  repeat (any_goals (first | go_big_quiet_step (((fail))) | quiet_step (((fail)))))
  refine wpQuiet_nil ?_
  rintro _ ⟨X, rfl⟩
  go_wp2_with fail
  go_ret
  exact ⟨f8 HS.out.symm, HB.out.trans ((l8 W X).mono HB.out.size)⟩
 | succ d ih =>
  intro hd5 e φ v w h
  obtain ⟨kv, rfl, hk⟩ := h
  obtain ⟨ak, ck, rfl, -, hn, -, hc⟩ := hk.open
  have hd0 : (d : Int) ≤ 5 := by omega
  have p0 : decide ((d : Int) + 1 < 1) = false := by simp; omega
  have HS : Hid (E2 nv na (d + 1) e = (Y5 nv na e && e.kids.all (E2 nv na d) && ax2 e)) := rfl
  obtain ⟨W, hW, M⟩ : ∃ W, W = (w.alloc (.cells #[.slice a1 nv c1, .slice a2 na c2, v3] 51)).alloc (.cells #[.int .i64 e.kind, .int .i64 e.value, .slice ak e.kids.length ck] 81) ∧ C1 (fun _ => True) (fun _ => True) w W [.box w.heap.size [.slice a1 nv c1, .slice a2 na c2, v3], .box (w.heap.size + 1) [.int .i64 e.kind, .int .i64 e.value, .slice ak e.kids.length ck]] :=
   ⟨_, rfl, ((C1.start fun _ _ => trivial).box _ _).box' _ _ (by simp)⟩
  have HB := show Hid _ from M.below fun _ _ => trivial
  have HA : Hid (∀ X, Calls Try.prog 72 #[.int .i64 e.kind] (W.ext X) fun x w'' => x = .returned (.int .i64 (l9 e.kind)) ∧ ∃ Y, w'' = W.ext Y) := fun X =>
   Calls.ext_of' ((aA1 e.kind _).mono fun x w' h => ⟨h.1, h.2 ▸ Below.refl _ _⟩)
  have HL : Hid (∀ X, Calls Try.prog 76 #[.agg #[.slice a1 nv c1, .slice a2 na c2, v3], .int .i64 e.kind] (W.ext X) fun x w'' => x = .returned (.int .i64 (as5 nv na e.kind)) ∧ ∃ Y, w'' = W.ext Y) := fun X =>
   Calls.ext_of' (az9 a1 a2 nv c1 na c2 v3 e.kind _ h1 h2)
  have HM := show Hid _ from M
  have HC := show Hid _ from hc
  have x0 := M.c 0 0 rfl rfl
  have x1 := M.c 0 1 rfl rfl
  have x2 := M.c 0 2 rfl rfl
  have y0 := M.c 1 0 rfl rfl
  have y1 := M.c 1 1 rfl rfl
  have y2 := M.c 1 2 rfl rfl
  have z0 := fun X => f9 x0 X
  have z1 := fun X => f9 x1 X
  have z2 := fun X => f9 x2 X
  have z3 := fun X => f9 y0 X
  have z4 := fun X => f9 y1 X
  have z5 := fun X => f9 y2 X
  clear hk M hc x0 x1 x2 y0 y1 y2
  by_cases q1 : (e.kids.length : Int) = l9 e.kind
  case neg =>
   have p1 : ((e.kids.length : Int) != l9 e.kind) = true := by simp [q1]
   have HN : Hid (Y5 nv na e = false) := by unfold Hid Y5; simp [q1]
   clear q1
   go_enter Try.func73, Try.ntmps73
   go_wp2_with fail
   rw [← hW]
   clear hW
   refine o7 (by kernel_rfl) (by kernel_rfl) ?_
   repeat (any_goals (first | go_big_quiet_step (((first | (go_at_call 72; exact HA.out _) | (go_at_call 76; exact HL.out _)))) | quiet_step (((first | (go_at_call 72; exact HA.out _) | (go_at_call 76; exact HL.out _))))))
   refine wpQuiet_nil ?_
   rintro _ ⟨X, rfl⟩
   go_wp2_with fail
   go_ret
   exact ⟨f8 (by rw [HS.out, HN.out]; rfl), HB.out.trans ((l8 W X).mono HB.out.size)⟩
  have p1 : ((e.kids.length : Int) != l9 e.kind) = false := by simp [q1]
  by_cases q2 : e.value < 0
  case pos =>
   have p2 : decide (e.value < 0) = true := by simp [q2]
   have HN : Hid (Y5 nv na e = false) := by unfold Hid Y5; simp; intro _ h; omega
   clear q1 q2
   go_enter Try.func73, Try.ntmps73
   go_wp2_with fail
   rw [← hW]
   clear hW
   refine o7 (by kernel_rfl) (by kernel_rfl) ?_
   repeat (any_goals (first | go_big_quiet_step (((first | (go_at_call 72; exact HA.out _) | (go_at_call 76; exact HL.out _)))) | quiet_step (((first | (go_at_call 72; exact HA.out _) | (go_at_call 76; exact HL.out _))))))
   refine wpQuiet_nil ?_
   rintro _ ⟨X, rfl⟩
   go_wp2_with fail
   go_ret
   exact ⟨f8 (by rw [HS.out, HN.out]; rfl), HB.out.trans ((l8 W X).mono HB.out.size)⟩
  have p2 : decide (e.value < 0) = false := by simp; omega
  by_cases q3 : as5 nv na e.kind ≤ e.value
  case pos =>
   have p3 : decide (as5 nv na e.kind ≤ e.value) = true := by simp [q3]
   have HN : Hid (Y5 nv na e = false) := by unfold Hid Y5; simp; intro _ h; omega
   clear q1 q2 q3
   go_enter Try.func73, Try.ntmps73
   go_wp2_with fail
   rw [← hW]
   clear hW
   refine o7 (by kernel_rfl) (by kernel_rfl) ?_
   repeat (any_goals (first | go_big_quiet_step (((first | (go_at_call 72; exact HA.out _) | (go_at_call 76; exact HL.out _)))) | quiet_step (((first | (go_at_call 72; exact HA.out _) | (go_at_call 76; exact HL.out _))))))
   refine wpQuiet_nil ?_
   rintro _ ⟨X, rfl⟩
   go_wp2_with fail
   go_ret
   exact ⟨f8 (by rw [HS.out, HN.out]; rfl), HB.out.trans ((l8 W X).mono HB.out.size)⟩
  have p3 : decide (as5 nv na e.kind ≤ e.value) = false := by simp; omega
  have HN : Hid (Y5 nv na e = true) := by unfold Hid Y5; simp; exact ⟨⟨q1, by omega⟩, by omega⟩
  have HQ := show Hid _ from q1
  clear q1 q2 q3
  go_enter Try.func73, Try.ntmps73
  go_wp2_with fail
  rw [← hW]
  clear hW
  refine o7 (by kernel_rfl) (by kernel_rfl) ?_
  repeat (any_goals (first | go_big_quiet_step (((first | (go_at_call 72; exact HA.out _) | (go_at_call 76; exact HL.out _)))) | quiet_step (((first | (go_at_call 72; exact HA.out _) | (go_at_call 76; exact HL.out _))))))
  refine wpQuiet_nil ?_
  rintro _ ⟨X, rfl⟩
  have M := HM.out.call (l8 W X)
  generalize W.ext X = W1 at *
  clear HA HL HM HB p1 p2 p3 z0 z1 z2 z3 z4 z5
  go_wp2_with fail
  go_loopw [7] (fun i wr => ∃ k : Nat, k ≤ e.kids.length ∧ i = .int .i64 k ∧ (e.kids.take k).all (E2 nv na d) = true ∧ C1 (fun _ => True) (fun _ => True) w wr [.box w.heap.size [.slice a1 nv c1, .slice a2 na c2, v3], .box (w.heap.size + 1) [.int .i64 e.kind, .int .i64 e.value, .slice ak e.kids.length ck]]) (fun i _ => e.kids.length - (intOf i).toNat)
  case atStart => exact ⟨0, Nat.zero_le _, rfl, rfl, M⟩
  case round =>
   clear M
   obtain ⟨k, hk, rfl, hall, M⟩ := hrel
   have HALL := show Hid _ from hall
   clear hall
   have hB := M.below fun _ _ => trivial
   have x0 := M.c 0 0 rfl rfl
   have x1 := M.c 0 1 rfl rfl
   have x2 := M.c 0 2 rfl rfl
   have y0 := M.c 1 0 rfl rfl
   have y2 := M.c 1 2 rfl rfl
   by_cases hlt : k < e.kids.length
   ·obtain ⟨b, off, kv, rfl, hbk, hf, c0, c1', c2', hkv⟩ := HC.out k hlt
    rw [← (K5 hB).1 _ _ hbk] at c0 c1' c2'
    obtain ⟨q, hq⟩ : ∃ q, q = E2 nv na d e.kids[k] := ⟨_, rfl⟩
    have HC3 : Hid (∀ X, Calls Try.prog 73 #[.agg #[.slice a1 nv c1, .slice a2 na c2, v3], .agg #[.int .i64 e.kids[k].kind, .int .i64 e.kids[k].value, kv], .int .i64 d] (wr.ext X) fun x w'' => x = .returned (.bool q) ∧ ∃ Y, w'' = wr.ext Y) := fun X => by
     have bb := hB.trans ((l8 wr X).mono hB.size)
     rw [hq]
     exact Calls.ext_of' (ih (by omega) _ φ _ _ ⟨kv, rfl, z8.nice _ _ _ _ _ _ (W6.below bb) hkv⟩)
    have HQQ := show Hid _ from hq
    have HM := show Hid _ from M
    have j0 := fun X => f9 c0 X
    have j1 := fun X => f9 c1' X
    have j2 := fun X => f9 c2' X
    have z0 := fun X => f9 x0 X
    have z1 := fun X => f9 x1 X
    have z2 := fun X => f9 x2 X
    have z5 := fun X => f9 y2 X
    have hlt' : (k : Int) < e.kids.length := by omega
    clear hkv hq c0 c1' c2' x0 x1 x2 y0 M hB
    cases q
    ·go_wp2_with fail
     refine o7 (by kernel_rfl) (by kernel_rfl) ?_
     repeat (any_goals (first | go_big_quiet_step (((go_at_call 73; exact HC3.out _))) | quiet_step (((go_at_call 73; exact HC3.out _)))))
     refine wpQuiet_nil ?_
     rintro _ ⟨X, rfl⟩
     go_wp2_with fail
     go_ret
     have M := HM.out.call (l8 wr X)
     refine ⟨f8 ?_, M.below fun _ _ => trivial⟩
     have h9 : e.kids.all (E2 nv na d) = false := List.all_eq_false.2 ⟨_, List.getElem_mem hlt, by rw [← HQQ.out]; simp⟩
     rw [HS.out, h9, Bool.and_false, Bool.false_and]
    ·go_wp2_with fail
     refine o7 (by kernel_rfl) (by kernel_rfl) ?_
     repeat (any_goals (first | go_big_quiet_step (((go_at_call 73; exact HC3.out _))) | quiet_step (((go_at_call 73; exact HC3.out _)))))
     refine wpQuiet_nil ?_
     rintro _ ⟨X, rfl⟩
     go_wp2_with fail
     refine ⟨⟨k + 1, by omega, by go_num, ?_, HM.out.call (l8 wr X)⟩, by simp [intOf]; omega⟩
     rw [M5 _ _ hlt, List.all_append, HALL.out]
     simp [← HQQ.out]
   ·have hkn : k = e.kids.length := by omega
    subst hkn
    have hall := HALL.out
    rw [List.take_of_length_le (Nat.le_refl _)] at hall
    have HAL := show Hid _ from hall
    have HB := show Hid _ from hB
    have HM := show Hid _ from M
    clear hall x0 x1 x2 M hB
    by_cases q4 : e.kind = 3
    ·have p4 : (e.kind != 3) = false := by simp [q4]
     have hl1 : e.kids.length = 1 := by have := HQ.out; rw [q4] at this; simp [l9] at this; omega
     have HL1 := show Hid _ from hl1
     have hpos : 0 < (e.kids.length : Int) := by omega
     obtain ⟨b, off, kv, rfl, hbk, hf, c0, c1', c2', hkv⟩ := HC.out 0 (by omega)
     rw [← (K5 HB.out).1 _ _ hbk] at c0 c1' c2'
     simp only [Nat.zero_mul, Nat.add_zero] at c0 c1' c2'
     have HR := show Hid _ from aT2 q4 (by omega)
     clear hkv q4
     go_wp2_with fail
     refine (am0 _ _ _ _).mono ?_
     rintro x w2 ⟨rfl, b2⟩
     have B2 := show Hid _ from HB.out.trans (b2.mono HB.out.size)
     clear b2
     go_wp2_with fail
     go_ret
     exact ⟨f8 (by rw [HS.out, HN.out, HAL.out, HR.out]; rfl), B2.out⟩
    ·have p4 : (e.kind != 3) = true := by simp [q4]
     have HR : Hid (ax2 e = true) := by unfold Hid ax2; simp [q4]
     clear q4
     go_wp2_with fail
     go_ret
     exact ⟨f8 (by rw [HS.out, HN.out, HAL.out, HR.out]; rfl), HB.out⟩
theorem au4 {nv na d : Nat} {e : f5} (h : E2 nv na (d + 1) e = true) : e.kids.length ≤ 3 ∧ ∀ x ∈ e.kids, E2 nv na d x = true := by
 simp only [E2, Y5, Bool.and_eq_true, decide_eq_true_eq, List.all_eq_true] at h
 refine ⟨?_, h.1.2⟩
 have h1 := h.1.1.1.1
 have : l9 e.kind ≤ 3 := by unfold l9; (repeat' split) <;> omega
 omega
theorem aK1 {ks : List f5} {B : Nat} (h : ∀ x ∈ ks, 1 + L9 x ≤ B) : G2 ks ≤ ks.length * B := by
 induction ks with
 | nil => simp [G2]
 | cons a r ih =>
  have h1 := h a List.mem_cons_self
  have h2 := ih fun x hx => h x (List.mem_cons_of_mem _ hx)
  simp only [G2, List.length_cons, Nat.succ_mul]; omega
theorem aE3 (nv na : Nat) : ∀ (d : Nat) (e : f5), E2 nv na d e = true → 1 + L9 e ≤ 4 ^ d := by
 intro d
 induction d with
 | zero => intro e h; simp [E2] at h
 | succ d ih =>
  intro e h
  obtain ⟨h1, h2⟩ := au4 h
  have h3 := aK1 (ks := e.kids) fun x hx => ih x (h2 x hx)
  have h4 : e.kids.length * 4 ^ d ≤ 3 * 4 ^ d := Nat.mul_le_mul_right _ h1
  have h5 : 0 < 4 ^ d := Nat.pos_of_ne_zero (by simp)
  rw [af2, Nat.pow_succ]
  omega
theorem aA0 (nv na : Nat) : ∀ d : Nat, d ≤ 5 → ∀ (e : f5) (φ : Nat → Prop) (v : Value) (w : World), Z8 w φ v e → E2 nv na d e = true →
  Calls Try.prog 74 #[v, .int .i64 d] w fun x w' => x = .returned (.int .i64 (1 + L9 e : Nat)) ∧ Below w.heap.size w w' := by
 intro d
 induction d with
 | zero => intro _ e φ v w _ hs; simp [E2] at hs
 | succ d ih =>
  intro hd5 e φ v w h hs
  obtain ⟨kv, rfl, hk⟩ := h
  obtain ⟨ak, ck, rfl, -, hn, -, hc⟩ := hk.open
  have hd0 : (d : Int) ≤ 5 := by omega
  have hd1 : decide (0 < (d : Int) + 1) = true := decide_eq_true (by omega)
  have hsz : G2 e.kids ≤ 1024 := by
   have h1 := aE3 nv na (d + 1) e hs
   have h2 : 4 ^ (d + 1) ≤ 4 ^ 5 := Nat.pow_le_pow_right (by omega) hd5
   rw [af2] at h1; omega
  have HK := show Hid _ from (au4 hs).2
  obtain ⟨W, hW, M⟩ : ∃ W, W = w.alloc (.cells #[.int .i64 e.kind, .int .i64 e.value, .slice ak e.kids.length ck] 81) ∧ C1 (fun _ => True) (fun _ => True) w W [.box w.heap.size [.int .i64 e.kind, .int .i64 e.value, .slice ak e.kids.length ck]] :=
   ⟨_, rfl, (C1.start fun _ _ => trivial).box _ _⟩
  have HC := show Hid _ from hc
  have HSZ := show Hid _ from af2 e
  clear hk hc hs
  go_enter Try.func74, Try.ntmps74
  go_wp2_with fail
  rw [← hW]
  clear hW
  go_loopw [5, 6] (fun q i wr => ∃ k : Nat, k ≤ e.kids.length ∧ i = .int .i64 k ∧ q = .int .i64 (1 + G2 (e.kids.take k) : Nat) ∧ C1 (fun _ => True) (fun _ => True) w wr [.box w.heap.size [.int .i64 e.kind, .int .i64 e.value, .slice ak e.kids.length ck]]) (fun _ i _ => e.kids.length - (intOf i).toNat)
  case atStart => exact ⟨0, Nat.zero_le _, rfl, rfl, M⟩
  case round =>
   clear M
   obtain ⟨k, hk, rfl, rfl, M⟩ := hrel
   have hB := M.below fun _ _ => trivial
   have y2 := M.c 0 2 rfl rfl
   have htl := af1 e.kids k
   obtain ⟨z, hz⟩ : ∃ z, z = G2 (e.kids.take k) := ⟨_, rfl⟩
   rw [← hz] at htl ⊢
   have HZ := show Hid _ from hz
   clear hz
   by_cases hlt : k < e.kids.length
   ·obtain ⟨b, off, kv, rfl, hbk, hf, c0, c1', c2', hkv⟩ := HC.out k hlt
    rw [← (K5 hB).1 _ _ hbk] at c0 c1' c2'
    have HE := show Hid (Z8 wr φ (.agg #[.int .i64 e.kids[k].kind, .int .i64 e.kids[k].value, kv]) e.kids[k]) from ⟨kv, rfl, z8.nice _ _ _ _ _ _ (W6.below hB) hkv⟩
    have HM := show Hid _ from M
    have hlt' : (k : Int) < e.kids.length := by omega
    have HT := show Hid _ from aK0 hlt
    have htl1 := af1 e.kids (k + 1)
    rw [HT.out, ← HZ.out] at htl1
    clear hkv M hB
    go_wp2_with fail
    refine (ih (by omega) _ φ _ _ HE.out (HK.out _ (List.getElem_mem hlt))).mono ?_
    rintro x w2 ⟨rfl, b2⟩
    have HM2 := show Hid _ from HM.out.call b2
    clear b2 y2
    go_wp2_with fail
    exact ⟨⟨k + 1, by omega, by go_num, by rw [HT.out, ← HZ.out]; go_num, HM2.out⟩, by simp [intOf]; omega⟩
   ·have hkn : k = e.kids.length := by omega
    subst hkn
    have HB := show Hid _ from hB
    clear M hB
    go_wp2_with fail
    go_ret
    exact ⟨H7 (by rw [HZ.out, List.take_of_length_le (Nat.le_refl _), HSZ.out]), HB.out⟩
theorem G3 (a1 a2 : Option Addr) (nv c1 na c2 : Nat) (v3 : Value) (h1 : nv ≤ 9223372036854775807) (h2 : na ≤ 9223372036854775807) (e : f5) (φ : Nat → Prop) (v : Value) (w : World) (h : Z8 w φ v e) :
  Calls Try.prog 69 #[.agg #[.slice a1 nv c1, .slice a2 na c2, v3], v] w fun x w' => x = .returned (.bool (l6 nv na e)) ∧ Below w.heap.size w w' := by
 obtain ⟨kv, rfl, hk⟩ := h
 have HR : Hid (l6 nv na e = (E2 nv na 5 e && decide (1 + L9 e ≤ 15))) := rfl
 obtain ⟨W, hW, M⟩ : ∃ W, W = (w.alloc (.cells #[.slice a1 nv c1, .slice a2 na c2, v3] 51)).alloc (.cells #[.int .i64 e.kind, .int .i64 e.value, kv] 81) ∧ C1 (fun _ => True) (fun _ => True) w W [.box w.heap.size [.slice a1 nv c1, .slice a2 na c2, v3], .box (w.heap.size + 1) [.int .i64 e.kind, .int .i64 e.value, kv]] :=
  ⟨_, rfl, ((C1.start fun _ _ => trivial).box _ _).box' _ _ (by simp)⟩
 have HE := show Hid (∀ W', Below w.heap.size w W' → Z8 W' φ (.agg #[.int .i64 e.kind, .int .i64 e.value, kv]) e) from fun W' k => ⟨kv, rfl, z8.nice _ _ _ _ _ _ (W6.below k) hk⟩
 clear hk
 have x0 := M.c 0 0 rfl rfl
 have x1 := M.c 0 1 rfl rfl
 have x2 := M.c 0 2 rfl rfl
 have y0 := M.c 1 0 rfl rfl
 have y1 := M.c 1 1 rfl rfl
 have y2 := M.c 1 2 rfl rfl
 rw [hW] at x0 x1 x2 y0 y1 y2
 go_enter Try.func69, Try.ntmps69
 go_wp2_with fail
 rw [← hW]
 clear hW x0 x1 x2 y0 y1 y2
 refine (az7 a1 a2 nv c1 na c2 v3 h1 h2 5 (by omega) e φ _ _ (HE.out _ (M.below fun _ _ => trivial))).mono ?_
 rintro x w1 ⟨rfl, b1⟩
 replace M := M.call b1
 clear b1
 cases hs : E2 nv na 5 e
 ·have HB := show Hid _ from M.below fun _ _ => trivial
  have HS := show Hid _ from hs
  clear hs M
  go_wp2_with fail
  go_ret
  exact ⟨f8 (by rw [HR.out, HS.out]; rfl), HB.out⟩
 ·have HS := show Hid _ from hs
  have hsz := aE3 nv na 5 e hs
  have y0 := M.c 1 0 rfl rfl
  have y1 := M.c 1 1 rfl rfl
  have y2 := M.c 1 2 rfl rfl
  have HM := show Hid _ from M
  clear hs M
  go_wp2_with fail
  refine (aA0 nv na 5 (by omega) e φ _ _ (HE.out _ (HM.out.below fun _ _ => trivial)) HS.out).mono ?_
  rintro x w2 ⟨rfl, b1⟩
  have HB := show Hid _ from (HM.out.call b1).below fun _ _ => trivial
  clear b1 y0 y1 y2
  go_wp2_with fail
  go_ret
  exact ⟨f8 (by rw [HR.out, HS.out, Bool.true_and]; exact decide_eq_decide.2 (by omega)), HB.out⟩
theorem C0 (n lo hi : Int) (w : World) : Calls Try.prog 19 #[.int .i64 n, .int .i64 lo, .int .i64 hi] w fun e w' => e = .returned (.bool (decide (lo ≤ n) && decide (n ≤ hi))) ∧ w = w' := by
 go_enter Try.func19, Try.ntmps19
 go_wp2
 all_goals go_ret
 all_goals exact ⟨f8 (by simp; try omega), rfl⟩
theorem an5 (l : Int) (w : World) : Calls Try.prog 55 #[.int .i64 l] w fun e w' => e = .returned (.bool (C9 l)) ∧ w = w' := by
 go_enter Try.func55, Try.ntmps55
 go_wp2_with fail
 refine (C0 l 0 3 _).mono ?_
 rintro e w1 ⟨rfl, rfl⟩
 go_wp2_with fail
 go_ret
 exact ⟨rfl, rfl⟩
theorem an4 (l : Int) (w : World) : Calls Try.prog 54 #[.int .i64 l] w fun e w' => e = .returned (.bool (!C9 l)) ∧ w = w' := by
 go_enter Try.func54, Try.ntmps54
 go_wp2_with fail
 refine (an5 l _).mono ?_
 rintro e w1 ⟨rfl, rfl⟩
 go_wp2_with fail
 go_ret
 exact ⟨rfl, rfl⟩
theorem av2 (p : Int → Bool) (f : FuncId) (v : Value) (xs : List Int) (w : World) (h : H8 w v xs.length 1 (ints xs)) (he : ∀ args w, (callFunc f args).run Try.prog w = .ok (.enter f args) w)
  (hf : ∀ x w', Calls Try.prog f #[.int .i64 x] w' fun e w'' => e = .returned (.bool (p x)) ∧ w' = w'') :
  Calls Try.prog 62 #[v, .func (.func f) #[] #[]] w fun e w' => ∃ r : Int, e = .returned (.int .i64 r) ∧ decide (0 ≤ r) = xs.any p ∧ w = w' := by
 obtain ⟨a1, c1, rfl, -, hm1, -, hc1⟩ := h.open1
 have HF := show Hid _ from hf
 clear h hf
 go_enter Try.func62, Try.ntmps62
 go_wp2_with fail
 go_loop [5, 8] (fun _ i => ∃ k : Nat, k ≤ xs.length ∧ i = .int .i64 k ∧ (xs.take k).any p = false) (fun _ i => xs.length - (intOf i).toNat)
 case atStart => exact ⟨0, Nat.zero_le _, rfl, rfl⟩
 case round =>
  obtain ⟨k, hk, rfl, ha⟩ := hrel
  have HA := show Hid _ from ha
  clear ha
  by_cases hlt : k < xs.length
  ·obtain ⟨b1, o1, rfl, hb1, hx⟩ := hc1 k hlt
   rw [Y7 _ _ hlt] at hx
   clear hc1
   cases hp : p xs[k]
   all_goals
    have HP := show Hid _ from hp
    clear hp
    go_wp2_with fail
    refine (HF.out xs[k] _).mono ?_
    rintro e w1 ⟨rfl, rfl⟩
    rw [HP.out]
    go_wp2_with fail
   ·go_round
    case rel => exact ⟨k + 1, by omega, by go_num, by rw [t6 _ _ hlt, List.any_append, HA.out]; simp [HP.out]⟩
    case measure => simp [intOf]; omega
   ·go_ret
    exact ⟨_, rfl, by rw [decide_eq_true (by omega)]; symm; rw [List.any_eq_true]; exact ⟨_, List.getElem_mem hlt, HP.out⟩, rfl⟩
  ·go_wp2_with fail
   go_ret
   refine ⟨_, rfl, ?_, rfl⟩
   have := HA.out
   rw [List.take_of_length_le (by omega)] at this
   rw [this]; rfl
theorem aj9 (p : Int → Bool) (f : FuncId) (v : Value) (xs : List Int) (w : World) (h : H8 w v xs.length 1 (ints xs)) (he : ∀ args w, (callFunc f args).run Try.prog w = .ok (.enter f args) w)
  (hf : ∀ x w', Calls Try.prog f #[.int .i64 x] w' fun e w'' => e = .returned (.bool (p x)) ∧ w' = w'') :
  Calls Try.prog 53 #[v, .func (.func f) #[] #[]] w fun e w' => e = .returned (.bool (xs.any p)) ∧ w = w' := by
 obtain ⟨a1, c1, rfl, -⟩ := h.open1
 have HF := show Hid _ from hf
 have HE := show Hid _ from he
 clear hf he
 go_enter Try.func53, Try.ntmps53
 go_wp2_with fail
 refine (av2 p f _ xs _ h HE.out HF.out).mono ?_
 rintro e w1 ⟨r, rfl, hr, rfl⟩
 have HR := show Hid _ from hr
 clear hr
 go_wp2_with fail
 go_ret
 exact ⟨f8 HR.out, rfl⟩
theorem aJ5 (xs : List Int) : (!xs.any fun l => !C9 l) = xs.all C9 := by
 induction xs with
 | nil => rfl
 | cons x r ih => simp only [List.any_cons, List.all_cons, ← ih]; cases C9 x <;> simp
theorem P0 (v : Value) (xs : List Int) (w : World) (h : H8 w v xs.length 1 (ints xs)) :
  Calls Try.prog 38 #[v] w fun e w' => e = .returned (.bool (xs.all C9)) ∧ w = w' := by
 obtain ⟨a1, c1, rfl, -⟩ := h.open1
 go_enter Try.func38, Try.ntmps38
 go_wp2_with fail
 refine (aj9 (fun l => !C9 l) 54 _ xs _ h (aj4 Try.func54 (by kernel_rfl) rfl) (fun x w' => an4 x w')).mono ?_
 rintro e w1 ⟨rfl, rfl⟩
 have HN := show Hid _ from aJ5 xs
 go_wp2_with fail
 go_ret
 exact ⟨f8 HN.out, rfl⟩
theorem av4 (v1 v2 : Value) (vars arrays : List Int) (w : World) (h1 : H8 w v1 vars.length 1 (ints vars)) (h2 : H8 w v2 arrays.length 1 (ints arrays)) :
  Calls Try.prog 18 #[v1, v2] w fun e w' => e = .returned (.bool (A6 vars arrays)) ∧ w = w' := by
 obtain ⟨a1, c1, rfl, -, q1, -⟩ := h1.open1
 obtain ⟨a2, c2, rfl, -, q2, -⟩ := h2.open1
 have HT : Hid (A6 vars arrays = (vars.all C9 && arrays.all C9 && decide (1 ≤ vars.length) && decide (vars.length ≤ 12) && decide (arrays.length ≤ 2))) := rfl
 by_cases hn : (1 : Int) ≤ (vars.length : Int) ∧ (vars.length : Int) ≤ 12
 ·have hb : (decide ((1 : Int) ≤ vars.length) && decide ((vars.length : Int) ≤ 12)) = true := by simpa using hn
  have HB := show Hid _ from hb
  by_cases hm : (arrays.length : Int) ≤ 2
  ·cases hv : vars.all C9
   ·have HV := show Hid _ from hv
    clear hv hb hn
    go_enter Try.func18, Try.ntmps18
    go_wp2_with fail
    refine (C0 _ 1 12 _).mono ?_
    rintro e w1 ⟨rfl, rfl⟩
    rw [HB.out]
    go_wp2_with fail
    refine (P0 _ vars _ h1).mono ?_
    rintro e w1 ⟨rfl, rfl⟩
    rw [HV.out]
    go_wp2_with fail
    go_ret
    exact ⟨f8 (by rw [HT.out, HV.out]; rfl), rfl⟩
   ·have HV := show Hid _ from hv
    have hn' := show Hid _ from hn
    have hm' := show Hid _ from hm
    clear hv hb hn
    go_enter Try.func18, Try.ntmps18
    go_wp2_with fail
    refine (C0 _ 1 12 _).mono ?_
    rintro e w1 ⟨rfl, rfl⟩
    rw [HB.out]
    go_wp2_with fail
    refine (P0 _ vars _ h1).mono ?_
    rintro e w1 ⟨rfl, rfl⟩
    rw [HV.out]
    go_wp2_with fail
    refine (P0 _ arrays _ h2).mono ?_
    rintro e w1 ⟨rfl, rfl⟩
    go_wp2_with fail
    go_ret
    refine ⟨f8 ?_, rfl⟩
    have h3 := hn'.out
    have h4 := hm'.out
    rw [HT.out, HV.out, decide_eq_true (show 1 ≤ vars.length by omega), decide_eq_true (show vars.length ≤ 12 by omega), decide_eq_true (show arrays.length ≤ 2 by omega)]
    simp
  ·have hF : Hid (A6 vars arrays = false) := by unfold Hid; rw [HT.out, decide_eq_false (show ¬ arrays.length ≤ 2 by omega)]; simp
   clear hb hn
   go_enter Try.func18, Try.ntmps18
   go_wp2_with fail
   refine (C0 _ 1 12 _).mono ?_
   rintro e w1 ⟨rfl, rfl⟩
   rw [HB.out]
   go_wp2_with fail
   go_ret
   exact ⟨f8 hF.out.symm, rfl⟩
 ·have hb : (decide ((1 : Int) ≤ vars.length) && decide ((vars.length : Int) ≤ 12)) = false := by
   rw [Bool.eq_false_iff]; simp only [ne_eq, Bool.and_eq_true, decide_eq_true_eq]; exact hn
  have HB := show Hid _ from hb
  have hF : Hid (A6 vars arrays = false) := by
   unfold Hid; rw [HT.out]
   rcases Classical.not_and_iff_not_or_not.1 hn with h | h
   ·rw [decide_eq_false (show ¬ 1 ≤ vars.length by omega)]; simp
   ·rw [decide_eq_false (show ¬ vars.length ≤ 12 by omega)]; simp
  clear hb hn
  go_enter Try.func18, Try.ntmps18
  go_wp2_with fail
  refine (C0 _ 1 12 _).mono ?_
  rintro e w1 ⟨rfl, rfl⟩
  rw [HB.out]
  go_wp2_with fail
  go_ret
  exact ⟨f8 hF.out.symm, rfl⟩
end Go.Proofs.Ythikdkjjdeehoaa

namespace Go.Proofs.Ythikdkjjdeehoaa
set_option linter.unusedVariables false
set_option linter.unusedSimpArgs false
open Go Go.RowKit
end Go.Proofs.Ythikdkjjdeehoaa

namespace Go.Proofs.Ythikdkjjdeehoaa
set_option linter.unusedVariables false
set_option linter.unusedSimpArgs false
open Go Go.RowKit
theorem Q3 (k n : Int) (a : Option Addr) (len c : Nat) (w : World) (hl : len ≤ 9223372036854775807) : Calls Try.prog 75 #[.agg #[.int .i64 k, .int .i64 n, .slice a len c]] w fun e w' => e = .returned (.bool (decide (k = 0) && decide (n = 0) && decide (len = 0))) ∧ Below w.heap.size w w' := by
 by_cases q1 : k = 0
 case neg =>
  have p1 : (k == 0) = false := by simp [q1]
  have HQ := show Hid _ from q1
  clear q1
  go_enter Try.func75, Try.ntmps75
  go_wp2_with fail
  go_ret
  exact ⟨f8 (by rw [decide_eq_false HQ.out]; rfl), by go_grown⟩
 have p1 : (k == 0) = true := by simp [q1]
 have HQ := show Hid _ from q1
 clear q1
 by_cases q2 : n = 0
 case neg =>
  have p2 : (n == 0) = false := by simp [q2]
  have HQ2 := show Hid _ from q2
  clear q2
  go_enter Try.func75, Try.ntmps75
  go_wp2_with fail
  go_ret
  exact ⟨f8 (by rw [decide_eq_true HQ.out, decide_eq_false HQ2.out]; rfl), by go_grown⟩
 have p2 : (n == 0) = true := by simp [q2]
 have HQ2 := show Hid _ from q2
 clear q2
 by_cases q3 : len = 0
 case neg =>
  have p3 : ((len : Int) == 0) = false := by simp [q3]
  have HQ3 := show Hid _ from q3
  clear q3
  go_enter Try.func75, Try.ntmps75
  go_wp2_with fail
  go_ret
  exact ⟨f8 (by rw [decide_eq_true HQ.out, decide_eq_true HQ2.out, decide_eq_false HQ3.out]; rfl), by go_grown⟩
 have p3 : ((len : Int) == 0) = true := by simp [q3]
 have HQ3 := show Hid _ from q3
 clear q3
 go_enter Try.func75, Try.ntmps75
 go_wp2_with fail
 go_ret
 exact ⟨f8 (by rw [decide_eq_true HQ.out, decide_eq_true HQ2.out, decide_eq_true HQ3.out]; rfl), by go_grown⟩
theorem Z7.form {w : World} {φ : Nat → Prop} {v : Value} {s : d9} (h : Z7 w φ v s) : ∃ ai ci av cv ab cb ae ce, v = .agg #[.int .i64 s.kind, .int .i64 s.target, .int .i64 s.index.kind, .int .i64 s.index.value, .slice ai s.index.kids.length ci, .int .i64 s.value.kind, .int .i64 s.value.value, .slice av s.value.kids.length cv, .int .i64 s.count, .slice ab s.body.length cb, .slice ae s.els.length ce] ∧
  (z8 w φ (.slice ai s.index.kids.length ci) s.index.kids ∧ z8 w φ (.slice av s.value.kids.length cv) s.value.kids ∧ x8 w φ (.slice ab s.body.length cb) s.body ∧ x8 w φ (.slice ae s.els.length ce) s.els) ∧
  (s.index.kids.length ≤ 9223372036854775807 ∧ s.value.kids.length ≤ 9223372036854775807 ∧ s.body.length ≤ 9223372036854775807 ∧ s.els.length ≤ 9223372036854775807) := by
 obtain ⟨iv, vv, bv, ev, rfl, h1, h2, h3, h4⟩ := h
 obtain ⟨ai, ci, rfl, -, l1, -⟩ := h1.open
 obtain ⟨av, cv, rfl, -, l2, -⟩ := h2.open
 obtain ⟨ab, cb, rfl, -, l3, -⟩ := h3.open
 obtain ⟨ae, ce, rfl, -, l4, -⟩ := h4.open
 exact ⟨ai, ci, av, cv, ab, cb, ae, ce, rfl, ⟨h1, h2, h3, h4⟩, l1, l2, l3, l4⟩
theorem az8 (φ : Nat → Prop) (v : Value) (s : d9) (w : World) (h : Z7 w φ v s) :
  Calls Try.prog 70 #[v] w fun x w' => x = .returned (.bool (x6 s)) ∧ Below w.heap.size w w' := by
 obtain ⟨ai, ci, av, cv, ab, cb, ae, ce, rfl, -, hl⟩ := h.form
 have HL := show Hid _ from hl
 have hl3 := hl.2.2.1
 have hl4 := hl.2.2.2
 clear h hl
 have HD : Hid (x6 s = if (s.kind = 3 ∨ s.kind = 4) then decide (s.target = 0) && (if s.kind = 4 then decide (s.els.length = 0) && decide (1 ≤ s.count) && decide (s.count ≤ 3) && noneB s.index && noneB s.value else decide (s.count = 0) && noneB s.index)
   else decide (s.body.length = 0) && decide (s.els.length = 0) && decide (s.count = 0) && (decide (s.kind = 2) || noneB s.index)) := rfl
 obtain ⟨W, hW, M⟩ : ∃ W, W = w.alloc (.cells #[.int .i64 s.kind, .int .i64 s.target, .int .i64 s.index.kind, .int .i64 s.index.value, .slice ai s.index.kids.length ci, .int .i64 s.value.kind, .int .i64 s.value.value, .slice av s.value.kids.length cv, .int .i64 s.count, .slice ab s.body.length cb, .slice ae s.els.length ce] 83) ∧ C1 (fun _ => True) (fun _ => True) w W [.box w.heap.size [.int .i64 s.kind, .int .i64 s.target, .int .i64 s.index.kind, .int .i64 s.index.value, .slice ai s.index.kids.length ci, .int .i64 s.value.kind, .int .i64 s.value.value, .slice av s.value.kids.length cv, .int .i64 s.count, .slice ab s.body.length cb, .slice ae s.els.length ce]] :=
  ⟨_, rfl, (C1.start fun _ _ => trivial).box _ _⟩
 by_cases qk : s.kind = 3
 ·have pk : (s.kind == 3) = true := by simp [qk]
  have pk4 : (s.kind == 4) = false := by simp [qk]
  have pk2 : (s.kind == 2) = false := by simp [qk]
  by_cases qpt : s.target = 0
  case neg =>
   have pt : (s.target != 0) = true := by first | (simp [qpt]; done) | (simp; omega) | exact decide_eq_true (by omega) | exact decide_eq_false (by omega)
   have HP : Hid (x6 s = false) := by rw [Hid, HD.out]; simp [qk, qpt]
   clear qpt qk HD
   have c0 := M.c 0 0 rfl rfl
   have c1 := M.c 0 1 rfl rfl
   have c2 := M.c 0 2 rfl rfl
   have c3 := M.c 0 3 rfl rfl
   have c4 := M.c 0 4 rfl rfl
   have c5 := M.c 0 5 rfl rfl
   have c6 := M.c 0 6 rfl rfl
   have c7 := M.c 0 7 rfl rfl
   have c8 := M.c 0 8 rfl rfl
   have c9 := M.c 0 9 rfl rfl
   have c10 := M.c 0 10 rfl rfl
   have HM := show Hid _ from M
   rw [hW] at c0 c1 c2 c3 c4 c5 c6 c7 c8 c9 c10
   clear M
   go_enter Try.func70, Try.ntmps70
   go_wp2_with fail
   rw [← hW]
   clear hW
   have M := HM.out
   clear HM c0 c1 c2 c3 c4 c5 c6 c7 c8 c9 c10
   go_ret
   exact ⟨f8 (by rw [HP.out]), M.below fun _ _ => trivial⟩
  have pt : (s.target != 0) = false := by first | (simp [qpt]; done) | (simp; omega) | exact decide_eq_true (by omega) | exact decide_eq_false (by omega)
  by_cases qpc : s.count = 0
  case neg =>
   have pc : (s.count == 0) = false := by first | (simp [qpc]; done) | (simp; omega) | exact decide_eq_true (by omega) | exact decide_eq_false (by omega)
   have HP : Hid (x6 s = false) := by rw [Hid, HD.out]; simp [qk, qpt, qpc]
   clear qpc qk qpt HD
   have c0 := M.c 0 0 rfl rfl
   have c1 := M.c 0 1 rfl rfl
   have c2 := M.c 0 2 rfl rfl
   have c3 := M.c 0 3 rfl rfl
   have c4 := M.c 0 4 rfl rfl
   have c5 := M.c 0 5 rfl rfl
   have c6 := M.c 0 6 rfl rfl
   have c7 := M.c 0 7 rfl rfl
   have c8 := M.c 0 8 rfl rfl
   have c9 := M.c 0 9 rfl rfl
   have c10 := M.c 0 10 rfl rfl
   have HM := show Hid _ from M
   rw [hW] at c0 c1 c2 c3 c4 c5 c6 c7 c8 c9 c10
   clear M
   go_enter Try.func70, Try.ntmps70
   go_wp2_with fail
   rw [← hW]
   clear hW
   have M := HM.out
   clear HM c0 c1 c2 c3 c4 c5 c6 c7 c8 c9 c10
   go_ret
   exact ⟨f8 (by rw [HP.out]), M.below fun _ _ => trivial⟩
  have pc : (s.count == 0) = true := by first | (simp [qpc]; done) | (simp; omega) | exact decide_eq_true (by omega) | exact decide_eq_false (by omega)
  have HP : Hid (x6 s = noneB s.index) := by rw [Hid, HD.out]; simp [qk, qpt, qpc]
  clear qpt qpc HD qk
  have c0 := M.c 0 0 rfl rfl
  have c1 := M.c 0 1 rfl rfl
  have c2 := M.c 0 2 rfl rfl
  have c3 := M.c 0 3 rfl rfl
  have c4 := M.c 0 4 rfl rfl
  have c5 := M.c 0 5 rfl rfl
  have c6 := M.c 0 6 rfl rfl
  have c7 := M.c 0 7 rfl rfl
  have c8 := M.c 0 8 rfl rfl
  have c9 := M.c 0 9 rfl rfl
  have c10 := M.c 0 10 rfl rfl
  have HM := show Hid _ from M
  rw [hW] at c0 c1 c2 c3 c4 c5 c6 c7 c8 c9 c10
  clear M
  go_enter Try.func70, Try.ntmps70
  go_wp2_with fail
  rw [← hW]
  clear hW
  have M := HM.out
  clear HM c0 c1 c2 c3 c4 c5 c6 c7 c8 c9 c10
  refine (Q3 s.index.kind s.index.value ai s.index.kids.length ci _ HL.out.1).mono ?_
  rintro x w1 ⟨rfl, b1⟩
  rw [show (decide (s.index.kind = 0) && decide (s.index.value = 0) && decide (s.index.kids.length = 0)) = noneB s.index from rfl]
  replace M := M.call b1
  clear b1
  have HM := show Hid _ from M
  clear M
  go_wp2_with fail
  go_ret
  exact ⟨f8 (by rw [HP.out]), HM.out.below fun _ _ => trivial⟩
 have qk3 := qk
 have pk3 : (s.kind == 3) = false := by simp [qk]
 clear qk
 by_cases qk : s.kind = 4
 ·have pk4 : (s.kind == 4) = true := by simp [qk]
  clear qk3
  by_cases qpt : s.target = 0
  case neg =>
   have pt : (s.target != 0) = true := by first | (simp [qpt]; done) | (simp; omega) | exact decide_eq_true (by omega) | exact decide_eq_false (by omega)
   have HP : Hid (x6 s = false) := by rw [Hid, HD.out]; simp [qk, qpt]
   clear qpt qk HD
   have c0 := M.c 0 0 rfl rfl
   have c1 := M.c 0 1 rfl rfl
   have c2 := M.c 0 2 rfl rfl
   have c3 := M.c 0 3 rfl rfl
   have c4 := M.c 0 4 rfl rfl
   have c5 := M.c 0 5 rfl rfl
   have c6 := M.c 0 6 rfl rfl
   have c7 := M.c 0 7 rfl rfl
   have c8 := M.c 0 8 rfl rfl
   have c9 := M.c 0 9 rfl rfl
   have c10 := M.c 0 10 rfl rfl
   have HM := show Hid _ from M
   rw [hW] at c0 c1 c2 c3 c4 c5 c6 c7 c8 c9 c10
   clear M
   go_enter Try.func70, Try.ntmps70
   go_wp2_with fail
   rw [← hW]
   clear hW
   have M := HM.out
   clear HM c0 c1 c2 c3 c4 c5 c6 c7 c8 c9 c10
   go_ret
   exact ⟨f8 (by rw [HP.out]), M.below fun _ _ => trivial⟩
  have pt : (s.target != 0) = false := by first | (simp [qpt]; done) | (simp; omega) | exact decide_eq_true (by omega) | exact decide_eq_false (by omega)
  by_cases qpe : s.els.length = 0
  case neg =>
   have pe : ((s.els.length : Int) == 0) = false := by first | (simp [qpe]; done) | (simp; omega) | exact decide_eq_true (by omega) | exact decide_eq_false (by omega)
   have HP : Hid (x6 s = false) := by rw [Hid, HD.out]; simp [qk, qpt, qpe]
   clear qpe qk qpt HD
   have c0 := M.c 0 0 rfl rfl
   have c1 := M.c 0 1 rfl rfl
   have c2 := M.c 0 2 rfl rfl
   have c3 := M.c 0 3 rfl rfl
   have c4 := M.c 0 4 rfl rfl
   have c5 := M.c 0 5 rfl rfl
   have c6 := M.c 0 6 rfl rfl
   have c7 := M.c 0 7 rfl rfl
   have c8 := M.c 0 8 rfl rfl
   have c9 := M.c 0 9 rfl rfl
   have c10 := M.c 0 10 rfl rfl
   have HM := show Hid _ from M
   rw [hW] at c0 c1 c2 c3 c4 c5 c6 c7 c8 c9 c10
   clear M
   go_enter Try.func70, Try.ntmps70
   go_wp2_with fail
   rw [← hW]
   clear hW
   have M := HM.out
   clear HM c0 c1 c2 c3 c4 c5 c6 c7 c8 c9 c10
   go_ret
   exact ⟨f8 (by rw [HP.out]), M.below fun _ _ => trivial⟩
  have pe : ((s.els.length : Int) == 0) = true := by first | (simp [qpe]; done) | (simp; omega) | exact decide_eq_true (by omega) | exact decide_eq_false (by omega)
  by_cases qp1 : 1 ≤ s.count
  case neg =>
   have p1 : decide (1 ≤ s.count) = false := by first | (simp [qp1]; done) | (simp; omega) | exact decide_eq_true (by omega) | exact decide_eq_false (by omega)
   have HP : Hid (x6 s = false) := by rw [Hid, HD.out]; simp [qk, qpt, qpe, qp1]
   clear qp1 qk qpt qpe HD
   have c0 := M.c 0 0 rfl rfl
   have c1 := M.c 0 1 rfl rfl
   have c2 := M.c 0 2 rfl rfl
   have c3 := M.c 0 3 rfl rfl
   have c4 := M.c 0 4 rfl rfl
   have c5 := M.c 0 5 rfl rfl
   have c6 := M.c 0 6 rfl rfl
   have c7 := M.c 0 7 rfl rfl
   have c8 := M.c 0 8 rfl rfl
   have c9 := M.c 0 9 rfl rfl
   have c10 := M.c 0 10 rfl rfl
   have HM := show Hid _ from M
   rw [hW] at c0 c1 c2 c3 c4 c5 c6 c7 c8 c9 c10
   clear M
   go_enter Try.func70, Try.ntmps70
   go_wp2_with fail
   rw [← hW]
   clear hW
   have M := HM.out
   clear HM c0 c1 c2 c3 c4 c5 c6 c7 c8 c9 c10
   go_ret
   exact ⟨f8 (by rw [HP.out]), M.below fun _ _ => trivial⟩
  have p1 : decide (1 ≤ s.count) = true := by first | (simp [qp1]; done) | (simp; omega) | exact decide_eq_true (by omega) | exact decide_eq_false (by omega)
  by_cases qp3 : s.count ≤ 3
  case neg =>
   have p3 : decide (s.count ≤ 3) = false := by first | (simp [qp3]; done) | (simp; omega) | exact decide_eq_true (by omega) | exact decide_eq_false (by omega)
   have HP : Hid (x6 s = false) := by rw [Hid, HD.out]; simp [qk, qpt, qpe, qp1, qp3]
   clear qp3 qk qpt qpe qp1 HD
   have c0 := M.c 0 0 rfl rfl
   have c1 := M.c 0 1 rfl rfl
   have c2 := M.c 0 2 rfl rfl
   have c3 := M.c 0 3 rfl rfl
   have c4 := M.c 0 4 rfl rfl
   have c5 := M.c 0 5 rfl rfl
   have c6 := M.c 0 6 rfl rfl
   have c7 := M.c 0 7 rfl rfl
   have c8 := M.c 0 8 rfl rfl
   have c9 := M.c 0 9 rfl rfl
   have c10 := M.c 0 10 rfl rfl
   have HM := show Hid _ from M
   rw [hW] at c0 c1 c2 c3 c4 c5 c6 c7 c8 c9 c10
   clear M
   go_enter Try.func70, Try.ntmps70
   go_wp2_with fail
   rw [← hW]
   clear hW
   have M := HM.out
   clear HM c0 c1 c2 c3 c4 c5 c6 c7 c8 c9 c10
   go_ret
   exact ⟨f8 (by rw [HP.out]), M.below fun _ _ => trivial⟩
  have p3 : decide (s.count ≤ 3) = true := by first | (simp [qp3]; done) | (simp; omega) | exact decide_eq_true (by omega) | exact decide_eq_false (by omega)
  have HP0 : Hid (x6 s = (noneB s.index && noneB s.value)) := by rw [Hid, HD.out]; simp [qk, qpt, qpe, qp1, qp3]
  clear qpt qpe qp1 qp3 HD qk
  have c0 := M.c 0 0 rfl rfl
  have c1 := M.c 0 1 rfl rfl
  have c2 := M.c 0 2 rfl rfl
  have c3 := M.c 0 3 rfl rfl
  have c4 := M.c 0 4 rfl rfl
  have c5 := M.c 0 5 rfl rfl
  have c6 := M.c 0 6 rfl rfl
  have c7 := M.c 0 7 rfl rfl
  have c8 := M.c 0 8 rfl rfl
  have c9 := M.c 0 9 rfl rfl
  have c10 := M.c 0 10 rfl rfl
  have HM := show Hid _ from M
  rw [hW] at c0 c1 c2 c3 c4 c5 c6 c7 c8 c9 c10
  clear M
  go_enter Try.func70, Try.ntmps70
  go_wp2_with fail
  rw [← hW]
  clear hW
  have M := HM.out
  clear HM c0 c1 c2 c3 c4 c5 c6 c7 c8 c9 c10
  refine (Q3 s.index.kind s.index.value ai s.index.kids.length ci _ HL.out.1).mono ?_
  rintro x w1 ⟨rfl, b1⟩
  rw [show (decide (s.index.kind = 0) && decide (s.index.value = 0) && decide (s.index.kids.length = 0)) = noneB s.index from rfl]
  replace M := M.call b1
  clear b1
  obtain ⟨b, hb⟩ : ∃ b, b = noneB s.index := ⟨_, rfl⟩
  rw [← hb]
  have HB := show Hid _ from hb
  clear hb
  cases b
  ·have HP : Hid (x6 s = false) := by rw [Hid, HP0.out, ← HB.out]; rfl
   clear HP0
   have HM := show Hid _ from M
   clear M
   go_wp2_with fail
   go_ret
   exact ⟨f8 (by rw [HP.out]), HM.out.below fun _ _ => trivial⟩
  ·have HP : Hid (x6 s = noneB s.value) := by rw [Hid, HP0.out, ← HB.out]; rfl
   clear HP0
   have c5 := M.c 0 5 rfl rfl
   have c6 := M.c 0 6 rfl rfl
   have c7 := M.c 0 7 rfl rfl
   have HM := show Hid _ from M
   clear M
   go_wp2_with fail
   have M := HM.out
   clear HM c5 c6 c7
   refine (Q3 s.value.kind s.value.value av s.value.kids.length cv _ HL.out.2.1).mono ?_
   rintro x w1 ⟨rfl, b1⟩
   rw [show (decide (s.value.kind = 0) && decide (s.value.value = 0) && decide (s.value.kids.length = 0)) = noneB s.value from rfl]
   replace M := M.call b1
   clear b1
   have HM := show Hid _ from M
   clear M
   go_wp2_with fail
   go_ret
   exact ⟨f8 (by rw [HP.out]), HM.out.below fun _ _ => trivial⟩
 have qk4 := qk
 have pk4 : (s.kind == 4) = false := by simp [qk]
 clear qk
 by_cases qpb : s.body.length = 0
 case neg =>
  have pb : decide (0 < s.body.length) = true := by first | (simp [qpb]; done) | (simp; omega) | exact decide_eq_true (by omega) | exact decide_eq_false (by omega)
  have HP : Hid (x6 s = false) := by rw [Hid, HD.out]; simp [qk3, qk4, qpb]
  clear qpb qk3 qk4 HD
  have c0 := M.c 0 0 rfl rfl
  have c1 := M.c 0 1 rfl rfl
  have c2 := M.c 0 2 rfl rfl
  have c3 := M.c 0 3 rfl rfl
  have c4 := M.c 0 4 rfl rfl
  have c5 := M.c 0 5 rfl rfl
  have c6 := M.c 0 6 rfl rfl
  have c7 := M.c 0 7 rfl rfl
  have c8 := M.c 0 8 rfl rfl
  have c9 := M.c 0 9 rfl rfl
  have c10 := M.c 0 10 rfl rfl
  have HM := show Hid _ from M
  rw [hW] at c0 c1 c2 c3 c4 c5 c6 c7 c8 c9 c10
  clear M
  go_enter Try.func70, Try.ntmps70
  go_wp2_with fail
  rw [← hW]
  clear hW
  have M := HM.out
  clear HM c0 c1 c2 c3 c4 c5 c6 c7 c8 c9 c10
  go_ret
  exact ⟨f8 (by rw [HP.out]), M.below fun _ _ => trivial⟩
 have pb : decide (0 < s.body.length) = false := by first | (simp [qpb]; done) | (simp; omega) | exact decide_eq_true (by omega) | exact decide_eq_false (by omega)
 by_cases qpe : s.els.length = 0
 case neg =>
  have pe : decide (0 < s.els.length) = true := by first | (simp [qpe]; done) | (simp; omega) | exact decide_eq_true (by omega) | exact decide_eq_false (by omega)
  have HP : Hid (x6 s = false) := by rw [Hid, HD.out]; simp [qk3, qk4, qpb, qpe]
  clear qpe qk3 qk4 qpb HD
  have c0 := M.c 0 0 rfl rfl
  have c1 := M.c 0 1 rfl rfl
  have c2 := M.c 0 2 rfl rfl
  have c3 := M.c 0 3 rfl rfl
  have c4 := M.c 0 4 rfl rfl
  have c5 := M.c 0 5 rfl rfl
  have c6 := M.c 0 6 rfl rfl
  have c7 := M.c 0 7 rfl rfl
  have c8 := M.c 0 8 rfl rfl
  have c9 := M.c 0 9 rfl rfl
  have c10 := M.c 0 10 rfl rfl
  have HM := show Hid _ from M
  rw [hW] at c0 c1 c2 c3 c4 c5 c6 c7 c8 c9 c10
  clear M
  go_enter Try.func70, Try.ntmps70
  go_wp2_with fail
  rw [← hW]
  clear hW
  have M := HM.out
  clear HM c0 c1 c2 c3 c4 c5 c6 c7 c8 c9 c10
  go_ret
  exact ⟨f8 (by rw [HP.out]), M.below fun _ _ => trivial⟩
 have pe : decide (0 < s.els.length) = false := by first | (simp [qpe]; done) | (simp; omega) | exact decide_eq_true (by omega) | exact decide_eq_false (by omega)
 by_cases qpc : s.count = 0
 case neg =>
  have pc : (s.count == 0) = false := by first | (simp [qpc]; done) | (simp; omega) | exact decide_eq_true (by omega) | exact decide_eq_false (by omega)
  have HP : Hid (x6 s = false) := by rw [Hid, HD.out]; simp [qk3, qk4, qpb, qpe, qpc]
  clear qpc qk3 qk4 qpb qpe HD
  have c0 := M.c 0 0 rfl rfl
  have c1 := M.c 0 1 rfl rfl
  have c2 := M.c 0 2 rfl rfl
  have c3 := M.c 0 3 rfl rfl
  have c4 := M.c 0 4 rfl rfl
  have c5 := M.c 0 5 rfl rfl
  have c6 := M.c 0 6 rfl rfl
  have c7 := M.c 0 7 rfl rfl
  have c8 := M.c 0 8 rfl rfl
  have c9 := M.c 0 9 rfl rfl
  have c10 := M.c 0 10 rfl rfl
  have HM := show Hid _ from M
  rw [hW] at c0 c1 c2 c3 c4 c5 c6 c7 c8 c9 c10
  clear M
  go_enter Try.func70, Try.ntmps70
  go_wp2_with fail
  rw [← hW]
  clear hW
  have M := HM.out
  clear HM c0 c1 c2 c3 c4 c5 c6 c7 c8 c9 c10
  go_ret
  exact ⟨f8 (by rw [HP.out]), M.below fun _ _ => trivial⟩
 have pc : (s.count == 0) = true := by first | (simp [qpc]; done) | (simp; omega) | exact decide_eq_true (by omega) | exact decide_eq_false (by omega)
 by_cases qk2 : s.kind = 2
 ·have pk2 : (s.kind == 2) = true := by simp [qk2]
  have HP : Hid (x6 s = true) := by rw [Hid, HD.out]; simp [qk2, qpb, qpe, qpc]
  clear qk2 qk3 qk4 qpb qpe qpc HD
  have c0 := M.c 0 0 rfl rfl
  have c1 := M.c 0 1 rfl rfl
  have c2 := M.c 0 2 rfl rfl
  have c3 := M.c 0 3 rfl rfl
  have c4 := M.c 0 4 rfl rfl
  have c5 := M.c 0 5 rfl rfl
  have c6 := M.c 0 6 rfl rfl
  have c7 := M.c 0 7 rfl rfl
  have c8 := M.c 0 8 rfl rfl
  have c9 := M.c 0 9 rfl rfl
  have c10 := M.c 0 10 rfl rfl
  have HM := show Hid _ from M
  rw [hW] at c0 c1 c2 c3 c4 c5 c6 c7 c8 c9 c10
  clear M
  go_enter Try.func70, Try.ntmps70
  go_wp2_with fail
  rw [← hW]
  clear hW
  have M := HM.out
  clear HM c0 c1 c2 c3 c4 c5 c6 c7 c8 c9 c10
  go_ret
  exact ⟨f8 (by rw [HP.out]), M.below fun _ _ => trivial⟩
 ·have pk2 : (s.kind == 2) = false := by simp [qk2]
  have HP : Hid (x6 s = noneB s.index) := by rw [Hid, HD.out]; simp [qk2, qk3, qk4, qpb, qpe, qpc]
  clear qk2 qk3 qk4 qpb qpe qpc HD
  have c0 := M.c 0 0 rfl rfl
  have c1 := M.c 0 1 rfl rfl
  have c2 := M.c 0 2 rfl rfl
  have c3 := M.c 0 3 rfl rfl
  have c4 := M.c 0 4 rfl rfl
  have c5 := M.c 0 5 rfl rfl
  have c6 := M.c 0 6 rfl rfl
  have c7 := M.c 0 7 rfl rfl
  have c8 := M.c 0 8 rfl rfl
  have c9 := M.c 0 9 rfl rfl
  have c10 := M.c 0 10 rfl rfl
  have HM := show Hid _ from M
  rw [hW] at c0 c1 c2 c3 c4 c5 c6 c7 c8 c9 c10
  clear M
  go_enter Try.func70, Try.ntmps70
  go_wp2_with fail
  rw [← hW]
  clear hW
  have M := HM.out
  clear HM c0 c1 c2 c3 c4 c5 c6 c7 c8 c9 c10
  refine (Q3 s.index.kind s.index.value ai s.index.kids.length ci _ HL.out.1).mono ?_
  rintro x w1 ⟨rfl, b1⟩
  rw [show (decide (s.index.kind = 0) && decide (s.index.value = 0) && decide (s.index.kids.length = 0)) = noneB s.index from rfl]
  replace M := M.call b1
  clear b1
  have HM := show Hid _ from M
  clear M
  go_wp2_with fail
  go_ret
  exact ⟨f8 (by rw [HP.out]), HM.out.below fun _ _ => trivial⟩
def StB (a1 a2 : Option Addr) (nv c1 na c2 : Nat) (v3 : Value) (d : Nat) : Prop := ∀ (s : d9) (φ : Nat → Prop) (v : Value) (w : World), Z7 w φ v s →
 Calls Try.prog 66 #[.agg #[.slice a1 nv c1, .slice a2 na c2, v3], v, .int .i64 d] w fun x w' => x = .returned (.bool (i9 nv na d s)) ∧ Below w.heap.size w w'
def BlB (a1 a2 : Option Addr) (nv c1 na c2 : Nat) (v3 : Value) (d : Nat) : Prop := ∀ (ss : List d9) (φ : Nat → Prop) (v : Value) (w : World), x8 w φ v ss →
 Calls Try.prog 60 #[.agg #[.slice a1 nv c1, .slice a2 na c2, v3], v, .int .i64 d] w fun x w' => x = .returned (.bool (ss.all (i9 nv na d))) ∧ Below w.heap.size w w'
theorem U2 (a1 a2 : Option Addr) (nv c1 na c2 : Nat) (v3 : Value) (d : Nat) (hd : d ≤ 5) (ih : StB a1 a2 nv c1 na c2 v3 d) : BlB a1 a2 nv c1 na c2 v3 d := by
 intro ss φ v w h
 obtain ⟨ak, ck, rfl, -, hn, -, hc⟩ := h.open
 obtain ⟨W, hW, M⟩ : ∃ W, W = w.alloc (.cells #[.slice a1 nv c1, .slice a2 na c2, v3] 51) ∧ C1 (fun _ => True) (fun _ => True) w W [.box w.heap.size [.slice a1 nv c1, .slice a2 na c2, v3]] :=
  ⟨_, rfl, (C1.start fun _ _ => trivial).box _ _⟩
 have HC := show Hid _ from hc
 clear h hc
 go_enter Try.func60, Try.ntmps60
 go_wp2_with fail
 rw [← hW]
 clear hW
 go_loopw [7] (fun i wr => ∃ k : Nat, k ≤ ss.length ∧ i = .int .i64 k ∧ (ss.take k).all (i9 nv na d) = true ∧ C1 (fun _ => True) (fun _ => True) w wr [.box w.heap.size [.slice a1 nv c1, .slice a2 na c2, v3]]) (fun i _ => ss.length - (intOf i).toNat)
 case atStart => exact ⟨0, Nat.zero_le _, rfl, rfl, M⟩
 case round =>
  clear M
  obtain ⟨k, hk, rfl, hall, M⟩ := hrel
  have HALL := show Hid _ from hall
  clear hall
  have hB := M.below fun _ _ => trivial
  have x0 := M.c 0 0 rfl rfl
  have x1 := M.c 0 1 rfl rfl
  have x2 := M.c 0 2 rfl rfl
  by_cases hlt : k < ss.length
  ·obtain ⟨b, off, iv, vv, bv, ev, rfl, hbk, hf, ⟨e0, e1, e2, e3, e4, e5, e6, e7, e8, e9, e10⟩, g1, g2, g3, g4⟩ := HC.out k hlt
   rw [← (K5 hB).1 _ _ hbk] at e0 e1 e2 e3 e4 e5 e6 e7 e8 e9 e10
   obtain ⟨q, hq⟩ : ∃ q, q = i9 nv na d ss[k] := ⟨_, rfl⟩
   have HC3 : Hid (∀ X, Calls Try.prog 66 #[.agg #[.slice a1 nv c1, .slice a2 na c2, v3], .agg #[.int .i64 ss[k].kind, .int .i64 ss[k].target, .int .i64 ss[k].index.kind, .int .i64 ss[k].index.value, iv, .int .i64 ss[k].value.kind, .int .i64 ss[k].value.value, vv, .int .i64 ss[k].count, bv, ev], .int .i64 d] (wr.ext X) fun x w'' => x = .returned (.bool q) ∧ ∃ Y, w'' = wr.ext Y) := fun X => by
    have bb := hB.trans ((l8 wr X).mono hB.size)
    rw [hq]
    exact Calls.ext_of' (ih _ φ _ _ (Z7.nice _ _ _ _ _ _ (W6.below bb) ⟨iv, vv, bv, ev, rfl, g1, g2, g3, g4⟩))
   have HQQ := show Hid _ from hq
   have HM := show Hid _ from M
   have j0 := fun X => f9 e0 X
   have j1 := fun X => f9 e1 X
   have j2 := fun X => f9 e2 X
   have j3 := fun X => f9 e3 X
   have j4 := fun X => f9 e4 X
   have j5 := fun X => f9 e5 X
   have j6 := fun X => f9 e6 X
   have j7 := fun X => f9 e7 X
   have j8 := fun X => f9 e8 X
   have j9 := fun X => f9 e9 X
   have j10 := fun X => f9 e10 X
   have z0 := fun X => f9 x0 X
   have z1 := fun X => f9 x1 X
   have z2 := fun X => f9 x2 X
   have hlt' : (k : Int) < ss.length := by omega
   clear g1 g2 g3 g4 hq e0 e1 e2 e3 e4 e5 e6 e7 e8 e9 e10 x0 x1 x2 M hB
   cases q
   ·go_wp2_with fail
    refine o7 (by kernel_rfl) (by kernel_rfl) ?_
    repeat (any_goals (first | go_big_quiet_step (((go_at_call 66; exact HC3.out _))) | quiet_step (((go_at_call 66; exact HC3.out _)))))
    refine wpQuiet_nil ?_
    rintro _ ⟨X, rfl⟩
    go_wp2_with fail
    go_ret
    exact ⟨f8 (by symm; exact List.all_eq_false.2 ⟨_, List.getElem_mem hlt, by rw [← HQQ.out]; simp⟩), (HM.out.call (l8 wr X)).below fun _ _ => trivial⟩
   ·go_wp2_with fail
    refine o7 (by kernel_rfl) (by kernel_rfl) ?_
    repeat (any_goals (first | go_big_quiet_step (((go_at_call 66; exact HC3.out _))) | quiet_step (((go_at_call 66; exact HC3.out _)))))
    refine wpQuiet_nil ?_
    rintro _ ⟨X, rfl⟩
    go_wp2_with fail
    refine ⟨⟨k + 1, by omega, by go_num, ?_, HM.out.call (l8 wr X)⟩, by simp [intOf]; omega⟩
    rw [M5 _ _ hlt, List.all_append, HALL.out]
    simp [← HQQ.out]
  ·have hkn : k = ss.length := by omega
   subst hkn
   have hall := HALL.out
   rw [List.take_of_length_le (Nat.le_refl _)] at hall
   have HAL := show Hid _ from hall
   have HB := show Hid _ from hB
   clear hall x0 x1 x2 M hB
   go_wp2_with fail
   go_ret
   exact ⟨f8 HAL.out.symm, HB.out⟩
theorem aT9 (a1 a2 : Option Addr) (nv c1 na c2 : Nat) (v3 : Value) (h1 : nv ≤ 9223372036854775807) (h2 : na ≤ 9223372036854775807) : ∀ d : Nat, d ≤ 5 → StB a1 a2 nv c1 na c2 v3 d := by
 intro d
 induction d with
 | zero =>
  intro _ s φ v w h
  obtain ⟨ai, ci, av, cv, ab, cb, ae, ce, rfl, -, -⟩ := h.form
  have HP : Hid (i9 nv na 0 s = false) := rfl
  clear h
  go_enter Try.func66, Try.ntmps66
  go_wp2_with fail
  go_ret
  exact ⟨f8 HP.out.symm, by go_grown⟩
 | succ d ih0 =>
  intro hd5 s φ v w h
  have ih := ih0 (by omega)
  clear ih0
  have hfull := h
  obtain ⟨ai, ci, av, cv, ab, cb, ae, ce, rfl, ⟨g1, g2, g3, g4⟩, -⟩ := h.form
  have hd0 : (d : Int) ≤ 5 := by omega
  have p9 : decide ((d : Int) + 1 < 1) = false := decide_eq_false (by omega)
  have HD0 : Hid (i9 nv na (d + 1) s = (x6 s && (if s.kind = 1 ∨ s.kind = 5 then decide (0 ≤ s.target) && decide (s.target < (nv : Int)) && l6 nv na s.value else if s.kind = 2 then decide (0 ≤ s.target) && decide (s.target < (na : Int)) && l6 nv na s.index && P2 s.index && l6 nv na s.value
   else if s.kind = 3 then l6 nv na s.value && s.body.all (i9 nv na d) && s.els.all (i9 nv na d) else if s.kind = 4 then s.body.all (i9 nv na d) else false))) := rfl
  have HG : Hid (∀ W, Below w.heap.size w W → Z8 W φ (.agg #[.int .i64 s.index.kind, .int .i64 s.index.value, .slice ai s.index.kids.length ci]) s.index ∧ Z8 W φ (.agg #[.int .i64 s.value.kind, .int .i64 s.value.value, .slice av s.value.kids.length cv]) s.value ∧ x8 W φ (.slice ab s.body.length cb) s.body ∧ x8 W φ (.slice ae s.els.length ce) s.els) := fun W k =>
   ⟨⟨_, rfl, z8.nice _ _ _ _ _ _ (W6.below k) g1⟩, ⟨_, rfl, z8.nice _ _ _ _ _ _ (W6.below k) g2⟩, x8.nice _ _ _ _ _ _ (W6.below k) g3, x8.nice _ _ _ _ _ _ (W6.below k) g4⟩
  have HF : Hid (∀ W, Below w.heap.size w W → Z7 W φ (.agg #[.int .i64 s.kind, .int .i64 s.target, .int .i64 s.index.kind, .int .i64 s.index.value, .slice ai s.index.kids.length ci, .int .i64 s.value.kind, .int .i64 s.value.value, .slice av s.value.kids.length cv, .int .i64 s.count, .slice ab s.body.length cb, .slice ae s.els.length ce]) s) := fun W k => Z7.nice _ _ _ _ _ _ (W6.below k) hfull
  obtain ⟨W, hW, M⟩ : ∃ W, W = (w.alloc (.cells #[.slice a1 nv c1, .slice a2 na c2, v3] 51)).alloc (.cells #[.int .i64 s.kind, .int .i64 s.target, .int .i64 s.index.kind, .int .i64 s.index.value, .slice ai s.index.kids.length ci, .int .i64 s.value.kind, .int .i64 s.value.value, .slice av s.value.kids.length cv, .int .i64 s.count, .slice ab s.body.length cb, .slice ae s.els.length ce] 83) ∧ C1 (fun _ => True) (fun _ => True) w W [.box w.heap.size [.slice a1 nv c1, .slice a2 na c2, v3], .box (w.heap.size + 1) [.int .i64 s.kind, .int .i64 s.target, .int .i64 s.index.kind, .int .i64 s.index.value, .slice ai s.index.kids.length ci, .int .i64 s.value.kind, .int .i64 s.value.value, .slice av s.value.kids.length cv, .int .i64 s.count, .slice ab s.body.length cb, .slice ae s.els.length ce]] :=
   ⟨_, rfl, ((C1.start fun _ _ => trivial).box _ _).box' _ _ (by simp)⟩
  clear g1 g2 g3 g4 h hfull
  have c0 := M.c 1 0 rfl rfl
  have c1 := M.c 1 1 rfl rfl
  have c2 := M.c 1 2 rfl rfl
  have c3 := M.c 1 3 rfl rfl
  have c4 := M.c 1 4 rfl rfl
  have c5 := M.c 1 5 rfl rfl
  have c6 := M.c 1 6 rfl rfl
  have c7 := M.c 1 7 rfl rfl
  have c8 := M.c 1 8 rfl rfl
  have c9 := M.c 1 9 rfl rfl
  have c10 := M.c 1 10 rfl rfl
  have x0 := M.c 0 0 rfl rfl
  have x1 := M.c 0 1 rfl rfl
  have x2 := M.c 0 2 rfl rfl
  have HM := show Hid _ from M
  rw [hW] at c0 c1 c2 c3 c4 c5 c6 c7 c8 c9 c10 x0 x1 x2
  clear M
  go_enter Try.func66, Try.ntmps66
  go_wp2_with fail
  rw [← hW]
  clear hW
  have M := HM.out
  clear HM c0 c1 c2 c3 c4 c5 c6 c7 c8 c9 c10 x0 x1 x2
  refine (az8 φ _ s _ (HF.out _ (M.below fun _ _ => trivial))).mono ?_
  rintro x w1 ⟨rfl, b1⟩
  replace M := M.call b1
  clear b1
  obtain ⟨b, hb⟩ : ∃ b, b = x6 s := ⟨_, rfl⟩
  rw [← hb]
  have HB := show Hid _ from hb
  clear hb
  cases b
  ·have HP : Hid (i9 nv na (d + 1) s = false) := by rw [Hid, HD0.out, ← HB.out]; rfl
   clear HD0 HB
   have c0 := M.c 1 0 rfl rfl
   have c1 := M.c 1 1 rfl rfl
   have c2 := M.c 1 2 rfl rfl
   have c3 := M.c 1 3 rfl rfl
   have c4 := M.c 1 4 rfl rfl
   have c5 := M.c 1 5 rfl rfl
   have c6 := M.c 1 6 rfl rfl
   have c7 := M.c 1 7 rfl rfl
   have c8 := M.c 1 8 rfl rfl
   have c9 := M.c 1 9 rfl rfl
   have c10 := M.c 1 10 rfl rfl
   have x0 := M.c 0 0 rfl rfl
   have x1 := M.c 0 1 rfl rfl
   have x2 := M.c 0 2 rfl rfl
   have HM := show Hid _ from M
   clear M
   go_wp2_with fail
   go_ret
   exact ⟨f8 (by rw [HP.out]), HM.out.below fun _ _ => trivial⟩
  have HD := show Hid (i9 nv na (d + 1) s = (if s.kind = 1 ∨ s.kind = 5 then decide (0 ≤ s.target) && decide (s.target < (nv : Int)) && l6 nv na s.value else if s.kind = 2 then decide (0 ≤ s.target) && decide (s.target < (na : Int)) && l6 nv na s.index && P2 s.index && l6 nv na s.value
   else if s.kind = 3 then l6 nv na s.value && s.body.all (i9 nv na d) && s.els.all (i9 nv na d) else if s.kind = 4 then s.body.all (i9 nv na d) else false)) from by rw [Hid, HD0.out, ← HB.out]; rfl
  clear HD0 HB
  by_cases qk : s.kind = 1
  ·have k1 : (s.kind == 1) = true := by simp [qk]
   have k5 : (s.kind == 5) = false := by simp [qk]
   have k2 : (s.kind == 2) = false := by simp [qk]
   have k3 : (s.kind == 3) = false := by simp [qk]
   have k4 : (s.kind == 4) = false := by simp [qk]
   have HP1 := show Hid (i9 nv na (d + 1) s = (decide (0 ≤ s.target) && decide (s.target < (nv : Int)) && l6 nv na s.value)) from by rw [Hid, HD.out, if_pos (.inl qk)]
   clear qk
   have HP0 := show Hid (i9 nv na (d + 1) s = (decide (0 ≤ s.target) && decide (s.target < (nv : Int)) && l6 nv na s.value)) from HP1.out
   clear HP1
   by_cases t0 : 0 ≤ s.target
   case neg =>
    have p0 : decide (0 ≤ s.target) = false := decide_eq_false t0
    have HP : Hid (i9 nv na (d + 1) s = false) := by rw [Hid, HP0.out, p0]; rfl
    clear HP0 t0
    have c0 := M.c 1 0 rfl rfl
    have c1 := M.c 1 1 rfl rfl
    have c2 := M.c 1 2 rfl rfl
    have c3 := M.c 1 3 rfl rfl
    have c4 := M.c 1 4 rfl rfl
    have c5 := M.c 1 5 rfl rfl
    have c6 := M.c 1 6 rfl rfl
    have c7 := M.c 1 7 rfl rfl
    have c8 := M.c 1 8 rfl rfl
    have c9 := M.c 1 9 rfl rfl
    have c10 := M.c 1 10 rfl rfl
    have x0 := M.c 0 0 rfl rfl
    have x1 := M.c 0 1 rfl rfl
    have x2 := M.c 0 2 rfl rfl
    have HM := show Hid _ from M
    clear M
    go_wp2_with fail
    go_ret
    exact ⟨f8 (by rw [HP.out]), HM.out.below fun _ _ => trivial⟩
   have p0 : decide (0 ≤ s.target) = true := decide_eq_true t0
   by_cases t1 : s.target < (nv : Int)
   case neg =>
    have p1 : decide (s.target < (nv : Int)) = false := decide_eq_false t1
    have HP : Hid (i9 nv na (d + 1) s = false) := by rw [Hid, HP0.out, p0, p1]; rfl
    clear HP0 t0 t1
    have c0 := M.c 1 0 rfl rfl
    have c1 := M.c 1 1 rfl rfl
    have c2 := M.c 1 2 rfl rfl
    have c3 := M.c 1 3 rfl rfl
    have c4 := M.c 1 4 rfl rfl
    have c5 := M.c 1 5 rfl rfl
    have c6 := M.c 1 6 rfl rfl
    have c7 := M.c 1 7 rfl rfl
    have c8 := M.c 1 8 rfl rfl
    have c9 := M.c 1 9 rfl rfl
    have c10 := M.c 1 10 rfl rfl
    have x0 := M.c 0 0 rfl rfl
    have x1 := M.c 0 1 rfl rfl
    have x2 := M.c 0 2 rfl rfl
    have HM := show Hid _ from M
    clear M
    go_wp2_with fail
    go_ret
    exact ⟨f8 (by rw [HP.out]), HM.out.below fun _ _ => trivial⟩
   have p1 : decide (s.target < (nv : Int)) = true := decide_eq_true t1
   have HP1 := show Hid (i9 nv na (d + 1) s = (l6 nv na s.value)) from by rw [Hid, HP0.out, p0, p1]; rfl
   clear HP0 t0 t1
   have HP0 := show Hid (i9 nv na (d + 1) s = (l6 nv na s.value)) from HP1.out
   clear HP1
   have c0 := M.c 1 0 rfl rfl
   have c1 := M.c 1 1 rfl rfl
   have c2 := M.c 1 2 rfl rfl
   have c3 := M.c 1 3 rfl rfl
   have c4 := M.c 1 4 rfl rfl
   have c5 := M.c 1 5 rfl rfl
   have c6 := M.c 1 6 rfl rfl
   have c7 := M.c 1 7 rfl rfl
   have c8 := M.c 1 8 rfl rfl
   have c9 := M.c 1 9 rfl rfl
   have c10 := M.c 1 10 rfl rfl
   have x0 := M.c 0 0 rfl rfl
   have x1 := M.c 0 1 rfl rfl
   have x2 := M.c 0 2 rfl rfl
   have HM := show Hid _ from M
   clear M
   go_wp2_with fail
   have M := HM.out
   clear HM c0 c1 c2 c3 c4 c5 c6 c7 c8 c9 c10 x0 x1 x2
   refine (G3 a1 a2 nv c1 na c2 v3 h1 h2 s.value φ _ _ (HG.out _ (M.below fun _ _ => trivial)).2.1).mono ?_
   rintro x w1 ⟨rfl, b1⟩
   replace M := M.call b1
   clear b1
   have HP : Hid (i9 nv na (d + 1) s = l6 nv na s.value) := HP0.out
   clear HP0
   have HM := show Hid _ from M
   clear M
   go_wp2_with fail
   go_ret
   exact ⟨f8 (by rw [HP.out]), HM.out.below fun _ _ => trivial⟩
  have qn1 := qk
  clear qk
  by_cases qk : s.kind = 5
  ·have k1 : (s.kind == 1) = false := by simp [qk]
   have k5 : (s.kind == 5) = true := by simp [qk]
   have k2 : (s.kind == 2) = false := by simp [qk]
   have k3 : (s.kind == 3) = false := by simp [qk]
   have k4 : (s.kind == 4) = false := by simp [qk]
   have HP1 := show Hid (i9 nv na (d + 1) s = (decide (0 ≤ s.target) && decide (s.target < (nv : Int)) && l6 nv na s.value)) from by rw [Hid, HD.out, if_pos (.inr qk)]
   clear qk
   have HP0 := show Hid (i9 nv na (d + 1) s = (decide (0 ≤ s.target) && decide (s.target < (nv : Int)) && l6 nv na s.value)) from HP1.out
   clear HP1
   by_cases t0 : 0 ≤ s.target
   case neg =>
    have p0 : decide (0 ≤ s.target) = false := decide_eq_false t0
    have HP : Hid (i9 nv na (d + 1) s = false) := by rw [Hid, HP0.out, p0]; rfl
    clear HP0 t0
    have c0 := M.c 1 0 rfl rfl
    have c1 := M.c 1 1 rfl rfl
    have c2 := M.c 1 2 rfl rfl
    have c3 := M.c 1 3 rfl rfl
    have c4 := M.c 1 4 rfl rfl
    have c5 := M.c 1 5 rfl rfl
    have c6 := M.c 1 6 rfl rfl
    have c7 := M.c 1 7 rfl rfl
    have c8 := M.c 1 8 rfl rfl
    have c9 := M.c 1 9 rfl rfl
    have c10 := M.c 1 10 rfl rfl
    have x0 := M.c 0 0 rfl rfl
    have x1 := M.c 0 1 rfl rfl
    have x2 := M.c 0 2 rfl rfl
    have HM := show Hid _ from M
    clear M
    go_wp2_with fail
    go_ret
    exact ⟨f8 (by rw [HP.out]), HM.out.below fun _ _ => trivial⟩
   have p0 : decide (0 ≤ s.target) = true := decide_eq_true t0
   by_cases t1 : s.target < (nv : Int)
   case neg =>
    have p1 : decide (s.target < (nv : Int)) = false := decide_eq_false t1
    have HP : Hid (i9 nv na (d + 1) s = false) := by rw [Hid, HP0.out, p0, p1]; rfl
    clear HP0 t0 t1
    have c0 := M.c 1 0 rfl rfl
    have c1 := M.c 1 1 rfl rfl
    have c2 := M.c 1 2 rfl rfl
    have c3 := M.c 1 3 rfl rfl
    have c4 := M.c 1 4 rfl rfl
    have c5 := M.c 1 5 rfl rfl
    have c6 := M.c 1 6 rfl rfl
    have c7 := M.c 1 7 rfl rfl
    have c8 := M.c 1 8 rfl rfl
    have c9 := M.c 1 9 rfl rfl
    have c10 := M.c 1 10 rfl rfl
    have x0 := M.c 0 0 rfl rfl
    have x1 := M.c 0 1 rfl rfl
    have x2 := M.c 0 2 rfl rfl
    have HM := show Hid _ from M
    clear M
    go_wp2_with fail
    go_ret
    exact ⟨f8 (by rw [HP.out]), HM.out.below fun _ _ => trivial⟩
   have p1 : decide (s.target < (nv : Int)) = true := decide_eq_true t1
   have HP1 := show Hid (i9 nv na (d + 1) s = (l6 nv na s.value)) from by rw [Hid, HP0.out, p0, p1]; rfl
   clear HP0 t0 t1
   have HP0 := show Hid (i9 nv na (d + 1) s = (l6 nv na s.value)) from HP1.out
   clear HP1
   have c0 := M.c 1 0 rfl rfl
   have c1 := M.c 1 1 rfl rfl
   have c2 := M.c 1 2 rfl rfl
   have c3 := M.c 1 3 rfl rfl
   have c4 := M.c 1 4 rfl rfl
   have c5 := M.c 1 5 rfl rfl
   have c6 := M.c 1 6 rfl rfl
   have c7 := M.c 1 7 rfl rfl
   have c8 := M.c 1 8 rfl rfl
   have c9 := M.c 1 9 rfl rfl
   have c10 := M.c 1 10 rfl rfl
   have x0 := M.c 0 0 rfl rfl
   have x1 := M.c 0 1 rfl rfl
   have x2 := M.c 0 2 rfl rfl
   have HM := show Hid _ from M
   clear M
   go_wp2_with fail
   have M := HM.out
   clear HM c0 c1 c2 c3 c4 c5 c6 c7 c8 c9 c10 x0 x1 x2
   refine (G3 a1 a2 nv c1 na c2 v3 h1 h2 s.value φ _ _ (HG.out _ (M.below fun _ _ => trivial)).2.1).mono ?_
   rintro x w1 ⟨rfl, b1⟩
   replace M := M.call b1
   clear b1
   have HP : Hid (i9 nv na (d + 1) s = l6 nv na s.value) := HP0.out
   clear HP0
   have HM := show Hid _ from M
   clear M
   go_wp2_with fail
   go_ret
   exact ⟨f8 (by rw [HP.out]), HM.out.below fun _ _ => trivial⟩
  have qn5 := qk
  clear qk
  by_cases qk : s.kind = 2
  ·have k1 : (s.kind == 1) = false := by simp [qk]
   have k5 : (s.kind == 5) = false := by simp [qk]
   have k2 : (s.kind == 2) = true := by simp [qk]
   have k3 : (s.kind == 3) = false := by simp [qk]
   have k4 : (s.kind == 4) = false := by simp [qk]
   have HP1 := show Hid (i9 nv na (d + 1) s = (decide (0 ≤ s.target) && decide (s.target < (na : Int)) && l6 nv na s.index && P2 s.index && l6 nv na s.value)) from by rw [Hid, HD.out, if_neg (by omega), if_pos qk]
   clear qk
   have HP0 := show Hid (i9 nv na (d + 1) s = (decide (0 ≤ s.target) && decide (s.target < (na : Int)) && l6 nv na s.index && P2 s.index && l6 nv na s.value)) from HP1.out
   clear HP1
   by_cases t0 : 0 ≤ s.target
   case neg =>
    have p0 : decide (0 ≤ s.target) = false := decide_eq_false t0
    have HP : Hid (i9 nv na (d + 1) s = false) := by rw [Hid, HP0.out, p0]; rfl
    clear HP0 t0
    have c0 := M.c 1 0 rfl rfl
    have c1 := M.c 1 1 rfl rfl
    have c2 := M.c 1 2 rfl rfl
    have c3 := M.c 1 3 rfl rfl
    have c4 := M.c 1 4 rfl rfl
    have c5 := M.c 1 5 rfl rfl
    have c6 := M.c 1 6 rfl rfl
    have c7 := M.c 1 7 rfl rfl
    have c8 := M.c 1 8 rfl rfl
    have c9 := M.c 1 9 rfl rfl
    have c10 := M.c 1 10 rfl rfl
    have x0 := M.c 0 0 rfl rfl
    have x1 := M.c 0 1 rfl rfl
    have x2 := M.c 0 2 rfl rfl
    have HM := show Hid _ from M
    clear M
    go_wp2_with fail
    go_ret
    exact ⟨f8 (by rw [HP.out]), HM.out.below fun _ _ => trivial⟩
   have p0 : decide (0 ≤ s.target) = true := decide_eq_true t0
   by_cases t1 : s.target < (na : Int)
   case neg =>
    have p1 : decide (s.target < (na : Int)) = false := decide_eq_false t1
    have HP : Hid (i9 nv na (d + 1) s = false) := by rw [Hid, HP0.out, p0, p1]; rfl
    clear HP0 t0 t1
    have c0 := M.c 1 0 rfl rfl
    have c1 := M.c 1 1 rfl rfl
    have c2 := M.c 1 2 rfl rfl
    have c3 := M.c 1 3 rfl rfl
    have c4 := M.c 1 4 rfl rfl
    have c5 := M.c 1 5 rfl rfl
    have c6 := M.c 1 6 rfl rfl
    have c7 := M.c 1 7 rfl rfl
    have c8 := M.c 1 8 rfl rfl
    have c9 := M.c 1 9 rfl rfl
    have c10 := M.c 1 10 rfl rfl
    have x0 := M.c 0 0 rfl rfl
    have x1 := M.c 0 1 rfl rfl
    have x2 := M.c 0 2 rfl rfl
    have HM := show Hid _ from M
    clear M
    go_wp2_with fail
    go_ret
    exact ⟨f8 (by rw [HP.out]), HM.out.below fun _ _ => trivial⟩
   have p1 : decide (s.target < (na : Int)) = true := decide_eq_true t1
   have HP1 := show Hid (i9 nv na (d + 1) s = (l6 nv na s.index && P2 s.index && l6 nv na s.value)) from by rw [Hid, HP0.out, p0, p1]; rfl
   clear HP0 t0 t1
   have HP0 := show Hid (i9 nv na (d + 1) s = (l6 nv na s.index && P2 s.index && l6 nv na s.value)) from HP1.out
   clear HP1
   have c0 := M.c 1 0 rfl rfl
   have c1 := M.c 1 1 rfl rfl
   have c2 := M.c 1 2 rfl rfl
   have c3 := M.c 1 3 rfl rfl
   have c4 := M.c 1 4 rfl rfl
   have c5 := M.c 1 5 rfl rfl
   have c6 := M.c 1 6 rfl rfl
   have c7 := M.c 1 7 rfl rfl
   have c8 := M.c 1 8 rfl rfl
   have c9 := M.c 1 9 rfl rfl
   have c10 := M.c 1 10 rfl rfl
   have x0 := M.c 0 0 rfl rfl
   have x1 := M.c 0 1 rfl rfl
   have x2 := M.c 0 2 rfl rfl
   have HM := show Hid _ from M
   clear M
   go_wp2_with fail
   have M := HM.out
   clear HM c0 c1 c2 c3 c4 c5 c6 c7 c8 c9 c10 x0 x1 x2
   refine (G3 a1 a2 nv c1 na c2 v3 h1 h2 s.index φ _ _ (HG.out _ (M.below fun _ _ => trivial)).1).mono ?_
   rintro x w1 ⟨rfl, b1⟩
   replace M := M.call b1
   clear b1
   obtain ⟨b, hb⟩ : ∃ b, b = l6 nv na s.index := ⟨_, rfl⟩
   rw [← hb]
   have HB := show Hid _ from hb
   clear hb
   cases b
   ·have HP : Hid (i9 nv na (d + 1) s = false) := by rw [Hid, HP0.out, ← HB.out]; rfl
    clear HP0
    have c0 := M.c 1 0 rfl rfl
    have c1 := M.c 1 1 rfl rfl
    have c2 := M.c 1 2 rfl rfl
    have c3 := M.c 1 3 rfl rfl
    have c4 := M.c 1 4 rfl rfl
    have c5 := M.c 1 5 rfl rfl
    have c6 := M.c 1 6 rfl rfl
    have c7 := M.c 1 7 rfl rfl
    have c8 := M.c 1 8 rfl rfl
    have c9 := M.c 1 9 rfl rfl
    have c10 := M.c 1 10 rfl rfl
    have x0 := M.c 0 0 rfl rfl
    have x1 := M.c 0 1 rfl rfl
    have x2 := M.c 0 2 rfl rfl
    have HM := show Hid _ from M
    clear M
    go_wp2_with fail
    go_ret
    exact ⟨f8 (by rw [HP.out]), HM.out.below fun _ _ => trivial⟩
   ·have HP1 := show Hid (i9 nv na (d + 1) s = (P2 s.index && l6 nv na s.value)) from by rw [Hid, HP0.out, ← HB.out]; rfl
    clear HP0 HB
    have HP0 := show Hid (i9 nv na (d + 1) s = (P2 s.index && l6 nv na s.value)) from HP1.out
    clear HP1
    have c0 := M.c 1 0 rfl rfl
    have c1 := M.c 1 1 rfl rfl
    have c2 := M.c 1 2 rfl rfl
    have c3 := M.c 1 3 rfl rfl
    have c4 := M.c 1 4 rfl rfl
    have c5 := M.c 1 5 rfl rfl
    have c6 := M.c 1 6 rfl rfl
    have c7 := M.c 1 7 rfl rfl
    have c8 := M.c 1 8 rfl rfl
    have c9 := M.c 1 9 rfl rfl
    have c10 := M.c 1 10 rfl rfl
    have x0 := M.c 0 0 rfl rfl
    have x1 := M.c 0 1 rfl rfl
    have x2 := M.c 0 2 rfl rfl
    have HM := show Hid _ from M
    clear M
    go_wp2_with fail
    have M := HM.out
    clear HM c0 c1 c2 c3 c4 c5 c6 c7 c8 c9 c10 x0 x1 x2
    refine (am0 _ _ _ _).mono ?_
    rintro x w1 ⟨rfl, b1⟩
    replace M := M.call b1
    clear b1
    rw [show (decide (s.index.kind = 1) || decide (s.index.kind = 2)) = P2 s.index from rfl]
    obtain ⟨b, hb⟩ : ∃ b, b = P2 s.index := ⟨_, rfl⟩
    rw [← hb]
    have HB := show Hid _ from hb
    clear hb
    cases b
    ·have HP : Hid (i9 nv na (d + 1) s = false) := by rw [Hid, HP0.out, ← HB.out]; rfl
     clear HP0
     have c0 := M.c 1 0 rfl rfl
     have c1 := M.c 1 1 rfl rfl
     have c2 := M.c 1 2 rfl rfl
     have c3 := M.c 1 3 rfl rfl
     have c4 := M.c 1 4 rfl rfl
     have c5 := M.c 1 5 rfl rfl
     have c6 := M.c 1 6 rfl rfl
     have c7 := M.c 1 7 rfl rfl
     have c8 := M.c 1 8 rfl rfl
     have c9 := M.c 1 9 rfl rfl
     have c10 := M.c 1 10 rfl rfl
     have x0 := M.c 0 0 rfl rfl
     have x1 := M.c 0 1 rfl rfl
     have x2 := M.c 0 2 rfl rfl
     have HM := show Hid _ from M
     clear M
     go_wp2_with fail
     go_ret
     exact ⟨f8 (by rw [HP.out]), HM.out.below fun _ _ => trivial⟩
    ·have HP1 := show Hid (i9 nv na (d + 1) s = (l6 nv na s.value)) from by rw [Hid, HP0.out, ← HB.out]; rfl
     clear HP0 HB
     have HP0 := show Hid (i9 nv na (d + 1) s = (l6 nv na s.value)) from HP1.out
     clear HP1
     have c0 := M.c 1 0 rfl rfl
     have c1 := M.c 1 1 rfl rfl
     have c2 := M.c 1 2 rfl rfl
     have c3 := M.c 1 3 rfl rfl
     have c4 := M.c 1 4 rfl rfl
     have c5 := M.c 1 5 rfl rfl
     have c6 := M.c 1 6 rfl rfl
     have c7 := M.c 1 7 rfl rfl
     have c8 := M.c 1 8 rfl rfl
     have c9 := M.c 1 9 rfl rfl
     have c10 := M.c 1 10 rfl rfl
     have x0 := M.c 0 0 rfl rfl
     have x1 := M.c 0 1 rfl rfl
     have x2 := M.c 0 2 rfl rfl
     have HM := show Hid _ from M
     clear M
     go_wp2_with fail
     have M := HM.out
     clear HM c0 c1 c2 c3 c4 c5 c6 c7 c8 c9 c10 x0 x1 x2
     refine (G3 a1 a2 nv c1 na c2 v3 h1 h2 s.value φ _ _ (HG.out _ (M.below fun _ _ => trivial)).2.1).mono ?_
     rintro x w1 ⟨rfl, b1⟩
     replace M := M.call b1
     clear b1
     have HP : Hid (i9 nv na (d + 1) s = l6 nv na s.value) := HP0.out
     clear HP0
     have HM := show Hid _ from M
     clear M
     go_wp2_with fail
     go_ret
     exact ⟨f8 (by rw [HP.out]), HM.out.below fun _ _ => trivial⟩
  have qn2 := qk
  clear qk
  by_cases qk : s.kind = 3
  ·have k1 : (s.kind == 1) = false := by simp [qk]
   have k5 : (s.kind == 5) = false := by simp [qk]
   have k2 : (s.kind == 2) = false := by simp [qk]
   have k3 : (s.kind == 3) = true := by simp [qk]
   have k4 : (s.kind == 4) = false := by simp [qk]
   have HP1 := show Hid (i9 nv na (d + 1) s = (l6 nv na s.value && s.body.all (i9 nv na d) && s.els.all (i9 nv na d))) from by rw [Hid, HD.out, if_neg (by omega), if_neg (by omega), if_pos qk]
   clear qk
   have HP0 := show Hid (i9 nv na (d + 1) s = (l6 nv na s.value && s.body.all (i9 nv na d) && s.els.all (i9 nv na d))) from HP1.out
   clear HP1
   have c0 := M.c 1 0 rfl rfl
   have c1 := M.c 1 1 rfl rfl
   have c2 := M.c 1 2 rfl rfl
   have c3 := M.c 1 3 rfl rfl
   have c4 := M.c 1 4 rfl rfl
   have c5 := M.c 1 5 rfl rfl
   have c6 := M.c 1 6 rfl rfl
   have c7 := M.c 1 7 rfl rfl
   have c8 := M.c 1 8 rfl rfl
   have c9 := M.c 1 9 rfl rfl
   have c10 := M.c 1 10 rfl rfl
   have x0 := M.c 0 0 rfl rfl
   have x1 := M.c 0 1 rfl rfl
   have x2 := M.c 0 2 rfl rfl
   have HM := show Hid _ from M
   clear M
   go_wp2_with fail
   have M := HM.out
   clear HM c0 c1 c2 c3 c4 c5 c6 c7 c8 c9 c10 x0 x1 x2
   refine (G3 a1 a2 nv c1 na c2 v3 h1 h2 s.value φ _ _ (HG.out _ (M.below fun _ _ => trivial)).2.1).mono ?_
   rintro x w1 ⟨rfl, b1⟩
   replace M := M.call b1
   clear b1
   obtain ⟨b, hb⟩ : ∃ b, b = l6 nv na s.value := ⟨_, rfl⟩
   rw [← hb]
   have HB := show Hid _ from hb
   clear hb
   cases b
   ·have HP : Hid (i9 nv na (d + 1) s = false) := by rw [Hid, HP0.out, ← HB.out]; rfl
    clear HP0
    have c0 := M.c 1 0 rfl rfl
    have c1 := M.c 1 1 rfl rfl
    have c2 := M.c 1 2 rfl rfl
    have c3 := M.c 1 3 rfl rfl
    have c4 := M.c 1 4 rfl rfl
    have c5 := M.c 1 5 rfl rfl
    have c6 := M.c 1 6 rfl rfl
    have c7 := M.c 1 7 rfl rfl
    have c8 := M.c 1 8 rfl rfl
    have c9 := M.c 1 9 rfl rfl
    have c10 := M.c 1 10 rfl rfl
    have x0 := M.c 0 0 rfl rfl
    have x1 := M.c 0 1 rfl rfl
    have x2 := M.c 0 2 rfl rfl
    have HM := show Hid _ from M
    clear M
    go_wp2_with fail
    go_ret
    exact ⟨f8 (by rw [HP.out]), HM.out.below fun _ _ => trivial⟩
   ·have HP1 := show Hid (i9 nv na (d + 1) s = (s.body.all (i9 nv na d) && s.els.all (i9 nv na d))) from by rw [Hid, HP0.out, ← HB.out]; rfl
    clear HP0 HB
    have HP0 := show Hid (i9 nv na (d + 1) s = (s.body.all (i9 nv na d) && s.els.all (i9 nv na d))) from HP1.out
    clear HP1
    have c0 := M.c 1 0 rfl rfl
    have c1 := M.c 1 1 rfl rfl
    have c2 := M.c 1 2 rfl rfl
    have c3 := M.c 1 3 rfl rfl
    have c4 := M.c 1 4 rfl rfl
    have c5 := M.c 1 5 rfl rfl
    have c6 := M.c 1 6 rfl rfl
    have c7 := M.c 1 7 rfl rfl
    have c8 := M.c 1 8 rfl rfl
    have c9 := M.c 1 9 rfl rfl
    have c10 := M.c 1 10 rfl rfl
    have x0 := M.c 0 0 rfl rfl
    have x1 := M.c 0 1 rfl rfl
    have x2 := M.c 0 2 rfl rfl
    have HM := show Hid _ from M
    clear M
    go_wp2_with fail
    have M := HM.out
    clear HM c0 c1 c2 c3 c4 c5 c6 c7 c8 c9 c10 x0 x1 x2
    refine (U2 a1 a2 nv c1 na c2 v3 d (by omega) ih s.body φ _ _ (HG.out _ (M.below fun _ _ => trivial)).2.2.1).mono ?_
    rintro x w1 ⟨rfl, b1⟩
    replace M := M.call b1
    clear b1
    obtain ⟨b, hb⟩ : ∃ b, b = s.body.all (i9 nv na d) := ⟨_, rfl⟩
    rw [← hb]
    have HB := show Hid _ from hb
    clear hb
    cases b
    ·have HP : Hid (i9 nv na (d + 1) s = false) := by rw [Hid, HP0.out, ← HB.out]; rfl
     clear HP0
     have c0 := M.c 1 0 rfl rfl
     have c1 := M.c 1 1 rfl rfl
     have c2 := M.c 1 2 rfl rfl
     have c3 := M.c 1 3 rfl rfl
     have c4 := M.c 1 4 rfl rfl
     have c5 := M.c 1 5 rfl rfl
     have c6 := M.c 1 6 rfl rfl
     have c7 := M.c 1 7 rfl rfl
     have c8 := M.c 1 8 rfl rfl
     have c9 := M.c 1 9 rfl rfl
     have c10 := M.c 1 10 rfl rfl
     have x0 := M.c 0 0 rfl rfl
     have x1 := M.c 0 1 rfl rfl
     have x2 := M.c 0 2 rfl rfl
     have HM := show Hid _ from M
     clear M
     go_wp2_with fail
     go_ret
     exact ⟨f8 (by rw [HP.out]), HM.out.below fun _ _ => trivial⟩
    ·have HP1 := show Hid (i9 nv na (d + 1) s = (s.els.all (i9 nv na d))) from by rw [Hid, HP0.out, ← HB.out]; rfl
     clear HP0 HB
     have HP0 := show Hid (i9 nv na (d + 1) s = (s.els.all (i9 nv na d))) from HP1.out
     clear HP1
     have c0 := M.c 1 0 rfl rfl
     have c1 := M.c 1 1 rfl rfl
     have c2 := M.c 1 2 rfl rfl
     have c3 := M.c 1 3 rfl rfl
     have c4 := M.c 1 4 rfl rfl
     have c5 := M.c 1 5 rfl rfl
     have c6 := M.c 1 6 rfl rfl
     have c7 := M.c 1 7 rfl rfl
     have c8 := M.c 1 8 rfl rfl
     have c9 := M.c 1 9 rfl rfl
     have c10 := M.c 1 10 rfl rfl
     have x0 := M.c 0 0 rfl rfl
     have x1 := M.c 0 1 rfl rfl
     have x2 := M.c 0 2 rfl rfl
     have HM := show Hid _ from M
     clear M
     go_wp2_with fail
     have M := HM.out
     clear HM c0 c1 c2 c3 c4 c5 c6 c7 c8 c9 c10 x0 x1 x2
     refine (U2 a1 a2 nv c1 na c2 v3 d (by omega) ih s.els φ _ _ (HG.out _ (M.below fun _ _ => trivial)).2.2.2).mono ?_
     rintro x w1 ⟨rfl, b1⟩
     replace M := M.call b1
     clear b1
     have HP : Hid (i9 nv na (d + 1) s = (s.els.all (i9 nv na d))) := HP0.out
     clear HP0
     have HM := show Hid _ from M
     clear M
     go_wp2_with fail
     go_ret
     exact ⟨f8 (by rw [HP.out]), HM.out.below fun _ _ => trivial⟩
  have qn3 := qk
  clear qk
  by_cases qk : s.kind = 4
  ·have k1 : (s.kind == 1) = false := by simp [qk]
   have k5 : (s.kind == 5) = false := by simp [qk]
   have k2 : (s.kind == 2) = false := by simp [qk]
   have k3 : (s.kind == 3) = false := by simp [qk]
   have k4 : (s.kind == 4) = true := by simp [qk]
   have HP1 := show Hid (i9 nv na (d + 1) s = ((s.body.all (i9 nv na d)))) from by rw [Hid, HD.out, if_neg (by omega), if_neg (by omega), if_neg (by omega), if_pos qk]
   clear qk
   have HP0 := show Hid (i9 nv na (d + 1) s = ((s.body.all (i9 nv na d)))) from HP1.out
   clear HP1
   have c0 := M.c 1 0 rfl rfl
   have c1 := M.c 1 1 rfl rfl
   have c2 := M.c 1 2 rfl rfl
   have c3 := M.c 1 3 rfl rfl
   have c4 := M.c 1 4 rfl rfl
   have c5 := M.c 1 5 rfl rfl
   have c6 := M.c 1 6 rfl rfl
   have c7 := M.c 1 7 rfl rfl
   have c8 := M.c 1 8 rfl rfl
   have c9 := M.c 1 9 rfl rfl
   have c10 := M.c 1 10 rfl rfl
   have x0 := M.c 0 0 rfl rfl
   have x1 := M.c 0 1 rfl rfl
   have x2 := M.c 0 2 rfl rfl
   have HM := show Hid _ from M
   clear M
   go_wp2_with fail
   have M := HM.out
   clear HM c0 c1 c2 c3 c4 c5 c6 c7 c8 c9 c10 x0 x1 x2
   refine (U2 a1 a2 nv c1 na c2 v3 d (by omega) ih s.body φ _ _ (HG.out _ (M.below fun _ _ => trivial)).2.2.1).mono ?_
   rintro x w1 ⟨rfl, b1⟩
   replace M := M.call b1
   clear b1
   have HP : Hid (i9 nv na (d + 1) s = (s.body.all (i9 nv na d))) := HP0.out
   clear HP0
   have HM := show Hid _ from M
   clear M
   go_wp2_with fail
   go_ret
   exact ⟨f8 (by rw [HP.out]), HM.out.below fun _ _ => trivial⟩
  have HP : Hid (i9 nv na (d + 1) s = false) := by rw [Hid, HD.out, if_neg (by omega), if_neg qn2, if_neg qn3, if_neg qk]
  have k1 : (s.kind == 1) = false := by simp [qn1]
  have k5 : (s.kind == 5) = false := by simp [qn5]
  have k2 : (s.kind == 2) = false := by simp [qn2]
  have k3 : (s.kind == 3) = false := by simp [qn3]
  have k4 : (s.kind == 4) = false := by simp [qk]
  clear HD qn1 qn5 qn2 qn3 qk
  have c0 := M.c 1 0 rfl rfl
  have c1 := M.c 1 1 rfl rfl
  have c2 := M.c 1 2 rfl rfl
  have c3 := M.c 1 3 rfl rfl
  have c4 := M.c 1 4 rfl rfl
  have c5 := M.c 1 5 rfl rfl
  have c6 := M.c 1 6 rfl rfl
  have c7 := M.c 1 7 rfl rfl
  have c8 := M.c 1 8 rfl rfl
  have c9 := M.c 1 9 rfl rfl
  have c10 := M.c 1 10 rfl rfl
  have x0 := M.c 0 0 rfl rfl
  have x1 := M.c 0 1 rfl rfl
  have x2 := M.c 0 2 rfl rfl
  have HM := show Hid _ from M
  clear M
  go_wp2_with fail
  go_ret
  exact ⟨f8 (by rw [HP.out]), HM.out.below fun _ _ => trivial⟩
section
variable {P : Program} {f : FuncId}
theorem ar4 {args : List AV} {S : List It} {x : Value} (h : ∀ (φ : Nat → Prop) (w : World) (ρ : Nat → Value), (∀ i d, s9 S i = .dat d → RD w φ d (ρ i)) → Calls P f (AV.vals ρ args).toArray w fun e w' => e = .returned x ∧ Below w.heap.size w w') : p7.ok P (fnC f args S (.v x)) := by
 intro ι φ ψ w0 w F ρ M
 refine (h (W5 φ (o6 F ρ (s9 S))) w ρ fun i d hi => M.datAt hi).mono ?_
 rintro e w' ⟨rfl, hb⟩
 exact ⟨ρ, fun _ _ => rfl, rfl, M.call hb⟩
end
theorem ao1 {w : World} {φ : Nat → Prop} {d : D} {v : Value} (h : RD w φ d v) : ∃ a cap, v = .slice a d.len cap ∧ d.len ≤ 9223372036854775807 := by
 obtain ⟨a, cap, h1, h2, h3, _⟩ := h.open
 unfold maxLen at h3
 exact ⟨a, cap, h1, by omega⟩
theorem ak0 (p : m6) : p7.ok Try.prog (fnC 26 [pA 0] (pS p) (bA (A6 p.vars p.arrays))) :=
 ar4 fun φ w ρ h => af3 (ρ 0) (ρ 1) (ρ 2) _ _ w (t8.row (h 0 _ rfl)) (t8.row (h 1 _ rfl))
theorem aV6 (p : m6) (e : f5) : p7.ok Try.prog (fnC 69 [pA 0, eA e 3] (pS p ++ eS e) (bA (l6 p.vars.length p.arrays.length e))) :=
 ar4 fun φ w ρ h => by
  obtain ⟨a1, c1, h1, l1⟩ := ao1 (h 0 _ rfl)
  obtain ⟨a2, c2, h2, l2⟩ := ao1 (h 1 _ rfl)
  simp only [AV.vals, AV.val, h1, h2]
  exact G3 a1 a2 _ c1 _ c2 (ρ 2) l1 l2 e φ _ w ⟨_, rfl, h 3 _ rfl⟩
theorem aV7 (p : m6) (ss : List d9) (n : Int) (hn : n = 5) : p7.ok Try.prog (fnC 60 [pA 0, .ref 3, iA n] (pS p ++ [.dat (.stmts ss)]) (bA (R4 p.vars.length p.arrays.length 5 ss))) :=
 ar4 fun φ w ρ h => by
  subst hn
  obtain ⟨a1, c1, h1, l1⟩ := ao1 (h 0 _ rfl)
  obtain ⟨a2, c2, h2, l2⟩ := ao1 (h 1 _ rfl)
  simp only [AV.vals, AV.val, h1, h2]
  exact U2 a1 a2 _ c1 _ c2 (ρ 2) 5 (by omega) (aT9 a1 a2 _ c1 _ c2 (ρ 2) l1 l2 5 (by omega)) ss φ _ w (h 3 _ rfl)
mutual
theorem bj7 : ∀ s : d9, nS s ≤ 1 + E5 s
 | ⟨_, _, _, _, _, b, e⟩ => by
  have h1 := aA8 b
  have h2 := aA8 e
  simp only [nS, E5]; omega
theorem aA8 : ∀ ss : List d9, H1 ss ≤ s5 ss
 | [] => Nat.le_refl _
 | s :: r => by
  have h1 := bj7 s
  have h2 := aA8 r
  simp only [H1, s5]; omega
end
theorem ar6 (a b : List d9) : H1 (a ++ b) = H1 a + H1 b := by
 induction a with
 | nil => simp [H1]
 | cons x r ih => simp [H1, ih]; omega
theorem aA9 (s : d9) : nS s = 1 + H1 s.body + H1 s.els := by cases s; simp only [nS]; rfl
theorem T6 {nv na d : Nat} {s : d9} (h : i9 nv na (d + 1) s = true) : s.body.all (i9 nv na d) = true ∧ s.els.all (i9 nv na d) = true := by
 rw [i9, Bool.and_eq_true] at h
 obtain ⟨h1, h2⟩ := h
 unfold x6 at h1
 by_cases k3 : s.kind = 3
 ·rw [if_neg (by omega), if_neg (by omega), if_pos k3] at h2
  simp only [Bool.and_eq_true] at h2
  exact ⟨h2.1.2, h2.2⟩
 by_cases k4 : s.kind = 4
 ·rw [if_neg (by omega), if_neg (by omega), if_neg (by omega), if_pos k4] at h2
  rw [if_pos (.inr k4), if_pos k4] at h1
  simp only [Bool.and_eq_true, decide_eq_true_eq] at h1
  exact ⟨h2, by rw [List.eq_nil_of_length_eq_zero h1.2.1.1.1.1]; rfl⟩
 ·rw [if_neg (by omega)] at h1
  simp only [Bool.and_eq_true, decide_eq_true_eq] at h1
  exact ⟨by rw [List.eq_nil_of_length_eq_zero h1.1.1.1]; rfl, by rw [List.eq_nil_of_length_eq_zero h1.1.1.2]; rfl⟩
theorem aw4 (s : d9) : s5 s.body ≤ E5 s ∧ s5 s.els ≤ E5 s := by
 rcases s with ⟨_, _, _, _, _, b, e⟩
 simp only [E5, d9.body, d9.els]
 omega
theorem aH3 {nv na : Nat} : ∀ {ss : List d9}, (∀ s ∈ ss, i9 nv na 1 s = true) → H1 ss = ss.length
 | [], _ => rfl
 | s :: r, h => by
  have h1 := T6 (h s List.mem_cons_self)
  have key : ∀ l : List d9, l.all (i9 nv na 0) = true → l = [] := fun l hl => by
   cases l with
   | nil => rfl
   | cons a r => simp [i9] at hl
  have h2 := aH3 (ss := r) fun x hx => h x (List.mem_cons_of_mem _ hx)
  rw [H1, aA9, key _ h1.1, key _ h1.2, h2]
  simp [H1]; omega
end Go.Proofs.Ythikdkjjdeehoaa
