/-
  Texts of this claim, part 2: what the functions on the way do, and plain laws. Conditions: as each statement says.
-/
import Derived.Great.BuildSlice
import Derived.Deep.LoopGhost
import Derived.IntWalk
import Derived.Test.YthikdkjjdeehoaaGreatK1
set_option maxRecDepth 100000
set_option maxHeartbeats 16000000
open Array renaming replicate → cb8
open Bool renaming and_eq_true → b85, not_eq_true' → b99, or_eq_true → cc4
open List renaming all_eq_true → b93, eq_nil_of_length_eq_zero → ca3, getD_eq_getElem?_getD → b90, getElem?_append_left → cb9, getElem?_append_right → cc9, getElem?_eq_getElem → b89, getElem?_eq_none → cb3, getElem?_eq_some_iff → b96, getElem?_replicate → cc5, getElem_mem → ca5, length_append → b83, length_cons → b84, map_cons → cc2, mem_append → ca1, mem_cons → cb7, mem_cons_of_mem → ca9, mem_cons_self → ca6, mem_of_getElem? → ca7, mem_range → cc6, range → ca2, replicate → b82, take_of_length_le → b98
open Nat renaming add_zero → cc8, le_refl → b94, le_trans → cb5, lt_of_lt_of_le → cd2, lt_or_ge → ca8, mul_le_mul_right → cc7, succ_mul → cc1, zero_add → cc3, zero_le → cb1
open Option renaming isSome_iff_exists → cd0, map_eq_some_iff → b92
open True renaming intro → b91

namespace Go.Proofs.YthikdkjjdeehoaaGreat
set_option linter.unusedVariables false
set_option linter.unusedSimpArgs false
open Go Go.RowKit
def am6 (P : Program) (t : TypeId) : Option Nat := (P.info? t).map (·.bytes)
def aw8 (P : Program) (dk : TypeId → Nat) (e : Operand → Option AV) (S : Nat → It) (id : Nat) (t : TypeId) (len : Nat) (parts : List (Nat × Operand)) : Option Tr :=
 match Z0 P t with
 | none => none
 | some el =>
  match X6 P el, K3 P el, D.nil (dk el) with
  | some n, some z, some d0 =>
   if 0 < n && z.cells.size = n && d0.sz = n && len = parts.length && len * n ≤ 16777216 then
    match af9 e S n 0 parts with
    | some l => (aT5 S (dk el) l).map fun r => ⟨[(id, .row el r.1)], [id], .ref id, r.2⟩
    | none => none
   else none
  | _, _, _ => none
def bb4 (k n : Nat) : Option (D × Value) :=
 match k with
 | 1 => some (.ints (b82 n 0), .int .i64 0)
 | 2 => some (.bools (b82 n false), .bool false)
 | 3 => some (.bytes (b82 n 0), .int .u8 0)
 | 7 => some (.rows (b82 n []), .slice none 0 0)
 | 8 => some (.brows (b82 n []), .slice none 0 0)
 | _ => none
def aY4 (P : Program) (dk : TypeId → Nat) (id : Nat) (t : TypeId) (l c : AV) : Option Tr :=
 match l, c, Z0 P t with
 | .v (.int .i64 n), .v (.int .i64 m), some el =>
  match bb4 (dk el) n.toNat, am6 P el, X6 P el, K3 P el with
  | some (d, z), some by_, some sz, some z' => if sz = 1 then some ⟨[(id, .row el d)], [id], .ref id, [m = n, 0 ≤ n, by_ * n ≤ 281474976710656, n ≤ 9223372036854775807, z' = z]⟩ else none
  | _, _, _, _ => none
 | _, _, _ => none
def bi7 (P : Program) (dk : TypeId → Nat) (S : Nat → It) (id : Nat) (t t' : TypeId) (s x : AV) : Option Tr :=
 if t = t' then
  match Z0 P t with
  | none => none
  | some el =>
   match bS1 S (dk el) x, am6 P el, X6 P el, K3 P el with
   | some d2, some by_, some n, some z =>
    if 0 < n && z.cells.size = n && d2.sz = n then
     match s with
     | .ref a => match S a with
      | .row e' d1 => if e' = el then (d1.app d2).map fun d => ⟨[(a, .dead), (id, .row el d)], [id], .ref id, [d1.len + d2.len ≤ 9223372036854775807, (d1.len + d2.len) * by_ ≤ 140737488355328]⟩ else none
      | _ => none
     | .v (.slice none 0 0) => some ⟨[(id, .row el d2)], [id], .ref id, [d2.len ≤ 9223372036854775807, d2.len * by_ ≤ 140737488355328]⟩
     | _ => none
    else none
   | _, _, _, _ => none
 else none
def aZ9 (P : Program) (S : Nat → It) (id : Nat) (t : TypeId) (x : AV) (lo hi : Option AV) : Option Tr :=
 match x with
 | .ref a => match S a, (Z0 P t).bind (X6 P) with
  | .dat d, some n =>
   if n = d.sz then
    match lo, hi with
    | none, none => some ⟨[(id, .dat (d.sub 0 d.len))], [id], .ref id, []⟩
    | none, some (.v (.int _ h)) => some ⟨[(id, .dat (d.sub 0 h.toNat))], [id], .ref id, [0 ≤ h, h ≤ (d.len : Int)]⟩
    | some (.v (.int _ l)), none => some ⟨[(id, .dat (d.sub l.toNat d.len))], [id], .ref id, [0 ≤ l, l ≤ (d.len : Int)]⟩
    | some (.v (.int _ l)), some (.v (.int _ h)) => some ⟨[(id, .dat (d.sub l.toNat h.toNat))], [id], .ref id, [0 ≤ l, l ≤ h, h ≤ (d.len : Int)]⟩
    | _, _ => none
   else none
  | _, _ => none
 | .v (.string s) => match P.underlying t with
  | some .string =>
   match lo, hi with
   | none, some (.v (.int _ h)) => some ⟨[], [], .v (.string (s.extract 0 h.toNat)), [0 ≤ h, h ≤ (s.size : Int)]⟩
   | some (.v (.int _ l)), none => some ⟨[], [], .v (.string (s.extract l.toNat s.size)), [0 ≤ l, l ≤ (s.size : Int)]⟩
   | some (.v (.int _ l)), some (.v (.int _ h)) => some ⟨[], [], .v (.string (s.extract l.toNat h.toNat)), [0 ≤ l, l ≤ h, h ≤ (s.size : Int)]⟩
   | _, _ => none
  | _ => none
 | _ => none
section
variable {P : Program} {ι : Type} {φ ψ : Nat → Prop} {w0 w w' : World} {F : ι → Rs} {ρ : Nat → Value} {S : Nat → It}
theorem ba2 (M : n6 φ ψ w0 w (t4 F ρ S)) {dk : TypeId → Nat} {o : Oper} {e : Operand → Option AV} {g : Operand → Value} {t : TypeId} {len : Nat} {parts : Array (Nat × Operand)} (hop : o.op = .buildSlice t len parts) (hg : ∀ p ∈ parts.toList, ∀ v, e p.2 = some v → g p.2 = v.val ρ) {id : Nat} {r : Tr} (h : aw8 P dk e S id t len parts.toList = some r) (ho : w9 r.obs) (hmk : ∀ j ∈ r.made, S j = .none) (hi : Inv S ρ r.made) :
  M8 P o g w (K1 φ ψ w0 F ρ S r) := by
 unfold aw8 at h
 split at h <;> first | cases h | skip
 rename_i el hel
 split at h <;> first | cases h | skip
 rename_i n z d0 h1 h2 h3
 split at h
 case isFalse => cases h
 rename_i hc
 simp only [b85, decide_eq_true_eq] at hc
 obtain ⟨⟨⟨⟨hn, hz⟩, hd0⟩, hlen⟩, hbig⟩ := hc
 split at h
 case h_2 => cases h
 rename_i l hl
 obtain ⟨⟨d, obs⟩, h4, h5⟩ := b92.1 h
 subst h5
 obtain ⟨k1, k2⟩ := aq8 hl
 obtain ⟨m1, m2, m3⟩ := a54 M h4 ho k2
 have hsz : d.sz = n := by
  rcases m2 with m2 | m2
  ·subst m2
   simp only [aT5, h3, Option.map_some, Option.some.injEq, Prod.mk.injEq] at h4
   rw [← h4.1, hd0]
  ·exact m2
 have hS : S id = .none := hmk id (by simp)
 obtain ⟨ie, hie, hie2⟩ := b92.1 h1
 have hiz : ie.zero = some z := by
  unfold K3 at h2; rw [hie] at h2; exact h2
 have hu := Y1 hel
 have hdl : d.len = len := by rw [m1, k1, hlen]
 have hvl : (AV.vals ρ l.flatten).length = len * n := by
  have : ∀ (l : List (List AV)), (∀ c ∈ l, c.length = n) → l.flatten.length = l.length * n := by
   intro l
   induction l with
   | nil => intro _; simp
   | cons c r ih => intro h; rw [List.flatten_cons, b83, ih fun c hc => h c (ca9 _ hc), h c ca6, b84, cc1]; omega
  rw [AV.vals_length, this l k2, k1, hlen]
 have hrun : (Instr.buildSlice t len (parts.map fun p => (p.1, g p.2))).run P w = .ok (.slice (some ⟨w.heap.size, 0, none⟩) len len) (w.alloc (.cells (AV.vals ρ l.flatten).toArray el)) := by
  rcases Nat.eq_zero_or_pos len with h0 | h0
  ·have hp0 : parts.toList = [] := ca3 (by omega)
   have hl0 : l = [] := ca3 (by omega)
   subst hl0
   have hpa : parts = #[] := by apply Array.ext'; simpa using hp0
   subst hpa; subst h0
   have hr0 : Array.range 0 = #[] := rfl
   simp [Instr.buildSlice, run_underlying hu, sizeOf, typeInfo, hie, Instr.fill, newRow, AV.vals, hr0]
  ·refine run_buildSlice w t el len _ _ ie z hu hie hiz (by rw [hie2]; omega) (by rw [hie2]; have := Nat.mul_pos h0 hn; omega) ?_
   have hf := ak4 M parts.toList 0 l [] (((Array.range (len * ie.size)).map (z.cells[· % z.cells.size]!)).toList) hl hg (by simp) (by simp [hie2, hlen])
   rw [hie2] at hf ⊢
   simp only [List.nil_append, Array.toArray_toList] at hf
   simpa using hf
 have hle : len ≤ 16777216 := cb5 (Nat.le_mul_of_pos_right len hn) hbig
 have hown := (Q3 w (AV.vals ρ l.flatten).toArray len n el rfl (by simpa using hvl) (by omega)).1
 rw [← hdl, ← hsz] at hown
 obtain ⟨ρ', q1, q2, q3⟩ := M.newRow (id := id) (e := el) (d := d) ((Below.refl _ _).alloc (b94 _) _) hS hi hown (by simpa using m3)
 have hrun2 : (execOp g o).run P w = .ok (.value (.slice (some ⟨w.heap.size, 0, none⟩) len len)) (w.alloc (.cells (AV.vals ρ l.flatten).toArray el)) := by
  simp only [execOp, hop, Sem.run_bind]
  rw [show (parts.map fun (i, x) => (i, g x)) = parts.map fun p => (p.1, g p.2) from rfl, hrun]
  rfl
 exact .inl ⟨_, _, hrun2, ρ', q1, q2, by simp only [AV.val]; rw [← q3, hdl]⟩
theorem bS7 {φ : Nat → Prop} {d : D} {v : Value} (h : RD w φ d v) : v.oneCell' = true := by
 obtain ⟨a, cap, rfl, _⟩ := h.open; rfl
theorem bE3 (d : D) (i j : Nat) (x : Value) (h : (d.elem i)[j]? = some (.v x)) : x.oneCell' = true := by
 have : ∀ y ∈ d.elem i, ∀ x, y = .v x → x.oneCell' = true := by
  intro y hy x hx
  subst hx
  cases d <;> simp [D.elem, bf5, ar7, aN7, aI9] at hy <;> (try rcases hy with rfl | rfl | rfl | rfl | rfl | rfl | rfl) <;> first | rfl | (subst hy; rfl) | (rcases hy with rfl | rfl | rfl | rfl | rfl <;> rfl) | (rcases hy with rfl | rfl <;> rfl)
 exact this _ (ca7 h) x rfl
theorem a38 {φ : Nat → Prop} {d : D} {xs : List Value} (hl : xs.length = d.len * d.sz) (h : RW w φ d xs) : ∀ u ∈ xs, u.oneCell' = true := by
 intro u hu
 obtain ⟨p, hp⟩ := List.mem_iff_getElem?.1 hu
 have hp' := (b96.1 hp).1
 have hs : 0 < d.sz := by cases d <;> simp [D.sz]
 have hi : p / d.sz < d.len := by rw [hl] at hp'; exact Nat.div_lt_of_lt_mul (by rw [Nat.mul_comm]; exact hp')
 have hj : p % d.sz < (d.elem (p / d.sz)).length := by rw [D.elem_len]; exact Nat.mod_lt _ hs
 obtain ⟨v, h3, h4⟩ := h _ hi _ _ (b89 hj)
 rw [Nat.mul_comm, Nat.div_add_mod, hp] at h3
 cases h3
 cases hx : (d.elem (p / d.sz))[p % d.sz] with
 | v x =>
  rw [hx] at h4
  rw [show u = x from h4]
  exact bE3 d _ _ x (by rw [b89 hj, hx])
 | sl d' => rw [hx] at h4; exact bS7 (show RD _ _ _ _ from h4)
theorem bI9 (M : n6 φ ψ w0 w (t4 F ρ S)) {k : Nat} {x : AV} {d : D} (h : bS1 S k x = some d) : ∃ xs, N3 w (x.val ρ) d.len d.sz xs ∧ RW w (FrF φ (t4 F ρ S)) d xs := by
 unfold bS1 at h
 split at h <;> first | cases h | skip
 ·rename_i id
  cases hS : S id with
  | dat d' =>
   rw [hS] at h; cases h
   obtain ⟨xs, h1, h2⟩ := (M.datAt hS).split
   exact ⟨xs, h1.row, h2⟩
  | row e d' =>
   rw [hS] at h; cases h
   obtain ⟨xs, h1, h2⟩ := M.rowAt hS
   exact ⟨xs, ak5 h1, h2⟩
  | none => rw [hS] at h; cases h
  | dead => rw [hS] at h; cases h
  | box cs => rw [hS] at h; cases h
  | tree d => rw [hS] at h; cases h
  | kept e d => rw [hS] at h; cases h
 ·refine ⟨[], ?_, RW.nil (D.nil_len h) _⟩
  rw [D.nil_len h]; exact N3.nil _ _
theorem n6.move (M : n6 φ ψ w0 w (t4 F ρ S)) {a id : Nat} {e : TypeId} {d1 d : D} {v : Value} {xs : List Value} (hS : S a = .row e d1) (hSi : S id = .none) (hi : Inv S ρ [id]) (hk : D8 (fun b => ¬ (ρ a).ownBlock = some b) w w')
  (ho : w'.ownsRow 0 e d.sz v d.len xs) (hx : RW w (FrF φ (t4 F ρ S)) d xs) (hg : ∀ g, v.ownBlock = some g → (ρ a).ownBlock = some g ∨ w.heap.size ≤ g) :
  ∃ ρ', D7 [id] ρ ρ' ∧ n6 φ ψ w0 w' (t4 F ρ' (s7 S [(a, .dead), (id, .row e d)])) ∧ v = ρ' id := by
 have hne : id ≠ a := fun h => by rw [h, hS] at hSi; cases hSi
 have ha : D7 [id] ρ (fun j => if j = id then v else ρ j) := fun j hj => by
  have : j ≠ id := by simpa using hj
  simp [this]
 have M1 : n6 φ ψ w0 w' (fun k : ι ⊕ Nat => match k with | .inl i => F i | .inr j => if j = a then .row e d.sz v d.len (fun xs w φ => RW w φ d xs) else (S j).res ρ j) := by
  refine n6.put M (.inr a) (fun k hk' => ?_) ?_ ?_ ?_
  ·cases k with
   | inl i => rfl
   | inr j =>
    have : j ≠ a := fun e => hk' (by rw [e])
    simp [t4, this]
  ·simp only [t4, hS, It.res]; exact hk
  ·simp only [if_true]
   refine ⟨fun xs => RW.nice d xs, xs, ho, RW.nice d xs _ _ _ _ ⟨hk.size, fun b hb hf => ⟨⟨hf.1, fun k hk' => ?_⟩, hk.block b hb fun he => by have := hf.2 (.inr a); simp only [t4, hS, It.res] at this; exact this he⟩⟩ hx⟩
   cases k with
   | inl i => exact hf.2 (.inl i) hk'
   | inr j =>
    by_cases e' : j = a
    ·subst e'
     simp only [if_true] at hk'
     have h2 := hf.2 (.inr j)
     simp only [t4, hS, It.res] at h2
     rcases hg b hk' with h3 | h3
     ·exact h2 h3
     ·omega
    ·simp only [if_neg e'] at hk'
     exact hf.2 (.inr j) hk'
  ·intro g hg'
   simp only [if_true] at hg'
   simp only [t4, hS, It.res]
   exact hg g hg'
 refine ⟨_, ha, ?_, by simp⟩
 refine M1.map (fun k : ι ⊕ Nat => (match k with | .inl i => some (.inl i) | .inr j => if j = id then some (.inr a) else if j = a then none else some (.inr j) : Option (ι ⊕ Nat))) ?_ ?_
 ·intro k k' i h1 h2
  cases k with
  | inl x =>
   cases k' with
   | inl y => simp at h1 h2; rw [h1] at *; cases h2; rfl
   | inr y => simp at h1; subst h1; simp at h2; split at h2 <;> first | cases h2 | (split at h2 <;> cases h2)
  | inr x =>
   cases k' with
   | inl y => simp at h2; subst h2; simp at h1; split at h1 <;> first | cases h1 | (split at h1 <;> cases h1)
   | inr y =>
    simp only at h1 h2
    by_cases e1 : x = id
    ·rw [if_pos e1] at h1
     cases h1
     by_cases e2 : y = id
     ·rw [e1, e2]
     ·rw [if_neg e2] at h2
      by_cases e3 : y = a
      ·rw [if_pos e3] at h2; cases h2
      ·rw [if_neg e3] at h2; simp at h2; exact absurd h2 e3
    ·rw [if_neg e1] at h1
     by_cases e3 : x = a
     ·rw [if_pos e3] at h1; cases h1
     ·rw [if_neg e3] at h1
      simp at h1; subst h1
      by_cases e2 : y = id
      ·rw [if_pos e2] at h2; simp at h2; exact absurd h2.symm e3
      ·rw [if_neg e2] at h2
       by_cases e4 : y = a
       ·rw [if_pos e4] at h2; cases h2
       ·rw [if_neg e4] at h2; simp at h2; rw [h2]
 ·intro k
  cases k with
  | inl i => exact .inl ⟨_, rfl, rfl⟩
  | inr j =>
   by_cases e1 : j = id
   ·subst e1
    refine .inl ⟨.inr a, by simp, ?_⟩
    simp [t4, s7, hne, It.res]
   ·by_cases e2 : j = a
    ·subst e2
     exact .inr (by simp [t4, s7, It.res])
    ·refine .inl ⟨.inr j, by simp [e1, e2], ?_⟩
     simp only [t4, s7, if_neg e1, if_neg e2]
     exact hi _ ha j
theorem app_ok (M : n6 φ ψ w0 w (t4 F ρ S)) {dk : TypeId → Nat} {o : Oper} {g : Operand → Value} {t t' : TypeId} {s x : Operand} (hop : o.op = .call { callee := .builtin .append, args := #[s, x], argTypes := #[t, t'] }) {sa xa : AV} (hs : g s = sa.val ρ) (hx : g x = xa.val ρ) {id : Nat} {r : Tr} (h : bi7 P dk S id t t' sa xa = some r) (ho : w9 r.obs) (hmk : ∀ j ∈ r.made, S j = .none) (hi : Inv S ρ r.made) :
  M8 P o g w (K1 φ ψ w0 F ρ S r) := by
 unfold bi7 at h
 split at h
 case isFalse => cases h
 rename_i htt
 subst htt
 split at h <;> first | cases h | skip
 rename_i el hel
 split at h <;> first | cases h | skip
 rename_i d2 by_ n z h1 h2 h3 h4
 split at h
 case isFalse => cases h
 rename_i hc
 simp only [b85, decide_eq_true_eq] at hc
 obtain ⟨⟨hn, hz⟩, hd2⟩ := hc
 have hu := Y1 hel
 obtain ⟨ie, hie, hie2⟩ := b92.1 h3
 have hiz : ie.zero = some z := by unfold K3 at h4; rw [hie] at h4; exact h4
 have hib : ie.bytes = by_ := by
  unfold am6 at h2; rw [hie] at h2; exact Option.some.inj h2
 have hinfo : (P.info? el).map (fun i => (i.zero, i.size, i.bytes)) = some (some z, n, by_) := by rw [hie]; simp [hiz, hie2, hib]
 obtain ⟨news, k1, k2⟩ := bI9 M h1
 have k1' := k1
 rw [hd2] at k1'
 have h1c := a38 k1.1 k2
 have hexec : ∀ v w', (Builtin.append_ #[t, t] o.type #[sa.val ρ, xa.val ρ]).run P w = .ok v w' → (execOp g o).run P w = .ok (.value v) w' := by
  intro v w' hr
  simp only [execOp, hop, resolve, invoke, builtin, Sem.run_bind, Sem.run_pure, Result.andThen_ok, List.map_toArray, cc2, List.map_nil, hs, hx, hr]
 split at h
 ·rename_i a
  split at h <;> first | cases h | skip
  rename_i e' d1 hS
  split at h
  case isFalse => cases h
  rename_i he'
  subst he'
  obtain ⟨d, hd, hr⟩ := b92.1 h
  subst hr
  simp only [w9] at ho
  obtain ⟨q1, q2, q3, q4⟩ := D.app_ok hd
  obtain ⟨xs, m1, m2⟩ := M.rowAt hS
  have hsz : d1.sz = n := by omega
  rw [hsz] at m1
  obtain ⟨a', k', w', hrun, r2, r3, r4, r5⟩ := au1 (P := P) (lo := 0) (ty := o.type) hu hinfo hz hn m1 k1' h1c ho.1 ho.2.1 (cb1 _)
  obtain ⟨ρ', p1, p2, p3⟩ := M.move (id := id) (d := d) (v := .slice a' (d1.len + d2.len) k') (xs := xs ++ news) hS (hmk id (by simp)) hi ⟨r4.os, r4.tape, r4.output, r4.size, fun b hb hne => r4.block b hb fun h => hne h.symm⟩
   (by rw [q2, hsz, q1]; exact r2) (RW.append hd (by rw [m1.1, hsz]) m2 k2) r5
  exact .inl ⟨_, _, hexec _ _ hrun, ρ', p1, p2, p3⟩
 ·cases h
  simp only [w9] at ho
  have m1 : w.ownsRow 0 el n (.slice none 0 0) 0 [] := World.ownsRow_nil _ _ _ _
  obtain ⟨a', k', w', hrun, r2, r3, r4, r5⟩ := au1 (P := P) (lo := w.heap.size) (ty := o.type) hu hinfo hz hn (World.ownsRow_nil _ _ _ _) k1' h1c (by omega) (by rw [cc3]; exact ho.2.1) (b94 _)
  rw [cc3, List.nil_append] at r2
  obtain ⟨ρ', p1, p2, p3⟩ := M.newRow (id := id) (e := el) (d := d2) (w' := w') r3 (hmk id (by simp)) hi (by rw [hd2]; exact r2) k2
  refine .inl ⟨_, _, hexec _ _ hrun, ρ', p1, p2, ?_⟩
  rw [cc3]; exact p3
 ·cases h
theorem D.sub_len (d : D) (l h : Nat) (hh : h ≤ d.len) : (d.sub l h).len = h - l := by
 cases d <;> simp only [D.sub, D.len, List.length_drop, List.length_take] <;> (simp only [D.len] at hh; omega)
theorem D.sub_sz (d : D) (l h : Nat) : (d.sub l h).sz = d.sz := by cases d <;> rfl
theorem bD6 {α : Type} (x : List α) (z : α) (l h i : Nat) (hi : i < h - l) : ((x.take h).drop l).getD i z = x.getD (l + i) z := by
 simp only [b90, List.getElem?_drop, List.getElem?_take]
 rw [if_pos (by omega)]
theorem D.sub_elem (d : D) (l h i : Nat) (hi : i < h - l) : (d.sub l h).elem i = d.elem (l + i) := by
 cases d <;> simp only [D.sub, D.elem] <;> rw [bD6 _ _ _ _ _ hi]
theorem RD.sub {φ : Nat → Prop} {d : D} {a : Option Addr} {n cap l h : Nat} (hr : RD w φ d (.slice a n cap)) (hl : l ≤ h) (hh : h ≤ d.len) : RD w φ (d.sub l h) (.slice (if cap = l then a else a.map (·.add (l * d.sz))) (h - l) (cap - l)) := by
 obtain ⟨xs, ⟨k0, a', cap', he, k1, k2, k3⟩, k4⟩ := hr.split
 cases he
 have hs : 0 < d.sz := by cases d <;> simp [D.sz]
 have hle : h * d.sz ≤ d.len * d.sz := cc7 _ hh
 have hle2 : l * d.sz ≤ h * d.sz := cc7 _ hl
 refine RD.make (xs := (xs.take (h * d.sz)).drop (l * d.sz)) ⟨?_, _, _, by rw [D.sub_len d l h hh], by rw [D.sub_len d l h hh]; omega, by omega, fun hp => ?_⟩ ?_
 ·rw [D.sub_len d l h hh, D.sub_sz, List.length_drop, List.length_take, k0, Nat.sub_mul]; omega
 ·rw [D.sub_len d l h hh] at hp
  obtain ⟨b, off, rfl, hb, hf, hc⟩ := k3 (by omega)
  rw [if_neg (by omega)]
  refine ⟨b, off + l * d.sz, ?_, hb, hf, fun j u hj => ?_⟩
  ·simp only [Option.map_some, Addr.add]; split
   ·rename_i h0; rw [h0, cc8]
   ·rfl
  ·rw [List.getElem?_drop, List.getElem?_take] at hj
   split at hj
   ·have := hc _ u hj; rw [← Nat.add_assoc] at this; exact this
   ·cases hj
 ·intro i hi j x hx
  rw [D.sub_len d l h hh] at hi
  rw [D.sub_elem d l h i hi] at hx
  have hj : j < d.sz := by
   have := (b96.1 hx).1
   rw [D.elem_len] at this; exact this
  obtain ⟨u, m1, m2⟩ := k4 (l + i) (by omega) j x hx
  refine ⟨u, ?_, m2⟩
  rw [D.sub_sz, List.getElem?_drop, List.getElem?_take, if_pos, ← m1]
  ·congr 1; rw [Nat.add_mul]; omega
  ·have : (i + 1) * d.sz ≤ (h - l) * d.sz := cc7 _ (by omega)
   rw [cc1, Nat.sub_mul] at this; omega
theorem P8 {k : IntKind} {i : Int} {y : Nat} {c : BoundsCode} (h1 : 0 ≤ i) (h2 : i ≤ y) : (Instr.sliceBound (.int k i) y c).run P w = .ok i.toNat w := by
 simp [Instr.sliceBound, asIntOf, h1, h2]
theorem n6.newDat (M : n6 φ ψ w0 w (t4 F ρ S)) {id : Nat} {d : D} {v : Value} (hS : S id = .none) (hi : Inv S ρ [id]) (h : RD w (FrF φ (t4 F ρ S)) d v) : ∃ ρ', D7 [id] ρ ρ' ∧ n6 φ ψ w0 w (t4 F ρ' (s7 S [(id, .dat d)])) ∧ v = ρ' id := by
 obtain ⟨ρ', h1, h2, h3⟩ := M.dats [.sl d] [v] id ⟨h, b91⟩ (fun j hj => by simp [V7] at hj; rw [hj]; exact hS) (by simpa [V7] using hi)
 simp only [V7, cc2, List.map_nil] at h1
 simp only [xav, AV.vals, AV.val, List.cons.injEq, and_true] at h3
 exact ⟨ρ', h1, h2, h3⟩
theorem bF0 (M : n6 φ ψ w0 w (t4 F ρ S)) {o : Oper} {g : Operand → Value} {t : TypeId} {x : Operand} {lo hi : Option Operand} {e : Operand → Option AV} (hop : o.op = .slice t x lo hi none) {xa : AV} (hx : g x = xa.val ρ) {la ha : Option AV} (hlo : lo.map g = la.map (AV.val ρ)) (hhi : hi.map g = ha.map (AV.val ρ)) {id : Nat} {r : Tr} (h : aZ9 P S id t xa la ha = some r) (ho : w9 r.obs) (hmk : ∀ j ∈ r.made, S j = .none) (hin : Inv S ρ r.made) :
  M8 P o g w (K1 φ ψ w0 F ρ S r) := by
 have hexec : ∀ v, (Instr.slice t (xa.val ρ) (la.map (AV.val ρ)) (ha.map (AV.val ρ)) none).run P w = .ok v w → P.underlying t = some .string ∨ (∃ el, P.underlying t = some (.slice el)) → (execOp g o).run P w = .ok (.value v) w := by
  intro v hr hu
  have hA : (Instr.sliceAt t (xa.val ρ) (la.map (AV.val ρ)) (ha.map (AV.val ρ)) none).run P w = .ok v w := by
   unfold Instr.sliceAt
   rcases hu with hu | ⟨el, hu⟩
   ·rw [Sem.run_bind, run_underlying hu]; exact hr
   ·rw [Sem.run_bind, run_underlying hu]; exact hr
  simp only [execOp, hop, Sem.run_bind, hx, hlo, hhi, Option.map_none, hA]
  rfl
 unfold aZ9 at h
 split at h
 ·rename_i a
  split at h
  case h_2 => cases h
  rename_i d n hS hn
  split at h
  case isFalse => cases h
  rename_i hsz
  obtain ⟨el, h1, h2⟩ := Option.bind_eq_some_iff.1 hn
  have hu := Y1 h1
  have hrd := M.datAt hS
  obtain ⟨aa, cap, hra, hcap, hmax, _⟩ := hrd.open
  rw [hra] at hrd
  have fin : ∀ (l hh : Nat) (obs : List Prop), l ≤ hh → hh ≤ d.len → r = ⟨[(id, .dat (d.sub l hh))], [id], .ref id, obs⟩ → (Instr.slice t (ρ a) (la.map (AV.val ρ)) (ha.map (AV.val ρ)) none).run P w = .ok (.slice (if cap = l then aa else aa.map (·.add (l * d.sz))) (hh - l) (cap - l)) w → M8 P o g w (K1 φ ψ w0 F ρ S r) := by
   intro l hh obs hl hhd hr hrun
   subst hr
   obtain ⟨ρ', p1, p2, p3⟩ := M.newDat (id := id) (hmk id (by simp)) hin (hrd.sub hl hhd)
   exact .inl ⟨_, _, hexec _ hrun (.inr ⟨el, hu⟩), ρ', p1, p2, p3⟩
  have hsz' : (sizeOf el).run P w = .ok d.sz w := by rw [F2 h2, hsz]
  split at h
  ·cases h
   refine fin 0 d.len _ (cb1 _) (b94 _) rfl ?_
   simp [Instr.slice, run_underlying hu, hra, Instr.sliceBounds, hsz']
  ·cases h
   simp only [w9] at ho
   refine fin 0 _ _ (cb1 _) (by omega) rfl ?_
   rename_i k hh
   have e1 := P8 (P := P) (w := w) (k := k) (i := hh) (y := cap) (c := .sliceAcap) ho.1 (by omega)
   simp [Instr.slice, run_underlying hu, hra, Instr.sliceBounds, hsz', AV.val, e1]
  ·cases h
   simp only [w9] at ho
   refine fin _ d.len _ (by omega) (b94 _) rfl ?_
   rename_i k l
   have e1 := P8 (P := P) (w := w) (k := k) (i := l) (y := d.len) (c := .sliceB) ho.1 (by omega)
   simp [Instr.slice, run_underlying hu, hra, Instr.sliceBounds, hsz', AV.val, e1]
  ·cases h
   simp only [w9] at ho
   refine fin _ _ _ (by omega) (by omega) rfl ?_
   rename_i k l k' hh
   have e1 := P8 (P := P) (w := w) (k := k) (i := l) (y := hh.toNat) (c := .sliceB) ho.1 (by omega)
   have e2 := P8 (P := P) (w := w) (k := k') (i := hh) (y := cap) (c := .sliceAcap) (by omega) (by omega)
   simp [Instr.slice, run_underlying hu, hra, Instr.sliceBounds, hsz', AV.val, e1, e2]
  ·cases h
 ·rename_i s
  split at h
  case h_2 => cases h
  rename_i hu
  have fin : ∀ (l hh : Nat) (obs : List Prop), r = ⟨[], [], .v (.string (s.extract l hh)), obs⟩ → (Instr.slice t (.string s) (la.map (AV.val ρ)) (ha.map (AV.val ρ)) none).run P w = .ok (.string (s.extract l hh)) w → M8 P o g w (K1 φ ψ w0 F ρ S r) := by
   intro l hh obs hr hrun
   subst hr
   exact .inl ⟨_, _, hexec _ hrun (.inl hu), ρ, D7.refl _ _, M, rfl⟩
  split at h
  ·cases h
   simp only [w9] at ho
   refine fin 0 _ _ rfl ?_
   rename_i k hh
   have e1 := P8 (P := P) (w := w) (k := k) (i := hh) (y := s.size) (c := .sliceAlen) ho.1 (by omega)
   simp [Instr.slice, run_underlying hu, Instr.sliceBounds, AV.val, e1]
  ·cases h
   simp only [w9] at ho
   refine fin _ s.size _ rfl ?_
   rename_i k l
   have e1 := P8 (P := P) (w := w) (k := k) (i := l) (y := s.size) (c := .sliceB) ho.1 (by omega)
   simp [Instr.slice, run_underlying hu, Instr.sliceBounds, AV.val, e1]
  ·cases h
   simp only [w9] at ho
   refine fin _ _ _ rfl ?_
   rename_i k l k' hh
   have e1 := P8 (P := P) (w := w) (k := k) (i := l) (y := hh.toNat) (c := .sliceB) ho.1 (by omega)
   have e2 := P8 (P := P) (w := w) (k := k') (i := hh) (y := s.size) (c := .sliceAlen) (by omega) (by omega)
   simp [Instr.slice, run_underlying hu, Instr.sliceBounds, AV.val, e1, e2]
  ·cases h
 ·cases h
end
section
variable {P : Program} {ι : Type} {φ ψ : Nat → Prop} {w0 w w' : World} {F : ι → Rs} {ρ : Nat → Value} {S : Nat → It}
theorem n6.eat {L L' : ι → Rs} (M : n6 φ ψ w0 w L) (K : ι → Prop) (i : ι) (ho : ∀ j, j ≠ i → ¬ K j → L' j = L j) (hK : ∀ j, j ≠ i → K j → L' j = Rs.none) (hi : K i ∨ ∀ b, ¬ (L i).blk b)
  (hk : D8 (fun b => ¬ ∃ j, K j ∧ (L j).blk b) w w') (h : (L' i).holds w' (FrF φ L')) (hg : ∀ g, (L' i).blk g → (∃ j, K j ∧ (L j).blk g) ∨ w.heap.size ≤ g) : n6 φ ψ w0 w' L' := by
 have old : ∀ j b, j ≠ i → (L' j).blk b → ¬ K j ∧ (L j).blk b := fun j b hj hb => by
  by_cases e : K j
  ·rw [hK j hj e] at hb; exact hb.elim
  ·rw [ho j hj e] at hb; exact ⟨e, hb⟩
 have hfr : ∀ b, b < w.heap.size → FrF φ L b → FrF φ L' b := fun b hb hf => ⟨hf.1, fun j hj => by
  by_cases e : j = i
  ·subst e
   rcases hg b hj with ⟨k, _, h2⟩ | h2
   ·exact hf.2 k h2
   ·omega
  ·exact hf.2 j (old j b e hj).2⟩
 refine ⟨⟨hk.os.trans M.kept.os, hk.tape.trans M.kept.tape, hk.output.trans M.kept.output, cb5 M.size hk.size, fun b hb hp => (hk.block b (cd2 hb M.size) ?_).trans (M.kept.block b hb hp)⟩, M.fresh, fun j => ?_, fun j k g hjk hj hk' => ?_, fun j b hj => ?_, fun j b hj => ?_⟩
 ·rintro ⟨j, _, hj⟩
  rcases M.ge j b hj with h' | h'
  ·omega
  ·exact h' hp
 ·by_cases e : j = i
  ·subst e; exact h
  ·by_cases e2 : K j
   ·rw [hK j e e2]; exact Rs.none_holds _ _
   ·rw [ho j e e2]
    refine Rs.keep (M.holds j) ⟨hk.size, fun b hb hf => ⟨hfr b hb hf, hk.block b hb ?_⟩⟩ fun g hgx => hk.block g (M.lt hgx) ?_
    ·rintro ⟨k, _, h2⟩; exact hf.2 k h2
    ·rintro ⟨k, h1, h2⟩
     exact M.dis j k g (fun h => e2 (h ▸ h1)) hgx h2
 ·by_cases e : j = i
  ·subst e
   obtain ⟨n2, h2⟩ := old k g (fun h => hjk h.symm) hk'
   rcases hg g hj with ⟨q, h3, h4⟩ | h3
   ·exact M.dis q k g (fun h => n2 (h ▸ h3)) h4 h2
   ·have := M.lt h2; omega
  ·obtain ⟨n1, h1⟩ := old j g e hj
   by_cases e' : k = i
   ·subst e'
    rcases hg g hk' with ⟨q, h3, h4⟩ | h3
    ·exact M.dis j q g (fun h => n1 (h ▸ h3)) h1 h4
    ·have := M.lt h1; omega
   ·exact M.dis j k g hjk h1 (old k g e' hk').2
 ·by_cases e : j = i
  ·subst e
   rcases hg b hj with ⟨k, _, h2⟩ | h2
   ·exact M.ge k b h2
   ·exact .inl (cb5 M.size h2)
  ·exact M.ge j b (old j b e hj).2
 ·by_cases e : j = i
  ·subst e
   rcases hg b hj with ⟨k, _, h2⟩ | h2
   ·exact M.ph k b h2
   ·exact M.fresh b (cb5 M.size h2)
  ·exact M.ph j b (old j b e hj).2
def Bk (S : Nat → It) (ρ : Nat → Value) (ids : List Nat) (b : Nat) : Prop := ∃ j ∈ ids, ((S j).res ρ j).blk b
theorem ax7 (S : Nat → It) (j : Nat) : ∀ (ids : List Nat), s7 S (ids.map fun i => (i, It.dead)) j = if j ∈ ids then It.dead else S j
 | [] => rfl
 | a :: r => by
  simp only [cc2, s7, cb7]
  rw [ax7 S j r]
  by_cases e : j = a
  ·simp [e]
  ·simp [e]
theorem n6.graft (M : n6 φ ψ w0 w (t4 F ρ S)) {id : Nat} {ids : List Nat} {d : D} {v : Value} {T : Nat → Prop} (hS : S id = .none) (hid : id ∉ ids) (hi : Inv S ρ [id]) (hk : D8 (fun b => ¬ Bk S ρ ids b) w w') (hT : I2 w' T d v) (hg : ∀ b, T b → Bk S ρ ids b ∨ w.heap.size ≤ b) :
  ∃ ρ', D7 [id] ρ ρ' ∧ n6 φ ψ w0 w' (t4 F ρ' (s7 S ((id, .tree d) :: ids.map fun j => (j, .dead)))) ∧ v = N4 (ρ' id) := by
 obtain ⟨x, hx1, hx2⟩ := aO0 v (fun b => T b ∧ b < w'.heap.size) w'.heap.size fun b h => h.2
 have ha : D7 [id] ρ (fun j => if j = id then x else ρ j) := fun j hj => by
  have : j ≠ id := by simpa using hj
  simp [this]
 refine ⟨_, ha, ?_, by simp [hx1]⟩
 refine M.eat (fun k => ∃ j ∈ ids, k = .inr j) (.inr id) (fun k hk1 hk2 => ?_) (fun k hk1 hk2 => ?_) (.inr fun b hb => by simp only [t4, hS, It.res] at hb; exact hb) ?_ ?_ fun g hg' => ?_
 ·cases k with
  | inl i => rfl
  | inr j =>
   have h1 : j ≠ id := fun e => hk1 (by rw [e])
   have h2 : j ∉ ids := fun e => hk2 ⟨j, e, rfl⟩
   simp only [t4, s7, if_neg h1]
   rw [ax7, if_neg h2]
   exact hi _ ha j
 ·obtain ⟨j, hj, rfl⟩ := hk2
  have h1 : j ≠ id := fun e => hk1 (by rw [e])
  simp only [t4, s7, if_neg h1]
  rw [ax7, if_pos hj]; rfl
 ·refine ⟨hk.os, hk.tape, hk.output, hk.size, fun b hb hn => hk.block b hb fun ⟨j, h1, h2⟩ => hn ⟨.inr j, ⟨j, h1, rfl⟩, h2⟩⟩
 ·simp only [t4, s7, if_true, It.res]
  have e : L6 x = fun b => T b ∧ b < w'.heap.size := funext fun b => propext (hx2 b)
  rw [hx1, e]
  exact ⟨fun _ _ h hs => h.same hs, hT.cut, fun b hb => hb.2⟩
 ·simp only [t4, s7, if_true, It.res] at hg'
  have h1 := (hx2 g).1 hg'
  rcases hg g h1.1 with ⟨j, h2, h3⟩ | h2
  ·exact .inl ⟨.inr j, ⟨j, h2, rfl⟩, h3⟩
  ·exact .inr h2
def ar6 (S : Nat → It) : AV → Option (List d7 × List Nat)
 | .tref id => match S id with
  | .tree (.exprs l) => some (l, [id])
  | _ => none
 | .v (.slice none 0 0) => some ([], [])
 | _ => none
def ay0 (S : Nat → It) : AV → Option (List b5 × List Nat)
 | .tref id => match S id with
  | .tree (.stmts l) => some (l, [id])
  | _ => none
 | .v (.slice none 0 0) => some ([], [])
 | _ => none
def a57 (S : Nat → It) : AV → Option (List Int × List Nat)
 | .ref id => match S id with
  | .row e (.ints l) => if natEq e 3 then some (l, [id]) else none
  | _ => none
 | .v (.slice none 0 0) => some ([], [])
 | _ => none
def bA7 (S : Nat → It) (k : Nat) (l : List AV) : Option (D × List Nat) :=
 match k, l with
 | 9, [.v (.int .i64 a), .v (.int .i64 b), x] => (ar6 S x).map fun r => (.exprs [⟨a, b, r.1⟩], r.2)
 | 10, [.v (.int .i64 a), .v (.int .i64 b), .v (.int .i64 c), .v (.int .i64 d), x, .v (.int .i64 e), .v (.int .i64 f), y, .v (.int .i64 g), z, u] =>
  match ar6 S x, ar6 S y, ay0 S z, ay0 S u with
  | some x, some y, some z, some u => some (.stmts [⟨a, b, ⟨c, d, x.1⟩, ⟨e, f, y.1⟩, g, z.1, u.1⟩], x.2 ++ (y.2 ++ (z.2 ++ u.2)))
  | _, _, _, _ => none
 | 7, [x] => (a57 S x).map fun r => (.rows [r.1], r.2)
 | _, _ => none
theorem bC6 (w : World) (T : Nat → Prop) : I3 w (.slice none 0 0) [] T := ⟨[], fun _ => False, World.ownsRow_nil _ _ _ _, (fun g hg => by cases hg), fun _ h => h.elim, rfl⟩
theorem bv3 (w : World) (T : Nat → Prop) : J7 w (.slice none 0 0) [] T := ⟨[], fun _ => False, World.ownsRow_nil _ _ _ _, (fun g hg => by cases hg), fun _ h => h.elim, rfl⟩
theorem ay9 (M : n6 φ ψ w0 w (t4 F ρ S)) {x : AV} {l : List d7} {ids : List Nat} (h : ar6 S x = some (l, ids)) : I3 w (x.val ρ) l (Bk S ρ ids) := by
 unfold ar6 at h
 split at h <;> first | cases h | skip
 ·rename_i id
  split at h <;> first | cases h | skip
  rename_i hS
  have h1 := (M.treeAt (id := id) (d := .exprs l) (by rw [hS]; rfl)).1
  exact (I2.kids.1 h1).mono fun b hb => ⟨id, by simp, by rw [hS]; exact hb⟩
 ·exact bC6 _ _
theorem aS2 (M : n6 φ ψ w0 w (t4 F ρ S)) {x : AV} {l : List b5} {ids : List Nat} (h : ay0 S x = some (l, ids)) : J7 w (x.val ρ) l (Bk S ρ ids) := by
 unfold ay0 at h
 split at h <;> first | cases h | skip
 ·rename_i id
  split at h <;> first | cases h | skip
  rename_i hS
  have h1 := (M.treeAt (id := id) (d := .stmts l) (by rw [hS]; rfl)).1
  exact (I2.block.1 h1).mono fun b hb => ⟨id, by simp, by rw [hS]; exact hb⟩
 ·exact bv3 _ _
theorem bK0 {φ : Nat → Prop} {l : List Int} {xs : List Value} (hl : xs.length = l.length) (h : RW w φ (.ints l) xs) : xs = ints l := by
 apply List.ext_getElem?
 intro j
 by_cases hj : j < l.length
 ·obtain ⟨u, h1, h2⟩ := h j hj 0 _ rfl
  simp only [D.sz, Nat.mul_one, cc8] at h1
  rw [h1, show u = _ from h2]
  simp [ints, hj]
 ·rw [cb3 (by omega), cb3 (by simp [ints]; omega)]
theorem bD1 (M : n6 φ ψ w0 w (t4 F ρ S)) {x : AV} {l : List Int} {ids : List Nat} (h : a57 S x = some (l, ids)) : w.ownsRow 0 3 1 (x.val ρ) l.length (ints l) ∧ ∀ g, (x.val ρ).ownBlock = some g → Bk S ρ ids g := by
 unfold a57 at h
 split at h <;> first | cases h | skip
 ·rename_i id
  split at h <;> first | cases h | skip
  rename_i e l' hS
  split at h <;> first | cases h | skip
  rename_i he
  have he' : e = 3 := by simpa [natEq] using he
  subst he'
  obtain ⟨xs, h1, h2⟩ := M.rowAt hS
  have h3 : xs.length = l.length := by have := h1.1; simpa [D.len, D.sz] using this
  rw [bK0 h3 h2] at h1
  exact ⟨h1, fun g hg => ⟨id, by simp, by rw [hS]; exact hg⟩⟩
 ·exact ⟨World.ownsRow_nil _ _ _ _, fun g hg => by cases hg⟩
theorem aA4 (M : n6 φ ψ w0 w (t4 F ρ S)) {a b : List Nat} (h : ∀ x ∈ a, x ∉ b) {g : Nat} (h1 : Bk S ρ a g) : ¬ Bk S ρ b g := by
 rintro ⟨j, hj, hb⟩
 obtain ⟨i, hi, ha⟩ := h1
 exact M.dis (.inr i) (.inr j) g (fun e => h i hi (by cases e; exact hj)) ha hb
theorem bK9 (M : n6 φ ψ w0 w (t4 F ρ S)) {k : Nat} {l : List AV} {d : D} {ids : List Nat} (h : bA7 S k l = some (d, ids)) (hn : ids.Nodup) : d.len = 1 ∧ d.sz = l.length ∧ S7 w d (Bk S ρ ids) (AV.vals ρ l) := by
 unfold bA7 at h
 split at h <;> first | cases h | skip
 ·rename_i a b x
  obtain ⟨r, h1, h2⟩ := b92.1 h
  cases h2
  refine ⟨rfl, rfl, ?_⟩
  simp only [S7]
  exact ⟨_, [], Bk S ρ r.2, fun _ => False, (List.append_nil _).symm, fun b hb => ⟨hb, fun h => h⟩, fun b hb => hb.elim, (E7.iff _ _ _).2 ⟨_, rfl, ay9 M h1⟩, rfl⟩
 ·rename_i a b c d x e f y g z u
  split at h <;> first | cases h | skip
  rename_i rx ry rz ru hx hy hz hu
  refine ⟨rfl, rfl, ?_⟩
  simp only [List.nodup_append, ca1] at hn
  obtain ⟨-, ⟨-, ⟨-, -, n3⟩, n2⟩, n1⟩ := hn
  have d1 : ∀ q ∈ rx.2, q ∉ ry.2 := fun q h1 h2 => n1 q h1 q (.inl h2) rfl
  have d2 : ∀ q ∈ rx.2, q ∉ rz.2 := fun q h1 h2 => n1 q h1 q (.inr (.inl h2)) rfl
  have d3 : ∀ q ∈ rx.2, q ∉ ru.2 := fun q h1 h2 => n1 q h1 q (.inr (.inr h2)) rfl
  have d4 : ∀ q ∈ ry.2, q ∉ rz.2 := fun q h1 h2 => n2 q h1 q (.inl h2) rfl
  have d5 : ∀ q ∈ ry.2, q ∉ ru.2 := fun q h1 h2 => n2 q h1 q (.inr h2) rfl
  have d6 : ∀ q ∈ rz.2, q ∉ ru.2 := fun q h1 h2 => n3 q h1 q h2 rfl
  have up : ∀ (s : List Nat), (∀ q ∈ s, q ∈ rx.2 ++ (ry.2 ++ (rz.2 ++ ru.2))) → ∀ b, Bk S ρ s b → Bk S ρ (rx.2 ++ (ry.2 ++ (rz.2 ++ ru.2))) b := fun s hs b ⟨j, h1, h2⟩ => ⟨j, hs j h1, h2⟩
  simp only [S7]
  refine ⟨_, [], Bk S ρ (rx.2 ++ (ry.2 ++ (rz.2 ++ ru.2))), fun _ => False, (List.append_nil _).symm, fun b hb => ⟨hb, fun h => h⟩, fun b hb => hb.elim, (G0.iff _ _ _).2 ⟨_, _, _, _, Bk S ρ rx.2, Bk S ρ ry.2, Bk S ρ rz.2, Bk S ρ ru.2, rfl, ⟨fun b hb => ⟨up _ (fun q hq => by simp [hq]) b hb, aA4 M d1 hb, aA4 M d2 hb, aA4 M d3 hb⟩, fun b hb => ⟨up _ (fun q hq => by simp [hq]) b hb, aA4 M d4 hb, aA4 M d5 hb⟩, fun b hb => ⟨up _ (fun q hq => by simp [hq]) b hb, aA4 M d6 hb⟩, fun b hb => up _ (fun q hq => by simp [hq]) b hb⟩, ay9 M hx, ay9 M hy, aS2 M hz, aS2 M hu⟩, rfl⟩
 ·rename_i x
  obtain ⟨r, h1, h2⟩ := b92.1 h
  cases h2
  obtain ⟨k1, k2⟩ := bD1 M h1
  refine ⟨rfl, rfl, ?_⟩
  simp only [S7]
  exact ⟨_, [], fun _ => False, rfl, k1, fun g hg => ⟨k2 g hg, fun h => h⟩, fun b hb => hb.elim, rfl⟩
def ax8 (d : D) (el : TypeId) : Bool := match ap1 d with
 | some e => natEq e el
 | none => false
theorem Y4 {d : D} {el : TypeId} (h : ax8 d el = true) : ap1 d = some el := by
 unfold ax8 at h
 split at h
 ·rename_i e he; rw [he, show e = el by simpa [natEq] using h]
 ·cases h
def ae7 (P : Program) (dk : TypeId → Nat) (e : Operand → Option AV) (S : Nat → It) (id : Nat) (t : TypeId) (len : Nat) (parts : List (Nat × Operand)) : Option Tr :=
 match Z0 P t with
 | none => none
 | some el =>
  match X6 P el, K3 P el with
  | some n, some z =>
   if 0 < n && z.cells.size = n && len = 1 && parts.length = 1 && n ≤ 16777216 then
    match af9 e S n 0 parts with
    | some [c] => match bA7 S (dk el) c with
     | some (d, ids) => if nodupB ids && ax8 d el then some ⟨(id, .tree d) :: ids.map fun j => (j, .dead), [id], .tref id, []⟩ else none
     | none => none
    | _ => none
   else none
  | _, _ => none
where nodupB : List Nat → Bool
 | [] => true
 | x :: r => !(r.any (natEq x)) && nodupB r
theorem be6 {l : List Nat} (h : ae7.nodupB l = true) : l.Nodup := by
 induction l with
 | nil => simp
 | cons x r ih =>
  simp only [ae7.nodupB, b85, b99] at h
  refine List.nodup_cons.2 ⟨fun hm => ?_, ih h.2⟩
  have : r.any (natEq x) = true := List.any_eq_true.2 ⟨x, hm, by simp [natEq]⟩
  rw [this] at h; cases h.1
theorem bv0 (M : n6 φ ψ w0 w (t4 F ρ S)) {dk : TypeId → Nat} {o : Oper} {e : Operand → Option AV} {g : Operand → Value} {t : TypeId} {len : Nat} {parts : Array (Nat × Operand)} (hop : o.op = .buildSlice t len parts) (hg : ∀ p ∈ parts.toList, ∀ v, e p.2 = some v → g p.2 = v.val ρ) {id : Nat} {r : Tr} (h : ae7 P dk e S id t len parts.toList = some r) (hmk : ∀ j ∈ r.made, S j = .none) (hi : Inv S ρ r.made) :
  M8 P o g w (K1 φ ψ w0 F ρ S r) := by
 unfold ae7 at h
 split at h <;> first | cases h | skip
 rename_i el hel
 split at h <;> first | cases h | skip
 rename_i n z h1 h2
 split at h
 case isFalse => cases h
 rename_i hc
 simp only [b85, decide_eq_true_eq] at hc
 obtain ⟨⟨⟨⟨hn, hz⟩, hlen⟩, hpl⟩, hbig⟩ := hc
 split at h <;> first | cases h | skip
 rename_i c hl
 split at h <;> first | cases h | skip
 rename_i d ids h4
 split at h
 case isFalse => cases h
 rename_i hcc
 simp only [b85] at hcc
 cases h
 subst hlen
 obtain ⟨k1, k2⟩ := aq8 hl
 obtain ⟨m1, m2, m3⟩ := bK9 M h4 (be6 hcc.1)
 have hte := Y4 hcc.2
 have hsz : d.sz = n := by rw [m2]; exact k2 c (by simp)
 have hS : S id = .none := hmk id (by simp)
 obtain ⟨ie, hie, hie2⟩ := b92.1 h1
 have hiz : ie.zero = some z := by
  unfold K3 at h2; rw [hie] at h2; exact h2
 have hu := Y1 hel
 have hvl : (AV.vals ρ c).length = 1 * n := by rw [AV.vals_length, k2 c (by simp), Nat.one_mul]
 have hrun : (Instr.buildSlice t 1 (parts.map fun p => (p.1, g p.2))).run P w = .ok (.slice (some ⟨w.heap.size, 0, none⟩) 1 1) (w.alloc (.cells (AV.vals ρ c).toArray el)) := by
  refine run_buildSlice w t el 1 _ _ ie z hu hie hiz (by omega) (by rw [hie2]; omega) ?_
  have hf := ak4 M parts.toList 0 [c] [] (((Array.range (1 * ie.size)).map (z.cells[· % z.cells.size]!)).toList) hl hg (by simp) (by simp [hie2, hpl])
  rw [hie2] at hf ⊢
  simp only [List.nil_append, Array.toArray_toList, List.flatten_cons, List.flatten_nil, List.append_nil] at hf
  simpa using hf
 have hown := (Q3 w (g := w.heap.size) (AV.vals ρ c).toArray 1 n el rfl (by simpa using hvl) (by omega)).1
 have hb : Below w.heap.size w (w.alloc (.cells (AV.vals ρ c).toArray el)) := (Below.refl _ _).alloc (b94 _) _
 have hbk : ∀ j ∈ ids, ∀ b, ((S j).res ρ j).blk b → b < w.heap.size := fun j _ b hb => M.lt (i := .inr j) hb
 obtain ⟨ρ', q1, q2, q3⟩ := M.graft (id := id) (ids := ids) (d := d) (v := .slice (some ⟨w.heap.size, 0, none⟩) 1 1) (T := fun b => Bk S ρ ids b ∨ b = w.heap.size) hS (fun hm => by
   have : ∀ (k : Nat) (l : List AV) (r : D × List Nat), bA7 S k l = some r → ∀ j ∈ r.2, S j ≠ .none := by
    intro k l r h j hj
    have hE : ∀ {x : AV} {q : List d7 × List Nat}, ar6 S x = some q → ∀ j ∈ q.2, S j ≠ .none := by
     intro x q h j hj
     unfold ar6 at h
     split at h <;> first | cases h | skip
     ·split at h <;> first | cases h | skip
      rename_i hS; simp at hj; subst hj; rw [hS]; intro h; cases h
     ·cases hj
    have hT : ∀ {x : AV} {q : List b5 × List Nat}, ay0 S x = some q → ∀ j ∈ q.2, S j ≠ .none := by
     intro x q h j hj
     unfold ay0 at h
     split at h <;> first | cases h | skip
     ·split at h <;> first | cases h | skip
      rename_i hS; simp at hj; subst hj; rw [hS]; intro h; cases h
     ·cases hj
    have hI : ∀ {x : AV} {q : List Int × List Nat}, a57 S x = some q → ∀ j ∈ q.2, S j ≠ .none := by
     intro x q h j hj
     unfold a57 at h
     split at h <;> first | cases h | skip
     ·split at h <;> first | cases h | skip
      split at h <;> first | cases h | skip
      rename_i hS _; simp at hj; subst hj; rw [hS]; intro h; cases h
     ·cases hj
    unfold bA7 at h
    split at h <;> first | cases h | skip
    ·obtain ⟨q, h1, h2⟩ := b92.1 h
     cases h2; exact hE h1 j hj
    ·split at h <;> first | cases h | skip
     rename_i hx hy hz hu
     simp only [ca1] at hj
     rcases hj with hj | hj | hj | hj
     ·exact hE hx j hj
     ·exact hE hy j hj
     ·exact hT hz j hj
     ·exact hT hu j hj
    ·obtain ⟨q, h1, h2⟩ := b92.1 h
     cases h2; exact hI h1 j hj
   exact this _ _ _ h4 id hm hS) hi (D8.any hb)
  ⟨el, _, Bk S ρ ids, hte, by rw [m1, hsz]; exact M5 hown (cb1 _), fun g hg => by
   cases hg
   exact ⟨.inr rfl, fun ⟨j, h1, h2⟩ => Nat.lt_irrefl _ (hbk j h1 _ h2)⟩, fun b hb => .inl hb, by
   simpa using m3.same (w' := w.alloc (.cells (AV.vals ρ c).toArray el)) fun b _ hlt => hb.block b hlt⟩
  (fun b hb => hb.imp (fun h => h) fun h => by omega)
 have hrun2 : (execOp g o).run P w = .ok (.value (.slice (some ⟨w.heap.size, 0, none⟩) 1 1)) (w.alloc (.cells (AV.vals ρ c).toArray el)) := by
  simp only [execOp, hop, Sem.run_bind]
  rw [show (parts.map fun (i, x) => (i, g x)) = parts.map fun p => (p.1, g p.2) from rfl, hrun]
  rfl
 exact .inl ⟨_, _, hrun2, ρ', q1, q2, by simp only [AV.val]; exact q3⟩
def aA3 (P : Program) (dk : TypeId → Nat) (id : Nat) (t : TypeId) (len : Nat) (parts : List (Nat × Operand)) : Option Tr :=
 match Z0 P t with
 | none => none
 | some el =>
  match X6 P el, K3 P el, D.nil (dk el) with
  | some n, some z, some d =>
   if 0 < n && z.cells.size = n && d.sz = n && natEq len 0 && natEq parts.length 0 && ax8 d el && decide (9 ≤ dk el) then some ⟨[(id, .tree d)], [id], .tref id, []⟩ else none
  | _, _, _ => none
theorem bI6 {k : Nat} {d : D} (h : D.nil k = some d) (h9 : 9 ≤ k) (w : World) (T : Nat → Prop) : S7 w d T [] := by
 unfold D.nil at h
 split at h <;> first | omega | skip
 ·cases h; rfl
 ·cases h; rfl
 ·cases h
theorem bv1 (M : n6 φ ψ w0 w (t4 F ρ S)) {dk : TypeId → Nat} {o : Oper} {g : Operand → Value} {t : TypeId} {len : Nat} {parts : Array (Nat × Operand)} (hop : o.op = .buildSlice t len parts) {id : Nat} {r : Tr} (h : aA3 P dk id t len parts.toList = some r) (hmk : ∀ j ∈ r.made, S j = .none) (hi : Inv S ρ r.made) :
  M8 P o g w (K1 φ ψ w0 F ρ S r) := by
 unfold aA3 at h
 split at h <;> first | cases h | skip
 rename_i el hel
 split at h <;> first | cases h | skip
 rename_i n z d h1 h2 h3
 split at h
 case isFalse => cases h
 rename_i hc
 simp only [b85, decide_eq_true_eq, natEq, beq_iff_eq] at hc
 obtain ⟨⟨⟨⟨⟨⟨hn, hz⟩, hsz⟩, hlen⟩, hpl⟩, ht⟩, h9⟩ := hc
 cases h
 subst hlen
 have hp0 : parts = #[] := by
  apply Array.ext'
  exact ca3 hpl
 subst hp0
 have hte := Y4 ht
 have hd0 := D.nil_len h3
 have hS : S id = .none := hmk id (by simp)
 obtain ⟨ie, hie, hie2⟩ := b92.1 h1
 have hiz : ie.zero = some z := by
  unfold K3 at h2; rw [hie] at h2; exact h2
 have hu := Y1 hel
 have hrun : (Instr.buildSlice t 0 (#[] : Array (Nat × Value))).run P w = .ok (.slice (some ⟨w.heap.size, 0, none⟩) 0 0) (w.alloc (.cells #[] el)) := by
  have hr0 : Array.range 0 = #[] := rfl
  simp [Instr.buildSlice, run_underlying hu, sizeOf, typeInfo, hie, Instr.fill, newRow, hr0]
 have hown := (Q3 w (g := w.heap.size) (#[] : Array Value) 0 n el rfl (by simp) (by omega)).1
 have hb : Below w.heap.size w (w.alloc (.cells #[] el)) := (Below.refl _ _).alloc (b94 _) _
 obtain ⟨ρ', q1, q2, q3⟩ := M.graft (id := id) (ids := []) (d := d) (v := .slice (some ⟨w.heap.size, 0, none⟩) 0 0) (T := fun b => b = w.heap.size) hS (by simp) hi (D8.any hb)
  ⟨el, [], fun _ => False, hte, by rw [hd0, hsz]; exact M5 hown (cb1 _), fun g hg => by
   cases hg
   exact ⟨rfl, fun h => h⟩, fun b hb => hb.elim, bI6 h3 h9 _ _⟩
  (fun b hb => .inr (by omega))
 have hrun2 : (execOp g o).run P w = .ok (.value (.slice (some ⟨w.heap.size, 0, none⟩) 0 0)) (w.alloc (.cells #[] el)) := by
  simp only [execOp, hop, Sem.run_bind, List.map_toArray, List.map_nil, hrun]
  rfl
 exact .inl ⟨_, _, hrun2, ρ', q1, q2, by simp only [AV.val]; exact q3⟩
def a11 (P : Program) (S : Nat → It) (id : Nat) (t t' : TypeId) (s x : AV) : Option Tr :=
 if t = t' then
  match Z0 P t, x with
  | some el, .tref b =>
   match S b, am6 P el, X6 P el, K3 P el with
   | .tree d2, some by_, some n, some z =>
    if 0 < n && z.cells.size = n && d2.sz = n && ax8 d2 el then
     match s with
     | .tref a => if natEq a b then none else match S a with
      | .tree d1 => if ax8 d1 el then (d1.app d2).map fun d => ⟨(id, .tree d) :: [a, b].map fun j => (j, .dead), [id], .tref id, [d1.len + d2.len ≤ 9223372036854775807, (d1.len + d2.len) * by_ ≤ 140737488355328]⟩ else none
      | _ => none
     | .v (.slice none 0 0) => some ⟨(id, .tree d2) :: [b].map fun j => (j, .dead), [id], .tref id, [d2.len ≤ 9223372036854775807, d2.len * by_ ≤ 140737488355328]⟩
     | _ => none
    else none
   | _, _, _, _ => none
  | _, _ => none
 else none
theorem bd2 {v : Value} {n sz : Nat} {xs ys : List Value} (h : N3 w v n sz xs) (k : N3 w v n sz ys) : xs = ys := by
 obtain ⟨h0, a, cap, rfl, _, _, h1⟩ := h
 obtain ⟨k0, a', cap', he, _, _, k1⟩ := k
 cases he
 apply List.ext_getElem?
 intro j
 by_cases hj : j < n * sz
 ·have hn : 0 < n := Nat.pos_of_ne_zero fun h => by subst h; simp at hj
  obtain ⟨b, off, rfl, _, h2⟩ := h1 hn
  obtain ⟨b', off', he, _, k2⟩ := k1 hn
  cases he
  have e1 := h2 j _ (b89 (by omega))
  have e2 := k2 j _ (b89 (by omega))
  rw [e1] at e2
  rw [b89 (by omega), b89 (by omega)]; exact e2
 ·rw [cb3 (by omega), cb3 (by omega)]
theorem S7.app {d1 d2 d : D} {S T S' : Nat → Prop} {xs ys : List Value} (h : d1.app d2 = some d) (h1 : S7 w d1 S xs) (h2 : S7 w d2 T ys) (h3 : ∀ x, S x → S' x ∧ ¬ T x) (h4 : ∀ x, T x → S' x) : S7 w d S' (xs ++ ys) := by
 cases d1 <;> cases d2 <;> simp only [D.app] at h <;> first | cases h | skip
 all_goals simp only [S7] at h1 h2 ⊢
 ·exact h1.app h2 h3 h4
 ·exact s6.app h1 h2 h3 h4
 ·exact s4.app h1 h2 h3 h4
theorem bq4 {d1 d2 d : D} (h : d1.app d2 = some d) : ap1 d = ap1 d1 := by
 cases d1 <;> cases d2 <;> simp only [D.app] at h <;> first | cases h | skip
 all_goals rfl
theorem bP7 (M : n6 φ ψ w0 w (t4 F ρ S)) {o : Oper} {g : Operand → Value} {t t' : TypeId} {s x : Operand} (hop : o.op = .call { callee := .builtin .append, args := #[s, x], argTypes := #[t, t'] }) {sa xa : AV} (hs : g s = sa.val ρ) (hx : g x = xa.val ρ) {id : Nat} {r : Tr} (h : a11 P S id t t' sa xa = some r) (ho : w9 r.obs) (hmk : ∀ j ∈ r.made, S j = .none) (hi : Inv S ρ r.made) :
  M8 P o g w (K1 φ ψ w0 F ρ S r) := by
 unfold a11 at h
 split at h
 case isFalse => cases h
 rename_i htt
 subst htt
 split at h <;> first | cases h | skip
 rename_i el b hel
 split at h <;> first | cases h | skip
 rename_i d2 by_ n z hSb h2 h3 h4
 split at h
 case isFalse => cases h
 rename_i hc
 simp only [b85, decide_eq_true_eq] at hc
 obtain ⟨⟨⟨hn, hz⟩, hd2⟩, ht2⟩ := hc
 have hu := Y1 hel
 obtain ⟨ie, hie, hie2⟩ := b92.1 h3
 have hiz : ie.zero = some z := by unfold K3 at h4; rw [hie] at h4; exact h4
 have hib : ie.bytes = by_ := by
  unfold am6 at h2; rw [hie] at h2; exact Option.some.inj h2
 have hinfo : (P.info? el).map (fun i => (i.zero, i.size, i.bytes)) = some (some z, n, by_) := by rw [hie]; simp [hiz, hie2, hib]
 obtain ⟨hTb, hltb⟩ := M.treeAt (id := b) (d := d2) (by rw [hSb]; rfl)
 have hrd := I2.read (φ := fun _ => True) hTb fun _ _ => trivial
 obtain ⟨e2, news, S2, f0, f1, f2, f3, f4⟩ := hTb
 rw [Y4 ht2] at f0; cases f0
 have k1 := ak5 f1
 have h1c : ∀ u ∈ news, u.oneCell' = true := by
  obtain ⟨xs', r1, r2⟩ := hrd.split
  rw [bd2 k1 r1.row]
  exact a38 r1.1 r2
 rw [hd2] at k1
 have hexec : ∀ v w', (Builtin.append_ #[t, t] o.type #[sa.val ρ, AV.val ρ (.tref b)]).run P w = .ok v w' → (execOp g o).run P w = .ok (.value v) w' := by
  intro v w' hr
  simp only [execOp, hop, resolve, invoke, builtin, Sem.run_bind, Sem.run_pure, Result.andThen_ok, List.map_toArray, cc2, List.map_nil, hs, hx, hr]
 have hbk : ∀ c, L6 (ρ b) c → ((S b).res ρ b).blk c := fun c hc => by rw [hSb]; exact hc
 split at h
 ·rename_i a
  split at h
  case isTrue => cases h
  rename_i hab
  have hab' : a ≠ b := by simpa [natEq] using hab
  split at h <;> first | cases h | skip
  rename_i d1 hSa
  split at h
  case isFalse => cases h
  rename_i ht1
  obtain ⟨d, hd, hr⟩ := b92.1 h
  subst hr
  simp only [w9] at ho
  obtain ⟨q1, q2, q3, q4⟩ := D.app_ok hd
  obtain ⟨hTa, hlta⟩ := M.treeAt (id := a) (d := d1) (by rw [hSa]; rfl)
  obtain ⟨e1, xs, S1, g0, g1, g2, g3, g4⟩ := hTa
  rw [Y4 ht1] at g0; cases g0
  have hak : ∀ c, L6 (ρ a) c → ((S a).res ρ a).blk c := fun c hc => by rw [hSa]; exact hc
  have hdis : ∀ c, L6 (ρ a) c → ¬ L6 (ρ b) c := fun c h1 h2 => M.dis (.inr a) (.inr b) c (fun e => hab' (by cases e; rfl)) (hak c h1) (hbk c h2)
  have hsz : d1.sz = n := by omega
  rw [hsz] at g1
  obtain ⟨a', k', w', hrun, r2, r3, r4, r5⟩ := au1 (P := P) (lo := 0) (ty := o.type) hu hinfo hz hn g1 k1 h1c ho.1 ho.2.1 (cb1 _)
  have hkeep : ∀ c, c < w.heap.size → (N4 (ρ a)).ownBlock ≠ some c → w'.heap[c]? = w.heap[c]? := fun c hc hne => r4.block c hc fun h => hne h.symm
  obtain ⟨ρ', p1, p2, p3⟩ := M.graft (id := id) (ids := [a, b]) (d := d) (v := .slice a' (d1.len + d2.len) k') (T := fun c => L6 (ρ a) c ∨ L6 (ρ b) c ∨ (w.heap.size ≤ c ∧ (Value.slice a' (d1.len + d2.len) k').ownBlock = some c)) (hmk id (by simp))
   (fun hm => by
    have h0 := hmk id (by simp)
    simp only [cb7, List.not_mem_nil, or_false] at hm
    rcases hm with rfl | rfl
    ·rw [hSa] at h0; cases h0
    ·rw [hSb] at h0; cases h0) hi
   ⟨r4.os, r4.tape, r4.output, r4.size, fun c hc hne => hkeep c hc fun he => hne ⟨a, by simp, hak c (g2 c he).1⟩⟩
   ⟨el, xs ++ news, fun c => S1 c ∨ S2 c, by rw [bq4 hd, Y4 ht1], by rw [q2, hsz, q1]; exact r2, fun c hc => by
    rcases r5 c hc with h | h
    ·exact ⟨.inl (g2 c h).1, fun hh => hh.elim (g2 c h).2 fun h2 => hdis c (g2 c h).1 (f3 c h2)⟩
    ·exact ⟨.inr (.inr ⟨h, hc⟩), fun hh => hh.elim (fun h2 => by have := hlta c (g3 c h2); omega) fun h2 => by have := hltb c (f3 c h2); omega⟩,
    fun c hc => hc.imp (g3 c) fun h => .inl (f3 c h), by
    refine S7.app hd (g4.same fun c hc hlt => hkeep c hlt fun he => (g2 c he).2 hc) (f4.same fun c hc hlt => hkeep c hlt fun he => hdis c (g2 c he).1 (f3 c hc)) (fun c hc => ⟨.inl hc, fun h2 => hdis c (g3 c hc) (f3 c h2)⟩) fun c hc => .inr hc⟩
   (fun c hc => by
    rcases hc with h | h | h
    ·exact .inl ⟨a, by simp, hak c h⟩
    ·exact .inl ⟨b, by simp, hbk c h⟩
    ·exact .inr h.1)
  exact .inl ⟨_, _, hexec _ _ hrun, ρ', p1, p2, p3⟩
 ·cases h
  simp only [w9] at ho
  obtain ⟨a', k', w', hrun, r2, r3, r4, r5⟩ := au1 (P := P) (lo := w.heap.size) (ty := o.type) hu hinfo hz hn (World.ownsRow_nil _ _ _ _) k1 h1c (by omega) (by rw [cc3]; exact ho.2.1) (b94 _)
  rw [cc3, List.nil_append] at r2
  obtain ⟨ρ', p1, p2, p3⟩ := M.graft (id := id) (ids := [b]) (d := d2) (v := .slice a' (0 + d2.len) k') (w' := w') (T := fun c => L6 (ρ b) c ∨ (w.heap.size ≤ c ∧ (Value.slice a' (0 + d2.len) k').ownBlock = some c)) (hmk id (by simp))
   (fun hm => by
    have h0 := hmk id (by simp)
    simp only [cb7, List.not_mem_nil, or_false] at hm
    subst hm
    rw [hSb] at h0; cases h0) hi (D8.any r3)
   ⟨el, news, S2, Y4 ht2, by rw [hd2, cc3]; exact M5 r2 (cb1 _), fun c hc => by
    rcases r5 c hc with h | h
    ·cases h
    ·exact ⟨.inr ⟨h, hc⟩, fun h2 => by have := hltb c (f3 c h2); omega⟩, fun c hc => .inl (f3 c hc), f4.same fun c _ hlt => r3.block c hlt⟩
   (fun c hc => hc.imp (fun h => ⟨b, by simp, hbk c h⟩) fun h => h.1)
  exact .inl ⟨_, _, hexec _ _ hrun, ρ', p1, p2, p3⟩
 ·cases h
theorem a22 (S : Nat → It) (l2 : List (Nat × It)) : ∀ (l1 : List (Nat × It)) (j : Nat), s7 (s7 S l2) l1 j = s7 S (l1 ++ l2) j
 | [], _ => rfl
 | (k, x) :: r, j => by
  simp only [s7, List.cons_append]
  rw [a22 S l2 r j]
theorem n6.rowDat (M : n6 φ ψ w0 w (t4 F ρ S)) {a : Nat} {el : TypeId} {d : D} (hS : S a = .row el d) : n6 φ ψ w0 w (t4 F ρ (s7 S [(a, .dat d)])) := by
 obtain ⟨xs, h1, h2⟩ := M.rowAt hS
 have e0 : s7 S [(a, .dat d)] a = .dat d := by simp [s7]
 have e1 : ∀ j, j ≠ a → s7 S [(a, .dat d)] j = S j := fun j h => by simp [s7, h]
 generalize s7 S [(a, .dat d)] = S' at e0 e1
 have hoth : ∀ k : ι ⊕ Nat, k ≠ .inr a → t4 F ρ S' k = t4 F ρ S k := fun k hk => by
  cases k with
  | inl q => rfl
  | inr j =>
   have : j ≠ a := fun e => hk (by rw [e])
   simp only [t4]; rw [e1 j this]
 have hno : ∀ g, ¬ (t4 F ρ S' (.inr a)).blk g := fun g hg => by
  simp only [t4] at hg
  rw [e0] at hg; exact hg
 refine M.put (.inr a) hoth (D8.refl _ _) ?_ fun g hg => (hno g hg).elim
 show (((S' a).res ρ a)).holds w _
 rw [e0]
 refine ⟨RD.nice _ _, ?_⟩
 have hfr : ∀ b, FrF φ (t4 F ρ S) b → FrF φ (t4 F ρ S') b := fun b hb => ⟨hb.1, fun k hk => by
  by_cases e : k = .inr a
  ·subst e; exact hno b hk
  ·rw [hoth k e] at hk; exact hb.2 k hk⟩
 refine RD.make (E8 h1 fun g hg => ?_) (RW.nice _ _ _ _ _ _ (Agr.mono fun b _ hb => hfr b hb) h2)
 have ho : (t4 F ρ S (.inr a)).blk g := by simp only [t4]; rw [hS]; exact hg
 refine ⟨M.ph _ _ ho, fun k hk => ?_⟩
 by_cases e : k = .inr a
 ·subst e; exact hno g hk
 ·rw [hoth k e] at hk
  exact M.dis _ _ g (fun h => e h.symm) ho hk
def az3 (P : Program) (S : Nat → It) (id : Nat) (t : TypeId) (x : AV) (lo hi : Option AV) : Option Tr :=
 match x with
 | .ref a => match S a with
  | .row _ d => (aZ9 P (s7 S [(a, .dat d)]) id t x lo hi).map fun r => ⟨r.new ++ [(a, .dat d)], r.made, r.res, r.obs⟩
  | _ => none
 | _ => none
theorem bt9 (M : n6 φ ψ w0 w (t4 F ρ S)) {o : Oper} {g : Operand → Value} {t : TypeId} {x : Operand} {lo hi : Option Operand} {e : Operand → Option AV} (hop : o.op = .slice t x lo hi none) {xa : AV} (hx : g x = xa.val ρ) {la ha : Option AV} (hlo : lo.map g = la.map (AV.val ρ)) (hhi : hi.map g = ha.map (AV.val ρ)) {id : Nat} {r : Tr} (h : az3 P S id t xa la ha = some r) (ho : w9 r.obs) (hmk : ∀ j ∈ r.made, S j = .none) (hin : Inv S ρ r.made) :
  M8 P o g w (K1 φ ψ w0 F ρ S r) := by
 unfold az3 at h
 split at h <;> first | cases h | skip
 rename_i a
 split at h <;> first | cases h | skip
 rename_i el d hS
 obtain ⟨r', h1, h2⟩ := b92.1 h
 subst h2
 have ha : ∀ j ∈ r'.made, j ≠ a := fun j hj e => by
  have := hmk j hj
  rw [e, hS] at this; cases this
 have hin' : Inv (s7 S [(a, .dat d)]) ρ r'.made := fun ρ' hag j => by
  simp only [s7]
  split
  ·rename_i e
   subst e
   have := hin ρ' hag j
   refine It.res_congr _ (fun i hi => by cases hi) (.inr (.inr (hag j fun hm => ha j hm rfl)))
  ·exact hin ρ' hag j
 have D1 := bF0 (e := e) (M.rowDat hS) hop hx hlo hhi h1 ho (fun j hj => by
  simp only [s7]
  rw [if_neg (ha j hj)]
  exact hmk j hj) hin'
 refine D1.mono fun v w' ⟨ρ', q1, q2, q3⟩ => ⟨ρ', q1, ?_, q3⟩
 have e2 : s7 S (r'.new ++ [(a, .dat d)]) = s7 (s7 S [(a, .dat d)]) r'.new := funext fun j => (a22 S _ _ j).symm
 simp only
 rw [e2]; exact q2
def ao2 (P : Program) (S : Nat → It) (id : Nat) (t : TypeId) (x : AV) (lo hi : Option AV) : Option Tr := match aZ9 P S id t x lo hi with
 | some r => some r
 | none => az3 P S id t x lo hi
theorem aF8 (M : n6 φ ψ w0 w (t4 F ρ S)) {o : Oper} {g : Operand → Value} {t : TypeId} {x : Operand} {lo hi : Option Operand} {e : Operand → Option AV} (hop : o.op = .slice t x lo hi none) {xa : AV} (hx : g x = xa.val ρ) {la ha : Option AV} (hlo : lo.map g = la.map (AV.val ρ)) (hhi : hi.map g = ha.map (AV.val ρ)) {id : Nat} {r : Tr} (h : ao2 P S id t xa la ha = some r) (ho : w9 r.obs) (hmk : ∀ j ∈ r.made, S j = .none) (hin : Inv S ρ r.made) :
  M8 P o g w (K1 φ ψ w0 F ρ S r) := by
 unfold ao2 at h
 split at h
 ·rename_i r' h1
  cases h
  exact bF0 (e := e) M hop hx hlo hhi h1 ho hmk hin
 ·exact bt9 (e := e) M hop hx hlo hhi h ho hmk hin
end
section
variable {P : Program} {ι : Type} {φ ψ : Nat → Prop} {w0 w w' : World} {F : ι → Rs} {ρ : Nat → Value} {S : Nat → It}
theorem bw0 {φ : Nat → Prop} {k n : Nat} {d : D} {z : Value} (h : bb4 k n = some (d, z)) : d.len = n ∧ d.sz = 1 ∧ z.cells = #[z] ∧ RW w φ d (b82 n z) := by
 have key : ∀ (d : D) (z : Value), d.len = n → d.sz = 1 → (∀ i, i < n → ∃ x, d.elem i = [x] ∧ XH w φ x z) → RW w φ d (b82 n z) := by
  intro d z h1 h2 h3 i hi j x hx
  obtain ⟨y, hy, hz⟩ := h3 i (by omega)
  rw [hy] at hx
  cases j with
  | zero => simp at hx; subst hx; exact ⟨z, by rw [h1] at hi; rw [h2, Nat.mul_one, cc8, cc5, if_pos hi], hz⟩
  | succ j => simp at hx
 unfold bb4 at h
 split at h <;> first | cases h | skip
 ·exact ⟨by simp [D.len], rfl, rfl, key _ _ (by simp [D.len]) rfl fun i hi => ⟨_, rfl, by simp [XH, hi]⟩⟩
 ·exact ⟨by simp [D.len], rfl, rfl, key _ _ (by simp [D.len]) rfl fun i hi => ⟨_, rfl, by simp [XH, hi]⟩⟩
 ·exact ⟨by simp [D.len], rfl, rfl, key _ _ (by simp [D.len]) rfl fun i hi => ⟨_, rfl, by simp [XH, hi]⟩⟩
 ·exact ⟨by simp [D.len], rfl, rfl, key _ _ (by simp [D.len]) rfl fun i hi => ⟨_, rfl, by simp only [XH, b90, cc5, hi, if_true, Option.getD_some]; exact z8.nil _ _ _⟩⟩
 ·exact ⟨by simp [D.len], rfl, rfl, key _ _ (by simp [D.len]) rfl fun i hi => ⟨_, rfl, by simp only [XH, b90, cc5, hi, if_true, Option.getD_some]; exact z8.nil _ _ _⟩⟩
theorem bL4 (M : n6 φ ψ w0 w (t4 F ρ S)) {dk : TypeId → Nat} {o : Oper} {g : Operand → Value} {t : TypeId} {l c : Operand} (hop : o.op = .makeSlice t l c) {la ca : AV} (hl : g l = la.val ρ) (hc : g c = ca.val ρ) {id : Nat} {r : Tr} (h : aY4 P dk id t la ca = some r) (ho : w9 r.obs) (hmk : ∀ j ∈ r.made, S j = .none) (hi : Inv S ρ r.made) :
  M8 P o g w (K1 φ ψ w0 F ρ S r) := by
 unfold aY4 at h
 split at h
 case h_2 => cases h
 rename_i n m el hel
 split at h
 case h_2 => cases h
 rename_i d z by_ sz z' h1 h2 h3 h4
 split at h
 case isFalse => cases h
 rename_i hsz
 cases h
 simp only [w9] at ho
 obtain ⟨hm, hn, hb, hbig, hzz, -⟩ := ho
 subst hm; subst hzz; subst hsz
 obtain ⟨k1, k2, k3, k4⟩ := bw0 (w := w) (φ := FrF φ (t4 F ρ S)) h1
 obtain ⟨ie, hie, hie2⟩ := b92.1 h3
 have hiz : ie.zero = some z' := by unfold K3 at h4; rw [hie] at h4; exact h4
 have hib : ie.bytes = by_ := by
  unfold am6 at h2; rw [hie] at h2; exact Option.some.inj h2
 have hinfo : (P.info? el).map (fun i => (i.zero, i.size, i.bytes)) = some (some z', 1, by_) := by rw [hie]; simp [hiz, hie2, hib]
 have hb' : by_ * m.toNat ≤ 281474976710656 := by
  have : ((by_ * m.toNat : Nat) : Int) = by_ * m := by rw [Int.natCast_mul, Int.toNat_of_nonneg hn]
  omega
 have hrun := aL5 (P := P) (Y1 hel) hinfo (by rw [k3]; rfl) (by omega) m.toNat hb' (by omega) w
 rw [Int.toNat_of_nonneg hn] at hrun
 have hown := (a46 w z'.cells.toList m.toNat 1 el (by rw [k3]; rfl) (by omega)).1
 rw [k3, aa6, ← k1, ← k2] at hown
 obtain ⟨ρ', q1, q2, q3⟩ := M.newRow (id := id) (e := el) (d := d) ((Below.refl _ _).alloc (b94 _) _) (hmk id (by simp)) hi hown (by rw [k1]; exact k4)
 have hrun2 : (execOp g o).run P w = .ok (.value (.slice (some ⟨w.heap.size, 0, none⟩) m.toNat m.toNat)) (w.alloc (.cells (E5 z'.cells.toList m.toNat).toArray el)) := by
  simp only [execOp, hop, Sem.run_bind, hl, hc, AV.val, hrun]
  rfl
 rw [k3, aa6, ← k1] at hrun2
 exact .inl ⟨_, _, hrun2, ρ', q1, q2, q3⟩
end
def AV.agN : AV → AV
 | .v (.agg l) => .agg (l.toList.map .v)
 | x => x
theorem AV.val_agN (ρ : Nat → Value) (x : AV) : x.agN.val ρ = x.val ρ := by
 cases x <;> try rfl
 rename_i v
 cases v <;> try rfl
 simp only [AV.agN, AV.val, ab0, Array.toArray_toList]
def evN (e : Operand → Option AV) (x : Operand) : Option AV := (e x).map AV.agN
def al0 (P : Program) (dk : TypeId → Nat) (e : Operand → Option AV) (S : Nat → It) (id : Nat) : Op → Option Tr
 | .load t x => (e x).bind fun a => aY5 P S id t a
 | .store t x y => match e x, e y with
  | some a, some v => ad6 P S t v a
  | _, _ => none
 | .alloc t => match K3 P t with
  | some z => if z.cells.toList.all (·.oneCell') then some ⟨[(id, .box (z.cells.toList.map .v))], [id], .ptr id 0, []⟩ else none
  | none => none
 | .box _ x => (e x).bind fun v => be8 S id v
 | .buildSlice t len parts => match aA3 P dk id t len parts.toList with
  | some r => some r
  | none => match ae7 P dk e S id t len parts.toList with
   | some r => some r
   | none => match aw8 P dk e S id t len parts.toList with
    | some r => some r
    | none => aw8 P dk (evN e) S id t len parts.toList
 | .makeSlice t l c => match e l, e c with
  | some a, some b => aY4 P dk id t a b
  | _, _ => none
 | .slice t x lo hi none => match e x, lo.map e, hi.map e with
  | some a, none, none => ao2 P S id t a none none
  | some a, some (some l), none => ao2 P S id t a (some l) none
  | some a, none, some (some h) => ao2 P S id t a none (some h)
  | some a, some (some l), some (some h) => ao2 P S id t a (some l) (some h)
  | _, _, _ => none
 | .call { callee := .builtin .append, args, argTypes } =>
  match args.toList, argTypes.toList with
  | [s, x], [t, t'] => match e s, e x with
   | some a, some b => match bi7 P dk S id t t' a b with
    | some r => some r
    | none => a11 P S id t t' a b
   | _, _ => none
  | _, _ => none
 | _ => none
def at8 (P : Program) (dk : TypeId → Nat) (e : Operand → Option AV) (S : Nat → It) (id : Nat) (op : Op) : Option Tr :=
 match ab4 P e S op with
 | some r => some ⟨[], [], r.1, r.2⟩
 | none => al0 P dk e S id op
section
variable {P : Program} {ι : Type} {φ ψ : Nat → Prop} {w0 w w' : World} {F : ι → Rs} {ρ : Nat → Value} {S : Nat → It}
theorem bL3 (M : n6 φ ψ w0 w (t4 F ρ S)) {o : Oper} {g : Operand → Value} {t : TypeId} {cs : List AV} {v : Value} (hop : (execOp g o).run P w = .ok (.value (.pointer (some ⟨w.heap.size, 0, none⟩))) (w.alloc (.cells v.cells t))) (hv : v.cells = (AV.vals ρ cs).toArray) {id : Nat} (hn : id ∉ AV.idsL cs) (hS : S id = .none) (hi : Inv S ρ [id]) :
  M8 P o g w (K1 φ ψ w0 F ρ S ⟨[(id, .box cs)], [id], .ptr id 0, []⟩) := by
 have ha : D7 [id] ρ (fun j => if j = id then .pointer (some ⟨w.heap.size, 0, none⟩) else ρ j) := fun j hj => by
  have : j ≠ id := by simpa using hj
  simp [this]
 refine .inl ⟨_, _, hop, _, ha, M.one id _ [id] hi ha (D8.any ((Below.refl _ _).alloc (b94 _) _)) (fun g hg => ?_) ?_, ?_⟩
 ·simp only [It.res, if_true, X4] at hg
  exact .inr (by rw [show g = w.heap.size from hg]; exact b94 _)
 ·simp only [It.res, if_true, X4, Rs.holds]
  have e : AV.vals (fun j => if j = id then .pointer (some ⟨w.heap.size, 0, none⟩) else ρ j) cs = AV.vals ρ cs := AV.vals_congr _ fun k hk => by
   have : k ≠ id := fun e => hn (e ▸ hk)
   simp [this]
  rw [e, hv]
  exact H7.new _ _ _
 ·simp [AV.val, X4]
theorem bg0 (l : List Value) : AV.idsL (l.map .v) = [] := by
 induction l with
 | nil => rfl
 | cons a r ih => simp [AV.idsL, AV.ids, ih]
theorem bx8 (M : n6 φ ψ w0 w (t4 F ρ S)) {dk : TypeId → Nat} {o : Oper} {e : Operand → Option AV} {g : Operand → Value} (hg : ∀ x ∈ o.op.operands, ∀ v, e x = some v → g x = v.val ρ) {id : Nat} {r : Tr} (h : at8 P dk e S id o.op = some r) (ho : w9 r.obs) (hmk : ∀ j ∈ r.made, S j = .none) (hi : Inv S ρ r.made) :
  M8 P o g w (K1 φ ψ w0 F ρ S r) := by
 unfold at8 at h
 split at h
 ·rename_i q hq
  cases h
  exact .inl ⟨_, _, bK4 M hg (r := q.1) (obs := q.2) hq ho, ρ, D7.refl _ _, M, rfl⟩
 rename_i hnone
 clear hnone
 cases hop : o.op <;> rw [hop] at h hg <;> simp only [al0] at h <;> first | cases h | skip
 case load t x =>
  obtain ⟨a, h1, h2⟩ := Option.bind_eq_some_iff.1 h
  exact bL6 M hop (hg x (by simp [Op.operands]) _ h1) h2 ho hmk hi
 case store t x y =>
  split at h
  case h_2 => cases h
  rename_i a v h1 h2
  exact bx3 M hop (hg x (by simp [Op.operands]) _ h1) (hg y (by simp [Op.operands]) _ h2) h ho
 case alloc t =>
  split at h
  case h_2 => cases h
  rename_i z hz
  split at h
  case isFalse => cases h
  cases h
  have hrun : (execOp g o).run P w = .ok (.value (.pointer (some ⟨w.heap.size, 0, none⟩))) (w.alloc (.cells z.cells t)) := by
   simp [execOp, hop, Instr.alloc, bq9 hz, newVar, newRow]
  exact bL3 M hrun (by rw [ab0]) (by rw [bg0]; simp) (hmk id (by simp)) hi
 case box t x =>
  obtain ⟨a, h1, h2⟩ := Option.bind_eq_some_iff.1 h
  have hx := hg x (by simp [Op.operands]) _ h1
  have hrun : (execOp g o).run P w = .ok (.value (.pointer (some ⟨w.heap.size, 0, none⟩))) (w.alloc (.cells (a.val ρ).cells t)) := by
   simp [execOp, hop, Instr.box, newVar, newRow, hx]
  exact bT9 M hrun rfl h2 hmk hi
 case buildSlice t len parts =>
  split at h
  ·rename_i r' h'
   cases h
   exact bv1 M hop h' hmk hi
  split at h
  ·rename_i r' h'
   cases h
   exact bv0 M hop (fun p hp v hv => hg p.2 (by simp [Op.operands]; exact ⟨p.1, by simpa using hp⟩) v hv) h' hmk hi
  split at h
  ·rename_i r' h'
   cases h
   exact ba2 M hop (fun p hp v hv => hg p.2 (by simp [Op.operands]; exact ⟨p.1, by simpa using hp⟩) v hv) h' ho hmk hi
  ·refine ba2 M hop (e := evN e) (fun p hp v hv => ?_) h ho hmk hi
   obtain ⟨y, h1, rfl⟩ := b92.1 hv
   rw [AV.val_agN]
   exact hg p.2 (by simp [Op.operands]; exact ⟨p.1, by simpa using hp⟩) y h1
 case makeSlice t l c =>
  split at h
  case h_2 => cases h
  rename_i a b h1 h2
  exact bL4 M hop (hg l (by simp [Op.operands]) _ h1) (hg c (by simp [Op.operands]) _ h2) h ho hmk hi
 case slice t x lo hi' mx =>
  cases mx with
  | some mx => simp only [al0] at h; cases h
  | none =>
  simp only [al0] at h
  split at h <;> first | cases h | skip
  ·rename_i a h1 h2 h3
   have : lo = none := by cases lo <;> simp at h2 ⊢
   subst this
   have : hi' = none := by cases hi' <;> simp at h3 ⊢
   subst this
   exact aF8 M (e := e) hop (hg x (by simp [Op.operands]) _ h1) rfl rfl h ho hmk hi
  ·rename_i a l h1 h2 h3
   obtain ⟨lo', rfl, hlo⟩ := b92.1 h2
   have : hi' = none := by cases hi' <;> simp at h3 ⊢
   subst this
   exact aF8 M (e := e) hop (hg x (by simp [Op.operands]) _ h1) (by simp [hg lo' (by simp [Op.operands]) _ hlo]) rfl h ho hmk hi
  ·rename_i a l h1 h2 h3
   obtain ⟨hi'', rfl, hhi⟩ := b92.1 h3
   have : lo = none := by cases lo <;> simp at h2 ⊢
   subst this
   exact aF8 M (e := e) hop (hg x (by simp [Op.operands]) _ h1) rfl (by simp [hg hi'' (by simp [Op.operands]) _ hhi]) h ho hmk hi
  ·rename_i a l hh h1 h2 h3
   obtain ⟨lo', rfl, hlo⟩ := b92.1 h2
   obtain ⟨hi'', rfl, hhi⟩ := b92.1 h3
   exact aF8 M (e := e) hop (hg x (by simp [Op.operands]) _ h1) (by simp [hg lo' (by simp [Op.operands]) _ hlo]) (by simp [hg hi'' (by simp [Op.operands]) _ hhi]) h ho hmk hi
 case call c =>
  obtain ⟨callee, args, argTypes⟩ := c
  cases callee <;> (try simp only [al0] at h) <;> first | cases h | skip
  rename_i b
  cases b <;> (try simp only [al0] at h) <;> first | cases h | skip
  split at h <;> first | cases h | skip
  rename_i s x t t' hx ht
  have hx' : args = #[s, x] := by apply Array.ext'; simpa using hx
  have ht' : argTypes = #[t, t'] := by apply Array.ext'; simpa using ht
  subst hx'; subst ht'
  split at h
  case h_2 => cases h
  rename_i a b h1 h2
  split at h
  ·rename_i r' h'
   cases h
   exact app_ok M hop (hg s (by simp [Op.operands, Call.operands]) _ h1) (hg x (by simp [Op.operands, Call.operands]) _ h2) h' ho hmk hi
  ·exact bP7 M hop (hg s (by simp [Op.operands, Call.operands]) _ h1) (hg x (by simp [Op.operands, Call.operands]) _ h2) h ho hmk hi
end
structure m7 where
 f : FuncId
 args : List AV
 pre : List It
 post : List It
 res : AV
def m7.ok (P : Program) (c : m7) : Prop := ∀ (ι : Type) (φ ψ : Nat → Prop) (w0 w : World) (F : ι → Rs) (ρ : Nat → Value), n6 φ ψ w0 w (t4 F ρ (x6 c.pre)) →
 Calls P c.f (AV.vals ρ c.args).toArray w fun x w' => ∃ ρ', (∀ i, i < c.pre.length → ρ' i = ρ i) ∧ x = .returned (c.res.val ρ') ∧ n6 φ ψ w0 w' (t4 F ρ' (x6 c.post))
def aF7 (P : Program) (f : FuncId) : Bool :=
 match P.funcs[f]? with
 | some fn => fn.body.isSome && !(fn.name == "runtime.NumGoroutine")
 | none => false
theorem aT7 {P : Program} {f : FuncId} (h : aF7 P f = true) (args : Array Value) (w : World) : (callFunc f args).run P w = .ok (.enter f args) w := by
 unfold aF7 at h
 cases hf : P.funcs[f]? with
 | none => rw [hf] at h; cases h
 | some fn =>
  rw [hf] at h
  simp only [b85, b99] at h
  cases hb : fn.body with
  | none => rw [hb] at h; cases h.1
  | some c => exact az0 hf h.2 hb args w
def memN (j : Nat) : List Nat → Bool
 | [] => false
 | x :: r => natEq j x || memN j r
def nodupB : List Nat → Bool
 | [] => true
 | x :: r => !memN x r && nodupB r
theorem t6 {j : Nat} {l : List Nat} : memN j l = true ↔ j ∈ l := by
 induction l with
 | nil => simp [memN]
 | cons x r ih => simp [memN, natEq, ih]
theorem aK9 {l : List Nat} (h : nodupB l = true) : l.Nodup := by
 induction l with
 | nil => simp
 | cons x r ih =>
  simp only [nodupB, b85, b99] at h
  refine List.nodup_cons.2 ⟨fun hm => ?_, ih h.2⟩
  rw [t6.2 hm] at h; cases h.1
def al1 (n : Nat) (l : List Nat) : Bool := l.all fun j => decide (j < n)
theorem Q4 {n : Nat} {l : List Nat} (h : al1 n l = true) : ∀ j ∈ l, j < n := fun j hj => by simpa using b93.1 h j hj
def ai2 : List Nat → List It → List (Nat × It)
 | a :: r, x :: s => (a, x) :: ai2 r s
 | _, _ => []
def nth (σ : List Nat) (i : Nat) : Nat := σ.getD i 0
def ax1 : List Nat → List It → List It → List (Nat × It)
 | a :: r, p :: q, x :: s => match p, x with
  | .dat _, .dat _ => ax1 r q s
  | .row _ _, .kept (some _) _ => ax1 r q s
  | .tree _, .kept none _ => ax1 r q s
  | _, _ => (a, x.unK) :: ax1 r q s
 | a :: r, [], x :: s => (a, x.unK) :: ax1 r [] s
 | _, _, _ => []
def az2 : List It → List It → List It
 | p :: q, x :: s => match p, x with
  | .dat d, .dat _ => .dat d :: az2 q s
  | .row e d, .kept (some _) _ => .row e d :: az2 q s
  | .tree d, .kept none _ => .tree d :: az2 q s
  | _, _ => az2 q s
 | _, _ => []
def az1 : List It → List It → List It
 | p :: q, x :: s => match p, x with
  | .dat _, .dat e => .dat e :: az1 q s
  | .row _ _, .kept (some e) d => .row e d :: az1 q s
  | .tree _, .kept none d => .tree d :: az1 q s
  | _, _ => az1 q s
 | _, _ => []
def aM4 : It → It → Bool
 | .dat _, .dat _ => true
 | .row _ _, .kept (some _) _ => true
 | .tree _, .kept none _ => true
 | _, _ => false
theorem bq1 (a : Nat) (r : List Nat) (p : It) (q : List It) (x : It) (s : List It) : ax1 (a :: r) (p :: q) (x :: s) = if aM4 p x then ax1 r q s else (a, x.unK) :: ax1 r q s := by
 cases p <;> cases x <;> first | rfl | (rename_i e d; cases e <;> rfl) | (rename_i d e; cases e <;> rfl) | (rename_i e d f g; cases f <;> rfl) | (rename_i d f g; cases f <;> rfl)
theorem bt7 (p : It) (q : List It) (x : It) (s : List It) : az2 (p :: q) (x :: s) = if aM4 p x then p :: az2 q s else az2 q s := by
 cases p <;> cases x <;> first | rfl | (rename_i e d; cases e <;> rfl) | (rename_i d e; cases e <;> rfl) | (rename_i e d f g; cases f <;> rfl) | (rename_i d f g; cases f <;> rfl)
theorem bt6 (p : It) (q : List It) (x : It) (s : List It) : az1 (p :: q) (x :: s) = if aM4 p x then x.unK :: az1 q s else az1 q s := by
 cases p <;> cases x <;> first | rfl | (rename_i e d; cases e <;> rfl) | (rename_i d e; cases e <;> rfl) | (rename_i e d f g; cases f <;> rfl) | (rename_i d f g; cases f <;> rfl)
theorem aY9 : ∀ {P X : List It} {i : Nat} {p x : It}, az2 P X = az1 P X → P[i]? = some p → X[i]? = some x → aM4 p x = true → p = x.unK
 | [], _, _, _, _, _, h, _, _ => by simp at h
 | _ :: _, [], _, _, _, _, _, h, _ => by simp at h
 | p :: q, x :: s, i, p1, x1, h, h1, h2, hk => by
  rw [bt7, bt6] at h
  cases i with
  | zero =>
   simp at h1 h2
   subst h1 h2
   rw [if_pos hk, if_pos hk] at h
   exact (List.cons.inj h).1
  | succ i =>
   refine aY9 (P := q) (X := s) (i := i) ?_ (by simpa using h1) (by simpa using h2) hk
   split at h
   ·exact (List.cons.inj h).2
   ·exact h
theorem bV3 {P X : List It} {i : Nat} {d e : D} (h : az2 P X = az1 P X) (h1 : P[i]? = some (.dat d)) (h2 : X[i]? = some (.dat e)) : d = e := by
 have := aY9 h h1 h2 rfl
 simpa [It.unK] using this
theorem ax5 {S : Nat → It} : ∀ {σ : List Nat} {P X : List It}, σ.Nodup → (∀ (i j : Nat) (p x : It), σ[i]? = some j → P[i]? = some p → X[i]? = some x → aM4 p x = true → S j = x.unK) → ∀ j, s7 S (ax1 σ P X) j = s7 S (ai2 σ (X.map It.unK)) j
 | [], _, _, _, _, j => by simp [ax1, ai2]
 | a :: r, P, [], _, _, j => by cases P <;> simp [ax1, ai2]
 | a :: r, [], x :: s, hn, h, j => by
  simp only [ax1, ai2, s7, cc2]
  rw [ax5 (List.nodup_cons.1 hn).2 (fun i j d e _ h2 _ => by simp at h2) j]
 | a :: r, p :: q, x :: s, hn, h, j => by
  have ih := ax5 (S := S) (P := q) (X := s) (List.nodup_cons.1 hn).2 (fun i j d e h1 h2 h3 h4 => h (i + 1) j d e (by simpa using h1) (by simpa using h2) (by simpa using h3) h4) j
  rw [bq1]
  simp only [ai2, cc2]
  split
  ·rename_i hk
   rw [ih]
   simp only [s7]
   split
   ·rename_i hj
    subst hj
    rw [at4 fun hm => (List.nodup_cons.1 hn).1 (by
     have : ∀ {σ : List Nat} {L : List It} {j : Nat}, j ∈ (ai2 σ L).map (·.1) → j ∈ σ := fun {σ} => by
      induction σ with
      | nil => intro L j h; simp [ai2] at h
      | cons a r ih => intro L j h; cases L with
       | nil => simp [ai2] at h
       | cons y s => simp only [ai2, cc2, cb7] at h ⊢; exact h.imp id ih
     exact this hm)]
    exact h 0 j p x rfl rfl rfl hk
   ·rfl
  ·simp only [s7]
   rw [ih]
def bp2 : AV → Option (Nat × List AV × List AV)
 | .fn f l => some (f, [], l)
 | .bm f l => some (f, l, [])
 | _ => none
def aF9 (P : Program) (e : Operand → Option AV) (S : Nat → It) (id : Nat) (c : m7) (τ : List Nat) : Op → Option Tr
 | .call { callee := .value fo, args, .. } =>
  match (e fo).bind bp2, args.toList.mapM e with
  | some (f, _, _), some xs =>
   if natEq f c.f && aF7 P f && natEq τ.length c.pre.length && decide (c.pre.length ≤ c.post.length) && nodupB (τ ++ List.range' id (c.post.length - c.pre.length)) && c.post.all (fun x => al1 c.post.length x.ids) && al1 c.post.length c.res.ids then
    some ⟨ax1 (τ ++ List.range' id (c.post.length - c.pre.length)) c.pre (c.post.map (It.ren (nth (τ ++ List.range' id (c.post.length - c.pre.length))))),
     List.range' id (c.post.length - c.pre.length), c.res.ren (nth (τ ++ List.range' id (c.post.length - c.pre.length))),
     []⟩
   else none
  | _, _ => none
 | _ => none
def aG0 (e : Operand → Option AV) (S : Nat → It) (id : Nat) (c : m7) (τ : List Nat) : Op → List (List AV × List It) × List (List AV × List It)
 | .call { callee := .value fo, args, .. } =>
  match (e fo).bind bp2, args.toList.mapM e with
  | some (_, fst, caps), some xs => ([(fst ++ (xs ++ caps), τ.map S ++ az2 c.pre c.post)], [(AV.renL (nth (τ ++ List.range' id (c.post.length - c.pre.length))) c.args, c.pre.map (It.ren (nth (τ ++ List.range' id (c.post.length - c.pre.length)))) ++ az1 c.pre c.post)])
  | _, _ => ([], [])
 | _ => ([], [])
section
variable {P : Program} {ι : Type} {φ ψ : Nat → Prop} {w0 w w' : World} {F : ι → Rs} {ρ : Nat → Value} {S : Nat → It}
theorem a21 {S : Nat → It} : ∀ {σ : List Nat} {L : List It} {i j : Nat} {x : It}, σ.Nodup → σ[i]? = some j → L[i]? = some x → s7 S (ai2 σ L) j = x
 | [], _, _, _, _, _, h, _ => by simp at h
 | a :: r, [], _, _, _, _, _, h => by simp at h
 | a :: r, y :: s, 0, j, x, _, h1, h2 => by
  simp at h1 h2
  subst h1 h2
  simp [ai2, s7]
 | a :: r, y :: s, i + 1, j, x, hn, h1, h2 => by
  have h1' : r[i]? = some j := by simpa using h1
  have hne : j ≠ a := fun e => (List.nodup_cons.1 hn).1 (e ▸ ca7 h1')
  simp only [ai2, s7, if_neg hne]
  exact a21 (List.nodup_cons.1 hn).2 h1' (by simpa using h2)
theorem a13 : ∀ {σ : List Nat} {L : List It} {j : Nat}, j ∈ (ai2 σ L).map (·.1) → j ∈ σ
 | [], _, _, h => by simp [ai2] at h
 | a :: r, [], _, h => by simp [ai2] at h
 | a :: r, y :: s, j, h => by
  simp only [ai2, cc2, cb7] at h ⊢
  exact h.imp id a13
theorem O9 {σ : List Nat} {i j : Nat} (h : σ[i]? = some j) : nth σ i = j := by simp [nth, b90, h]
theorem ar2 {σ : List Nat} (hn : σ.Nodup) {i j : Nat} (h : σ[i]? = some j) : σ.idxOf j = i := by
 have hl := (b96.1 h).1
 have hm := ca7 h
 have h1 : σ[σ.idxOf j]? = some j := by
  have := List.idxOf_lt_length_of_mem hm
  rw [b89 this, List.getElem_idxOf]
 exact (List.getElem?_inj (List.idxOf_lt_length_of_mem hm) hn).1 (h1.trans h.symm)
theorem m7.okPost {c : m7} (hc : c.ok P) (post : List It) (h : ∀ (ρ : Nat → Value) (i : Nat), (x6 post i).res ρ i = (x6 c.post i).res ρ i) : m7.ok P ⟨c.f, c.args, c.pre, post, c.res⟩ := by
 intro ι φ ψ w0 w F ρ M
 refine (hc ι φ ψ w0 w F ρ M).mono ?_
 rintro x w' ⟨ρ', h1, h2, M2⟩
 refine ⟨ρ', h1, h2, ?_⟩
 have e : t4 F ρ' (x6 post) = t4 F ρ' (x6 c.post) := by
  funext k
  cases k with
  | inl i => rfl
  | inr j => exact h ρ' j
 simp only
 rw [e]; exact M2
theorem bL5 {f : It → It} (hf : f .none = .none) (l : List It) (i : Nat) : x6 (l.map f) i = f (x6 l i) := by
 simp only [x6, b90, List.getElem?_map]
 cases l[i]? with
 | none => exact hf.symm
 | some x => rfl
theorem bu1 (M : n6 φ ψ w0 w (t4 F ρ S)) {o : Oper} {e : Operand → Option AV} {g : Operand → Value} {fo : Operand} {args : Array Operand} {argTypes : Array TypeId} (hop : o.op = .call { callee := .value fo, args := args, argTypes := argTypes })
  (hg : ∀ x ∈ (Op.call { callee := .value fo, args := args, argTypes := argTypes }).operands, ∀ v, e x = some v → g x = v.val ρ) {c : m7} (hc : c.ok P) {fst caps xs : List AV} (hf : (e fo).bind bp2 = some (c.f, fst, caps)) (has : args.toList.mapM e = some xs) {τ σ : List Nat} {id m : Nat} (hm0 : m = c.post.length - c.pre.length) (hσ : τ ++ List.range' id m = σ)
  (hent : aF7 P c.f = true) (hτ : τ.length = c.pre.length) (hle : c.pre.length ≤ c.post.length) (hn : σ.Nodup) (hpost : c.post.all (fun x => al1 c.post.length x.ids) = true) (hres : al1 c.post.length c.res.ids = true) (hargs : fst ++ (xs ++ caps) = AV.renL (nth σ) c.args) (hSpre : ∀ i j, i < c.pre.length → σ[i]? = some j → S j = ((x6 c.pre) i).ren (nth σ))
  (L : List (Nat × It)) (hzip : s7 S L = s7 S (ai2 σ (c.post.map (It.ren (nth σ))))) (hi : Inv S ρ (List.range' id m)) : M8 P o g w (K1 φ ψ w0 F ρ S ⟨L, List.range' id m, c.res.ren (nth σ), []⟩) := by
 subst hm0
 have hσl : σ.length = c.post.length := by rw [← hσ, b83, List.length_range']; omega
 have hmade : ∀ i, c.pre.length ≤ i → ∀ j, σ[i]? = some j → j ∈ List.range' id (c.post.length - c.pre.length) := fun i hi' j hj => by
  rw [← hσ, cc9 (by omega)] at hj
  exact ca7 hj
 let F' : ι ⊕ Nat → Rs := fun k => match k with | .inl i => F i | .inr j => if memN j σ then Rs.none else (S j).res ρ j
 have M1 : n6 φ ψ w0 w (t4 F' (fun i => ρ (nth σ i)) (x6 c.pre)) := by
  refine M.map (fun k : (ι ⊕ Nat) ⊕ Nat => (match k with | .inl (.inl i) => some (.inl i) | .inl (.inr j) => if memN j σ then none else some (.inr j) | .inr i => if i < c.pre.length then some (.inr (nth σ i)) else none : Option (ι ⊕ Nat))) ?_ ?_
  ·intro k k' x h1 h2
   match k, k' with
   | .inl (.inl i), .inl (.inl i') => simp at h1 h2; subst h1; simpa using h2.symm
   | .inl (.inl i), .inl (.inr j') => simp at h1; subst h1; simp at h2
   | .inl (.inl i), .inr j' => simp at h1; subst h1; simp at h2
   | .inl (.inr j), .inl (.inl i') => simp at h2; subst h2; simp at h1
   | .inr j, .inl (.inl i') => simp at h2; subst h2; simp at h1
   | .inl (.inr j), .inl (.inr j') =>
    simp at h1 h2
    rw [← h1.2] at h2
    rw [Sum.inr.inj h2.2]
   | .inl (.inr j), .inr i' =>
    simp at h1 h2
    rw [← h1.2] at h2
    have hj := Sum.inr.inj h2.2
    have hlt : i' < σ.length := by omega
    have : memN j σ = true := t6.2 (by rw [← hj, O9 (b89 hlt)]; exact ca5 hlt)
    rw [this] at h1; cases h1.1
   | .inr i, .inl (.inr j') =>
    simp at h1 h2
    rw [← h1.2] at h2
    have hj := Sum.inr.inj h2.2
    have hlt : i < σ.length := by omega
    have : memN j' σ = true := t6.2 (by rw [hj, O9 (b89 hlt)]; exact ca5 hlt)
    rw [this] at h2; cases h2.1
   | .inr i, .inr i' =>
    simp at h1 h2
    rw [← h1.2] at h2
    have hj := Sum.inr.inj h2.2
    have hlt : i < σ.length := by omega
    have hlt' : i' < σ.length := by omega
    rw [O9 (b89 hlt), O9 (b89 hlt')] at hj
    have := (List.getElem?_inj hlt hn).1 ((b89 hlt).trans (by rw [← hj]; exact (b89 hlt').symm))
    rw [this]
  ·intro k
   match k with
   | .inl (.inl i) => exact .inl ⟨.inl i, rfl, rfl⟩
   | .inl (.inr j) =>
    cases hm : memN j σ
    ·exact .inl ⟨.inr j, by simp [hm], by simp [t4, F', hm]⟩
    ·exact .inr (by simp [t4, F', hm])
   | .inr i =>
    by_cases hlt : i < c.pre.length
    ·refine .inl ⟨.inr (nth σ i), by simp [hlt], ?_⟩
     have hlt' : i < σ.length := by omega
     have h1 := hSpre i _ hlt (b89 hlt')
     simp only [t4]
     rw [O9 (b89 hlt'), h1, ← It.res_ren, O9 (b89 hlt')]
    ·refine .inr ?_
     simp only [t4, x6, b90, cb3 (Nat.le_of_not_lt hlt)]
     rfl
 have hcalls := hc _ φ ψ w0 w F' (fun i => ρ (nth σ i)) M1
 obtain ⟨av, hav, hcal⟩ := Option.bind_eq_some_iff.1 hf
 have hgf := hg fo (by simp [Op.operands, Call.operands]) _ hav
 have hga := an2 (ρ := ρ) (g := g) (fun x hx v hv => hg x (by simp [Op.operands, Call.operands]; exact .inr (by simpa using hx)) v hv) has
 have hrun : (execOp g o).run P w = .ok (.enter c.f (AV.vals (fun i => ρ (nth σ i)) c.args).toArray) w := by
  have e1 : (AV.vals ρ fst).toArray ++ args.map g ++ (AV.vals ρ caps).toArray = (AV.vals (fun i => ρ (nth σ i)) c.args).toArray := by
   rw [← AV.vals_ren (ρ := ρ) (σ := nth σ) c.args, ← hargs, AV.vals_append, AV.vals_append, ← hga]
   apply Array.ext'; simp
  simp only [execOp, hop, resolve, Deferred.ofValue, Sem.run_bind, Sem.run_pure, Result.andThen_ok]
  rw [hgf]
  cases av <;> simp only [bp2, Option.some.injEq, Prod.mk.injEq, reduceCtorEq] at hcal
  ·obtain ⟨rfl, rfl, rfl⟩ := hcal
   simp only [AV.val, Sem.run_pure, Result.andThen_ok, invoke]
   simp only [AV.vals] at e1
   rw [e1]
   exact aT7 hent _ _
  ·obtain ⟨rfl, rfl, rfl⟩ := hcal
   simp only [AV.val, Sem.run_pure, Result.andThen_ok, invoke]
   simp only [AV.vals] at e1
   rw [e1]
   exact aT7 hent _ _
 refine .inr (.inr ⟨_, _, _, hrun, hcalls.mono ?_⟩)
 rintro x w' ⟨ρ', h1, rfl, M2⟩
 refine ⟨_, rfl, fun j => if memN j σ then ρ' (σ.idxOf j) else ρ j, ?_, ?_, ?_⟩
 ·intro j hj
  show (if memN j σ then ρ' (σ.idxOf j) else ρ j) = ρ j
  cases hm : memN j σ
  ·rfl
  ·obtain ⟨i, hi'⟩ := List.mem_iff_getElem?.1 (t6.1 hm)
   have hlt : i < c.pre.length := by
    rcases ca8 i c.pre.length with h | h
    ·exact h
    ·exact absurd (hmade i h j hi') hj
   simp only [if_true]
   rw [ar2 hn hi', h1 i hlt, O9 hi']
 ·have hag : ∀ j, j ∉ List.range' id (c.post.length - c.pre.length) → (fun j => if memN j σ then ρ' (σ.idxOf j) else ρ j) j = ρ j := by
   intro j hj
   show (if memN j σ then ρ' (σ.idxOf j) else ρ j) = ρ j
   cases hm : memN j σ
   ·rfl
   ·obtain ⟨i, hi'⟩ := List.mem_iff_getElem?.1 (t6.1 hm)
    have hlt : i < c.pre.length := by
     rcases ca8 i c.pre.length with h | h
     ·exact h
     ·exact absurd (hmade i h j hi') hj
    simp only [if_true]
    rw [ar2 hn hi', h1 i hlt, O9 hi']
  have hρσ : ∀ i, i < c.post.length → (fun j => if memN j σ then ρ' (σ.idxOf j) else ρ j) (nth σ i) = ρ' i := by
   intro i hlt
   have hi' := b89 (show i < σ.length by omega)
   show (if memN (nth σ i) σ then ρ' (σ.idxOf (nth σ i)) else ρ (nth σ i)) = ρ' i
   rw [O9 hi', t6.2 (ca5 _), if_pos rfl, ar2 hn hi']
  rw [hzip]
  refine M2.map (fun k : ι ⊕ Nat => (match k with | .inl i => some (.inl (.inl i)) | .inr j => if memN j σ then some (.inr (σ.idxOf j)) else some (.inl (.inr j)) : Option ((ι ⊕ Nat) ⊕ Nat))) ?_ ?_
  ·intro k k' x h2 h3
   match k, k' with
   | .inl i, .inl i' => simp at h2 h3; rw [← h2] at h3; simpa using h3.symm
   | .inl i, .inr j => simp at h2; subst h2; simp at h3; split at h3 <;> simp at h3
   | .inr j, .inl i => simp at h3; subst h3; simp at h2; split at h2 <;> simp at h2
   | .inr j, .inr j' =>
    simp only at h2 h3
    cases hm : memN j σ <;> cases hm' : memN j' σ <;> rw [hm] at h2 <;> rw [hm'] at h3 <;> simp at h2 h3 <;> subst h2 <;> simp at h3
    ·rw [h3]
    ·obtain ⟨i, hi1⟩ := List.mem_iff_getElem?.1 (t6.1 hm)
     obtain ⟨i', hi2⟩ := List.mem_iff_getElem?.1 (t6.1 hm')
     rw [ar2 hn hi1, ar2 hn hi2] at h3
     subst h3
     rw [hi1] at hi2; cases hi2; rfl
  ·intro k
   match k with
   | .inl i => exact .inl ⟨_, rfl, rfl⟩
   | .inr j =>
    cases hm : memN j σ
    ·refine .inl ⟨.inl (.inr j), by simp [hm], ?_⟩
     simp only [t4, F', hm]
     rw [at4 fun hh => by have := t6.2 (a13 hh); rw [hm] at this; cases this]
     exact hi _ hag j
    ·obtain ⟨i, hi'⟩ := List.mem_iff_getElem?.1 (t6.1 hm)
     have hlt : i < c.post.length := by have := (b96.1 hi').1; omega
     refine .inl ⟨.inr (σ.idxOf j), by simp [hm], ?_⟩
     rw [ar2 hn hi']
     have hx : (c.post.map (It.ren (nth σ)))[i]? = some ((c.post[i]).ren (nth σ)) := by simp [hlt]
     simp only [t4]
     rw [a21 hn hi' hx]
     conv => lhs; rw [← O9 hi']
     rw [It.res_ren]
     have hl : x6 c.post i = c.post[i] := by simp [x6, b90, hlt]
     rw [hl]
     exact It.res_congr _ (fun q hq => hρσ q (Q4 (b93.1 hpost _ (ca5 hlt)) q hq)) (.inr (.inr (hρσ i hlt)))
 ·rw [AV.val_ren]
  refine (AV.val_congr _ fun q hq => ?_).symm
  have hlt := Q4 hres q hq
  have hi' := b89 (show q < σ.length by omega)
  show (if memN (nth σ q) σ then ρ' (σ.idxOf (nth σ q)) else ρ (nth σ q)) = ρ' q
  rw [O9 hi', t6.2 (ca5 _), if_pos rfl, ar2 hn hi']
theorem bO2 (M : n6 φ ψ w0 w (t4 F ρ S)) {o : Oper} {e : Operand → Option AV} {g : Operand → Value} (hg : ∀ x ∈ o.op.operands, ∀ v, e x = some v → g x = v.val ρ) {c : m7} (hc : c.ok P) {τ : List Nat} {id : Nat} {r : Tr} (h : aF9 P e S id c τ o.op = some r) (ho : (aG0 e S id c τ o.op).1 = (aG0 e S id c τ o.op).2) (hmk : ∀ j ∈ r.made, S j = .none) (hi : Inv S ρ r.made) :
  M8 P o g w (K1 φ ψ w0 F ρ S r) := by
 cases hop : o.op <;> rw [hop] at h hg ho <;> simp only [aF9] at h <;> first | cases h | skip
 rename_i cl
 obtain ⟨callee, args, argTypes⟩ := cl
 cases callee <;> (try simp only [aF9] at h) <;> first | cases h | skip
 rename_i fo
 split at h
 case h_2 => cases h
 rename_i f fst caps xs hf has
 split at h
 case isFalse => cases h
 rename_i hcond
 cases h
 simp only [aG0, hf, has, List.cons.injEq, Prod.mk.injEq, and_true] at ho
 generalize hσ : τ ++ List.range' id (c.post.length - c.pre.length) = σ at *
 simp only [b85, decide_eq_true_eq, natEq, beq_iff_eq] at hcond
 obtain ⟨⟨⟨⟨⟨⟨rfl, hent⟩, hτ⟩, hle⟩, hnd⟩, hpost⟩, hres⟩ := hcond
 have hn := aK9 hnd
 obtain ⟨hargs, hpre⟩ := ho
 obtain ⟨hpre, hsame⟩ := List.append_inj hpre (by simp [hτ])
 have hσl : σ.length = c.post.length := by rw [← hσ, b83, List.length_range']; omega
 have hστ : ∀ i, i < c.pre.length → σ[i]? = τ[i]? := fun i hi' => by rw [← hσ, cb9 (by omega)]
 have hmade : ∀ i, c.pre.length ≤ i → ∀ j, σ[i]? = some j → j ∈ List.range' id (c.post.length - c.pre.length) := fun i hi' j hj => by
  rw [← hσ, cc9 (by omega)] at hj
  exact ca7 hj
 have hSpre : ∀ i j, i < c.pre.length → σ[i]? = some j → S j = ((x6 c.pre) i).ren (nth σ) := fun i j hi' hj => by
  have h1 : (τ.map S)[i]? = (c.pre.map (It.ren (nth σ)))[i]? := by rw [hpre]
  rw [List.getElem?_map, List.getElem?_map, ← hστ i hi', hj] at h1
  simp only [x6, b90]
  rw [b89 hi'] at h1 ⊢
  simpa using h1
 have hc1 : m7.ok P ⟨c.f, c.args, c.pre, c.post.map It.unK, c.res⟩ := m7.okPost hc _ fun ρ i => by rw [bL5 rfl, It.res_unK]
 have hll : (c.post.map It.unK).length = c.post.length := List.length_map It.unK
 refine bu1 M hop hg hc1 hf has (by simp only; rw [hll]) hσ hent hτ (by simp only; omega) hn ?_ (by simp only; rw [hll]; exact hres) hargs hSpre _ ?_ hi
 ·simp only
  rw [hll, List.all_map]
  refine b93.2 fun x hx => ?_
  simp only [Function.comp, It.ids_unK]
  exact b93.1 hpost x hx
 ·funext j
  rw [ax5 hn (fun i j p x h1 h2 h3 hk => ?_) j]
  ·simp only [List.map_map]
   congr 3
   funext x
   exact It.unK_ren _ x
  ·have hlt : i < c.pre.length := (b96.1 h2).1
   rw [hSpre i j hlt h1]
   rw [List.getElem?_map] at h3
   cases hx : c.post[i]? with
   | none => rw [hx] at h3; simp at h3
   | some y =>
    rw [hx] at h3
    simp at h3
    subst h3
    have hk2 : aM4 p y = true := by
     cases p <;> cases y <;> first | exact hk | (simp [aM4, It.ren] at hk; done)
    have := aY9 hsame h2 hx hk2
    rw [show x6 c.pre i = p by simp [x6, b90, h2], this, It.unK_ren]
end
def A9 : List (Nat × AV) → Nat → Option AV
 | [], _ => none
 | (k, x) :: r, t => if natEq t k then some x else A9 r t
abbrev rg (n : Nat) : List Nat := ca2 n
theorem dFf {p : Prop} [Decidable p] (h : decide p = false) : ¬ p := of_decide_eq_false h
theorem dTt {p : Prop} [Decidable p] (h : decide p = true) : p := of_decide_eq_true h
def us : List (Nat × Nat × Nat) → List (Nat × Nat)
 | [] => []
 | (a, b, k) :: r => ((ca2 (b + 1 - a)).map fun i => (a + i, k)) ++ us r
structure T4 where
 calls : List (Nat × m7 × List Nat)
 facts : List (Bool × Bool)
 uses : List (Nat × Nat)
def M9 : List (Nat × m7 × List Nat) → Nat → Option (m7 × List Nat)
 | [], _ => none
 | (k, x) :: r, i => if natEq i k then some x else M9 r i
def b08 : List (Nat × Nat) → Nat → Option Nat
 | [], _ => none
 | (k, x) :: r, i => if natEq i k then some x else b08 r i
def bn6 (H : T4) (i : Nat) : Option (Bool × Bool) := (b08 H.uses i).bind fun k => H.facts[k]?
def S9 : List (Bool × Bool) → Prop
 | [] => True
 | p :: r => p.1 = p.2 ∧ S9 r
theorem a76 : ∀ {l : List (Bool × Bool)} {k : Nat} {p : Bool × Bool}, S9 l → l[k]? = some p → p.1 = p.2
 | [], _, _, _, h => by simp at h
 | q :: r, 0, p, hf, h => by simp at h; subst h; exact hf.1
 | q :: r, k + 1, p, hf, h => a76 hf.2 (by simpa using h)
theorem a66 {H : T4} (hF : S9 H.facts) {i : Nat} {p : Bool × Bool} (h : bn6 H i = some p) : p.1 = p.2 := by
 obtain ⟨k, _, h2⟩ := Option.bind_eq_some_iff.1 h
 exact a76 hF h2
def opT (op : Op) : List Nat := op.operands.toList.filterMap fun | .tmp t => some t | _ => none
def rtm (tm : Nat → Option AV) (l : List Nat) : Nat → Option AV := fun t => if memN t l then tm t else none
def rS (S : Nat → It) (l : List Nat) : Nat → It := fun j => if memN j l then S j else .none
def X0 (tm : Nat → Option AV) (l : List Nat) : List Nat := (l.filterMap tm).flatMap AV.ids
def tch (tm : Nat → Option AV) (op : Op) : List Nat := match op with
 | .move _ => []
 | .store _ x _ => match ev (rtm tm (opT op)) x with
  | some (.ptr b _) => [b]
  | _ => X0 tm (opT op)
 | _ => X0 tm (opT op)
def wk (tm : Nat → Option AV) (op : Op) : List Nat := match op with
 | .store _ x _ => match ev (rtm tm (opT op)) x with
  | some (.ptr _ _) => X0 tm (opT op)
  | _ => []
 | _ => []
def aX6 (d : Option (Bool × Bool)) (e : Operand → Option AV) : Op → Option Tr
 | .pick c a b =>
  match d, e c with
  | some d, some (.v (.bool _)) => (e (if d.2 then a else b)).map fun r => ⟨[], [], r, []⟩
  | _, _ => none
 | _ => none
def aX7 (d : Option (Bool × Bool)) (e : Operand → Option AV) : Op → List (List AV × List It) × List (List AV × List It)
 | .pick c _ _ =>
  match d, e c with
  | some d, some x => ([([x], [])], [([.v (.bool d.1)], [])])
  | _, _ => ([], [])
 | _ => ([], [])
def aK5 (P : Program) (dk : TypeId → Nat) (H : T4) (tm : Nat → Option AV) (S : Nat → It) (id i : Nat) (op : Op) : Option Tr :=
 match M9 H.calls i with
 | some (c, τ) => aF9 P (ev (rtm tm (opT op))) (rS S (tch tm op ++ τ)) id c τ op
 | none =>
  match aX6 (bn6 H (i + 1000)) (ev (rtm tm (opT op))) op with
  | some r => some r
  | none => at8 P dk (ev (rtm tm (opT op))) (rS S (tch tm op ++ wk tm op)) id op
def be4 (H : T4) (tm : Nat → Option AV) (S : Nat → It) (id i : Nat) (op : Op) : List (List AV × List It) × List (List AV × List It) :=
 match M9 H.calls i with
 | some (c, τ) => aG0 (ev (rtm tm (opT op))) (rS S (tch tm op ++ τ)) id c τ op
 | none => aX7 (bn6 H (i + 1000)) (ev (rtm tm (opT op))) op
def aI0 (ops : List Oper) (H : T4) (tm : Nat → Option AV) (i : Nat) (o : Oper) : Option (Bool × List AV × List AV) :=
 match o.guard with
 | none => some (true, [], [])
 | some (j, want) =>
  match (ops[j]?).bind (·.dst) with
  | none => none
  | some t =>
   match tm t with
   | some (.v (.bool b)) => (bn6 H i).map fun d => (d.2 == want, [.v (.bool b)], [.v (.bool d.1)])
   | some (.v (.tuple _)) => some (false, [], [])
   | _ => none
def knd : It → Nat
 | .box _ => 1
 | .dat _ => 2
 | .row _ _ => 2
 | .tree _ => 3
 | _ => 0
theorem b05 (x : It) : itB x = natEq (knd x) 1 := by cases x <;> rfl
theorem bQ9 (x : It) : (itD x).isSome = natEq (knd x) 2 := by cases x <;> rfl
theorem b04 (x : It) : (itT x).isSome = natEq (knd x) 3 := by cases x <;> rfl
section
variable {S S' : Nat → It}
mutual
theorem U4 : ∀ {x : AV}, (∀ j ∈ x.ids, knd (S j) = knd (S' j)) → okc S x = okc S' x
 | .v _, _ => rfl
 | .ptr b _, h => by simp only [okc, b05]; rw [h b (by simp [AV.ids])]
 | .ea b _ _ _, h => by simp only [okc, bQ9]; rw [h b (by simp [AV.ids])]
 | .ref b, h => by simp only [okc, bQ9]; rw [h b (by simp [AV.ids])]
 | .fn _ l, h => by simp only [okc]; exact au5 fun j hj => h j (by simpa [AV.ids] using hj)
 | .bm _ l, h => by simp only [okc]; exact N5 fun j hj => h j (by simpa [AV.ids] using hj)
 | .tref b, h => by simp only [okc, b04]; rw [h b (by simp [AV.ids])]
 | .agg _, _ => rfl
 | .tup _, _ => rfl
theorem au5 : ∀ {l : List AV}, (∀ j ∈ AV.idsL l, knd (S j) = knd (S' j)) → aK6 S l = aK6 S' l
 | [], _ => rfl
 | x :: r, h => by
  simp only [aK6]
  rw [U4 (x := x) fun j hj => h j (by simp [AV.idsL, hj]), au5 (l := r) fun j hj => h j (by simp [AV.idsL, hj])]
theorem N5 : ∀ {l : List AV}, (∀ j ∈ AV.idsL l, knd (S j) = knd (S' j)) → Z8 S l = Z8 S' l
 | [], _ => rfl
 | .agg c :: r, h => by
  simp only [Z8]
  rw [au5 (l := c) fun j hj => h j (by simp [AV.idsL, AV.ids, hj]), N5 (l := r) fun j hj => h j (by simp [AV.idsL, hj])]
 | .v x :: r, h => by
  simp only [Z8]
  rw [U4 (x := .v x) fun j hj => h j (by simp [AV.idsL, hj]), N5 (l := r) fun j hj => h j (by simp [AV.idsL, hj])]
 | .ptr x y :: r, h => by
  simp only [Z8]
  rw [U4 (x := .ptr x y) fun j hj => h j (by simp [AV.idsL, hj]), N5 (l := r) fun j hj => h j (by simp [AV.idsL, hj])]
 | .ea x y z u :: r, h => by
  simp only [Z8]
  rw [U4 (x := .ea x y z u) fun j hj => h j (by simp [AV.idsL, hj]), N5 (l := r) fun j hj => h j (by simp [AV.idsL, hj])]
 | .ref x :: r, h => by
  simp only [Z8]
  rw [U4 (x := .ref x) fun j hj => h j (by simp [AV.idsL, hj]), N5 (l := r) fun j hj => h j (by simp [AV.idsL, hj])]
 | .fn x y :: r, h => by
  simp only [Z8]
  rw [U4 (x := .fn x y) fun j hj => h j (by simp [AV.idsL, hj]), N5 (l := r) fun j hj => h j (by simp [AV.idsL, hj])]
 | .bm x y :: r, h => by
  simp only [Z8]
  rw [U4 (x := .bm x y) fun j hj => h j (by simp [AV.idsL, hj]), N5 (l := r) fun j hj => h j (by simp [AV.idsL, hj])]
 | .tref x :: r, h => by
  simp only [Z8]
  rw [U4 (x := .tref x) fun j hj => h j (by simp [AV.idsL, hj]), N5 (l := r) fun j hj => h j (by simp [AV.idsL, hj])]
 | .tup x :: r, h => by
  simp only [Z8]
  rw [U4 (x := .tup x) fun j hj => h j (by simp [AV.idsL, hj]), N5 (l := r) fun j hj => h j (by simp [AV.idsL, hj])]
end
theorem bA8 {x : AV} (h : ∀ j ∈ x.ids, knd (S j) = knd (S' j)) : aD3 S x = aD3 S' x := by
 cases x <;> simp only [aD3]
 case agg l => exact au5 fun j hj => h j (by simpa [AV.ids] using hj)
 all_goals exact U4 h
theorem bq5 {tm : Nat → Option AV} {l : List Nat} {t : Nat} {y : AV} (ht : t ∈ l) (hy : tm t = some y) {j : Nat} (hj : j ∈ y.ids) : j ∈ X0 tm l := List.mem_flatMap.2 ⟨y, List.mem_filterMap.2 ⟨t, ht, hy⟩, hj⟩
theorem bx7 {P : Program} {dk : TypeId → Nat} {tm : Nat → Option AV} {op : Op} {id : Nat} (hs : ∀ j ∈ tch tm op, S' j = S j) (hk : ∀ j ∈ wk tm op, knd (S' j) = knd (S j)) : at8 P dk (ev (rtm tm (opT op))) (rS S' (tch tm op ++ wk tm op)) id op = at8 P dk (ev (rtm tm (opT op))) (rS S (tch tm op ++ wk tm op)) id op := by
 have plain : wk tm op = [] → at8 P dk (ev (rtm tm (opT op))) (rS S' (tch tm op ++ wk tm op)) id op = at8 P dk (ev (rtm tm (opT op))) (rS S (tch tm op ++ wk tm op)) id op := fun e => by
  rw [e, List.append_nil]
  have : rS S' (tch tm op) = rS S (tch tm op) := by
   funext j
   unfold rS
   split
   ·rename_i hm; exact hs j (t6.1 hm)
   ·rfl
  rw [this]
 cases op with
 | store t x y =>
  cases hx : ev (rtm tm (opT (.store t x y))) x with
  | none => exact plain (by simp only [wk, hx])
  | some v =>
   cases v with
   | ptr b off =>
    cases hy : ev (rtm tm (opT (.store t x y))) y with
    | none => simp only [at8, al0, hx, hy, ab4]
    | some u =>
     have e1 : tch tm (.store t x y) = [b] := by simp only [tch, hx]
     have e2 : wk tm (.store t x y) = X0 tm (opT (.store t x y)) := by simp only [wk, hx]
     rw [e1] at hs ⊢
     rw [e2] at hk ⊢
     have e3 : rS S' ([b] ++ X0 tm (opT (.store t x y))) b = rS S ([b] ++ X0 tm (opT (.store t x y))) b := by
      unfold rS
      split
      ·exact hs b (by simp)
      ·rfl
     have hyi : ∀ j ∈ u.ids, j ∈ X0 tm (opT (.store t x y)) := fun j hj => by
      cases y with
      | tmp s =>
       simp only [ev, rtm] at hy
       split at hy
       ·rename_i hm; exact bq5 (t6.1 hm) hy hj
       ·cases hy
      | const c => cases hy; simp [AV.ids, AV.idsL] at hj
      | global g => cases hy <;> simp [AV.ids, AV.idsL] at hj
      | func f => cases hy <;> simp [AV.ids, AV.idsL] at hj
     have e4 : aD3 (rS S' ([b] ++ X0 tm (opT (.store t x y)))) u = aD3 (rS S ([b] ++ X0 tm (opT (.store t x y)))) u := bA8 fun j hj => by
      unfold rS
      split
      ·rename_i hm
       rcases ca1.1 (t6.1 hm) with h | h
       ·rw [hs j h]
       ·exact hk j h
      ·rfl
     simp only [at8, ab4, al0, hx, hy, ad6, e3, e4]
   | _ => exact plain (by simp only [wk, hx])
 | _ => exact plain rfl
end
section
variable {P : Program} {ι : Type} {φ ψ : Nat → Prop} {w0 w w' : World} {F : ι → Rs} {ρ : Nat → Value} {S : Nat → It}
theorem aq1 {S S' : Nat → It} {j : Nat} (h : S j = S' j) : ∀ (l : List (Nat × It)), s7 S l j = s7 S' l j
 | [] => h
 | (k, x) :: r => by simp only [s7]; split; rfl; exact aq1 h r
theorem M8.frame {o : Oper} {g : Operand → Value} {t : Tr} (l : List Nat) (M : n6 φ ψ w0 w (t4 F ρ S)) (hi : Inv S ρ t.made) (hmk : ∀ j ∈ t.made, S j = .none) (hnew : ∀ j ∈ t.new.map (·.1), j ∈ l ∨ S j = .none)
  (h : ∀ {κ : Type} (F' : κ → Rs), n6 φ ψ w0 w (t4 F' ρ (rS S l)) → Inv (rS S l) ρ t.made → (∀ j ∈ t.made, rS S l j = .none) → M8 P o g w (K1 φ ψ w0 F' ρ (rS S l) t)) : M8 P o g w (K1 φ ψ w0 F ρ S t) := by
 let F' : ι ⊕ Nat → Rs := fun k => match k with | .inl i => F i | .inr j => if memN j l then Rs.none else (S j).res ρ j
 have M1 : n6 φ ψ w0 w (t4 F' ρ (rS S l)) := by
  refine M.map (fun k : (ι ⊕ Nat) ⊕ Nat => (match k with | .inl (.inl i) => some (.inl i) | .inl (.inr j) => if memN j l then none else some (.inr j) | .inr j => if memN j l then some (.inr j) else none : Option (ι ⊕ Nat))) ?_ ?_
  ·intro k k' x h1 h2
   match k, k' with
   | .inl (.inl i), .inl (.inl i') => simp at h1 h2; subst h1; simpa using h2.symm
   | .inl (.inl i), .inl (.inr j') => simp at h1; subst h1; simp at h2
   | .inl (.inl i), .inr j' => simp at h1; subst h1; simp at h2
   | .inl (.inr j), .inl (.inl i') => simp at h2; subst h2; simp at h1
   | .inr j, .inl (.inl i') => simp at h2; subst h2; simp at h1
   | .inl (.inr j), .inl (.inr j') => simp at h1 h2; rw [← h1.2] at h2; rw [Sum.inr.inj h2.2]
   | .inl (.inr j), .inr j' =>
    simp at h1 h2
    rw [← h1.2] at h2
    have := Sum.inr.inj h2.2
    subst this
    rw [h1.1] at h2; cases h2.1
   | .inr j, .inl (.inr j') =>
    simp at h1 h2
    rw [← h1.2] at h2
    have := Sum.inr.inj h2.2
    subst this
    rw [h1.1] at h2; cases h2.1
   | .inr j, .inr j' => simp at h1 h2; rw [← h1.2] at h2; rw [Sum.inr.inj h2.2]
  ·intro k
   match k with
   | .inl (.inl i) => exact .inl ⟨.inl i, rfl, rfl⟩
   | .inl (.inr j) =>
    cases hm : memN j l
    ·exact .inl ⟨.inr j, by simp [hm], by simp [t4, F', hm]⟩
    ·exact .inr (by simp [t4, F', hm])
   | .inr j =>
    cases hm : memN j l
    ·exact .inr (by simp [t4, rS, hm, It.res])
    ·exact .inl ⟨.inr j, by simp [hm], by simp [t4, rS, hm]⟩
 have hi1 : Inv (rS S l) ρ t.made := fun ρ' ha j => by
  unfold rS
  split
  ·exact hi ρ' ha j
  ·rfl
 refine (h F' M1 hi1 fun j hj => by unfold rS; split; exact hmk j hj; rfl).mono ?_
 rintro v w' ⟨ρ', ha, M2, rfl⟩
 refine ⟨ρ', ha, ?_, rfl⟩
 refine M2.map (fun k : ι ⊕ Nat => (match k with | .inl i => some (.inl (.inl i)) | .inr j => if memN j l || memN j (t.new.map (·.1)) then some (.inr j) else some (.inl (.inr j)) : Option ((ι ⊕ Nat) ⊕ Nat))) ?_ ?_
 ·intro k k' x h1 h2
  match k, k' with
  | .inl i, .inl i' => simp at h1 h2; rw [← h1] at h2; simpa using h2.symm
  | .inl i, .inr j => simp only at h1 h2; cases h1; split at h2 <;> simp at h2
  | .inr j, .inl i => simp only at h1 h2; cases h2; split at h1 <;> simp at h1
  | .inr j, .inr j' =>
   simp only at h1 h2
   split at h1 <;> split at h2 <;> simp at h1 h2 <;> subst h1 <;> simp at h2 <;> rw [h2]
 ·intro k
  match k with
  | .inl i => exact .inl ⟨_, rfl, rfl⟩
  | .inr j =>
   cases hc : (memN j l || memN j (t.new.map (·.1)))
   ·refine .inl ⟨.inl (.inr j), by simp only [hc]; rfl, ?_⟩
    simp only [Bool.or_eq_false_iff] at hc
    simp only [t4, F', hc.1]
    rw [at4 fun hh => by rw [t6.2 hh] at hc; cases hc.2]
    exact hi ρ' ha j
   ·refine .inl ⟨.inr j, by simp only [hc, if_true], ?_⟩
    simp only [t4]
    cases hm : memN j l
    ·rw [hm] at hc
     simp only [Bool.false_or] at hc
     rcases hnew j (t6.1 hc) with h1 | h1
     ·rw [t6.2 h1] at hm; cases hm
     ·rw [aq1 (S := rS S l) (S' := S) (by unfold rS; rw [hm, h1]; rfl)]
    ·rw [aq1 (S := rS S l) (S' := S) (by unfold rS; rw [hm]; rfl)]
theorem bg7 {tm : Nat → Option AV} {l : List Nat} {a : Act} {x : Operand} {v : AV} (ht : ∀ t y, t ∈ l → tm t = some y → a.tmps[t]? = some (y.val ρ)) (h : ev (rtm tm l) x = some v) : a.eval x = v.val ρ := by
 cases x with
 | tmp t =>
  simp only [ev, rtm] at h
  split at h
  ·rename_i hm
   have := ht t v (t6.1 hm) h
   simp [Act.eval, Array.getD_eq_getD_getElem?, this]
  ·cases h
 | const c => cases h; rfl
 | global g => cases h; rfl
 | func f => cases h; rfl
theorem bK5 (M : n6 φ ψ w0 w (t4 F ρ S)) {o : Oper} {e : Operand → Option AV} {g : Operand → Value} (hg : ∀ x, ∀ v, e x = some v → g x = v.val ρ) {d : Option (Bool × Bool)} {r : Tr} (h : aX6 d e o.op = some r) (hd : ∀ p, d = some p → p.1 = p.2) (he : (aX7 d e o.op).1 = (aX7 d e o.op).2) : M8 P o g w (K1 φ ψ w0 F ρ S r) := by
 cases hop : o.op <;> rw [hop] at h he <;> simp only [aX6] at h <;> first | cases h | skip
 rename_i c a b
 split at h
 case h_2 => cases h
 rename_i d' x hx
 obtain ⟨v, h1, h2⟩ := b92.1 h
 subst h2
 simp only [aX7, hx, List.cons.injEq, Prod.mk.injEq, and_true, AV.v.injEq, Value.bool.injEq] at he
 have hc := hg c _ hx
 have hv := hg _ _ h1
 have hx2 : x = d'.2 := he.trans (hd d' rfl)
 refine .inl ⟨v.val ρ, w, ?_, ρ, D7.refl _ _, M, rfl⟩
 simp only [execOp, hop, hc, AV.val, hx2]
 cases hdd : d'.2 <;> rw [hdd] at hv <;> simp [asBool] at hv ⊢ <;> exact hv
def bZ8 (l : List Nat) (made : List Nat) (t : Tr) : Bool := t.new.all fun p => memN p.1 l || memN p.1 made
theorem a50 (M : n6 φ ψ w0 w (t4 F ρ S)) {dk : TypeId → Nat} {H : T4} (hH : ∀ i c τ, M9 H.calls i = some (c, τ) → c.ok P) (hF : S9 H.facts) {tm : Nat → Option AV} {a : Act} {o : Oper} (ht : ∀ t y, t ∈ opT o.op → tm t = some y → a.tmps[t]? = some (y.val ρ)) {id i : Nat} {r : Tr} (h : aK5 P dk H tm S id i o.op = some r) (ho : w9 r.obs) (he : (be4 H tm S id i o.op).1 = (be4 H tm S id i o.op).2) (hmk : ∀ j ∈ r.made, S j = .none) (hi : Inv S ρ r.made)
  (hnew : ∀ j ∈ r.new.map (·.1), j ∈ tch tm o.op ++ (match M9 H.calls i with | some (_, τ) => τ | none => []) ∨ j ∈ r.made) :
  M8 P o a.eval w (K1 φ ψ w0 F ρ S r) := by
 unfold aK5 at h
 unfold be4 at he
 split at h
 ·rename_i c τ hcl
  rw [hcl] at hnew he
  refine M8.frame (tch tm o.op ++ τ) M hi hmk (fun j hj => (hnew j hj).imp (fun h => h) (hmk j)) fun F' M' hi' hmk' => ?_
  exact bO2 M' (e := ev (rtm tm (opT o.op))) (fun x _ v hv => bg7 ht hv) (hH i c τ hcl) h he hmk' hi'
 ·rename_i hcl
  rw [hcl] at hnew he
  refine M8.frame (tch tm o.op ++ wk tm o.op) M hi hmk (fun j hj => (hnew j hj).imp (fun h => List.mem_append_left _ (by simpa using h)) (hmk j)) fun F' M' hi' hmk' => ?_
  split at h
  ·rename_i q hq
   cases h
   exact bK5 M' (e := ev (rtm tm (opT o.op))) (fun x v hv => bg7 ht hv) hq (fun p hp => a66 hF hp) he
  ·exact bx8 M' (e := ev (rtm tm (opT o.op))) (fun x _ v hv => bg7 ht hv) h ho hmk' hi'
theorem at3 {ops : List Oper} {H : T4} (hF : S9 H.facts) {tm : Nat → Option AV} {i : Nat} {o : Oper} {a : Act} {b : Bool} {l r : List AV} (h : aI0 ops H tm i o = some (b, l, r)) (ho : l = r)
  (ht : ∀ t y, (∃ j wnt, o.guard = some (j, wnt) ∧ (ops[j]?).bind (·.dst) = some t) → tm t = some y → a.tmps[t]? = some (y.val ρ)) : Region.wanted o (yielded ops.toArray a.tmps) = b := by
 unfold aI0 at h
 unfold Region.wanted
 cases hg : o.guard with
 | none => rw [hg] at h; cases h; rfl
 | some q =>
  obtain ⟨j, want⟩ := q
  rw [hg] at h
  simp only at h ⊢
  split at h
  case h_1 => cases h
  rename_i t hd
  have hy : ∀ y, tm t = some y → a.tmps[t]? = some (y.val ρ) := fun y hy => ht t y ⟨j, want, hg, hd⟩ hy
  unfold yielded
  rw [show ((ops.toArray[j]?).bind (·.dst)).bind (a.tmps[·]?) = a.tmps[t]? by simp only [List.getElem?_toArray, hd]; rfl]
  split at h
  ·rename_i x b' hb
   rw [hy _ hb]
   obtain ⟨d, h1, h2⟩ := b92.1 h
   cases h2
   simp only [List.cons.injEq, AV.v.injEq, Value.bool.injEq, and_true] at ho
   simp only [AV.val]
   rw [ho, a66 hF h1]
   rfl
  ·rename_i x b' hb
   rw [hy _ hb]
   cases h
   rfl
  ·cases h
end
structure Ac where
 dst : Option Nat
 t : Tr
 want : Bool
 rt : List Nat
 ri : List Nat
 eqs : List (List AV × List It) × List (List AV × List It)
 eqw : List AV × List AV
 rk : List Nat
def bT8 : Tr := ⟨[], [], .v undef, []⟩
def bd7 (dst : Option Nat) (x : AV) (tm : List (Nat × AV)) : List (Nat × AV) :=
 match dst with
 | some d => (d, x) :: tm
 | none => tm
def aP5 (dst : Option Nat) (x : AV) (tm : Nat → Option AV) : Nat → Option AV := fun t => if dst = some t then some x else tm t
def bE5 (N : Nat) (dst : Option Nat) : Bool := match dst with | some d => decide (d < N) | none => true
def a73 (n : Nat) (t : Tr) : Bool :=
 t.new.all (fun p => decide (p.1 < n + 8) && al1 (n + 8) p.2.ids) && t.made.all (fun j => decide (n ≤ j) && decide (j < n + 8)) && al1 (n + 8) t.res.ids
def aZ2 (ops : List Oper) (o : Oper) : List Nat :=
 match o.guard with
 | some (j, _) => ((ops[j]?).bind (·.dst)).toList
 | none => []
def bp1 (H : T4) (i : Nat) : List Nat := match M9 H.calls i with
 | some (_, τ) => τ
 | none => []
def opA (P : Program) (dk : TypeId → Nat) (N : Nat) (ops : List Oper) (H : T4) (i : Nat) (o : Oper) (tm : Nat → Option AV) (S : Nat → It) (n : Nat) : Option (Ac × List Prop) :=
 if bE5 N o.dst then
  match aI0 ops H tm i o with
  | none => none
  | some (false, l, r) => some (⟨o.dst, bT8, false, aZ2 ops o, [], ([], []), (l, r), []⟩, [])
  | some (true, l, r) =>
   match aK5 P dk H tm S n i o.op with
   | none => none
   | some t =>
    if a73 n t && bZ8 (tch tm o.op ++ bp1 H i) t.made t then some (⟨o.dst, t, true, opT o.op ++ aZ2 ops o, tch tm o.op ++ bp1 H i, be4 H tm S n i o.op, (l, r), wk tm o.op⟩, t.obs) else none
 else none
structure RS where
 acts : List Ac
 obs : List Prop
 tm : List (Nat × AV)
 S : Nat → It
def X9 (P : Program) (dk : TypeId → Nat) (N : Nat) (ops : List Oper) (H : T4) : List Oper → Nat → List (Nat × AV) → (Nat → It) → Nat → Option RS
 | [], _, tm, S, _ => some ⟨[], [], tm, S⟩
 | o :: r, i, tm, S, n =>
  match opA P dk N ops H i o (A9 tm) S n with
  | none => none
  | some (a, ob) =>
   match X9 P dk N ops H r (i + 1) (bd7 a.dst a.t.res tm) (s7 S a.t.new) (n + 8) with
   | none => none
   | some s => some ⟨a :: s.acts, ob ++ s.obs, s.tm, s.S⟩
section
variable {P : Program} {ι : Type} {φ ψ : Nat → Prop} {w0 w w' : World} {F : ι → Rs} {ρ : Nat → Value} {S : Nat → It} {N m n : Nat} {ρ0 : Nat → Value}
structure Inn (φ ψ : Nat → Prop) (w0 : World) (F : ι → Rs) (N m : Nat) (ρ0 : Nat → Value) (n : Nat) (ρ : Nat → Value) (tm : Nat → Option AV) (S : Nat → It) (a : Act) (w : World) : Prop where
 size : a.tmps.size = N
 defs : a.defers = []
 tmv : ∀ t x, tm t = some x → a.tmps[t]? = some (x.val ρ)
 tmi : ∀ t x, tm t = some x → ∀ id ∈ x.ids, id < n
 bd : ∀ j, (∀ id ∈ (S j).ids, id < n) ∧ (n ≤ j → S j = .none)
 mem : n6 φ ψ w0 w (t4 F ρ S)
 le : m ≤ n
 old : ∀ i, i < m → ρ i = ρ0 i
theorem Inn.inv {tm : Nat → Option AV} {a : Act} (I : Inn φ ψ w0 F N m ρ0 n ρ tm S a w) {mk : List Nat} (h : ∀ j ∈ mk, n ≤ j) : Inv S ρ mk := fun ρ' ha j => by
 have hlt : ∀ id, id < n → ρ' id = ρ id := fun id hid => ha id fun hm => by have := h id hm; omega
 refine It.res_congr _ (fun id hid => hlt id ((I.bd j).1 id hid)) ?_
 rcases ca8 j n with hj | hj
 ·exact .inr (.inr (hlt j hj))
 ·exact .inl ((I.bd j).2 hj)
theorem aT1 {dst : Option Nat} {x : AV} {tm : List (Nat × AV)} : A9 (bd7 dst x tm) = aP5 dst x (A9 tm) := by
 funext t
 cases dst with
 | none => simp [bd7, aP5]
 | some d =>
  simp only [bd7, A9, aP5, natEq]
  by_cases h : t = d
  ·subst h; simp
  ·simp [h, Ne.symm h]
theorem ag9 {t : Tr} (h : a73 n t = true) : (∀ p ∈ t.new, p.1 < n + 8 ∧ ∀ id ∈ p.2.ids, id < n + 8) ∧ (∀ j ∈ t.made, n ≤ j ∧ j < n + 8) ∧ ∀ id ∈ t.res.ids, id < n + 8 := by
 simp only [a73, b85] at h
 refine ⟨fun p hp => ?_, fun j hj => ?_, Q4 h.2⟩
 ·have := b93.1 h.1.1 p hp
  simp only [b85, decide_eq_true_eq] at this
  exact ⟨this.1, Q4 this.2⟩
 ·have := b93.1 h.1.2 j hj
  simpa using this
theorem bI3 {l : List (Nat × It)} {m : Nat} (hS : ∀ j, (∀ id ∈ (S j).ids, id < m) ∧ (m ≤ j → S j = .none)) (h : ∀ p ∈ l, p.1 < m ∧ ∀ id ∈ p.2.ids, id < m) : ∀ j, (∀ id ∈ (s7 S l j).ids, id < m) ∧ (m ≤ j → s7 S l j = .none) := by
 induction l with
 | nil => exact hS
 | cons p r ih =>
  obtain ⟨k, x⟩ := p
  intro j
  have hp := h (k, x) ca6
  simp only at hp
  simp only [s7]
  by_cases e : j = k
  ·rw [if_pos e]
   exact ⟨hp.2, fun hm => by omega⟩
  ·rw [if_neg e]
   exact ih (fun p hp => h p (ca9 _ hp)) j
theorem a42 (a : Act) (dst : Option Nat) (v : Value) : (a.put dst v).tmps.size = a.tmps.size := by cases dst <;> simp [Act.put]
theorem a43 (a : Act) (dst : Option Nat) (v : Value) : (a.put dst v).defers = a.defers := by cases dst <;> simp [Act.put]
theorem bA0 {a : Act} {dst : Option Nat} {v : Value} {t : Nat} (h : bE5 a.tmps.size dst = true) : (a.put dst v).tmps[t]? = if dst = some t then some v else a.tmps[t]? := by
 cases dst with
 | none => simp [Act.put]
 | some d =>
  have hd : d < a.tmps.size := by simpa [bE5] using h
  simp only [Act.put, Option.some.injEq]
  rw [Array.getElem?_setIfInBounds]
  by_cases e : d = t
  ·subst e; simp [hd]
  ·simp [e]
theorem Inn.next {tm : Nat → Option AV} {a : Act} (I : Inn φ ψ w0 F N m ρ0 n ρ tm S a w) {t : Tr} {dst : Option Nat} (hd : bE5 N dst = true) (hf : a73 n t = true) {ρ' : Nat → Value} (ha : D7 t.made ρ ρ') (M : n6 φ ψ w0 w' (t4 F ρ' (s7 S t.new))) :
  Inn φ ψ w0 F N m ρ0 (n + 8) ρ' (aP5 dst t.res tm) (s7 S t.new) (a.put dst (t.res.val ρ')) w' := by
 obtain ⟨h1, h2, h3⟩ := ag9 hf
 have hlt : ∀ id, id < n → ρ' id = ρ id := fun id hid => ha id fun hm => by have := (h2 id hm).1; omega
 refine ⟨(a42 _ _ _).trans I.size, (a43 _ _ _).trans I.defs, fun s x hx => ?_, fun s x hx => ?_, bI3 (fun j => ⟨fun id hid => by have := (I.bd j).1 id hid; omega, fun hj => (I.bd j).2 (by omega)⟩) h1, M, by have := I.le; omega, fun i hi => (hlt i (by have := I.le; omega)).trans (I.old i hi)⟩
 ·rw [bA0 (by rw [I.size]; exact hd)]
  simp only [aP5] at hx
  split
  ·rename_i e; rw [if_pos e] at hx; cases hx; rfl
  ·rename_i e
   rw [if_neg e] at hx
   rw [I.tmv s x hx, AV.val_congr x fun id hid => hlt id (I.tmi s x hx id hid)]
 ·simp only [aP5] at hx
  split at hx
  ·cases hx; exact h3
  ·intro id hid; have := I.tmi s x hx id hid; omega
theorem bT2 {dk : TypeId → Nat} {H : T4} (hH : ∀ i c τ, M9 H.calls i = some (c, τ) → c.ok P) (hF : S9 H.facts) {ops : List Oper} {i : Nat} {o : Oper} {tm : Nat → Option AV} {a : Act} (I : Inn φ ψ w0 F N m ρ0 n ρ tm S a w) {ac : Ac} {obs : List Prop} (h : opA P dk N ops H i o tm S n = some (ac, obs)) (ho : w9 obs) (he : ac.eqs.1 = ac.eqs.2) (hw' : ac.eqw.1 = ac.eqw.2)
  {Q : Exit → Act → World → Prop} {rest : List Oper} (hk : ∀ ρ' w', D7 ac.t.made ρ ρ' → n6 φ ψ w0 w' (t4 F ρ' (s7 S ac.t.new)) → wpList P ops.toArray Q rest (a.put o.dst (ac.t.res.val ρ')) w') : wpList P ops.toArray Q (o :: rest) a w := by
 unfold opA at h
 split at h
 case isFalse => cases h
 rename_i hd
 split at h
 case h_1 => cases h
 ·rename_i l r hw
  cases h
  refine bl1 (at3 (ρ := ρ) hF hw hw' fun t y _ hy => I.tmv t y hy) ?_
  exact hk ρ w (D7.refl _ _) (by simpa [bT8, s7] using I.mem)
 ·rename_i l r hw
  split at h
  case h_1 => cases h
  rename_i t ht
  split at h
  case isFalse => cases h
  rename_i hf
  cases h
  simp only [b85] at hf
  obtain ⟨h1, h2, h3⟩ := ag9 hf.1
  refine M8.wp (at3 (ρ := ρ) hF hw hw' fun t y _ hy => I.tmv t y hy) ?_
  refine (a50 I.mem hH hF (fun t y _ hy => I.tmv t y hy) ht ho he (fun j hj => (I.bd j).2 (h2 j hj).1) (I.inv fun j hj => (h2 j hj).1) (fun j hj => ?_)).mono ?_
  ·obtain ⟨p, hp, rfl⟩ := List.mem_map.1 hj
   have := b93.1 hf.2 p hp
   simp only [cc4] at this
   exact this.imp t6.1 t6.1
  ·rintro v w' ⟨ρ', p1, p2, rfl⟩
   exact hk ρ' w' p1 p2
theorem aY0 {dk : TypeId → Nat} {H : T4} {ops : List Oper} {i : Nat} {o : Oper} {tm : Nat → Option AV} {ac : Ac} {obs : List Prop} (h : opA P dk N ops H i o tm S n = some (ac, obs)) : ac.dst = o.dst ∧ bE5 N o.dst = true ∧ a73 n ac.t = true := by
 unfold opA at h
 split at h
 case isFalse => cases h
 rename_i hd
 split at h
 case h_1 => cases h
 ·cases h; exact ⟨rfl, hd, rfl⟩
 ·split at h
  case h_1 => cases h
  split at h
  case isFalse => cases h
  rename_i hf
  cases h
  simp only [b85] at hf
  exact ⟨rfl, hd, hf.1⟩
theorem bl5 {dk : TypeId → Nat} {H : T4} (hH : ∀ i c τ, M9 H.calls i = some (c, τ) → c.ok P) (hF : S9 H.facts) {ops : List Oper} {Q : Exit → Act → World → Prop} : ∀ (l : List Oper) (i n : Nat) {tm : List (Nat × AV)} {S : Nat → It} {ρ : Nat → Value} {a : Act} {w : World} {r : RS}, Inn φ ψ w0 F N m ρ0 n ρ (A9 tm) S a w → X9 P dk N ops H l i tm S n = some r → w9 r.obs → r.acts.map (·.eqs.1) = r.acts.map (·.eqs.2) → r.acts.map (·.eqw.1) = r.acts.map (·.eqw.2) →
  (∀ ρ' a' w' n', Inn φ ψ w0 F N m ρ0 n' ρ' (A9 r.tm) r.S a' w' → Q .normal a' w') → wpList P ops.toArray Q l a w
 | [], i, n, tm, S, ρ, a, w, r, I, h, _, _, _, hk => by cases h; exact hk _ _ _ _ I
 | o :: l, i, n, tm, S, ρ, a, w, r, I, h, ho, he, hw', hk => by
  simp only [X9] at h
  split at h
  case h_1 => cases h
  rename_i ac ob h1
  split at h
  case h_1 => cases h
  rename_i s h2
  cases h
  simp only [w9.append] at ho
  simp only [cc2, List.cons.injEq] at he hw'
  obtain ⟨q1, q2, q3⟩ := aY0 h1
  refine bT2 hH hF I h1 ho.1 he.1 hw'.1 fun ρ' w' ha M => ?_
  have I' : Inn φ ψ w0 F N m ρ0 (n + 8) ρ' (A9 (bd7 ac.dst ac.t.res tm)) (s7 S ac.t.new) (a.put o.dst (ac.t.res.val ρ')) w' := by
   rw [aT1, q1]
   exact I.next q2 q3 ha M
  exact bl5 hH hF l (i + 1) (n + 8) I' h2 ho.2 he.2 hw'.2 hk
end
section
variable {P : Program}
structure ae8 (wr w : World) (S : Nat → Prop) : Prop where
 below : Below wr.heap.size wr w
 box : ∀ b, S b → wr.heap.size ≤ b ∧ b < w.heap.size
theorem ae8.start (w : World) : ae8 w w.drew fun _ => False := ⟨(Below.refl _ _).drew, fun _ h => h.elim⟩
theorem ae8.call {wr w w' : World} {S : Nat → Prop} (h : ae8 wr w S) (b : Below w.heap.size w w') : ae8 wr w' S := ⟨h.below.trans (b.mono h.below.size), fun c hc => ⟨(h.box c hc).1, cd2 (h.box c hc).2 b.size⟩⟩
theorem ae8.new {wr w w' : World} {S : Nat → Prop} (h : ae8 wr w S) (b : Below w.heap.size w w') (hs : w.heap.size < w'.heap.size) : ae8 wr w' fun c => S c ∨ c = w.heap.size :=
 ⟨h.below.trans (b.mono h.below.size), fun c hc => by
  rcases hc with hc | rfl
  ·exact ⟨(h.box c hc).1, cd2 (h.box c hc).2 b.size⟩
  ·exact ⟨h.below.size, hs⟩⟩
def RF (φ S : Nat → Prop) (b : Nat) : Prop := φ b ∧ ¬ S b
theorem ae8.fresh {wr w : World} {S φ : Nat → Prop} (h : ae8 wr w S) (hf : ∀ b, wr.heap.size ≤ b → φ b) : ∀ b, w.heap.size ≤ b → RF φ S b := fun b hb => ⟨hf b (cb5 h.below.size hb), fun hs => by have := (h.box b hs).2; omega⟩
theorem ae8.old {wr w : World} {S φ : Nat → Prop} (h : ae8 wr w S) {R : World → (Nat → Prop) → Prop} (hn : ah6 R) (hr : R wr φ) : R w (RF φ S) :=
 hn _ _ _ _ ⟨h.below.size, fun b hb hf => ⟨⟨hf, fun hs => by have := (h.box b hs).1; omega⟩, h.below.block b hb⟩⟩ hr
end
theorem C1.region {φ ψ : Nat → Prop} {w0 wr w : World} {L : List Res} {S : Nat → Prop} (M : C1 φ ψ w0 wr L) (hg : ae8 wr w S) {g : Nat} {cs : List Value} (hb : H7 w g cs) (hs : S g) : C1 φ ψ w0 w (L ++ [.box g cs]) :=
 M.add hg.below _ hb fun g' h => by cases h; exact (hg.box _ hs).1
theorem RF.app {φ S : Nat → Prop} {L : List Res} {b : Nat} (h : RF (Fr φ L) S b) (X : List Res) (hX : ∀ r ∈ X, ∀ g, r.blk g → S g) : Fr φ (L ++ X) b :=
 ⟨h.1.1, fun r hr he => by
  rcases ca1.1 hr with hr | hr
  ·exact h.1.2 r hr he
  ·exact h.2 (hX r hr b he)⟩
section
variable {P : Program}
def am4 (ops : Array Oper) : Bool := (ca2 ops.size).all fun j => (ops[j]?).any fun o => o.after.all fun e => !Region.binds .any e || decide (e.on < j)
theorem aO9 {ops : Array Oper} (hb : am4 ops = true) {k : Nat} {o : Oper} (hk : k < ops.size) (ho : ops[k]? = some o) {e : Edge} (he : e ∈ o.after) (hbi : Region.binds .any e = true) : e.on < k := by
 have h1 := b93.1 hb k (cc6.2 hk)
 rw [ho] at h1
 simp only [Option.any_some] at h1
 have h2 := Array.all_eq_true'.1 h1 e he
 rw [hbi] at h2
 simpa using h2
theorem a29 {ops : Array Oper} (hb : am4 ops = true) {listed : Array Bool} (hsz : listed.size = ops.size) : ∀ k, k < ops.size → listed.getD k true = false → Region.ready .any ops listed ≠ [] := by
 intro k
 induction k using Nat.strongRecOn with
 | _ k ih =>
  intro hk hl hn
  by_cases hall : ∃ j, j < k ∧ listed.getD j true = false
  ·obtain ⟨j, hj, hlj⟩ := hall
   exact ih j hj (by omega) hlj hn
  ·have hok : ops[k]? = some ops[k] := Array.getElem?_eq_getElem hk
   have : k ∈ Region.ready .any ops listed := by
    refine mem_ready.2 ⟨hl, ops[k], hok, fun e he hbi => ?_⟩
    have h2 := aO9 hb hk hok he hbi
    cases h3 : listed.getD e.on true
    ·exact absurd ⟨e.on, h2, h3⟩ hall
    ·have : e.on < listed.size := by omega
     simp [this] at h3 ⊢
     exact h3
   rw [hn] at this
   cases this
theorem bn7 {a : Array Bool} {j : Nat} (h : j < a.size) : a.getD j true = a.getD j false := by simp [h]
end
def pf {β : Type} (wr : Ac → Option β) : List Ac → Nat → (Nat → Bool) → β → β
 | [], _, _, v => v
 | a :: r, k, B, v => pf wr r (k + 1) B (match wr a with | some x => if B k then x else v | none => v)
theorem V1 {β : Type} {wr : Ac → Option β} {B B' : Nat → Bool} : ∀ {az : List Ac} {k : Nat} {v : β}, (∀ j a, az[j]? = some a → (wr a).isSome = true → B (k + j) = B' (k + j)) → pf wr az k B v = pf wr az k B' v
 | [], _, _, _ => rfl
 | a :: r, k, v, h => by
  simp only [pf]
  have h0 := h 0 a rfl
  have hr : ∀ j b, r[j]? = some b → (wr b).isSome = true → B (k + 1 + j) = B' (k + 1 + j) := fun j b hb hw => by
   have := h (j + 1) b (by simpa using hb) hw
   rw [show k + (j + 1) = k + 1 + j by omega] at this; exact this
  cases hw : wr a with
  | none => exact V1 hr
  | some x =>
   rw [hw] at h0
   simp only [cc8, Option.isSome_some, forall_const] at h0
   rw [h0]
   exact V1 hr
theorem ab5 {β : Type} {wr : Ac → Option β} {B : Nat → Bool} : ∀ {az : List Ac} {k : Nat} {v : β}, (∀ j a, az[j]? = some a → (wr a).isSome = true → B (k + j) = false) → pf wr az k B v = v
 | [], _, _, _ => rfl
 | a :: r, k, v, h => by
  simp only [pf]
  have h0 := h 0 a rfl
  have hr : ∀ j b, r[j]? = some b → (wr b).isSome = true → B (k + 1 + j) = false := fun j b hb hw => by
   have := h (j + 1) b (by simpa using hb) hw
   rw [show k + (j + 1) = k + 1 + j by omega] at this; exact this
  rw [ab5 hr]
  cases hw : wr a with
  | none => rfl
  | some x =>
   rw [hw] at h0
   simp only [cc8, Option.isSome_some, forall_const] at h0
   simp [h0]
theorem aX8 {β : Type} {wr : Ac → Option β} {B : Nat → Bool} : ∀ {az : List Ac} {k i : Nat} {v x : β} {a : Ac}, az[i]? = some a → wr a = some x → B (k + i) = true → (∀ j b, i < j → az[j]? = some b → (wr b).isSome = true → B (k + j) = false) → pf wr az k B v = x
 | [], _, _, _, _, _, h, _, _, _ => by simp at h
 | b :: r, k, 0, v, x, a, h, hw, hB, hn => by
  simp at h; subst h
  simp only [pf, hw]
  rw [cc8] at hB
  rw [hB, if_pos rfl]
  refine ab5 fun j c hc hs => ?_
  have := hn (j + 1) c (by omega) (by simpa using hc) hs
  rw [show k + (j + 1) = k + 1 + j by omega] at this; exact this
 | b :: r, k, i + 1, v, x, a, h, hw, hB, hn => by
  simp only [pf]
  refine aX8 (i := i) (by simpa using h) hw (by rw [show k + 1 + i = k + (i + 1) by omega]; exact hB) fun j c hj hc hs => ?_
  have := hn (j + 1) c (by omega) (by simpa using hc) hs
  rw [show k + (j + 1) = k + 1 + j by omega] at this; exact this
theorem au3 {β : Type} {wr : Ac → Option β} {B : Nat → Bool} (p : β → Prop) : ∀ {az : List Ac} {k : Nat} {v : β}, p v → (∀ j a x, az[j]? = some a → B (k + j) = true → wr a = some x → p x) → p (pf wr az k B v)
 | [], _, _, h, _ => h
 | a :: r, k, v, h, hs => by
  simp only [pf]
  refine au3 p ?_ fun j b x hb hB hw => hs (j + 1) b x (by simpa using hb) (by rw [show k + (j + 1) = k + 1 + j by omega]; exact hB) hw
  cases hw : wr a with
  | none => exact h
  | some x =>
   simp only
   split
   ·rename_i hB; exact hs 0 a x rfl (by simpa using hB) hw
   ·exact h
def aN6 : List (Nat × It) → Nat → Option It
 | [], _ => none
 | (k, x) :: r, i => if i = k then some x else aN6 r i
theorem ax6 (S : Nat → It) (i : Nat) : ∀ (l : List (Nat × It)), s7 S l i = match aN6 l i with | some x => x | none => S i
 | [] => rfl
 | (k, x) :: r => by simp only [s7, aN6]; split; rfl; exact ax6 S i r
theorem U1 {l : List (Nat × It)} {i : Nat} {x : It} (h : aN6 l i = some x) : (i, x) ∈ l := by
 induction l with
 | nil => cases h
 | cons p r ih =>
  obtain ⟨k, y⟩ := p
  simp only [aN6] at h
  split at h
  ·rename_i e; cases h; rw [e]; exact ca6
  ·exact ca9 _ (ih h)
def wrT (t : Nat) (a : Ac) : Option (Option AV) := if a.dst = some t then some (some a.t.res) else none
def wrS (i : Nat) (a : Ac) : Option It := aN6 a.t.new i
def tmD (az : List Ac) (B : Nat → Bool) (tm : Nat → Option AV) : Nat → Option AV := fun t => pf (wrT t) az 0 B (tm t)
def sD (az : List Ac) (B : Nat → Bool) (S : Nat → It) : Nat → It := fun i => pf (wrS i) az 0 B (S i)
def bef (ms : List Nat) (j i : Nat) : Bool := (nth ms i).testBit j
def bf0 (ms : List Nat) (o : Oper) : Nat := o.after.foldl (fun s e => if Region.binds .any e then s ||| (2 ^ e.on ||| nth ms e.on) else s) 0
def aY3 (ms : List Nat) (l : List Oper) : Bool := (ca2 l.length).all fun i => match l[i]? with | some o => natEq (nth ms i) (bf0 ms o) | none => false
def ai0 (a b : Ac) : Bool :=
 (match b.dst with | some t => memN t a.rt || (match a.dst with | some s => natEq s t | none => false) | none => false) ||
 b.t.new.any (fun p => memN p.1 a.ri || a.t.new.any fun q => natEq q.1 p.1)
def bS9 (ms : List Nat) (az : List Ac) : Bool :=
 (ca2 az.length).all fun i => (ca2 az.length).all fun j =>
  match az[i]?, az[j]? with
  | some a, some b => natEq i j || !ai0 a b || (if decide (j < i) then bef ms j i else bef ms i j)
  | _, _ => false
def bM1 (S : Nat → It) (az : List Ac) (j : Nat) : Nat := match az.findSome? (wrS j) with
 | some x => knd x
 | none => knd (S j)
def bw4 (ms : List Nat) (S : Nat → It) (az : List Ac) : Bool :=
 (ca2 az.length).all fun i =>
  match az[i]? with
  | some a => a.rk.all fun j => az.all (fun b => match wrS j b with | some x => natEq (knd x) (bM1 S az j) | none => true) && (natEq (knd (S j)) (bM1 S az j) || (ca2 i).any fun k => bef ms k i && match az[k]? with | some b => (wrS j b).isSome | none => false)
  | none => true
theorem bl7 {β : Type} {wr : Ac → Option β} {B : Nat → Bool} (p : β → Prop) : ∀ {az : List Ac} {k : Nat} {v : β}, (∀ (j : Nat) (a : Ac) (x : β), az[j]? = some a → wr a = some x → p x) → (p v ∨ ∃ (j : Nat) (a : Ac), az[j]? = some a ∧ (wr a).isSome = true ∧ B (k + j) = true) → p (pf wr az k B v)
 | [], _, _, _, h => by rcases h with h | ⟨j, a, h, _⟩; exact h; simp at h
 | a :: r, k, v, hs, h => by
  simp only [pf]
  refine bl7 p (fun j b x hb => hs (j + 1) b x (by simpa using hb)) ?_
  rcases h with h | ⟨j, b, h1, h2, h3⟩
  ·left
   cases hw : wr a with
   | none => exact h
   | some x =>
    simp only
    split
    ·exact hs 0 a x rfl hw
    ·exact h
  ·cases j with
   | zero =>
    left
    simp at h1; subst h1
    obtain ⟨x, hx⟩ := cd0.1 h2
    rw [hx]
    rw [cc8] at h3
    simp only [h3, if_true]
    exact hs 0 _ x rfl hx
   | succ j =>
    right
    exact ⟨j, b, by simpa using h1, h2, by rw [show k + 1 + j = k + (j + 1) by omega]; exact h3⟩
theorem bk5 {ms : List Nat} {S : Nat → It} {az : List Ac} (h : bw4 ms S az = true) {i : Nat} {a : Ac} (ha : az[i]? = some a) {j : Nat} (hj : j ∈ a.rk) {B : Nat → Bool} (hB : ∀ k, k < i → bef ms k i = true → B k = true) : knd (pf (wrS j) az 0 B (S j)) = bM1 S az j := by
 have hi := (b96.1 ha).1
 have h1 := b93.1 h i (cc6.2 hi)
 rw [ha] at h1
 have h2 := b93.1 h1 j hj
 simp only [b85, cc4] at h2
 refine bl7 (fun x => knd x = bM1 S az j) (fun q b x hb hx => ?_) ?_
 ·have := b93.1 h2.1 b (ca7 hb)
  rw [hx] at this
  simpa [natEq] using this
 ·rcases h2.2 with h3 | h3
  ·left; simpa [natEq] using h3
  ·right
   obtain ⟨k, hk, h4⟩ := List.any_eq_true.1 h3
   rw [cc6] at hk
   simp only [b85] at h4
   cases hb : az[k]? with
   | none => rw [hb] at h4; cases h4.2
   | some b =>
    rw [hb] at h4
    exact ⟨k, b, hb, h4.2, by rw [cc3]; exact hB k hk h4.1⟩
def bB7 (ms : List Nat) (n0 : Nat) (az : List Ac) : Bool :=
 (ca2 az.length).all fun i =>
  match az[i]? with
  | some a => (a.t.res.ids ++ a.t.new.map (·.1) ++ a.t.new.flatMap (fun p => p.2.ids)).all fun id => decide (id < n0) || natEq ((id - n0) / 8) i || bef ms ((id - n0) / 8) i
  | none => false
section
variable {P : Program} {ι : Type} {φ ψ : Nat → Prop} {w0 w w' : World} {F : ι → Rs} {ρ : Nat → Value} {S : Nat → It} {N n : Nat}
theorem ar5 {α β : Type} {f g : α → Option β} : ∀ {l : List α}, (∀ x ∈ l, f x = g x) → l.filterMap f = l.filterMap g
 | [], _ => rfl
 | a :: r, h => by rw [List.filterMap_cons, List.filterMap_cons, h a ca6, ar5 fun x hx => h x (ca9 _ hx)]
theorem aB2 {ops : List Oper} {H : T4} {tm tm' : Nat → Option AV} {i : Nat} {o : Oper} (h : ∀ t ∈ aZ2 ops o, tm' t = tm t) : aI0 ops H tm' i o = aI0 ops H tm i o := by
 unfold aI0
 unfold aZ2 at h
 cases hg : o.guard with
 | none => rfl
 | some q =>
  obtain ⟨j, want⟩ := q
  rw [hg] at h
  simp only at h ⊢
  cases hd : (ops[j]?).bind (·.dst) with
  | none => rfl
  | some t =>
   rw [hd] at h
   simp only at h ⊢
   rw [h t (by simp)]
theorem br7 {dk : TypeId → Nat} {H : T4} {ops : List Oper} {i : Nat} {o : Oper} {tm tm' : Nat → Option AV} {S S' : Nat → It} {ac : Ac} {ob : List Prop} (h : opA P dk N ops H i o tm S n = some (ac, ob)) (ht : ∀ t ∈ ac.rt, tm' t = tm t) (hs : ∀ j ∈ ac.ri, S' j = S j) (hk : ∀ j ∈ ac.rk, knd (S' j) = knd (S j)) : opA P dk N ops H i o tm' S' n = some (ac, ob) := by
 unfold opA at h ⊢
 split at h
 case isFalse => cases h
 rename_i hd
 rw [if_pos hd]
 cases hw : aI0 ops H tm i o with
 | none => rw [hw] at h; cases h
 | some q =>
  obtain ⟨b, lq, rq⟩ := q
  rw [hw] at h
  cases b
  ·simp only at h
   cases h
   rw [aB2 (tm := tm) ht, hw]
  ·simp only at h
   cases hr : aK5 P dk H tm S n i o.op with
   | none => rw [hr] at h; cases h
   | some t =>
    rw [hr] at h
    simp only at h
    split at h
    case isFalse => cases h
    rename_i hf
    cases h
    simp only at ht hs hk
    rw [aB2 (tm := tm) fun t ht' => ht t (List.mem_append_right _ ht'), hw]
    have e1 : rtm tm' (opT o.op) = rtm tm (opT o.op) := by
     funext t
     unfold rtm
     split
     ·rename_i hm; exact ht t (List.mem_append_left _ (t6.1 hm))
     ·rfl
    have e2 : tch tm' o.op = tch tm o.op := by
     have e9 : X0 tm' (opT o.op) = X0 tm (opT o.op) := by
      unfold X0
      congr 1
      exact ar5 fun t ht' => ht t (List.mem_append_left _ ht')
     cases ho' : o.op <;> simp only [tch] <;> rw [← ho'] <;> first | rw [e1, e9] | exact e9
    have e8 : wk tm' o.op = wk tm o.op := by
     have e9 : X0 tm' (opT o.op) = X0 tm (opT o.op) := by
      unfold X0
      congr 1
      exact ar5 fun t ht' => ht t (List.mem_append_left _ ht')
     cases ho' : o.op <;> simp only [wk] <;> rw [← ho', e1, e9]
    have e3 : aK5 P dk H tm' S' n i o.op = aK5 P dk H tm S n i o.op := by
     unfold aK5
     cases hc : M9 H.calls i with
     | none =>
      simp only
      rw [e1, e2, e8, bx7 (fun j hj => hs j (List.mem_append_left _ hj)) hk]
     | some q =>
      obtain ⟨c, τ⟩ := q
      simp only
      rw [e1, e2]
      congr 1
      funext j
      unfold rS
      split
      ·rename_i hm
       refine hs j ?_
       unfold bp1
       rw [hc]; exact t6.1 hm
      ·rfl
    have e4 : be4 H tm' S' n i o.op = be4 H tm S n i o.op := by
     unfold be4
     cases hc : M9 H.calls i with
     | none => simp only; rw [e1]
     | some q =>
      obtain ⟨c, τ⟩ := q
      simp only
      rw [e1, e2]
      congr 1
      funext j
      unfold rS
      split
      ·rename_i hm
       refine hs j ?_
       unfold bp1
       rw [hc]; exact t6.1 hm
      ·rfl
    rw [e3, hr, e4]
    simp only
    rw [e2, e8, if_pos hf]
theorem bK8 {dk : TypeId → Nat} {H : T4} (hH : ∀ i c τ, M9 H.calls i = some (c, τ) → c.ok P) (hF : S9 H.facts) {ops : List Oper} {i : Nat} {o : Oper} {tm : Nat → Option AV} {a : Act} (hv : ∀ t x, tm t = some x → a.tmps[t]? = some (x.val ρ)) (M : n6 φ ψ w0 w (t4 F ρ S)) {ac : Ac} {obs : List Prop} (h : opA P dk N ops H i o tm S n = some (ac, obs)) (ho : w9 obs) (he : ac.eqs.1 = ac.eqs.2) (hw' : ac.eqw.1 = ac.eqw.2)
  (hmk : ∀ j ∈ ac.t.made, S j = .none) (hi : Inv S ρ ac.t.made)
  {Q : Exit → Act → World → Prop} {rest : List Oper} (hk : ∀ ρ' w', D7 ac.t.made ρ ρ' → n6 φ ψ w0 w' (t4 F ρ' (s7 S ac.t.new)) → wpList P ops.toArray Q rest (a.put o.dst (ac.t.res.val ρ')) w') : wpList P ops.toArray Q (o :: rest) a w := by
 unfold opA at h
 split at h
 case isFalse => cases h
 rename_i hd
 split at h
 case h_1 => cases h
 ·rename_i l r hw
  cases h
  refine bl1 (at3 (ρ := ρ) hF hw hw' fun t y _ hy => hv t y hy) ?_
  exact hk ρ w (D7.refl _ _) (by simpa [bT8, s7] using M)
 ·rename_i l r hw
  split at h
  case h_1 => cases h
  rename_i t ht
  split at h
  case isFalse => cases h
  rename_i hf
  cases h
  simp only [b85] at hf
  refine M8.wp (at3 (ρ := ρ) hF hw hw' fun t y _ hy => hv t y hy) ?_
  refine (a50 M hH hF (fun t y _ hy => hv t y hy) ht ho he hmk hi (fun j hj => ?_)).mono ?_
  ·obtain ⟨p, hp, rfl⟩ := List.mem_map.1 hj
   have := b93.1 hf.2 p hp
   simp only [cc4] at this
   exact this.imp t6.1 t6.1
  ·rintro v w' ⟨ρ', p1, p2, rfl⟩
   exact hk ρ' w' p1 p2
theorem bl6 {dk : TypeId → Nat} {H : T4} {ops : List Oper} : ∀ (l : List Oper) (i n : Nat) {tm : List (Nat × AV)} {S : Nat → It} {r : RS}, X9 P dk N ops H l i tm S n = some r → w9 r.obs →
  r.acts.length = l.length ∧ (∀ t, A9 r.tm t = pf (wrT t) r.acts i (fun _ => true) (A9 tm t)) ∧ (∀ j, r.S j = pf (wrS j) r.acts i (fun _ => true) (S j)) ∧
  ∀ k o, l[k]? = some o → ∃ ac ob, r.acts[k]? = some ac ∧ w9 ob ∧ opA P dk N ops H (i + k) o (fun t => pf (wrT t) r.acts i (fun j => decide (j < i + k)) (A9 tm t)) (fun j => pf (wrS j) r.acts i (fun q => decide (q < i + k)) (S j)) (n + 8 * k) = some (ac, ob)
 | [], i, n, tm, S, r, h, _ => by cases h; exact ⟨rfl, fun _ => rfl, fun _ => rfl, fun k o h => by simp at h⟩
 | o :: l, i, n, tm, S, r, h, ho => by
  simp only [X9] at h
  split at h
  case h_1 => cases h
  rename_i ac ob h1
  split at h
  case h_1 => cases h
  rename_i s h2
  cases h
  simp only [w9.append] at ho
  obtain ⟨k1, k2, k3, k4⟩ := bl6 l (i + 1) (n + 8) h2 ho.2
  have eT : ∀ t, A9 (bd7 ac.dst ac.t.res tm) t = match wrT t ac with | some x => x | none => A9 tm t := fun t => by
   rw [aT1]
   simp only [aP5, wrT]
   split <;> rfl
  have eS : ∀ j, s7 S ac.t.new j = match wrS j ac with | some x => x | none => S j := fun j => ax6 S j _
  refine ⟨by simp [k1], fun t => ?_, fun j => ?_, fun k o' hk => ?_⟩
  ·rw [k2 t, eT]; simp only [pf]; cases wrT t ac <;> rfl
  ·rw [k3 j, eS]; simp only [pf]; cases wrS j ac <;> rfl
  ·cases k with
   | zero =>
    simp at hk; subst hk
    refine ⟨ac, ob, rfl, ho.1, ?_⟩
    have e1 : (fun t => pf (wrT t) (ac :: s.acts) i (fun j => decide (j < i + 0)) (A9 tm t)) = A9 tm := by
     funext t; exact ab5 fun j a _ _ => by simp
    have e2 : (fun j => pf (wrS j) (ac :: s.acts) i (fun q => decide (q < i + 0)) (S j)) = S := by
     funext j; exact ab5 fun j a _ _ => by simp
    rw [e1, e2]; exact h1
   | succ k =>
    obtain ⟨ac', ob', m1, m2, m3⟩ := k4 k o' (by simpa using hk)
    refine ⟨ac', ob', by simpa using m1, m2, ?_⟩
    have hi : decide (i < i + (k + 1)) = true := by simp
    have e1 : (fun t => pf (wrT t) (ac :: s.acts) i (fun j => decide (j < i + (k + 1))) (A9 tm t)) = fun t => pf (wrT t) s.acts (i + 1) (fun j => decide (j < i + 1 + k)) (A9 (bd7 ac.dst ac.t.res tm) t) := by
     funext t
     rw [eT]
     simp only [pf, hi, if_true]
     rw [show i + (k + 1) = i + 1 + k by omega]
     cases wrT t ac <;> rfl
    have e2 : (fun j => pf (wrS j) (ac :: s.acts) i (fun q => decide (q < i + (k + 1))) (S j)) = fun j => pf (wrS j) s.acts (i + 1) (fun q => decide (q < i + 1 + k)) (s7 S ac.t.new j) := by
     funext j
     rw [eS]
     simp only [pf, hi, if_true]
     rw [show i + (k + 1) = i + 1 + k by omega]
     cases wrS j ac <;> rfl
    rw [e1, e2, show i + (k + 1) = i + 1 + k by omega, show n + 8 * (k + 1) = n + 8 + 8 * k by omega]
    exact m3
def bI0 (l : List Oper) (B : Nat → Bool) : Prop := ∀ j o, l[j]? = some o → B j = true → ∀ e ∈ o.after, Region.binds .any e = true → B e.on = true
theorem aL3 {ms : List Nat} {o : Oper} {j : Nat} (h : (bf0 ms o).testBit j = true) : ∃ e ∈ o.after, Region.binds .any e = true ∧ (e.on = j ∨ bef ms j e.on = true) := by
 unfold bf0 at h
 rw [← Array.foldl_toList] at h
 have key : ∀ (es : List Edge) (s : Nat), (es.foldl (fun s e => if Region.binds .any e then s ||| (2 ^ e.on ||| nth ms e.on) else s) s).testBit j = true → s.testBit j = true ∨ ∃ e ∈ es, Region.binds .any e = true ∧ (e.on = j ∨ bef ms j e.on = true) := by
  intro es
  induction es with
  | nil => intro s h; exact .inl h
  | cons e r ih =>
   intro s h
   simp only [List.foldl_cons] at h
   rcases ih _ h with h1 | ⟨e', he', h2⟩
   ·split at h1
    ·rename_i hb
     simp only [Nat.testBit_or, cc4, Nat.testBit_two_pow, decide_eq_true_eq] at h1
     rcases h1 with h1 | h1 | h1
     ·exact .inl h1
     ·exact .inr ⟨e, ca6, hb, .inl h1⟩
     ·exact .inr ⟨e, ca6, hb, .inr h1⟩
    ·exact .inl h1
   ·exact .inr ⟨e', ca9 _ he', h2⟩
 rcases key _ _ h with h1 | ⟨e, he, h2⟩
 ·simp at h1
 ·exact ⟨e, by simpa using he, h2⟩
theorem aO8 {ms : List Nat} {l : List Oper} (hm : aY3 ms l = true) (hb : am4 l.toArray = true) {B : Nat → Bool} (hc : bI0 l B) : ∀ i, i < l.length → B i = true → ∀ j, bef ms j i = true → B j = true := by
 intro i
 induction i using Nat.strongRecOn with
 | _ i ih =>
  intro hi hB j hj
  have h1 := b93.1 hm i (cc6.2 hi)
  rw [b89 hi] at h1
  simp only [natEq, beq_iff_eq] at h1
  unfold bef at hj
  rw [h1] at hj
  obtain ⟨e, he, h2, h3⟩ := aL3 hj
  have h4 := hc i _ (b89 hi) hB e he h2
  have h5 := aO9 hb (show i < l.toArray.size by simpa using hi) (show l.toArray[i]? = some l[i] by simp [hi]) he h2
  rcases h3 with rfl | h3
  ·exact h4
  ·exact ih e.on h5 (by omega) h4 j h3
theorem bv6 {ms : List Nat} {l : List Oper} (hm : aY3 ms l = true) (hb : am4 l.toArray = true) {B : Nat → Bool} (hc : bI0 l B) {i : Nat} {o : Oper} (ho : l[i]? = some o) (hr : ∀ e ∈ o.after, Region.binds .any e = true → B e.on = true) {j : Nat} (hj : bef ms j i = true) : B j = true := by
 have hi := (b96.1 ho).1
 have h1 := b93.1 hm i (cc6.2 hi)
 rw [ho] at h1
 simp only [natEq, beq_iff_eq] at h1
 unfold bef at hj
 rw [h1] at hj
 obtain ⟨e, he, h2, h3⟩ := aL3 hj
 have h5 := aO9 hb (show i < l.toArray.size by simpa using hi) (show l.toArray[i]? = some o by simpa using ho) he h2
 rcases h3 with rfl | h3
 ·exact hr e he h2
 ·exact aO8 hm hb hc e.on (by omega) (hr e he h2) j h3
end
section
variable {P : Program} {ι : Type} {φ ψ : Nat → Prop} {w0 w w' : World} {F : ι → Rs} {ρ : Nat → Value} {S : Nat → It} {N m n : Nat} {ρ0 : Nat → Value}
theorem bb6 {l : List Oper} {Q : Exit → Act → World → Prop} (I : Array Bool → Act → World → Prop) (hb : am4 l.toArray = true)
  (step : ∀ listed a w, I listed a w → ∀ i o, l[i]? = some o → listed.getD i true = false → (∀ e ∈ o.after, Region.binds .any e = true → listed.getD e.on false = true) →
   ∀ Q' : Exit → Act → World → Prop, (∀ a w, I (listed.setIfInBounds i true) a w → Q' .normal a w) → wpList P l.toArray Q' [o] a w)
  (done : ∀ listed a w, I listed a w → (∀ j, j < l.length → listed.getD j true = true) → Q .normal a w) :
  ∀ (fuel : Nat) (listed : Array Bool) (a : Act) (w : World), listed.size = l.toArray.size → listed.toList.count false = fuel → I listed a w → wpAny P .any l.toArray Q fuel listed a w := by
 have hfin : ∀ (listed : Array Bool) (a : Act) (w : World), listed.size = l.toArray.size → Region.ready .any l.toArray listed = [] → I listed a w → Q .normal a w := by
  intro listed a w hsz hr hI
  refine done listed a w hI fun j hj => ?_
  cases hl : listed.getD j true
  ·exact absurd hr (a29 hb hsz j (by simpa using hj) hl)
  ·rfl
 intro fuel
 induction fuel with
 | zero =>
  intro listed a w hsz hc hI
  have hr : Region.ready .any l.toArray listed = [] := by
   rw [List.eq_nil_iff_forall_not_mem]
   intro j hj
   have := Y2 (mem_ready.1 hj).1
   omega
  exact ⟨hr, hfin listed a w hsz hr hI⟩
 | succ f ih =>
  intro listed a w hsz hc hI
  refine ⟨fun hr => hfin listed a w hsz hr hI, fun i hi => ?_⟩
  obtain ⟨h1, o, ho, h2⟩ := mem_ready.1 hi
  have ho' : l[i]? = some o := by simpa using ho
  have hcl := Y2 h1
  have hs := step listed a w hI i o ho' h1 h2 (fun e a w => e = .normal ∧ I (listed.setIfInBounds i true) a w) fun a w h => ⟨rfl, h⟩
  unfold wpOp
  rw [ho]
  simp only
  unfold wpList at hs
  split
  ·rename_i hw
   rw [if_pos hw] at hs
   rcases hs with hs | ⟨_, a, w, he, _⟩
   ·exact .inl (bq2 (fun _ _ _ h => h.1) (Oper.wp_mono (fun a' w' h => ih _ a' w' (by simpa using hsz) (by omega) h.2) hs))
   ·cases he
  ·rename_i hw
   rw [if_neg hw] at hs
   exact ih _ _ _ (by simpa using hsz) (by omega) hs.2
theorem aH9 {id : Nat} {l : List Oper} {Q : Exit → Act → World → Prop} {a : Act} {w : World} (I : Array Bool → Act → World → Prop) (hm : P.follows .mixedOrders = true) (hb : am4 l.toArray = true)
  (h0 : I (cb8 l.length false) a w.drew)
  (step : ∀ listed a w, I listed a w → ∀ i o, l[i]? = some o → listed.getD i true = false → (∀ e ∈ o.after, Region.binds .any e = true → listed.getD e.on false = true) →
   ∀ Q' : Exit → Act → World → Prop, (∀ a w, I (listed.setIfInBounds i true) a w → Q' .normal a w) → wpList P l.toArray Q' [o] a w)
  (done : ∀ listed a w, I listed a w → (∀ j, j < l.length → listed.getD j true = true) → Q .normal a w) : (Code.region id l.toArray true).wp P Q a w :=
 wp_region_any hm (bb6 I hb step done _ _ _ _ (by simp) (by simp) (by simpa using h0))
def RI (φ ψ : Nat → Prop) (w0 : World) (F : ι → Rs) (N m : Nat) (ρ0 : Nat → Value) (l : List Oper) (az : List Ac) (tm : Nat → Option AV) (S : Nat → It) (listed : Array Bool) (a : Act) (w : World) : Prop :=
 listed.size = l.length ∧ bI0 l (fun j => listed.getD j false) ∧ ∃ ρ, (∀ i, i < m → ρ i = ρ0 i) ∧ a.tmps.size = N ∧ a.defers = [] ∧ (∀ t x, tmD az (fun j => listed.getD j false) tm t = some x → a.tmps[t]? = some (x.val ρ)) ∧ n6 φ ψ w0 w (t4 F ρ (sD az (fun j => listed.getD j false) S))
theorem be3 {ms : List Nat} {az : List Ac} (h : bS9 ms az = true) {i j : Nat} {a b : Ac} (ha : az[i]? = some a) (hb : az[j]? = some b) (hij : i ≠ j) (hm : ai0 a b = true) : (j < i → bef ms j i = true) ∧ (i < j → bef ms i j = true) := by
 have hi := (b96.1 ha).1
 have hj := (b96.1 hb).1
 have h1 := b93.1 (b93.1 h i (cc6.2 hi)) j (cc6.2 hj)
 rw [ha, hb] at h1
 have hne : natEq i j = false := by simp [natEq, hij]
 simp only [hne, hm, Bool.not_true, Bool.false_or] at h1
 constructor
 ·intro hlt; rw [if_pos (by simpa using hlt)] at h1; exact h1
 ·intro hlt; rw [if_neg (by simp; omega)] at h1; exact h1
theorem bm7 {ms : List Nat} {n0 : Nat} {az : List Ac} (h : bB7 ms n0 az = true) {i : Nat} {a : Ac} (ha : az[i]? = some a) : ∀ id, (id ∈ a.t.res.ids ∨ id ∈ a.t.new.map (·.1) ∨ ∃ p ∈ a.t.new, id ∈ p.2.ids) → id < n0 ∨ (id - n0) / 8 = i ∨ bef ms ((id - n0) / 8) i = true := by
 intro id hid
 have hi := (b96.1 ha).1
 have h1 := b93.1 h i (cc6.2 hi)
 rw [ha] at h1
 have h2 := b93.1 h1 id (by
  rcases hid with h | h | ⟨p, hp, h⟩
  ·exact List.mem_append_left _ (List.mem_append_left _ h)
  ·exact List.mem_append_left _ (List.mem_append_right _ h)
  ·exact List.mem_append_right _ (List.mem_flatMap.2 ⟨p, hp, h⟩))
 simp only [cc4, decide_eq_true_eq, natEq, beq_iff_eq] at h2
 rcases h2 with (h2 | h2) | h2
 ·exact .inl h2
 ·exact .inr (.inl h2)
 ·exact .inr (.inr h2)
theorem aV3 {dk : TypeId → Nat} {H : T4} (hH : ∀ i c τ, M9 H.calls i = some (c, τ) → c.ok P) (hF : S9 H.facts) {l : List Oper} {id : Nat} {Q : Exit → Act → World → Prop} {tm : List (Nat × AV)} {a : Act} {wr : World} (I0 : Inn φ ψ w0 F N m ρ0 n ρ (A9 tm) S a wr) {r : RS} (hrun : X9 P dk N l H l 0 tm S n = some r) (ho : w9 r.obs) (heq : r.acts.map (·.eqs.1) = r.acts.map (·.eqs.2)) (hew : r.acts.map (·.eqw.1) = r.acts.map (·.eqw.2))
  (ms : List Nat) (hm : P.follows .mixedOrders = true) (hb : am4 l.toArray = true) (hms : aY3 ms l = true) (hord : bS9 ms r.acts = true) (hment : bB7 ms n r.acts = true) (hweak : bw4 ms S r.acts = true)
  (done : ∀ ρ' a' w' n', Inn φ ψ w0 F N m ρ0 n' ρ' (A9 r.tm) r.S a' w' → Q .normal a' w') : (Code.region id l.toArray true).wp P Q a wr := by
 obtain ⟨hlen, hfT, hfS, hat⟩ := bl6 l 0 n hrun ho
 have hmt : ∀ (i : Nat) ac, r.acts[i]? = some ac → ∀ t b, b.dst = some t → t ∈ ac.rt → ai0 ac b = true := fun i ac _ t b hb ht => by
  simp [ai0, hb, t6.2 ht]
 have hmd : ∀ ac b t, ac.dst = some t → b.dst = some t → ai0 ac b = true := fun ac b t h1 h2 => by
  simp [ai0, h1, h2, natEq]
 have hms' : ∀ (ac b : Ac) (j : Nat), j ∈ ac.ri → j ∈ b.t.new.map (·.1) → ai0 ac b = true := fun ac b j h1 h2 => by
  obtain ⟨p, hp, rfl⟩ := List.mem_map.1 h2
  unfold ai0
  have : b.t.new.any (fun p => memN p.1 ac.ri || ac.t.new.any fun q => natEq q.1 p.1) = true := List.any_eq_true.2 ⟨p, hp, by simp [t6.2 h1]⟩
  rw [this]; simp
 have hmn : ∀ (ac b : Ac) (j : Nat), j ∈ ac.t.new.map (·.1) → j ∈ b.t.new.map (·.1) → ai0 ac b = true := fun ac b j h1 h2 => by
  obtain ⟨p, hp, rfl⟩ := List.mem_map.1 h2
  obtain ⟨q, hq, e⟩ := List.mem_map.1 h1
  unfold ai0
  have : b.t.new.any (fun p => memN p.1 ac.ri || ac.t.new.any fun q => natEq q.1 p.1) = true := List.any_eq_true.2 ⟨p, hp, by
   have : ac.t.new.any (fun q => natEq q.1 p.1) = true := List.any_eq_true.2 ⟨q, hq, by simp [natEq, e]⟩
   rw [this]; simp⟩
  rw [this]; simp
 refine aH9 (RI φ ψ w0 F N m ρ0 l r.acts (A9 tm) S) hm hb ?_ ?_ ?_
 ·refine ⟨by simp, fun j o _ hj => ?_, ρ, I0.old, I0.size, I0.defs, fun t x hx => ?_, ?_⟩
  ·have hj' : (cb8 l.length false).getD j false = true := hj
   rw [getD_replicate_false] at hj'; cases hj'
  ·refine I0.tmv t x ?_
   rw [← hx]
   exact (ab5 fun j b _ _ => getD_replicate_false _ _).symm
  ·have e : sD r.acts (fun j => (cb8 l.length false).getD j false) S = S := by
    funext j; exact ab5 fun j b _ _ => getD_replicate_false _ _
   rw [e]; exact I0.mem.drew
 ·rintro listed a w ⟨hsz, hdn, ρ, hold, hN, hdf, hv, M⟩ i o hoi hun hdep Q' hQ
  generalize hB : (fun j => listed.getD j false) = B at *
  have hBj : ∀ j, B j = listed.getD j false := fun j => by rw [← hB]
  have hil := (b96.1 hoi).1
  have hBi : B i = false := by
   rw [hBj, ← bn7 (by omega)]; exact hun
  obtain ⟨ac, ob, hac, hob, hop⟩ := hat i o hoi
  simp only [cc3] at hop
  have heqi : ac.eqs.1 = ac.eqs.2 := by
   have := congrArg (·[i]?) heq
   simpa [hac] using this
  have hewi : ac.eqw.1 = ac.eqw.2 := by
   have := congrArg (·[i]?) hew
   simpa [hac] using this
  obtain ⟨hdst, hdN, hfine⟩ := aY0 hop
  obtain ⟨hf1, hf2, hf3⟩ := ag9 hfine
  have hdep' : ∀ e ∈ o.after, Region.binds .any e = true → B e.on = true := fun e he hbi => by rw [hBj]; exact hdep e he hbi
  have ahead : ∀ j, bef ms j i = true → B j = true := fun j hj => bv6 hms hb hdn hoi hdep' hj
  have behind : ∀ j, j < l.length → bef ms i j = true → B j = false := fun j hjl hj => by
   cases h : B j
   ·rfl
   ·have := aO8 hms hb hdn j hjl h i hj
    rw [hBi] at this; cases this
  have hagree : ∀ (j : Nat) b, r.acts[j]? = some b → ai0 ac b = true → B j = decide (j < i) := fun j b hj hmm => by
   have hjl : j < l.length := by have := (b96.1 hj).1; omega
   rcases Nat.lt_trichotomy j i with h | h | h
   ·rw [ahead j ((be3 hord hac hj (by omega) hmm).1 h)]; simp [h]
   ·subst h; rw [hBi]; simp
   ·rw [behind j hjl ((be3 hord hac hj (by omega) hmm).2 h)]
    have : ¬ j < i := by omega
    simp [this]
  have hop2 := br7 hop (tm' := tmD r.acts B (A9 tm)) (S' := sD r.acts B S) (fun t ht => V1 fun j b hj hw => by
    rw [cc3]
    refine hagree j b hj (hmt i ac hac t b ?_ ht)
    unfold wrT at hw
    split at hw
    ·assumption
    ·cases hw)
   (fun q hq => V1 fun j b hj hw => by
    rw [cc3]
    obtain ⟨x, hx⟩ := cd0.1 hw
    exact hagree j b hj (hms' ac b q hq (List.mem_map.2 ⟨_, U1 hx, rfl⟩)))
   (fun q hq => by
    show knd (pf (wrS q) r.acts 0 B (S q)) = _
    rw [bk5 hweak hac hq fun k _ hk => ahead k hk, bk5 hweak hac hq fun k hk _ => by simpa using hk])
  have hrange : ∀ id, n + 8 * i ≤ id → id < n + 8 * i + 8 → (id - n) / 8 = i := fun id h1 h2 => by omega
  have hmk : ∀ j ∈ ac.t.made, sD r.acts B S j = .none := fun j hj => by
   obtain ⟨g1, g2⟩ := hf2 j hj
   have e : sD r.acts B S j = S j := ab5 fun k b hk hw => by
    rw [cc3]
    obtain ⟨x, hx⟩ := cd0.1 hw
    have hkl : k < l.length := by have := (b96.1 hk).1; omega
    rcases bm7 hment hk j (.inr (.inl (List.mem_map.2 ⟨_, U1 hx, rfl⟩))) with h | h | h
    ·omega
    ·rw [hrange j g1 g2] at h; subst h; exact hBi
    ·rw [hrange j g1 g2] at h; exact behind k hkl h
   rw [e]; exact (I0.bd j).2 (by omega)
  have hnot : ∀ (k : Nat) b, r.acts[k]? = some b → B k = true → ∀ id, (id ∈ b.t.res.ids ∨ id ∈ b.t.new.map (·.1) ∨ ∃ p ∈ b.t.new, id ∈ p.2.ids) → id ∉ ac.t.made := fun k b hk hBk id hid hm => by
   obtain ⟨g1, g2⟩ := hf2 id hm
   have hkl : k < l.length := by have := (b96.1 hk).1; omega
   rcases bm7 hment hk id hid with h | h | h
   ·omega
   ·rw [hrange id g1 g2] at h; subst h; rw [hBi] at hBk; cases hBk
   ·rw [hrange id g1 g2] at h; rw [behind k hkl h] at hBk; cases hBk
  have hitem : ∀ j, ∀ id ∈ (sD r.acts B S j).ids, id ∉ ac.t.made := fun j => by
   refine au3 (fun x : It => ∀ id ∈ x.ids, id ∉ ac.t.made) (fun id hid hm => ?_) fun k b x hk hBk hw id hid => ?_
   ·have := (I0.bd j).1 id hid; have := (hf2 id hm).1; omega
   ·rw [cc3] at hBk
    exact hnot k b hk hBk id (.inr (.inr ⟨_, U1 hw, hid⟩))
  have htm : ∀ t x, tmD r.acts B (A9 tm) t = some x → ∀ id ∈ x.ids, id ∉ ac.t.made := fun t => by
   refine au3 (fun y : Option AV => ∀ x, y = some x → ∀ id ∈ x.ids, id ∉ ac.t.made) (fun x hx id hid hm => ?_) fun k b y hk hBk hw x hx id hid => ?_
   ·have := I0.tmi t x hx id hid; have := (hf2 id hm).1; omega
   ·rw [cc3] at hBk
    unfold wrT at hw
    split at hw
    ·cases hw; cases hx
     exact hnot k b hk hBk id (.inl hid)
    ·cases hw
  have hinv : Inv (sD r.acts B S) ρ ac.t.made := fun ρ' ha j => by
   refine It.res_congr _ (fun id hid => ha id (hitem j id hid)) ?_
   by_cases hj : j ∈ ac.t.made
   ·exact .inl (hmk j hj)
   ·exact .inr (.inr (ha j hj))
  refine bK8 hH hF hv M hop2 hob heqi hewi hmk hinv fun ρ' w' ha M' => ?_
  refine hQ _ _ ?_
  have hB' : ∀ j, (listed.setIfInBounds i true).getD j false = if j = i then true else B j := fun j => by
   by_cases e : j = i
   ·subst e
    have : j < listed.size := by omega
    simp [this]
   ·rw [if_neg e, getD_set_ne false (fun h => e h.symm), hBj]
  have hBe : (fun j => (listed.setIfInBounds i true).getD j false) = fun j => if j = i then true else B j := funext hB'
  have later : ∀ (j : Nat) b, i < j → r.acts[j]? = some b → ai0 ac b = true → (if j = i then true else B j) = false := fun j b hij hj hmm => by
   have hjl : j < l.length := by have := (b96.1 hj).1; omega
   rw [if_neg (by omega)]
   exact behind j hjl ((be3 hord hac hj (by omega) hmm).2 hij)
  have eT : tmD r.acts (fun j => if j = i then true else B j) (A9 tm) = aP5 ac.dst ac.t.res (tmD r.acts B (A9 tm)) := by
   funext t
   simp only [aP5]
   by_cases e : ac.dst = some t
   ·rw [if_pos e]
    refine aX8 (i := i) hac (by simp [wrT, e]) (by simp) fun j b hij hj hw => ?_
    rw [cc3]
    refine later j b hij hj (hmd ac b t e ?_)
    unfold wrT at hw
    split at hw
    ·assumption
    ·cases hw
   ·rw [if_neg e]
    refine V1 fun j b hj hw => ?_
    have : j ≠ i := fun h => by
     subst h
     rw [hac] at hj; cases hj
     simp [wrT, e] at hw
    simp [this]
  have eS : sD r.acts (fun j => if j = i then true else B j) S = s7 (sD r.acts B S) ac.t.new := by
   funext q
   rw [ax6]
   cases hx : aN6 ac.t.new q with
   | some x =>
    refine aX8 (i := i) hac hx (by simp) fun j b hij hj hw => ?_
    rw [cc3]
    obtain ⟨y, hy⟩ := cd0.1 hw
    exact later j b hij hj (hmn ac b q (List.mem_map.2 ⟨_, U1 hx, rfl⟩) (List.mem_map.2 ⟨_, U1 hy, rfl⟩))
   | none =>
    refine V1 fun j b hj hw => ?_
    have : j ≠ i := fun h => by
     subst h
     rw [hac] at hj; cases hj
     unfold wrS at hw
     rw [hx] at hw; cases hw
    simp [this]
  refine ⟨by simpa using hsz, ?_, ρ', fun j hj => (ha j fun hm => by have := (hf2 j hm).1; have := I0.le; omega).trans (hold j hj), (a42 _ _ _).trans hN, (a43 _ _ _).trans hdf, ?_, ?_⟩
  ·rw [hBe]
   intro j oj hj hBj' e he hbi
   show (if e.on = i then true else B e.on) = true
   by_cases e1 : e.on = i
   ·simp [e1]
   ·rw [if_neg e1]
    by_cases e2 : j = i
    ·subst e2
     rw [hoi] at hj; cases hj
     exact hdep' e he hbi
    ·simp only [if_neg e2] at hBj'
     exact hdn j oj hj hBj' e he hbi
  ·rw [hBe, eT, hdst]
   intro t x hx
   rw [bA0 (by rw [hN]; exact hdN)]
   simp only [aP5] at hx
   split
   ·rename_i e; rw [if_pos e] at hx; cases hx; rfl
   ·rename_i e
    rw [if_neg e] at hx
    rw [hv t x hx, AV.val_congr x fun id hid => ha id (htm t x hx id hid)]
  ·rw [hBe, eS]; exact M'
 ·rintro listed a w ⟨hsz, hdn, ρ, hold, hN, hdf, hv, M⟩ hall
  have hall' : ∀ j, j < l.length → listed.getD j false = true := fun j hj => by rw [← bn7 (by omega)]; exact hall j hj
  have eT : tmD r.acts (fun j => listed.getD j false) (A9 tm) = A9 r.tm := by
   funext t
   rw [hfT t]
   refine V1 fun j b hj _ => ?_
   rw [cc3]
   exact hall' j (by have := (b96.1 hj).1; omega)
  have eS : sD r.acts (fun j => listed.getD j false) S = r.S := by
   funext q
   rw [hfS q]
   refine V1 fun j b hj _ => ?_
   rw [cc3]
   exact hall' j (by have := (b96.1 hj).1; omega)
  have hids : ∀ (k : Nat) b, r.acts[k]? = some b → ∀ id, (id ∈ b.t.res.ids ∨ id ∈ b.t.new.map (·.1) ∨ ∃ p ∈ b.t.new, id ∈ p.2.ids) → id < n + 8 * l.length := fun k b hk id hid => by
   have hkl : k < l.length := by have := (b96.1 hk).1; omega
   obtain ⟨o, ho'⟩ : ∃ o, l[k]? = some o := ⟨_, b89 hkl⟩
   obtain ⟨ac, ob, hac, _, hop⟩ := hat k o ho'
   rw [hk] at hac; cases hac
   obtain ⟨_, _, hfine⟩ := aY0 hop
   obtain ⟨hf1, hf2, hf3⟩ := ag9 hfine
   rcases hid with h | h | ⟨p, hp, h⟩
   ·have := hf3 id h; omega
   ·obtain ⟨p, hp, rfl⟩ := List.mem_map.1 h
    have := (hf1 p hp).1; omega
   ·have := (hf1 p hp).2 id h; omega
  refine done ρ a w (n + 8 * l.length) ⟨hN, hdf, by rw [← eT]; exact hv, fun t x hx => ?_, fun j => ?_, by rw [← eS]; exact M, by have := I0.le; omega, hold⟩
  ·rw [hfT t] at hx
   revert x
   refine au3 (fun y : Option AV => ∀ x, y = some x → ∀ id ∈ x.ids, id < n + 8 * l.length) (fun x hx id hid => ?_) fun k b y hk _ hw x hx id hid => ?_
   ·have := I0.tmi t x hx id hid; omega
   ·unfold wrT at hw
    split at hw
    ·cases hw; cases hx
     exact hids k b hk id (.inl hid)
    ·cases hw
  ·refine ⟨?_, fun hj => ?_⟩
   ·rw [hfS j]
    refine au3 (fun x : It => ∀ id ∈ x.ids, id < n + 8 * l.length) (fun id hid => ?_) fun k b x hk _ hw id hid => ?_
    ·have := (I0.bd j).1 id hid; omega
    ·exact hids k b hk id (.inr (.inr ⟨_, U1 hw, hid⟩))
   ·rw [hfS j, ab5 fun k b hk hw => ?_]
    ·exact (I0.bd j).2 (by omega)
    ·obtain ⟨x, hx⟩ := cd0.1 hw
     have := hids k b hk j (.inr (.inl (List.mem_map.2 ⟨_, U1 hx, rfl⟩)))
     omega
end
def x8 {ι : Type} (φ ψ : Nat → Prop) (w0 : World) (F : ι → Rs) (N m : Nat) (ρ0 ρ : Nat → Value) (S : List It) (tm : List (Nat × AV)) (a : Act) (w : World) : Prop := Inn φ ψ w0 F N m ρ0 S.length ρ (A9 tm) (x6 S) a w
def wfB (S : List It) (tm : List (Nat × AV)) : Bool := S.all (fun x => al1 S.length x.ids) && tm.all (fun p => al1 S.length p.2.ids)
def b06 (m : Nat) (js : List Nat) : Bool := (ca2 m).all fun i => natEq (nth js i) i && decide (i < js.length)
def ak0 (m : Nat) (js : List Nat) (S : List It) (tm : List (Nat × AV)) : Bool := nodupB js && natEq js.length S.length && wfB S tm && b06 m js
section
variable {P : Program} {ι : Type} {φ ψ : Nat → Prop} {w0 w w' : World} {F : ι → Rs} {ρ ρ0 : Nat → Value} {N m n : Nat} {S : List It} {tm : List (Nat × AV)} {a : Act} {Q : Exit → Act → World → Prop}
theorem aL9 : ∀ {tm : List (Nat × AV)} {t : Nat} {x : AV}, A9 tm t = some x → (t, x) ∈ tm
 | [], _, _, h => by cases h
 | (k, y) :: r, t, x, h => by
  simp only [A9, natEq, beq_iff_eq] at h
  split at h
  ·rename_i e; subst e; cases h; exact ca6
  ·exact ca9 _ (aL9 h)
theorem aL8 {l : List It} {i : Nat} (h : i < l.length) : x6 l i = l[i] := by simp [x6, b90, h]
theorem F3 {l : List It} {i : Nat} (h : l.length ≤ i) : x6 l i = .none := by simp [x6, b90, h]
theorem bQ3 {S : List It} {tm : List (Nat × AV)} (h : wfB S tm = true) : (∀ j, (∀ id ∈ (x6 S j).ids, id < S.length) ∧ (S.length ≤ j → x6 S j = .none)) ∧ ∀ t x, A9 tm t = some x → ∀ id ∈ x.ids, id < S.length := by
 simp only [wfB, b85] at h
 refine ⟨fun j => ⟨fun id hid => ?_, fun hj => F3 hj⟩, fun t x hx id hid => ?_⟩
 ·rcases ca8 j S.length with hj | hj
  ·rw [aL8 hj] at hid
   exact Q4 (b93.1 h.1 _ (ca5 hj)) id hid
  ·rw [F3 hj] at hid; cases hid
 ·exact Q4 (b93.1 h.2 _ (aL9 hx)) id hid
theorem Inn.sel {tf : Nat → Option AV} {Sf : Nat → It} (I : Inn φ ψ w0 F N m ρ0 n ρ tf Sf a w) (js : List Nat) (S1 : List It) (tm1 : List (Nat × AV)) (hb : ak0 m js S1 tm1 = true) (hS : js.map Sf = S1.map (It.ren (nth js))) (ht : (tm1.map (·.1)).map tf = tm1.map fun p => some (p.2.ren (nth js))) :
  x8 φ ψ w0 F N m ρ0 (fun i => ρ (nth js i)) S1 tm1 a w := by
 simp only [ak0, b85, natEq, beq_iff_eq] at hb
 obtain ⟨⟨⟨hnd, hl⟩, hwf⟩, hkeep⟩ := hb
 have hn := aK9 hnd
 obtain ⟨b1, b2⟩ := bQ3 hwf
 have hk : ∀ i, i < m → nth js i = i ∧ i < js.length := fun i hi => by
  have := b93.1 hkeep i (cc6.2 hi)
  simpa [natEq] using this
 refine ⟨I.size, I.defs, fun t x hx => ?_, b2, b1, ?_, ?_, fun i hi => ?_⟩
 ·obtain ⟨i, hi⟩ := List.mem_iff_getElem?.1 (aL9 hx)
  have h1 := congrArg (·[i]?) ht
  simp only [List.getElem?_map, hi, Option.map_some] at h1
  rw [I.tmv t _ (Option.some.inj h1), AV.val_ren]
 ·refine I.mem.map (fun k : ι ⊕ Nat => (match k with | .inl i => some (.inl i) | .inr i => if i < js.length then some (.inr (nth js i)) else none : Option (ι ⊕ Nat))) ?_ ?_
  ·intro k k' x h1 h2
   match k, k' with
   | .inl i, .inl i' => simp at h1 h2; rw [← h1] at h2; simpa using h2.symm
   | .inl i, .inr j => simp only at h1 h2; cases h1; split at h2 <;> simp at h2
   | .inr j, .inl i => simp only at h1 h2; cases h2; split at h1 <;> simp at h1
   | .inr j, .inr j' =>
    simp at h1 h2
    obtain ⟨f1, f2⟩ := h1
    obtain ⟨g1, g2⟩ := h2
    rw [← f2] at g2
    have hj := Sum.inr.inj g2
    have e1 := b89 f1
    have e2 := b89 g1
    rw [O9 e2, O9 e1] at hj
    have := (List.getElem?_inj f1 hn).1 (e1.trans (by rw [← hj]; exact e2.symm))
    rw [this]
  ·intro k
   match k with
   | .inl i => exact .inl ⟨_, rfl, rfl⟩
   | .inr i =>
    by_cases hlt : i < js.length
    ·refine .inl ⟨.inr (nth js i), by simp [hlt], ?_⟩
     have h1 := congrArg (·[i]?) hS
     have hlt' : i < S1.length := by omega
     simp only [List.getElem?_map, b89 hlt, b89 hlt', Option.map_some, Option.some.injEq] at h1
     simp only [t4]
     rw [aL8 hlt', O9 (b89 hlt), h1, ← It.res_ren, O9 (b89 hlt)]
    ·refine .inr ?_
     simp only [t4]
     rw [F3 (by omega)]
     rfl
 ·rcases ca8 S1.length m with h | h
  ·have := (hk S1.length h).2; omega
  ·exact h
 ·rw [(hk i hi).1]; exact I.old i hi
def a48 (o : Option RS) (js ts : List Nat) : Option (List Prop × List It × List (Option AV) × List (List (List AV × List It)) × List (List AV)) := o.map fun r => (r.obs, js.map r.S, ts.map (A9 r.tm), r.acts.map (·.eqs.1), r.acts.map (·.eqw.1))
def be0 (o : Option RS) (obs : List Prop) (js : List Nat) (S : List It) (tm : List (Nat × AV)) : Option (List Prop × List It × List (Option AV) × List (List (List AV × List It)) × List (List AV)) := o.map fun r => (obs, S.map (It.ren (nth js)), tm.map (fun p => some (p.2.ren (nth js))), r.acts.map (·.eqs.2), r.acts.map (·.eqw.2))
def bo2 (l : List Oper) (ms : List Nat) (n : Nat) (S : Nat → It) (o : Option RS) : Bool := aY3 ms l && am4 l.toArray && match o with
 | some r => bS9 ms r.acts && bB7 ms n r.acts && bw4 ms S r.acts
 | none => false
theorem bS5 {dk : TypeId → Nat} {l : List Oper} {id : Nat} (G : x8 φ ψ w0 F N m ρ0 ρ S tm a w) (H : T4) (hH : ∀ i c τ, M9 H.calls i = some (c, τ) → c.ok P) (hF : S9 H.facts) (js : List Nat) (S1 : List It) (tm1 : List (Nat × AV)) (obs : List Prop)
  (hs : ((X9 P dk N l H l 0 tm (x6 S) S.length).isSome && ak0 m js S1 tm1) = true)
  (hc : a48 (X9 P dk N l H l 0 tm (x6 S) S.length) js (tm1.map (·.1)) = be0 (X9 P dk N l H l 0 tm (x6 S) S.length) obs js S1 tm1)
  (ho : w9 obs) (k : ∀ ρ' a' w', x8 φ ψ w0 F N m ρ0 ρ' S1 tm1 a' w' → Q .normal a' w') : (Code.region id l.toArray false).wp P Q a w := by
 simp only [b85] at hs
 obtain ⟨r, hr⟩ := cd0.1 hs.1
 rw [hr] at hc
 simp only [a48, be0, Option.map_some, Option.some.injEq, Prod.mk.injEq] at hc
 obtain ⟨h1, h2, h3, h4, h5⟩ := hc
 refine wp_region_lit (bl5 hH hF l 0 S.length G hr (by rw [h1]; exact ho) h4 h5 fun ρ' a' w' n' I => ?_)
 exact k _ a' w' (I.sel js S1 tm1 hs.2 h2 h3)
theorem bJ9 {dk : TypeId → Nat} {l : List Oper} {id : Nat} (G : x8 φ ψ w0 F N m ρ0 ρ S tm a w) (H : T4) (hH : ∀ i c τ, M9 H.calls i = some (c, τ) → c.ok P) (hF : S9 H.facts) (ms : List Nat) (js : List Nat) (S1 : List It) (tm1 : List (Nat × AV)) (obs : List Prop) (hm : P.follows .mixedOrders = true)
  (hs : (bo2 l ms S.length (x6 S) (X9 P dk N l H l 0 tm (x6 S) S.length) && ak0 m js S1 tm1) = true)
  (hc : a48 (X9 P dk N l H l 0 tm (x6 S) S.length) js (tm1.map (·.1)) = be0 (X9 P dk N l H l 0 tm (x6 S) S.length) obs js S1 tm1)
  (ho : w9 obs) (k : ∀ ρ' a' w', x8 φ ψ w0 F N m ρ0 ρ' S1 tm1 a' w' → Q .normal a' w') : (Code.region id l.toArray true).wp P Q a w := by
 simp only [b85, bo2] at hs
 obtain ⟨⟨⟨q1, q2⟩, q3⟩, q4⟩ := hs
 cases hr : X9 P dk N l H l 0 tm (x6 S) S.length with
 | none => rw [hr] at q3; cases q3
 | some r =>
  rw [hr] at q3 hc
  simp only [b85] at q3
  simp only [a48, be0, Option.map_some, Option.some.injEq, Prod.mk.injEq] at hc
  obtain ⟨h1, h2, h3, h4, h5⟩ := hc
  refine aV3 hH hF G hr (by rw [h1]; exact ho) h4 h5 ms hm q2 q1 q3.1.1 q3.1.2 q3.2 fun ρ' a' w' n' I => ?_
  exact k _ a' w' (I.sel js S1 tm1 q4 h2 h3)
theorem rs1 {dk : TypeId → Nat} {l : List Oper} {id : Nat} (G : x8 φ ψ w0 F N m ρ0 ρ S tm a w) (H : T4) (hH : ∀ i c τ, M9 H.calls i = some (c, τ) → c.ok P) (hF : S9 H.facts) (js : List Nat) (S1 : List It) (tm1 : List (Nat × AV)) (obs : List Prop)
  (ho : w9 obs) (k : ∀ ρ' a' w', x8 φ ψ w0 F N m ρ0 ρ' S1 tm1 a' w' → Q .normal a' w')
  (hs : ((X9 P dk N l H l 0 tm (x6 S) S.length).isSome && ak0 m js S1 tm1) = true := by kernel_rfl)
  (hc : a48 (X9 P dk N l H l 0 tm (x6 S) S.length) js (tm1.map (·.1)) = be0 (X9 P dk N l H l 0 tm (x6 S) S.length) obs js S1 tm1 := by kernel_rfl) : (Code.region id l.toArray false).wp P Q a w := bS5 G H hH hF js S1 tm1 obs hs hc ho k
theorem rd1 {dk : TypeId → Nat} {l : List Oper} {id : Nat} (G : x8 φ ψ w0 F N m ρ0 ρ S tm a w) (H : T4) (hH : ∀ i c τ, M9 H.calls i = some (c, τ) → c.ok P) (hF : S9 H.facts) (ms : List Nat) (js : List Nat) (S1 : List It) (tm1 : List (Nat × AV)) (obs : List Prop)
  (ho : w9 obs) (k : ∀ ρ' a' w', x8 φ ψ w0 F N m ρ0 ρ' S1 tm1 a' w' → Q .normal a' w') (hm : P.follows .mixedOrders = true := by kernel_rfl)
  (hs : (bo2 l ms S.length (x6 S) (X9 P dk N l H l 0 tm (x6 S) S.length) && ak0 m js S1 tm1) = true := by kernel_rfl)
  (hc : a48 (X9 P dk N l H l 0 tm (x6 S) S.length) js (tm1.map (·.1)) = be0 (X9 P dk N l H l 0 tm (x6 S) S.length) obs js S1 tm1 := by kernel_rfl) : (Code.region id l.toArray true).wp P Q a w := bJ9 G H hH hF ms js S1 tm1 obs hm hs hc ho k
theorem d8 : ∀ i c τ, M9 [] i = some (c, τ) → m7.ok P c := fun i c τ h => by cases h
theorem b9 {i0 : Nat} {c0 : m7} {τ0 : List Nat} {r : List (Nat × m7 × List Nat)} (h0 : c0.ok P) (hr : ∀ i c τ, M9 r i = some (c, τ) → m7.ok P c) : ∀ i c τ, M9 ((i0, c0, τ0) :: r) i = some (c, τ) → m7.ok P c := fun i c τ h => by
 simp only [M9] at h
 split at h
 ·cases h; exact h0
 ·exact hr i c τ h
theorem x8.sel (G : x8 φ ψ w0 F N m ρ0 ρ S tm a w) (js : List Nat) (S1 : List It) (tm1 : List (Nat × AV)) (hb : ak0 m js S1 tm1 = true) (hS : js.map (x6 S) = S1.map (It.ren (nth js))) (ht : (tm1.map (·.1)).map (A9 tm) = tm1.map fun p => some (p.2.ren (nth js))) : ∃ ρ', x8 φ ψ w0 F N m ρ0 ρ' S1 tm1 a w := ⟨_, Inn.sel G js S1 tm1 hb hS ht⟩
theorem x8.as (G : x8 φ ψ w0 F N m ρ0 ρ S tm a w) (S1 : List It) (tm1 : List (Nat × AV)) (hS : S = S1) (ht : tm = tm1) : x8 φ ψ w0 F N m ρ0 ρ S1 tm1 a w := by subst hS; subst ht; exact G
theorem x8.at (G : x8 φ ψ w0 F N m ρ0 ρ S tm a w) (S1 : List It) (tm1 : List (Nat × AV)) (hS : S = S1 := by kernel_rfl) (ht : tm = tm1 := by kernel_rfl) : x8 φ ψ w0 F N m ρ0 ρ S1 tm1 a w := G.as S1 tm1 hS ht
theorem am7 {c : Nat} {x y : Code} (G : x8 φ ψ w0 F N m ρ0 ρ S tm a w) (b : Bool) (hc : A9 tm c = some (.v (.bool b))) (ht : b = true → x.wp P Q a w) (hf : b = false → y.wp P Q a w) : (Code.cond (.tmp c) x y).wp P Q a w := by
 have h := G.tmv c _ hc
 refine wp_cond_split (t := b) ?_ ht hf
 simp [Act.eval, Array.getD_eq_getD_getElem?, h, AV.val]
theorem bz2 {c : Nat} {x y : Code} (G : x8 φ ψ w0 F N m ρ0 ρ S tm a w) (b : Bool) (hc : A9 tm c = some (.v (.bool b))) (hb : b = true) (h : x.wp P Q a w) : (Code.cond (.tmp c) x y).wp P Q a w := am7 G b hc (fun _ => h) fun hf => by rw [hb] at hf; cases hf
theorem bz3 {c : Nat} {x y : Code} (G : x8 φ ψ w0 F N m ρ0 ρ S tm a w) (b : Bool) (hc : A9 tm c = some (.v (.bool b))) (hb : b = false) (h : y.wp P Q a w) : (Code.cond (.tmp c) x y).wp P Q a w := am7 G b hc (fun ht => by rw [hb] at ht; cases ht) fun _ => h
def bd3 (P : Program) (tm : Nat → Option AV) (S : Nat → It) : List ResultVar → Option (List AV)
 | [] => some []
 | .tmp t :: r =>
  match tm t, bd3 P tm S r with
  | some x, some l => some (x :: l)
  | _, _ => none
 | .cell t ty :: r =>
  match tm t, bd3 P tm S r with
  | some (.ptr b off), some l =>
   match S b with
   | .box cs => (bv7 P ty ((cs.drop off).take (aI2 P ty))).map fun x => x :: l
   | _ => none
  | _, _ => none
def a41 (P : Program) (fn : Func) (tm : List (Nat × AV)) (S : List It) : Option AV :=
 match bd3 P (A9 tm) (x6 S) fn.results.toList with
 | some [x] => some x
 | some l => some (.tup l)
 | none => none
theorem bH8 {cs : List AV} {ty : TypeId} {b off : Nat} {x : AV} (hB : H7 w b (AV.vals ρ cs)) (h : bv7 P ty ((cs.drop off).take (aI2 P ty)) = some x) : (loadVar ty ⟨b, off, none⟩).run P w = .ok (x.val ρ) w :=
 aA6 h ⟨b, off, none⟩ fun j u hj => by
  rw [AV.vals_take, AV.vals_drop] at hj
  have hadd : (⟨b, off, none⟩ : Addr).add j = ⟨b, off + j, none⟩ := by unfold Addr.add; split <;> simp_all
  rw [hadd, hB.cell]
  rw [List.getElem?_take] at hj
  split at hj
  ·rw [List.getElem?_drop] at hj; exact hj
  ·cases hj
theorem aX3 (G : x8 φ ψ w0 F N m ρ0 ρ S tm a w) : ∀ {rs : List ResultVar} {l : List AV}, bd3 P (A9 tm) (x6 S) rs = some l →
  (rs.mapM (fun r => (match r with | .tmp t => pure (a.tmps.getD t undef) | .cell b t => do loadVar t (← asAddr (a.tmps.getD b undef)) : Sem Value))).run P w = .ok (AV.vals ρ l) w
 | [], l, h => by cases h; simp [AV.vals]
 | .tmp t :: r, l, h => by
  simp only [bd3] at h
  split at h
  case h_2 => cases h
  rename_i x l' h1 h2
  cases h
  have ht := G.tmv t x h1
  have ih := aX3 G h2
  have e : (pure (a.tmps.getD t undef) : Sem Value).run P w = .ok (x.val ρ) w := by simp [Array.getD_eq_getD_getElem?, ht]
  rw [List.mapM_cons, Sem.run_bind, e, Result.andThen_ok, Sem.run_bind, ih]
  rfl
 | .cell t ty :: r, l, h => by
  simp only [bd3] at h
  split at h
  case h_2 => cases h
  rename_i b off l' h1 h2
  split at h
  case h_2 => cases h
  rename_i cs hS
  obtain ⟨x, h3, h4⟩ := b92.1 h
  subst h4
  have ht := G.tmv t _ h1
  have ih := aX3 G h2
  have hl := bH8 (P := P) (G.mem.boxAt hS) h3
  have e : (do loadVar ty (← asAddr (a.tmps.getD t undef)) : Sem Value).run P w = .ok (x.val ρ) w := by
   rw [show a.tmps.getD t undef = .pointer (some ⟨X4 (ρ b), off, none⟩) by simp [Array.getD_eq_getD_getElem?, ht, AV.val]]
   simp [asAddr, hl]
  rw [List.mapM_cons, Sem.run_bind, e, Result.andThen_ok, Sem.run_bind, ih]
  rfl
theorem bS6 {fn : Func} {R : Ending → World → Prop} {v : AV} (G : x8 φ ψ w0 F N m ρ0 ρ S tm a w) (h : a41 P fn tm S = some v) (hR : R (.returned (v.val ρ)) w) : bodyPost P fn R .ret a w := by
 refine ⟨G.defs, v.val ρ, ?_, hR⟩
 unfold a41 at h
 cases hl : bd3 P (A9 tm) (x6 S) fn.results.toList with
 | none => rw [hl] at h; cases h
 | some l =>
  rw [hl] at h
  have := aX3 G hl
  unfold results
  rw [Sem.run_bind, Array.mapM_eq_mapM_toList, Sem.run_map]
  erw [this]
  simp only [Result.andThen_ok, Sem.run_pure]
  match l, h with
  | [], h => cases h; rfl
  | [x], h => cases h; rfl
  | x :: y :: r, h => cases h; rfl
def aP1 (i : Nat) : List AV → List (Nat × AV)
 | [] => []
 | x :: r => (i, x) :: aP1 (i + 1) r
theorem ba7 (ρ : Nat → Value) : ∀ {l : List AV} {i t : Nat} {x : AV}, A9 (aP1 i l) t = some x → i ≤ t ∧ (AV.vals ρ l)[t - i]? = some (x.val ρ)
 | [], _, _, _, h => by cases h
 | y :: r, i, t, x, h => by
  simp only [aP1, A9, natEq, beq_iff_eq] at h
  split at h
  ·rename_i e; subst e; cases h; exact ⟨b94 _, by simp [AV.vals]⟩
  ·obtain ⟨h1, h2⟩ := ba7 ρ h
   refine ⟨by omega, ?_⟩
   rw [show t - i = (t - (i + 1)) + 1 by omega]
   simpa [AV.vals] using h2
def bb3 (φ ψ : Nat → Prop) (w0 : World) (F : ι → Rs) (ρ0 : Nat → Value) (c : m7) (x : Ending) (w' : World) : Prop := ∃ ρ', (∀ i, i < c.pre.length → ρ' i = ρ0 i) ∧ x = .returned (c.res.val ρ') ∧ n6 φ ψ w0 w' (t4 F ρ' (x6 c.post))
theorem bz1 {c : m7} {fn : Func} {code : Code} (N : Nat) (hf : P.funcs[c.f]? = some fn) (hb : fn.body = some code) (hN : fn.ntmps = N) (hw : (wfB c.pre (aP1 0 c.args) && decide (c.args.length ≤ N)) = true)
  (k : ∀ {ι : Type} (φ ψ : Nat → Prop) (w0 w : World) (F : ι → Rs) (ρ0 ρ : Nat → Value) (a : Act), x8 φ ψ w0 F N c.pre.length ρ0 ρ c.pre (aP1 0 c.args) a w → code.wp P (bodyPost P fn (bb3 φ ψ w0 F ρ0 c)) a w) : c.ok P := by
 intro ι φ ψ w0 w F ρ M
 simp only [b85, decide_eq_true_eq] at hw
 obtain ⟨b1, b2⟩ := bQ3 hw.1
 refine calls_of_wp hf hb (k φ ψ w0 w F ρ ρ _ ⟨?_, rfl, fun t x hx => ?_, b2, b1, M, b94 _, fun _ _ => rfl⟩)
 ·simp [AV.vals_length, hN]; omega
 ·obtain ⟨_, h1⟩ := ba7 ρ hx
  rw [Nat.sub_zero] at h1
  have hlt := (b96.1 h1).1
  rw [Array.getElem?_append_left (by simpa using hlt)]
  simpa using h1
theorem aJ7 {fn : Func} {c : m7} {v : AV} (G : x8 φ ψ w0 F N c.pre.length ρ0 ρ S tm a w) (js : List Nat) (h : a41 P fn tm S = some v) (hb : ak0 c.pre.length js c.post [] = true) (hS : js.map (x6 S) = c.post.map (It.ren (nth js))) (hv : v = c.res.ren (nth js)) : bodyPost P fn (bb3 φ ψ w0 F ρ0 c) .ret a w := by
 have G1 := Inn.sel G js c.post [] hb hS rfl
 refine bS6 G h ⟨fun i => ρ (nth js i), G1.old, ?_, G1.mem⟩
 rw [hv, AV.val_ren]
theorem b0 {K : Act → World → Prop} (h : K a w) : Exit.then K Q .normal a w := h
theorem y7 {K : Act → World → Prop} {id : Nat} (h : Q (.exit id) a w) : Exit.then K Q (.exit id) a w := h
theorem m8 {K : Act → World → Prop} (h : Q .ret a w) : Exit.then K Q .ret a w := h
theorem r7 {id : Nat} (h : Q .normal a w) : Exit.inBlock id Q .normal a w := h
theorem B7 {id : Nat} (h : Q .ret a w) : Exit.inBlock id Q .ret a w := h
theorem y6 {id : Nat} (h : Q .normal a w) : Exit.inBlock id Q (.exit id) a w := by simp only [Exit.inBlock, if_true]; exact h
theorem bP6 {id id' : Nat} (hne : natEq id' id = false) (h : Q (.exit id') a w) : Exit.inBlock id Q (.exit id') a w := by
 simp only [Exit.inBlock]
 rw [if_neg (by simpa [natEq] using hne)]; exact h
theorem w64 {x : Int} (h1 : -9223372036854775808 ≤ x) (h2 : x ≤ 9223372036854775807) : IntKind.i64.wrap x = x := IntWalk.i64_in x ⟨h1, h2⟩
theorem rT {c : Nat} {x y : Code} (G : x8 φ ψ w0 F N m ρ0 ρ S tm a w) (b : Bool) (hb : b = true) (h : x.wp P Q a w) (hc : A9 tm c = some (.v (.bool b)) := by kernel_rfl) : (Code.cond (.tmp c) x y).wp P Q a w := bz2 G b hc hb h
theorem rF {c : Nat} {x y : Code} (G : x8 φ ψ w0 F N m ρ0 ρ S tm a w) (b : Bool) (hb : b = false) (h : y.wp P Q a w) (hc : A9 tm c = some (.v (.bool b)) := by kernel_rfl) : (Code.cond (.tmp c) x y).wp P Q a w := bz3 G b hc hb h
theorem y9 {κ : Type} {c : Code} (pre : κ → Prop) (μ : κ → Nat) (Sk : κ → List It) (Tk : κ → List (Nat × AV)) (k0 : κ) (hp : pre k0) (G : x8 φ ψ w0 F N m ρ0 ρ (Sk k0) (Tk k0) a w)
  (round : ∀ k ρ a w, pre k → x8 φ ψ w0 F N m ρ0 ρ (Sk k) (Tk k) a w → c.wp P (Exit.then (fun a' w' => ∃ k' ρ', pre k' ∧ μ k' < μ k ∧ x8 φ ψ w0 F N m ρ0 ρ' (Sk k') (Tk k') a' w') Q) a w) : (Code.loop c).wp P Q a w := by
 refine wp_loop_ghost (fun n a w => ∃ k ρ, μ k = n ∧ pre k ∧ x8 φ ψ w0 F N m ρ0 ρ (Sk k) (Tk k) a w) (μ k0) ⟨k0, ρ, rfl, hp, G⟩ ?_
 rintro n a w ⟨k, ρ, rfl, hk, Gk⟩
 refine wp_mono (round k ρ a w hk Gk) ?_
 intro e a' w' hq
 cases e with
 | normal =>
  obtain ⟨k', ρ', h1, h2, h3⟩ := hq
  exact ⟨μ k', h2, k', ρ', rfl, h1, h3⟩
 | _ => exact hq
theorem bJ8 {κ : Type} {pre : κ → Prop} {μ : κ → Nat} {Sk : κ → List It} {Tk : κ → List (Nat × AV)} {k : κ} (G : x8 φ ψ w0 F N m ρ0 ρ S tm a w) (k' : κ) (hp : pre k') (hμ : μ k' < μ k) (js : List Nat) (S1 : List It) (tm1 : List (Nat × AV)) (hs1 : Sk k' = S1) (ht1 : Tk k' = tm1)
  (hb : ak0 m js S1 tm1 = true) (hS : js.map (x6 S) = S1.map (It.ren (nth js))) (ht : (tm1.map (·.1)).map (A9 tm) = tm1.map fun p => some (p.2.ren (nth js))) :
  ∃ k' ρ', pre k' ∧ μ k' < μ k ∧ x8 φ ψ w0 F N m ρ0 ρ' (Sk k') (Tk k') a w := by
 subst hs1; subst ht1
 exact ⟨k', _, hp, hμ, Inn.sel G js _ _ hb hS ht⟩
theorem x8.len (G : x8 φ ψ w0 F N m ρ0 ρ S tm a w) (i : Nat) {d : D} (h : itD (x6 S i) = some d) : d.len ≤ 9223372036854775807 := by
 obtain ⟨_, cap, _, h1, h2, _⟩ := G.mem.sliceAt h
 unfold maxLen at h2; omega
end
mutual
def AV.den (t : Bool) (n : Nat) : AV → AV
 | .v x => .v x
 | .ptr a b => .ptr a b
 | .ea a b c d => .ea a b c d
 | .ref i => if !t && natEq i n then .v (.slice none 0 0) else .ref i
 | .agg l => .agg (AV.denL t n l)
 | .tup l => .tup (AV.denL t n l)
 | .fn f l => .fn f (AV.denL t n l)
 | .bm f l => .bm f (AV.denL t n l)
 | .tref i => if t && natEq i n then .v (.slice none 0 0) else .tref i
def AV.denL (t : Bool) (n : Nat) : List AV → List AV
 | [] => []
 | x :: r => x.den t n :: AV.denL t n r
end
def It.den (t : Bool) (n : Nat) : It → It
 | .box cs => .box (AV.denL t n cs)
 | x => x
mutual
theorem AV.val_den {ρ : Nat → Value} {t : Bool} {n : Nat} {z : Value} (hz : if t then N4 z = .slice none 0 0 else z = .slice none 0 0) : ∀ (x : AV), (∀ i ∈ (x.den t n).ids, i < n) → x.val (fun j => if j = n then z else ρ j) = (x.den t n).val ρ ∧ ∀ i ∈ x.ids, i < n + 1
 | .v _, _ => ⟨rfl, fun i hi => by simp [AV.ids] at hi⟩
 | .ptr a b, h => by
  have ha : a < n := h a (by simp [AV.den, AV.ids])
  refine ⟨?_, fun i hi => by simp [AV.ids] at hi; omega⟩
  simp only [AV.den, AV.val]
  rw [if_neg (by omega)]
 | .ea a b c d, h => by
  have ha : a < n := h a (by simp [AV.den, AV.ids])
  refine ⟨?_, fun i hi => by simp [AV.ids] at hi; omega⟩
  simp only [AV.den, AV.val]
  rw [if_neg (by omega)]
 | .ref a, h => by
  by_cases e : t = false ∧ a = n
  ·obtain ⟨rfl, rfl⟩ := e
   refine ⟨?_, fun i hi => by simp [AV.ids] at hi; omega⟩
   simp only [Bool.false_eq_true, if_false] at hz
   simp [AV.den, AV.val, natEq, hz]
  ·have hd : (AV.ref a).den t n = .ref a := by
    simp only [AV.den]
    rw [if_neg]
    simp [natEq]; intro h1 h2; exact e ⟨h1, h2⟩
   rw [hd] at h ⊢
   have ha : a < n := h a (by simp [AV.ids])
   refine ⟨?_, fun i hi => by simp [AV.ids] at hi; omega⟩
   simp only [AV.val]
   rw [if_neg (by omega)]
 | .tref a, h => by
  by_cases e : t = true ∧ a = n
  ·obtain ⟨rfl, rfl⟩ := e
   refine ⟨?_, fun i hi => by simp [AV.ids] at hi; omega⟩
   simp only [if_true] at hz
   simp [AV.den, AV.val, natEq, hz]
  ·have hd : (AV.tref a).den t n = .tref a := by
    simp only [AV.den]
    rw [if_neg]
    simp [natEq]; intro h1 h2; exact e ⟨h1, h2⟩
   rw [hd] at h ⊢
   have ha : a < n := h a (by simp [AV.ids])
   refine ⟨?_, fun i hi => by simp [AV.ids] at hi; omega⟩
   simp only [AV.val]
   rw [if_neg (by omega)]
 | .agg l, h => by
  obtain ⟨h1, h2⟩ := AV.vals_den hz l (by simpa [AV.den, AV.ids] using h)
  exact ⟨by simp only [AV.den, AV.val]; rw [h1], by simpa [AV.ids] using h2⟩
 | .tup l, h => by
  obtain ⟨h1, h2⟩ := AV.vals_den hz l (by simpa [AV.den, AV.ids] using h)
  exact ⟨by simp only [AV.den, AV.val]; rw [h1], by simpa [AV.ids] using h2⟩
 | .fn f l, h => by
  obtain ⟨h1, h2⟩ := AV.vals_den hz l (by simpa [AV.den, AV.ids] using h)
  exact ⟨by simp only [AV.den, AV.val]; rw [h1], by simpa [AV.ids] using h2⟩
 | .bm f l, h => by
  obtain ⟨h1, h2⟩ := AV.vals_den hz l (by simpa [AV.den, AV.ids] using h)
  exact ⟨by simp only [AV.den, AV.val]; rw [h1], by simpa [AV.ids] using h2⟩
theorem AV.vals_den {ρ : Nat → Value} {t : Bool} {n : Nat} {z : Value} (hz : if t then N4 z = .slice none 0 0 else z = .slice none 0 0) : ∀ (l : List AV), (∀ i ∈ AV.idsL (AV.denL t n l), i < n) → AV.vals (fun j => if j = n then z else ρ j) l = AV.vals ρ (AV.denL t n l) ∧ ∀ i ∈ AV.idsL l, i < n + 1
 | [], _ => ⟨rfl, fun i hi => by simp [AV.idsL] at hi⟩
 | x :: r, h => by
  obtain ⟨h1, h2⟩ := AV.val_den hz x fun i hi => h i (by simp only [AV.denL, AV.idsL, ca1]; exact .inl hi)
  obtain ⟨h3, h4⟩ := AV.vals_den hz r fun i hi => h i (by simp only [AV.denL, AV.idsL, ca1]; exact .inr hi)
  refine ⟨by simp only [AV.denL, AV.vals]; rw [h1, h3], fun i hi => ?_⟩
  simp only [AV.idsL, ca1] at hi
  rcases hi with hi | hi
  ·exact h2 i hi
  ·exact h4 i hi
end
theorem aM1 {m : Bool} {n : Nat} {t : Nat} {x : AV} : ∀ {tm : List (Nat × AV)}, A9 tm t = some x → A9 (tm.map fun p => (p.1, p.2.den m n)) t = some (x.den m n)
 | [], h => by cases h
 | (k, y) :: r, h => by
  simp only [A9, cc2] at h ⊢
  split at h
  ·rename_i e; cases h; rw [if_pos e]
  ·rename_i e; rw [if_neg e]; exact aM1 h
section
variable {P : Program} {ι : Type} {φ ψ : Nat → Prop} {w0 w : World} {F : ι → Rs} {ρ ρ0 : Nat → Value} {N m n : Nat} {S : List It} {tm : List (Nat × AV)} {a : Act}
theorem x8.nilW (G : x8 φ ψ w0 F N m ρ0 ρ S tm a w) (n : Nat) (hn : S.length = n) (b : Bool) (x : It) (z : Value) (hz : if b then N4 z = .slice none 0 0 else z = .slice none 0 0) (hids : x.ids = []) (hb : ∀ g, ¬ (x.res (fun j => if j = n then z else ρ j) n).blk g)
  (hx : ∀ φ', (x.res (fun j => if j = n then z else ρ j) n).holds w φ') (S1 : List It) (tm1 : List (Nat × AV)) (hS : S = S1.map (It.den b n)) (ht : tm = tm1.map fun p => (p.1, p.2.den b n)) :
  ∃ ρ', x8 φ ψ w0 F N m ρ0 ρ' (S1 ++ [x]) tm1 a w := by
 have hl : S1.length = n := by rw [← hn, hS, List.length_map]
 have hat : ∀ j (hj : j < n), x6 S j = (S1[j]'(by omega)).den b n := fun j hj => by
  rw [aL8 (show j < S.length by omega)]
  have h1 := congrArg (·[j]?) hS
  simp only [List.getElem?_map, b89 (show j < S.length by omega), b89 (show j < S1.length by omega), Option.map_some, Option.some.injEq] at h1
  exact h1
 have hnew : ∀ j (hj : j < n), x6 (S1 ++ [x]) j = S1[j]'(by omega) := fun j hj => by
  simp [x6, b90, cb9 (show j < S1.length by omega), b89 (show j < S1.length by omega)]
 have hlast : x6 (S1 ++ [x]) n = x := by
  simp [x6, b90, ← hl]
 have hout : ∀ j, n < j → x6 (S1 ++ [x]) j = .none := fun j hj => F3 (by simp; omega)
 have hbx : ∀ j (hj : j < n), ((S1[j]'(by omega)).res (fun j => if j = n then z else ρ j) j = (x6 S j).res ρ j) ∧ ∀ i ∈ (S1[j]'(by omega)).ids, i < n + 1 := fun j hj => by
  rw [hat j hj]
  have hb := (G.bd j).1
  rw [hat j hj, hn] at hb
  generalize S1[j]'(by omega) = x at *
  cases x with
  | box cs =>
   obtain ⟨h1, h2⟩ := AV.vals_den (ρ := ρ) (n := n) hz cs hb
   refine ⟨?_, h2⟩
   simp only [It.res, It.den]
   rw [h1, if_neg (show ¬ j = n by omega)]
  | none => exact ⟨rfl, fun i hi => by cases hi⟩
  | dead => exact ⟨rfl, fun i hi => by cases hi⟩
  | dat d' => exact ⟨by simp only [It.res, It.den]; rw [if_neg (show ¬ j = n by omega)], fun i hi => by cases hi⟩
  | row e' d' => exact ⟨by simp only [It.res, It.den]; rw [if_neg (show ¬ j = n by omega)], fun i hi => by cases hi⟩
  | tree d' => exact ⟨by simp only [It.res, It.den]; rw [if_neg (show ¬ j = n by omega)], fun i hi => by cases hi⟩
  | kept e' d' => exact ⟨by cases e' <;> (simp only [It.res, It.den]; rw [if_neg (show ¬ j = n by omega)]), fun i hi => by cases hi⟩
 have hw : ∀ t x, A9 tm1 t = some x → x.val (fun j => if j = n then z else ρ j) = (x.den b n).val ρ ∧ ∀ i ∈ x.ids, i < n + 1 := fun t x hx => by
  refine AV.val_den hz x fun i hi => ?_
  have h1 : A9 tm t = some (x.den b n) := by rw [ht]; exact aM1 hx
  have := G.tmi t _ h1 i hi
  omega
 refine ⟨fun j => if j = n then z else ρ j, ?_⟩
 refine ⟨G.size, G.defs, fun t x hx => ?_, fun t x hx i hi => ?_, fun j => ⟨fun i hi => ?_, fun hj => F3 hj⟩, ?_, ?_, fun i hi => ?_⟩
 ·have h1 : A9 tm t = some (x.den b n) := by rw [ht]; exact aM1 hx
  rw [(hw t x hx).1]; exact G.tmv t _ h1
 ·have := (hw t x hx).2 i hi
  simp; omega
 ·rcases Nat.lt_trichotomy j n with h | h | h
  ·rw [hnew j h] at hi
   have := (hbx j h).2 i hi
   simp; omega
  ·subst h; rw [hlast, hids] at hi; cases hi
  ·rw [hout j h] at hi; cases hi
 ·refine n6.put G.mem (.inr n) (fun k hk => ?_) (D8.refl _ _) ?_ ?_
  ·cases k with
   | inl i => rfl
   | inr j =>
    simp only [t4]
    rcases Nat.lt_trichotomy j n with h | h | h
    ·rw [hnew j h]; exact (hbx j h).1
    ·exact absurd (by rw [h]) hk
    ·rw [hout j h, F3 (show S.length ≤ j by omega)]; rfl
  ·simp only [t4, hlast]; exact hx _
  ·intro g hg
   simp only [t4, hlast] at hg
   exact absurd hg (hb g)
 ·have := G.le; simp; omega
 ·show (if i = n then _ else ρ i) = ρ0 i
  have := G.le
  rw [if_neg (by omega)]; exact G.old i hi
theorem x8.nil (G : x8 φ ψ w0 F N m ρ0 ρ S tm a w) (n : Nat) (e : TypeId) (d : D) (k : Nat) (S1 : List It) (tm1 : List (Nat × AV)) (hn : S.length = n := by kernel_rfl) (hd : D.nil k = some d := by kernel_rfl) (hS : S = S1.map (It.den false n) := by kernel_rfl) (ht : tm = tm1.map (fun p => (p.1, p.2.den false n)) := by kernel_rfl) :
  ∃ ρ', x8 φ ψ w0 F N m ρ0 ρ' (S1 ++ [.row e d]) tm1 a w := by
 have hz := D.nil_len hd
 refine G.nilW n hn false (.row e d) (.slice none 0 0) (by simp) rfl (fun g hg => ?_) (fun φ' => ?_) S1 tm1 hS ht
 ·simp only [It.res, if_true] at hg
  cases hg
 ·simp only [It.res, if_true]
  refine ⟨fun xs => RW.nice d xs, [], ?_, RW.nil hz _⟩
  rw [hz]; exact World.ownsRow_nil _ _ _ _
theorem x8.nilT (G : x8 φ ψ w0 F N m ρ0 ρ S tm a w) (n : Nat) (d : D) (S1 : List It) (tm1 : List (Nat × AV)) (hn : S.length = n := by kernel_rfl) (hd : ((ap1 d).isSome && natEq d.len 0) = true := by kernel_rfl) (hS : S = S1.map (It.den true n) := by kernel_rfl) (ht : tm = tm1.map (fun p => (p.1, p.2.den true n)) := by kernel_rfl) :
  ∃ ρ', x8 φ ψ w0 F N m ρ0 ρ' (S1 ++ [.tree d]) tm1 a w := by
 simp only [b85, natEq, beq_iff_eq] at hd
 obtain ⟨e, he⟩ := cd0.1 hd.1
 obtain ⟨z, h1, h2⟩ := aO0 (.slice none 0 0) (fun _ => False) 0 fun b h => h.elim
 refine G.nilW n hn true (.tree d) z (by simp [h1]) rfl (fun g hg => ?_) (fun φ' => ?_) S1 tm1 hS ht
 ·simp only [It.res, if_true] at hg
  exact ((h2 g).1 hg).elim
 ·simp only [It.res, if_true]
  rw [h1]
  refine ⟨fun _ _ h hs => h.same hs, ⟨e, [], fun _ => False, he, ?_, (fun g hg => by cases hg), (fun b hb => hb.elim), ?_⟩, fun b hb => ((h2 b).1 hb).elim⟩
  ·rw [hd.2]; exact World.ownsRow_nil _ _ _ _
  ·have h0 := hd.2
   cases d <;> simp only [ap1] at he <;> first | cases he | skip
   all_goals (simp only [D.len] at h0; rw [ca3 h0]; rfl)
end
inductive Ln where
 | no
 | row (e : TypeId)
 | tree
def C9 (M : List Ln) (i : Nat) : Ln := M.getD i .no
def Ln.isT : Ln → Bool
 | .tree => true
 | _ => false
mutual
def AV.tr (M : List Ln) : AV → AV
 | .v x => .v x
 | .ptr a b => .ptr a b
 | .ea a b c d => .ea a b c d
 | .ref i => if (C9 M i).isT then .tref i else .ref i
 | .agg l => .agg (AV.trL M l)
 | .tup l => .tup (AV.trL M l)
 | .fn f l => .fn f (AV.trL M l)
 | .bm f l => .bm f (AV.trL M l)
 | .tref i => .tref i
def AV.trL (M : List Ln) : List AV → List AV
 | [] => []
 | x :: r => x.tr M :: AV.trL M r
end
mutual
def AV.trOk (M : List Ln) : AV → Bool
 | .v _ => true
 | .ptr a _ => !(C9 M a).isT
 | .ea a _ _ _ => !(C9 M a).isT
 | .ref _ => true
 | .agg l => AV.trOkL M l
 | .tup l => AV.trOkL M l
 | .fn _ l => AV.trOkL M l
 | .bm _ l => AV.trOkL M l
 | .tref i => !(C9 M i).isT
def AV.trOkL (M : List Ln) : List AV → Bool
 | [] => true
 | x :: r => x.trOk M && AV.trOkL M r
end
mutual
theorem AV.val_tr {ρ ρ' : Nat → Value} {M : List Ln} (h : ∀ i, ρ' i = if (C9 M i).isT then N4 (ρ i) else ρ i) : ∀ (x : AV), x.trOk M = true → (x.tr M).val ρ = x.val ρ'
 | .v _, _ => rfl
 | .ptr a _, hx => by
  simp only [AV.trOk, b99] at hx
  simp only [AV.tr, AV.val]; rw [h a, hx]; rfl
 | .ea a _ _ _, hx => by
  simp only [AV.trOk, b99] at hx
  simp only [AV.tr, AV.val]; rw [h a, hx]; rfl
 | .ref i, _ => by
  simp only [AV.tr]
  cases hm : (C9 M i).isT
  ·simp only [Bool.false_eq_true, if_false, AV.val]; rw [h i, hm]; rfl
  ·simp only [if_true, AV.val]; rw [h i, hm]; rfl
 | .agg l, hx => by simp only [AV.tr, AV.val]; rw [AV.vals_tr h l (by simpa [AV.trOk] using hx)]
 | .tup l, hx => by simp only [AV.tr, AV.val]; rw [AV.vals_tr h l (by simpa [AV.trOk] using hx)]
 | .fn _ l, hx => by simp only [AV.tr, AV.val]; rw [AV.vals_tr h l (by simpa [AV.trOk] using hx)]
 | .bm _ l, hx => by simp only [AV.tr, AV.val]; rw [AV.vals_tr h l (by simpa [AV.trOk] using hx)]
 | .tref i, hx => by
  simp only [AV.trOk, b99] at hx
  simp only [AV.tr, AV.val]; rw [h i, hx]; rfl
theorem AV.vals_tr {ρ ρ' : Nat → Value} {M : List Ln} (h : ∀ i, ρ' i = if (C9 M i).isT then N4 (ρ i) else ρ i) : ∀ (l : List AV), AV.trOkL M l = true → AV.vals ρ (AV.trL M l) = AV.vals ρ' l
 | [], _ => rfl
 | x :: r, hx => by
  simp only [AV.trOkL, b85] at hx
  simp only [AV.trL, AV.vals]; rw [AV.val_tr h x hx.1, AV.vals_tr h r hx.2]
end
def H0 (M : List Ln) : Ln → It → It
 | .row e, .dat d => .row e d
 | .tree, .dat d => .tree d
 | .no, .box cs => .box (AV.trL M cs)
 | _, x => x
def ae0 (M : List Ln) (S : List It) : List It := (ca2 S.length).map fun i => H0 M (C9 M i) (x6 S i)
theorem aL7 (M : List Ln) (S : List It) (i : Nat) : x6 (ae0 M S) i = H0 M (C9 M i) (x6 S i) := by
 unfold ae0
 rcases ca8 i S.length with h | h
 ·conv => lhs; rw [x6, b90, List.getElem?_map, List.getElem?_range h]
  rfl
 ·rw [F3 (by simpa using h), F3 h]
  cases C9 M i <;> rfl
def a70 : D → Bool
 | .rows _ => false
 | .brows _ => false
 | .exprs _ => false
 | .stmts _ => false
 | _ => true
theorem bn8 {w w' : World} {φ φ' : Nat → Prop} {d : D} {xs : List Value} (hd : a70 d = true) (h : RW w φ d xs) : RW w' φ' d xs := by
 intro i hi j x hx
 obtain ⟨u, h1, h2⟩ := h i hi j x hx
 refine ⟨u, h1, ?_⟩
 have : ∃ y, x = .v y := by
  have hm := ca7 hx
  cases d <;> simp only [a70, Bool.false_eq_true] at hd <;> simp [D.elem, bf5, ar7] at hm
  ·exact ⟨_, hm⟩
  ·exact ⟨_, hm⟩
  ·exact ⟨_, hm⟩
  ·exact ⟨_, hm⟩
  ·rcases hm with h | h | h | h | h <;> exact ⟨_, h⟩
  ·rcases hm with h | h <;> exact ⟨_, h⟩
 obtain ⟨y, rfl⟩ := this
 exact h2
def a55 (M : List Ln) (l : Ln) (p x : It) : Bool :=
 match l with
 | .no => match x with
  | .dat _ => (match p with | .dat _ => true | _ => false)
  | .row _ d => a70 d
  | .box cs => AV.trOkL M cs
  | .kept _ _ => false
  | _ => true
 | .row _ => (match p, x with | .dat d, .dat _ => a70 d | _, _ => false)
 | .tree => (match p, x with | .dat d, .dat _ => (ap1 d).isSome | _, _ => false)
def bA1 (M : List Ln) (l : Ln) (p : It) : Bool :=
 match l, p with
 | .no, .box cs => AV.trOkL M cs
 | _, _ => true
def bB9 (M : List Ln) (c : m7) : Bool :=
 decide (M.length ≤ c.pre.length) && decide (c.pre.length ≤ c.post.length) && AV.trOkL M c.args && c.res.trOk M && (ca2 c.post.length).all (fun i => a55 M (C9 M i) (x6 c.pre i) (x6 c.post i)) && (ca2 c.pre.length).all fun i => bA1 M (C9 M i) (x6 c.pre i)
def Rs.snap (w : World) (r : Rs) : Rs := .own r.blk fun w' => ∀ b, r.blk b → b < w.heap.size → w'.heap[b]? = w.heap[b]?
theorem Rs.snap_holds {w : World} {φ φ' : Nat → Prop} {r : Rs} (h : r.holds w φ) : (r.snap w).holds w φ' := by
 refine ⟨fun w1 w2 h1 h2 b hb hlt => ?_, fun b _ _ => rfl, fun b hb => Rs.lt h hb⟩
 have h3 := h1 b hb hlt
 rw [h2 b hb, h3]
 have : (w1.heap[b]?).isSome = true := by rw [h3, Array.getElem?_eq_getElem hlt]; rfl
 obtain ⟨o, ho⟩ := cd0.1 this
 exact (Array.getElem?_eq_some_iff.1 ho).1
theorem aZ7 : ∀ {P X : List It} {i : Nat} {d e : D}, az2 P X = az1 P X → x6 P i = .dat d → x6 X i = .dat e → d = e
 | P, X, i, d, e, h, h1, h2 => by
  have hp : P[i]? = some (.dat d) := by
   rcases ca8 i P.length with hl | hl
   ·rw [aL8 hl] at h1; rw [b89 hl, h1]
   ·rw [F3 hl] at h1; cases h1
  have hx : X[i]? = some (.dat e) := by
   rcases ca8 i X.length with hl | hl
   ·rw [aL8 hl] at h2; rw [b89 hl, h2]
   ·rw [F3 hl] at h2; cases h2
  exact bV3 h hp hx
theorem m7.lend0 {P : Program} {c : m7} (hc : c.ok P) (M : List Ln) (hb : bB9 M c = true) (he : az2 c.pre c.post = az1 c.pre c.post) : m7.ok P ⟨c.f, AV.trL M c.args, ae0 M c.pre, ae0 M c.post, c.res.tr M⟩ := by
 simp only [bB9, b85, decide_eq_true_eq] at hb
 obtain ⟨⟨⟨⟨⟨hM, hle⟩, hargs⟩, hres⟩, hpost⟩, hpre⟩ := hb
 have hno : ∀ i, c.pre.length ≤ i → C9 M i = .no := fun i hi => by
  unfold C9; rw [b90, cb3 (by omega)]; rfl
 have hpo : ∀ i, a55 M (C9 M i) (x6 c.pre i) (x6 c.post i) = true := fun i => by
  rcases ca8 i c.post.length with h | h
  ·exact b93.1 hpost i (cc6.2 h)
  ·rw [hno i (by omega), F3 h]; rfl
 have hpr : ∀ i, bA1 M (C9 M i) (x6 c.pre i) = true := fun i => by
  rcases ca8 i c.pre.length with h | h
  ·exact b93.1 hpre i (cc6.2 h)
  ·rw [hno i h, F3 h]; rfl
 intro ι φ ψ w0 w F ρ MM
 let ρ1 : Nat → Value := fun i => if (C9 M i).isT then N4 (ρ i) else ρ i
 have hρ1 : ∀ i, ρ1 i = if (C9 M i).isT then N4 (ρ i) else ρ i := fun _ => rfl
 let F1 : ι → Rs := fun i => (F i).snap w
 have hLi : ∀ i, t4 F ρ (x6 (ae0 M c.pre)) (.inl i) = F i := fun _ => rfl
 have hLj : ∀ j, t4 F ρ (x6 (ae0 M c.pre)) (.inr j) = (H0 M (C9 M j) (x6 c.pre j)).res ρ j := fun j => by simp only [t4]; rw [aL7]
 generalize hL : t4 F ρ (x6 (ae0 M c.pre)) = L at MM hLi hLj
 have h1j : ∀ j, C9 M j = .no → (x6 c.pre j).res ρ1 j = L (.inr j) := fun j hl => by
  rw [hLj, hl]
  have hp := hpr j
  have e : ρ1 j = ρ j := by rw [hρ1, hl]; rfl
  cases hx : x6 c.pre j with
  | none => rfl
  | dead => rfl
  | dat d => simp only [H0, It.res]; rw [e]
  | row e' d => simp only [H0, It.res]; rw [e]
  | tree d => simp only [H0, It.res]; rw [e]
  | kept e' d => cases e' <;> (simp only [H0, It.res]; rw [e])
  | box cs =>
   rw [hl, hx] at hp
   simp only [bA1] at hp
   simp only [H0, It.res]
   rw [e, AV.vals_tr hρ1 cs hp]
 have hlent : ∀ j, C9 M j ≠ .no → (∃ d, x6 c.pre j = .dat d ∧ x6 c.post j = .dat d ∧ ((∃ e, C9 M j = .row e ∧ a70 d = true) ∨ C9 M j = .tree)) := fun j hj => by
  have h := hpo j
  cases hl : C9 M j with
  | no => exact absurd hl hj
  | row e =>
   rw [hl] at h
   simp only [a55] at h
   split at h
   ·rename_i d d' h1 h2
    exact ⟨d, h1, by rw [h2, ← aZ7 he h1 h2], .inl ⟨e, rfl, h⟩⟩
   ·cases h
  | tree =>
   rw [hl] at h
   simp only [a55] at h
   split at h
   ·rename_i d d' h1 h2
    exact ⟨d, h1, by rw [h2, ← aZ7 he h1 h2], .inr rfl⟩
   ·cases h
 have hsub : ∀ k b, (t4 F1 ρ1 (x6 c.pre) k).blk b → (L k).blk b ∧ ∀ j, k = .inr j → C9 M j = .no := fun k b hb => by
  cases k with
  | inl i => rw [hLi]; exact ⟨hb, fun j h => by cases h⟩
  | inr j =>
   by_cases hl : C9 M j = .no
   ·simp only [t4] at hb
    rw [h1j j hl] at hb
    exact ⟨hb, fun j' h => by cases h; exact hl⟩
   ·obtain ⟨d, h1, _⟩ := hlent j hl
    simp only [t4, h1, It.res] at hb
    exact hb.elim
 have hfr1 : ∀ b, FrF φ L b → FrF φ (t4 F1 ρ1 (x6 c.pre)) b := fun b hb => ⟨hb.1, fun k hk => hb.2 k (hsub k b hk).1⟩
 let ψ1 : Nat → Prop := fun b => ∀ k, ¬ (t4 F1 ρ1 (x6 c.pre) k).blk b
 have M1 : n6 φ ψ1 w w (t4 F1 ρ1 (x6 c.pre)) := by
  refine ⟨D8.refl _ _, fun b hb => MM.fresh b (cb5 MM.size hb), fun k => ?_, fun k k' b hkk h1 h2 => MM.dis k k' b hkk (hsub k b h1).1 (hsub k' b h2).1, fun k b h1 => .inr fun h => h k h1, fun k b h1 => MM.ph k b (hsub k b h1).1⟩
  cases k with
  | inl i => exact Rs.snap_holds (show (F i).holds w _ from by rw [← hLi i]; exact MM.holds (.inl i))
  | inr j =>
   by_cases hl : C9 M j = .no
   ·simp only [t4]
    rw [h1j j hl]
    exact Rs.keep (MM.holds (.inr j)) (Agr.mono fun b _ hf => hfr1 b hf) fun _ _ => rfl
   ·obtain ⟨d, h1, h2, h3⟩ := hlent j hl
    have hh := MM.holds (.inr j)
    have hown : ∀ b, (L (.inr j)).blk b → FrF φ (t4 F1 ρ1 (x6 c.pre)) b := fun b hb => ⟨MM.ph _ _ hb, fun k hk => by
     obtain ⟨q1, q2⟩ := hsub k b hk
     by_cases e : k = .inr j
     ·exact hl (q2 j e)
     ·exact MM.dis k (.inr j) b e q1 hb⟩
    simp only [t4, h1, It.res]
    refine ⟨RD.nice _ _, ?_⟩
    rcases h3 with ⟨e, h3, hflat⟩ | h3
    ·rw [hLj, h3, h1] at hh
     simp only [H0, It.res] at hh
     obtain ⟨_, xs, o1, o2⟩ := hh
     have e1 : ρ1 j = ρ j := by rw [hρ1, h3]; rfl
     rw [e1]
     refine RD.make (E8 o1 fun g hg => hown g ?_) (bn8 hflat o2)
     rw [hLj, h3, h1]; exact hg
    ·rw [hLj, h3, h1] at hh
     simp only [H0, It.res] at hh
     have e1 : ρ1 j = N4 (ρ j) := by rw [hρ1, h3]; rfl
     rw [e1]
     refine I2.read hh.2.1 fun b hb => hown b ?_
     rw [hLj, h3, h1]; exact hb
 simp only
 rw [AV.vals_tr hρ1 c.args hargs]
 refine (hc ι φ ψ1 w w F1 ρ1 M1).mono ?_
 rintro x w' ⟨ρ2, g1, g2, M2⟩
 have hplen : (ae0 M c.pre).length = c.pre.length := by simp [ae0]
 let ρ' : Nat → Value := fun j => if j < c.pre.length then ρ j else ρ2 j
 have hρ' : ∀ j, ρ2 j = if (C9 M j).isT then N4 (ρ' j) else ρ' j := fun j => by
  show _ = if (C9 M j).isT then N4 (if j < c.pre.length then ρ j else ρ2 j) else (if j < c.pre.length then ρ j else ρ2 j)
  rcases ca8 j c.pre.length with h | h
  ·rw [if_pos h, g1 j h]
  ·rw [hno j h]
   exact (if_neg (Nat.not_lt.2 h)).symm
 have hρo : ∀ j, C9 M j ≠ .no → ρ' j = ρ j := fun j hj => by
  rcases ca8 j c.pre.length with h | h
  ·exact if_pos h
  ·exact absurd (hno j h) hj
 refine ⟨ρ', fun i hi => if_pos (by rw [hplen] at hi; exact hi), by rw [AV.val_tr hρ' c.res hres]; exact g2, ?_⟩
 have hL'j : ∀ j, t4 F ρ' (x6 (ae0 M c.post)) (.inr j) = (H0 M (C9 M j) (x6 c.post j)).res ρ' j := fun j => by simp only [t4]; rw [aL7]
 have hL'i : ∀ i, t4 F ρ' (x6 (ae0 M c.post)) (.inl i) = F i := fun _ => rfl
 generalize hL' : t4 F ρ' (x6 (ae0 M c.post)) = L' at hL'j hL'i
 have hL2j : ∀ j, C9 M j = .no → L' (.inr j) = t4 F1 ρ2 (x6 c.post) (.inr j) := fun j hl => by
  rw [hL'j, hl]
  have hp := hpo j
  have e : ρ2 j = ρ' j := by rw [hρ', hl]; rfl
  simp only [t4]
  cases hx : x6 c.post j with
  | none => rfl
  | dead => rfl
  | dat d => simp only [H0, It.res]; rw [e]
  | row e' d => simp only [H0, It.res]; rw [e]
  | tree d => simp only [H0, It.res]; rw [e]
  | kept e' d => cases e' <;> (simp only [H0, It.res]; rw [e])
  | box cs =>
   rw [hl, hx] at hp
   simp only [a55] at hp
   simp only [H0, It.res]
   rw [e, AV.vals_tr hρ' cs hp]
 have hlj : ∀ j, C9 M j ≠ .no → L' (.inr j) = L (.inr j) := fun j hl => by
  obtain ⟨d, h1, h2, h3⟩ := hlent j hl
  rw [hL'j, hLj, h1, h2]
  rcases h3 with ⟨e, h3, _⟩ | h3
  ·rw [h3]; simp only [H0, It.res]; rw [hρo j hl]
  ·rw [h3]; simp only [H0, It.res]; rw [hρo j hl]
 have hin : ∀ b, b < w.heap.size → ¬ ψ1 b → ∃ k, (L k).blk b ∧ ∀ j, k = .inr j → C9 M j = .no := fun b _ hn => by
  obtain ⟨k, hk⟩ := Classical.not_forall.1 hn
  exact ⟨k, hsub k b (Classical.not_not.1 hk)⟩
 have hnew : ∀ k b, (∀ j, k = .inr j → C9 M j = .no) → (t4 F1 ρ2 (x6 c.post) k).blk b → b < w.heap.size → ∃ k', (L k').blk b ∧ ∀ j, k' = .inr j → C9 M j = .no := fun k b _ hb hlt => by
  rcases M2.ge k b hb with h | h
  ·omega
  ·exact hin b hlt h
 have hback : ∀ k b, (L' k).blk b → b < w.heap.size → ∃ k', (L k').blk b := fun k b hb hlt => by
  cases k with
  | inl i => rw [hL'i] at hb; exact ⟨.inl i, by rw [hLi]; exact hb⟩
  | inr j =>
   by_cases hl : C9 M j = .no
   ·rw [hL2j j hl] at hb
    obtain ⟨k', h1, _⟩ := hnew (.inr j) b (fun j' h => by cases h; exact hl) hb hlt
    exact ⟨k', h1⟩
   ·rw [hlj j hl] at hb; exact ⟨_, hb⟩
 have hsame : ∀ b, b < w.heap.size → ψ1 b → w'.heap[b]? = w.heap[b]? := fun b h1 h2 => M2.kept.block b h1 h2
 have hagr : Agr (FrF φ L) (FrF φ L') w w' := ⟨M2.kept.size, fun b hb hf => ⟨⟨hf.1, fun k hk => let ⟨k', h1⟩ := hback k b hk hb; hf.2 k' h1⟩, hsame b hb fun k hk => (hfr1 b hf).2 k hk⟩⟩
 have hlsame : ∀ j, C9 M j ≠ .no → ∀ b, (L (.inr j)).blk b → w'.heap[b]? = w.heap[b]? := fun j hl b hb => hsame b (MM.lt hb) fun k hk => by
  obtain ⟨q1, q2⟩ := hsub k b hk
  by_cases e : k = .inr j
  ·exact hl (q2 j e)
  ·exact MM.dis k (.inr j) b e q1 hb
 have hcross : ∀ j k b, C9 M j ≠ .no → (∀ j, k = .inr j → C9 M j = .no) → (L (.inr j)).blk b → ¬ (t4 F1 ρ2 (x6 c.post) k).blk b := fun j k b hl hk h1 h2 => by
  obtain ⟨k', h3, h4⟩ := hnew k b hk h2 (MM.lt h1)
  exact MM.dis k' (.inr j) b (fun e => hl (h4 j e)) h3 h1
 refine ⟨⟨M2.kept.os.trans MM.kept.os, M2.kept.tape.trans MM.kept.tape, M2.kept.output.trans MM.kept.output, cb5 MM.size M2.kept.size, fun b hb hp => (hsame b (cd2 hb MM.size) fun k hk => ?_).trans (MM.kept.block b hb hp)⟩, MM.fresh, fun k => ?_, fun k k' b hkk h1 h2 => ?_, fun k b h1 => ?_, fun k b h1 => ?_⟩
 ·rcases MM.ge k b (hsub k b hk).1 with h | h
  ·omega
  ·exact h hp
 ·cases k with
  | inl i =>
   rw [hL'i, ← hLi i]
   refine Rs.keep (MM.holds (.inl i)) hagr fun b hb => ?_
   have := (M2.holds (.inl i)).2.1 b (by rw [← hLi i]; exact hb) (MM.lt hb)
   exact this
  | inr j =>
   by_cases hl : C9 M j = .no
   ·have hh := M2.holds (.inr j)
    rw [← hL2j j hl] at hh
    have hp := hpo j
    rw [hl] at hp
    cases hx : x6 c.post j with
    | none => rw [hL'j, hl, hx]; exact Rs.none_holds _ _
    | dead => rw [hL'j, hl, hx]; exact Rs.none_holds _ _
    | box cs => rw [hL'j, hl, hx] at hh ⊢; exact hh
    | tree d => rw [hL'j, hl, hx] at hh ⊢; exact hh
    | kept e' d => rw [hx] at hp; exact absurd hp (by simp [a55])
    | row e d =>
     rw [hx] at hp
     simp only [a55] at hp
     rw [hL'j, hl, hx] at hh ⊢
     simp only [H0, It.res] at hh ⊢
     obtain ⟨_, xs, o1, o2⟩ := hh
     exact ⟨fun xs => RW.nice d xs, xs, o1, bn8 hp o2⟩
    | dat d =>
     rw [hx] at hp
     simp only [a55] at hp
     split at hp
     ·rename_i d' hpx
      have hd : d' = d := aZ7 he hpx hx
      subst hd
      have e : L' (.inr j) = L (.inr j) := by
       rw [hL'j, hLj, hl, hx, hpx]
       simp only [H0, It.res]
       have : j < c.pre.length := by
        rcases ca8 j c.pre.length with h | h
        ·exact h
        ·rw [F3 h] at hpx; cases hpx
       rw [show ρ' j = ρ j from if_pos this]
      rw [e]
      refine Rs.keep (MM.holds (.inr j)) hagr fun b hb => ?_
      rw [hLj, hl, hpx] at hb
      exact hb.elim
     ·cases hp
   ·rw [hlj j hl]
    exact Rs.keep (MM.holds (.inr j)) hagr fun b hb => hlsame j hl b hb
 ·have key : ∀ k, (∃ j, k = .inr j ∧ C9 M j ≠ .no ∧ (L' k) = L k) ∨ ((∀ j, k = .inr j → C9 M j = .no) ∧ ∀ b, (L' k).blk b → (t4 F1 ρ2 (x6 c.post) k).blk b) := fun k => by
   cases k with
   | inl i => exact .inr ⟨(fun j h => by cases h), fun b hb => by rw [hL'i] at hb; exact hb⟩
   | inr j =>
    by_cases hl : C9 M j = .no
    ·exact .inr ⟨fun j' h => by cases h; exact hl, fun b hb => by rw [hL2j j hl] at hb; exact hb⟩
    ·exact .inl ⟨j, rfl, hl, hlj j hl⟩
  rcases key k with ⟨j, rfl, k1, k2⟩ | ⟨k1, k2⟩ <;> rcases key k' with ⟨j', rfl, k3, k4⟩ | ⟨k3, k4⟩
  ·rw [k2] at h1; rw [k4] at h2; exact MM.dis _ _ b hkk h1 h2
  ·rw [k2] at h1; exact hcross j k' b k1 k3 h1 (k4 b h2)
  ·rw [k4] at h2; exact hcross j' k b k3 k1 h2 (k2 b h1)
  ·exact M2.dis k k' b hkk (k2 b h1) (k4 b h2)
 ·cases k with
  | inl i => rw [hL'i, ← hLi i] at h1; exact MM.ge _ b h1
  | inr j =>
   by_cases hl : C9 M j = .no
   ·rw [hL2j j hl] at h1
    rcases ca8 b w.heap.size with hlt | hge
    ·obtain ⟨k', h2, _⟩ := hnew (.inr j) b (fun j' h => by cases h; exact hl) h1 hlt
     exact MM.ge k' b h2
    ·exact .inl (cb5 MM.size hge)
   ·rw [hlj j hl] at h1; exact MM.ge _ b h1
 ·cases k with
  | inl i => rw [hL'i, ← hLi i] at h1; exact MM.ph _ b h1
  | inr j =>
   by_cases hl : C9 M j = .no
   ·rw [hL2j j hl] at h1; exact M2.ph _ b h1
   ·rw [hlj j hl] at h1; exact MM.ph _ b h1
def bC9 (M : List Ln) : Ln → It → It
 | .row e, .dat d => .kept (some e) d
 | .tree, .dat d => .kept none d
 | .no, .box cs => .box (AV.trL M cs)
 | _, x => x
def bC8 (M : List Ln) (S : List It) : List It := (ca2 S.length).map fun i => bC9 M (C9 M i) (x6 S i)
theorem bB8 (M : List Ln) (S : List It) (i : Nat) : x6 (bC8 M S) i = bC9 M (C9 M i) (x6 S i) := by
 unfold bC8
 rcases ca8 i S.length with h | h
 ·conv => lhs; rw [x6, b90, List.getElem?_map, List.getElem?_range h]
  rfl
 ·rw [F3 (by simpa using h), F3 h]
  cases C9 M i <;> rfl
theorem m7.lend {P : Program} {c : m7} (hc : c.ok P) (M : List Ln) (hb : bB9 M c = true := by kernel_rfl) (he : az2 c.pre c.post = az1 c.pre c.post := by kernel_rfl) : m7.ok P ⟨c.f, AV.trL M c.args, ae0 M c.pre, bC8 M c.post, c.res.tr M⟩ :=
 m7.okPost (m7.lend0 hc M hb he) _ fun ρ i => by
  simp only
  rw [bB8, aL7]
  cases C9 M i <;> cases x6 c.post i <;> rfl
section
variable {P : Program} {ι κ : Type} {φ ψ : Nat → Prop} {w0 w : World} {F : ι → Rs} {ρ ρ0 : Nat → Value} {N m n : Nat} {S : List It} {tm : List (Nat × AV)} {a : Act}
end
end Go.Proofs.YthikdkjjdeehoaaGreat

namespace Go.Proofs.YthikdkjjdeehoaaGreat
set_option linter.unusedVariables false
set_option linter.unusedSimpArgs false
def o0 (k : Int) : Int := if k = 1 ∨ k = 2 then 0 else if k = 3 then 1 else if 4 ≤ k ∧ k ≤ 10 then 2 else if k = 11 then 3 else -1
def N6 (nv na : Nat) (k : Int) : Int := if k = 1 then 256 else if k = 2 then nv else if k = 3 then na else 1
def F6 (e : d7) : Bool := decide (e.kind = 1) || decide (e.kind = 2)
def C2 (nv na : Nat) (e : d7) : Bool := decide ((e.kids.length : Int) = o0 e.kind) && decide (0 ≤ e.value) && decide (e.value < N6 nv na e.kind)
def Z4 (e : d7) : Bool := decide (e.kind ≠ 3) || (match e.kids with | k :: _ => F6 k | [] => false)
def m6 (nv na : Nat) : Nat → d7 → Bool
 | 0, _ => false
 | d + 1, e => C2 nv na e && e.kids.all (m6 nv na d) && Z4 e
def l0 (nv na : Nat) (e : d7) : Bool := m6 nv na 5 e && decide (1 + F0 e ≤ 15)
theorem U8 (e : d7) : F0 e = s8 e.kids := by cases e; rfl
def z7 (nv na : Nat) (d c : Nat) (e : d7) : Bool := m6 nv na d e && decide (c + 1 + F0 e ≤ 15)
def y5 (nv na : Nat) (d c : Nat) (ks : List d7) (k : Nat) : Bool := (ks.take k).all (m6 nv na d) && decide (c + s8 (ks.take k) ≤ 15)
theorem aS1 {ks : List d7} {k : Nat} (h : k < ks.length) : s8 (ks.take (k + 1)) = s8 (ks.take k) + (1 + F0 ks[k]) := by
 rw [D4 _ _ h, P6]
 simp [s8]
theorem af4 (ks : List d7) (k : Nat) : s8 (ks.take k) ≤ s8 ks := by
 have := P6 (ks.take k) (ks.drop k)
 rw [List.take_append_drop] at this
 omega
theorem X7 (nv na : Nat) {d c : Nat} {ks : List d7} {k : Nat} (h : k < ks.length) : y5 nv na d c ks (k + 1) = (y5 nv na d c ks k && z7 nv na d (c + s8 (ks.take k)) ks[k]) := by
 unfold y5 z7
 rw [aS1 h, D4 _ _ h, List.all_append]
 simp only [List.all_cons, List.all_nil, Bool.and_true]
 rw [Bool.eq_iff_iff]
 simp only [b85, decide_eq_true_eq]
 constructor
 ·rintro ⟨⟨h1, h2⟩, h3⟩; exact ⟨⟨h1, by omega⟩, h2, by omega⟩
 ·rintro ⟨⟨h1, _⟩, h3, h4⟩; exact ⟨⟨h1, h3⟩, by omega⟩
theorem aW9 (nv na : Nat) {d c : Nat} {ks : List d7} {k : Nat} (h : k < ks.length) (hs : z7 nv na d (c + s8 (ks.take k)) ks[k] = false) : (ks.all (m6 nv na d) && decide (c + s8 ks ≤ 15)) = false := by
 rw [Bool.eq_false_iff]
 intro ht
 simp only [b85, decide_eq_true_eq, b93] at ht
 have h1 := ht.1 _ (ca5 h)
 have h2 := af4 ks (k + 1)
 rw [aS1 h] at h2
 unfold z7 at hs
 rw [h1] at hs
 simp at hs
 omega
def noneB (e : d7) : Bool := decide (e.kind = 0) && decide (e.value = 0) && decide (e.kids.length = 0)
def A7 (s : b5) : Bool :=
 if (s.kind = 3 ∨ s.kind = 4) then
  decide (s.target = 0) && (if s.kind = 4 then decide (s.els.length = 0) && decide (1 ≤ s.count) && decide (s.count ≤ 3) && noneB s.index && noneB s.value
   else decide (s.count = 0) && noneB s.index)
 else decide (s.body.length = 0) && decide (s.els.length = 0) && decide (s.count = 0) && (decide (s.kind = 2) || noneB s.index)
def i9 (nv na : Nat) : Nat → b5 → Bool
  | 0, _ => false
  | d + 1, s => A7 s &&
    (if s.kind = 1 ∨ s.kind = 5 then decide (0 ≤ s.target) && decide (s.target < nv) && l0 nv na s.value
     else if s.kind = 2 then decide (0 ≤ s.target) && decide (s.target < na) && l0 nv na s.index && F6 s.index && l0 nv na s.value
     else if s.kind = 3 then l0 nv na s.value && s.body.all (i9 nv na d) && s.els.all (i9 nv na d)
     else if s.kind = 4 then s.body.all (i9 nv na d)
     else false)
def S6 (nv na : Nat) (d : Nat) (ss : List b5) : Bool := ss.all (i9 nv na d)
mutual
def nS : b5 → Nat
 | ⟨_, _, _, _, _, b, e⟩ => 1 + E9 b + E9 e
def E9 : List b5 → Nat
 | [] => 0
 | s :: r => nS s + E9 r
end
def n4 (p : f7) : Bool := B6 p.vars p.arrays && S6 p.vars.length p.arrays.length 5 p.body && decide (E9 p.body ≤ 60)
end Go.Proofs.YthikdkjjdeehoaaGreat

namespace Go.Proofs.YthikdkjjdeehoaaGreat
set_option linter.unusedVariables false
set_option linter.unusedSimpArgs false
open Go Go.RowKit
def dkP (t : TypeId) : Nat :=
 if natEq t 3 then 1 else
 if natEq t 4 then 2 else
 if natEq t 5 then 3 else
 if natEq t 9 then 4 else
if natEq t 86 then 5 else
 if natEq t 23 then 7 else
if natEq t 57 then 8 else
if natEq t 104 then 9 else
if natEq t 106 then 10 else
 0
abbrev eA (e : d7) (r : Nat) : AV := .agg [.v (.int .i64 e.kind), .v (.int .i64 e.value), .ref r]
abbrev eS (e : d7) : List It := [.dat (.exprs e.kids)]
abbrev sA (s : b5) (r : Nat) : AV := .agg [.v (.int .i64 s.kind), .v (.int .i64 s.target), .v (.int .i64 s.index.kind), .v (.int .i64 s.index.value), .ref r, .v (.int .i64 s.value.kind), .v (.int .i64 s.value.value), .ref (r + 1), .v (.int .i64 s.count), .ref (r + 2), .ref (r + 3)]
abbrev sS (s : b5) : List It := [.dat (.exprs s.index.kids), .dat (.exprs s.value.kids), .dat (.stmts s.body), .dat (.stmts s.els)]
abbrev pA (r : Nat) : AV := .agg [.ref r, .ref (r + 1), .ref (r + 2)]
abbrev pS (p : f7) : List It := [.dat (.ints p.vars), .dat (.ints p.arrays), .dat (.stmts p.body)]
abbrev iA (n : Int) : AV := .v (.int .i64 n)
abbrev bA (b : Bool) : AV := .v (.bool b)
abbrev N1 (f : FuncId) (args : List AV) (S : List It) (res : AV) : m7 := ⟨f, args, S, S, res⟩
abbrev dI (l : List Int) : It := .dat (.ints l)
abbrev dY (l : List UInt8) : It := .dat (.bytes l)
abbrev dE (l : List d7) : It := .dat (.exprs l)
abbrev dT (l : List b5) : It := .dat (.stmts l)
abbrev eL (e : d7) (r : Nat) : List AV := [.v (.int .i64 e.kind), .v (.int .i64 e.value), .ref r]
abbrev sL (s : b5) (r : Nat) : List AV := [.v (.int .i64 s.kind), .v (.int .i64 s.target), .v (.int .i64 s.index.kind), .v (.int .i64 s.index.value), .ref r, .v (.int .i64 s.value.kind), .v (.int .i64 s.value.value), .ref (r + 1), .v (.int .i64 s.count), .ref (r + 2), .ref (r + 3)]
abbrev pL (r : Nat) : List AV := [.ref r, .ref (r + 1), .ref (r + 2)]
section
variable {P : Program} {ι : Type} {φ ψ : Nat → Prop} {w0 w w' : World} {F : ι → Rs} {ρ ρ0 : Nat → Value} {N m n : Nat} {S : List It} {tm : List (Nat × AV)} {a : Act} {Q : Exit → Act → World → Prop}
end
theorem d7.eta (e : d7) : (⟨e.kind, e.value, e.kids⟩ : d7) = e := by cases e; rfl
theorem b5.eta (s : b5) : (⟨s.kind, s.target, s.index, s.value, s.count, s.body, s.els⟩ : b5) = s := by cases s; rfl
section
variable {ι : Type} {P : Program} {φ ψ : Nat → Prop} {w0 w : World} {F : ι → Rs} {N m : Nat} {ρ0 ρ : Nat → Value} {S : List It} {tm : List (Nat × AV)} {a : Act}
theorem Q9 {fn : Func} {c : m7} (G : x8 φ ψ w0 F N c.pre.length ρ0 ρ S tm a w) (js : List Nat) (hS : js.map (x6 S) = c.post.map (It.ren (nth js)) := by kernel_rfl) (h : a41 P fn tm S = some (c.res.ren (nth js)) := by kernel_rfl) (hb : ak0 c.pre.length js c.post [] = true := by kernel_rfl) : bodyPost P fn (bb3 φ ψ w0 F ρ0 c) .ret a w := aJ7 G js h hb hS rfl
theorem aq6 {fn : Func} {c : m7} (G : x8 φ ψ w0 F N c.pre.length ρ0 ρ S tm a w) (js : List Nat) (hS : js.map (x6 S) = c.post.map (It.ren (nth js)) := by kernel_rfl) (h : a41 P fn tm S = some (c.res.ren (nth js)) := by kernel_rfl) (hb : ak0 c.pre.length js c.post [] = true := by kernel_rfl) : bodyPost P fn (bb3 φ ψ w0 F ρ0 c) .normal a w := aJ7 G js h hb hS rfl
theorem X8 {fn : Func} {c : m7} (v : AV) (G : x8 φ ψ w0 F N c.pre.length ρ0 ρ S tm a w) (js : List Nat) (hv : v = c.res.ren (nth js)) (hS : js.map (x6 S) = c.post.map (It.ren (nth js)) := by kernel_rfl) (h : a41 P fn tm S = some v := by kernel_rfl) (hb : ak0 c.pre.length js c.post [] = true := by kernel_rfl) : bodyPost P fn (bb3 φ ψ w0 F ρ0 c) .ret a w := aJ7 G js h hb hS hv
theorem rxn {κ : Type} {pre : κ → Prop} {μ : κ → Nat} {Sk : κ → List It} {Tk : κ → List (Nat × AV)} {k : κ} (G : x8 φ ψ w0 F N m ρ0 ρ S tm a w) (k' : κ) (hp : pre k') (hμ : μ k' < μ k) (js : List Nat) (hS : js.map (x6 S) = (Sk k').map (It.ren (nth js)) := by kernel_rfl) (ht : ((Tk k').map (·.1)).map (A9 tm) = (Tk k').map (fun p => some (p.2.ren (nth js))) := by kernel_rfl) (hb : ak0 m js (Sk k') (Tk k') = true := by kernel_rfl) : ∃ k' ρ', pre k' ∧ μ k' < μ k ∧ x8 φ ψ w0 F N m ρ0 ρ' (Sk k') (Tk k') a w := bJ8 G k' hp hμ js _ _ rfl rfl hb hS ht
theorem H6 {fn : Func} {f : FuncId} {args : List AV} {pre post : List It} {x : Bool} (y : Bool) (G : x8 φ ψ w0 F N pre.length ρ0 ρ S tm a w) (js : List Nat) (e : x = y) (hS : js.map (x6 S) = post.map (It.ren (nth js)) := by kernel_rfl) (h : a41 P fn tm S = some (bA y) := by kernel_rfl) (hb : ak0 pre.length js post [] = true := by kernel_rfl) : bodyPost P fn (bb3 φ ψ w0 F ρ0 ⟨f, args, pre, post, bA x⟩) .ret a w := aJ7 (c := ⟨f, args, pre, post, bA x⟩) G js h hb hS (by rw [e]; rfl)
theorem P7 {fn : Func} {f : FuncId} {args : List AV} {pre post : List It} {x : Int} (y : Int) (G : x8 φ ψ w0 F N pre.length ρ0 ρ S tm a w) (js : List Nat) (e : x = y) (hS : js.map (x6 S) = post.map (It.ren (nth js)) := by kernel_rfl) (h : a41 P fn tm S = some (iA y) := by kernel_rfl) (hb : ak0 pre.length js post [] = true := by kernel_rfl) : bodyPost P fn (bb3 φ ψ w0 F ρ0 ⟨f, args, pre, post, iA x⟩) .ret a w := aJ7 (c := ⟨f, args, pre, post, iA x⟩) G js h hb hS (by rw [e]; rfl)
end
abbrev wO (x : Int) : Prop := IntKind.i64.wrap x = x
theorem oW {x : Int} (h : -9223372036854775808 ≤ x ∧ x ≤ 9223372036854775807) : wO x := w64 h.1 h.2
theorem o1 {x : Int} (h : -9223372036854775808 ≤ x ∧ x ≤ 9223372036854775807) : w9 [wO x] := ⟨oW h, b91⟩
theorem o2 {x y : Int} (h : (-9223372036854775808 ≤ x ∧ x ≤ 9223372036854775807) ∧ -9223372036854775808 ≤ y ∧ y ≤ 9223372036854775807) : w9 [wO x, wO y] := ⟨oW h.1, oW h.2, b91⟩
theorem o3 {x y z : Int} (h : (-9223372036854775808 ≤ x ∧ x ≤ 9223372036854775807) ∧ (-9223372036854775808 ≤ y ∧ y ≤ 9223372036854775807) ∧ -9223372036854775808 ≤ z ∧ z ≤ 9223372036854775807) : w9 [wO x, wO y, wO z] := ⟨oW h.1, oW h.2.1, oW h.2.2, b91⟩
theorem o4 {x y z u : Int} (h : (-9223372036854775808 ≤ x ∧ x ≤ 9223372036854775807) ∧ (-9223372036854775808 ≤ y ∧ y ≤ 9223372036854775807) ∧ (-9223372036854775808 ≤ z ∧ z ≤ 9223372036854775807) ∧ -9223372036854775808 ≤ u ∧ u ≤ 9223372036854775807) : w9 [wO x, wO y, wO z, wO u] := ⟨oW h.1, oW h.2.1, oW h.2.2.1, oW h.2.2.2, b91⟩
abbrev aP (n b : Nat) (r : List Prop) : List Prop := (n ≤ 9223372036854775807) :: (n * b ≤ 140737488355328) :: r
theorem aK {n b : Nat} {r : List Prop} (h : n ≤ 100000000000) (k : w9 r) (hb : b ≤ 1000 := by decide) : w9 (aP n b r) := ⟨by omega, cb5 (Nat.mul_le_mul h hb) (by decide), k⟩
abbrev iX (x : Int) (n l : Nat) (r : List Prop) : List Prop := (0 ≤ x) :: (x < (l : Int)) :: (n < l) :: r
theorem iK {x : Int} {n l : Nat} {r : List Prop} (h : 0 ≤ x ∧ x < (l : Int) ∧ n < l) (k : w9 r) : w9 (iX x n l r) := ⟨h.1, h.2.1, h.2.2, k⟩
abbrev mR (js : List Nat) (l : List It) : List It := List.map (It.ren (nth js)) l
theorem fz : S9 [] := b91
theorem fc {a b : Bool} {r : List (Bool × Bool)} (h : a = b) (k : S9 r) : S9 ((a, b) :: r) := ⟨h, k⟩
abbrev qzE (e : d7) : d7 := d7.mk e.kind e.value e.kids
abbrev qzS (s : b5) : b5 := b5.mk s.kind s.target (d7.mk s.index.kind s.index.value s.index.kids) (d7.mk s.value.kind s.value.value s.value.kids) s.count s.body s.els
def kL (P : Program) (N m : Nat) (l : List Oper) (H : T4) (tm : List (Nat × AV)) (S : List It) (js : List Nat) (S1 : List It) (t1 : List (Nat × AV)) := ((X9 P dkP N l H l 0 tm (x6 S) S.length).isSome && ak0 m js S1 t1, a48 (X9 P dkP N l H l 0 tm (x6 S) S.length) js (t1.map (·.1)))
def kR (P : Program) (N : Nat) (l : List Oper) (H : T4) (tm : List (Nat × AV)) (S : List It) (o : List Prop) (js : List Nat) (S1 : List It) (t1 : List (Nat × AV)) := (true, be0 (X9 P dkP N l H l 0 tm (x6 S) S.length) o js S1 t1)
def kM (P : Program) (N m : Nat) (l : List Oper) (H : T4) (ms : List Nat) (tm : List (Nat × AV)) (S : List It) (js : List Nat) (S1 : List It) (t1 : List (Nat × AV)) := (bo2 l ms S.length (x6 S) (X9 P dkP N l H l 0 tm (x6 S) S.length) && ak0 m js S1 t1, a48 (X9 P dkP N l H l 0 tm (x6 S) S.length) js (t1.map (·.1)))
theorem H8 {P : Program} {c : m7} {fn : Func} {code : Code} (N : Nat) (hf : P.funcs[c.f]? = some fn) (S : List It) (tm : List (Nat × AV)) (k : ∀ {ι : Type} {φ ψ : Nat → Prop} {w0 w : World} {F : ι → Rs} {ρ0 ρ : Nat → Value} {a : Act}, x8 φ ψ w0 F N c.pre.length ρ0 ρ S tm a w → code.wp P (bodyPost P fn (bb3 φ ψ w0 F ρ0 c)) a w) (hb : fn.body = some code := by rfl) (hN : (fn.ntmps, c.pre, aP1 0 c.args) = (N, S, tm) := by kernel_rfl) (hw : (wfB c.pre (aP1 0 c.args) && decide (c.args.length ≤ N)) = true := by kernel_rfl) : c.ok P := by
 simp only [Prod.mk.injEq] at hN
 obtain ⟨h1, h2, h3⟩ := hN
 exact bz1 N hf hb h1 hw fun φ ψ w0 w F ρ0 ρ a G => k (ρ := ρ) (G.as S tm h2 h3)
def aT (x y : List (Nat × AV)) : List (Nat × AV) := x ++ y.filter fun p => !(x.any fun q => natEq q.1 p.1)
def HH (P : Program) (H : T4) : Prop := (∀ i c τ, M9 H.calls i = some (c, τ) → c.ok P) ∧ S9 H.facts
theorem i7 {P : Program} : HH P ⟨[], [], []⟩ := ⟨d8, b91⟩
theorem t5 {P : Program} {c : m7} (i : Nat) (σ : List Nat) (h : c.ok P) : HH P ⟨[(i, c, σ)], [], []⟩ := ⟨b9 h d8, b91⟩
theorem X3 {P : Program} {f : List (Bool × Bool)} (h : S9 f) (u : List (Nat × Nat)) : HH P ⟨[], f, u⟩ := ⟨d8, h⟩
theorem B8 {P : Program} (H : T4) (h : ∀ i c τ, M9 H.calls i = some (c, τ) → c.ok P) (h' : S9 H.facts) : HH P H := ⟨h, h'⟩
section
variable {ι : Type} {P : Program} {φ ψ : Nat → Prop} {w0 w : World} {F : ι → Rs} {N m : Nat} {ρ0 ρ : Nat → Value} {S : List It} {tm : List (Nat × AV)} {a : Act} {l : List Oper} {id : Nat} {Q : Exit → Act → World → Prop} {H : T4}
theorem U0 (G : x8 φ ψ w0 F N m ρ0 ρ S tm a w) (hh : HH P H) (js : List Nat) (S1 : List It) (t1 : List (Nat × AV)) (o : List Prop) (ho : w9 o) (k : ∀ {ρ' a' w'}, x8 φ ψ w0 F N m ρ0 ρ' S1 t1 a' w' → Q .normal a' w') (h : kL P N m l H tm S js S1 t1 = kR P N l H tm S o js S1 t1 := by kernel_rfl) : (Code.region id l.toArray false).wp P Q a w := rs1 (dk := dkP) G H hh.1 hh.2 js S1 t1 o ho (fun _ _ _ => k) (congrArg Prod.fst h) (congrArg Prod.snd h)
theorem m5 (G : x8 φ ψ w0 F N m ρ0 ρ S tm a w) (hh : HH P H) (js : List Nat) (S1 : List It) (t1 : List (Nat × AV)) (k : ∀ {ρ' a' w'}, x8 φ ψ w0 F N m ρ0 ρ' S1 t1 a' w' → Q .normal a' w') (h : kL P N m l H tm S js S1 t1 = kR P N l H tm S [] js S1 t1 := by kernel_rfl) : (Code.region id l.toArray false).wp P Q a w := U0 G hh js S1 t1 [] b91 k h
theorem rB1 (G : x8 φ ψ w0 F N m ρ0 ρ S tm a w) (hh : HH P H) (t1 : List (Nat × AV)) (o : List Prop) (ho : w9 o) (k : ∀ {ρ' a' w'}, x8 φ ψ w0 F N m ρ0 ρ' S t1 a' w' → Q .normal a' w') (h : kL P N m l H tm S (ca2 S.length) S t1 = kR P N l H tm S o (ca2 S.length) S t1 := by kernel_rfl) : (Code.region id l.toArray false).wp P Q a w := rs1 (dk := dkP) G H hh.1 hh.2 (ca2 S.length) S t1 o ho (fun _ _ _ => k) (congrArg Prod.fst h) (congrArg Prod.snd h)
theorem K8 (G : x8 φ ψ w0 F N m ρ0 ρ S tm a w) (hh : HH P H) (t1 : List (Nat × AV)) (k : ∀ {ρ' a' w'}, x8 φ ψ w0 F N m ρ0 ρ' S t1 a' w' → Q .normal a' w') (h : kL P N m l H tm S (ca2 S.length) S t1 = kR P N l H tm S [] (ca2 S.length) S t1 := by kernel_rfl) : (Code.region id l.toArray false).wp P Q a w := rB1 G hh t1 [] b91 k h
theorem K7 (G : x8 φ ψ w0 F N m ρ0 ρ S tm a w) (hh : HH P H) (t1 : List (Nat × AV)) (o : List Prop) (ho : w9 o) (k : ∀ {ρ' a' w'}, x8 φ ψ w0 F N m ρ0 ρ' S (aT t1 tm) a' w' → Q .normal a' w') (h : kL P N m l H tm S (ca2 S.length) S (aT t1 tm) = kR P N l H tm S o (ca2 S.length) S (aT t1 tm) := by kernel_rfl) : (Code.region id l.toArray false).wp P Q a w := rs1 (dk := dkP) G H hh.1 hh.2 (ca2 S.length) S (aT t1 tm) o ho (fun _ _ _ => k) (congrArg Prod.fst h) (congrArg Prod.snd h)
theorem l8 (G : x8 φ ψ w0 F N m ρ0 ρ S tm a w) (hh : HH P H) (t1 : List (Nat × AV)) (k : ∀ {ρ' a' w'}, x8 φ ψ w0 F N m ρ0 ρ' S (aT t1 tm) a' w' → Q .normal a' w') (h : kL P N m l H tm S (ca2 S.length) S (aT t1 tm) = kR P N l H tm S [] (ca2 S.length) S (aT t1 tm) := by kernel_rfl) : (Code.region id l.toArray false).wp P Q a w := K7 G hh t1 [] b91 k h
theorem R5 (G : x8 φ ψ w0 F N m ρ0 ρ S tm a w) (hh : HH P H) (ms : List Nat) (js : List Nat) (S1 : List It) (t1 : List (Nat × AV)) (o : List Prop) (ho : w9 o) (k : ∀ {ρ' a' w'}, x8 φ ψ w0 F N m ρ0 ρ' S1 t1 a' w' → Q .normal a' w') (hm : P.follows .mixedOrders = true := by kernel_rfl) (h : kM P N m l H ms tm S js S1 t1 = kR P N l H tm S o js S1 t1 := by kernel_rfl) : (Code.region id l.toArray true).wp P Q a w := rd1 (dk := dkP) G H hh.1 hh.2 ms js S1 t1 o ho (fun _ _ _ => k) hm (congrArg Prod.fst h) (congrArg Prod.snd h)
theorem aX4 (G : x8 φ ψ w0 F N m ρ0 ρ S tm a w) (hh : HH P H) (ms : List Nat) (js : List Nat) (S1 : List It) (t1 : List (Nat × AV)) (k : ∀ {ρ' a' w'}, x8 φ ψ w0 F N m ρ0 ρ' S1 t1 a' w' → Q .normal a' w') (hm : P.follows .mixedOrders = true := by kernel_rfl) (h : kM P N m l H ms tm S js S1 t1 = kR P N l H tm S [] js S1 t1 := by kernel_rfl) : (Code.region id l.toArray true).wp P Q a w := R5 G hh ms js S1 t1 [] b91 k hm h
theorem bz9 (G : x8 φ ψ w0 F N m ρ0 ρ S tm a w) (hh : HH P H) (ms : List Nat) (t1 : List (Nat × AV)) (o : List Prop) (ho : w9 o) (k : ∀ {ρ' a' w'}, x8 φ ψ w0 F N m ρ0 ρ' S t1 a' w' → Q .normal a' w') (hm : P.follows .mixedOrders = true := by kernel_rfl) (h : kM P N m l H ms tm S (ca2 S.length) S t1 = kR P N l H tm S o (ca2 S.length) S t1 := by kernel_rfl) : (Code.region id l.toArray true).wp P Q a w := rd1 (dk := dkP) G H hh.1 hh.2 ms (ca2 S.length) S t1 o ho (fun _ _ _ => k) hm (congrArg Prod.fst h) (congrArg Prod.snd h)
theorem b40 (G : x8 φ ψ w0 F N m ρ0 ρ S tm a w) (hh : HH P H) (ms : List Nat) (t1 : List (Nat × AV)) (k : ∀ {ρ' a' w'}, x8 φ ψ w0 F N m ρ0 ρ' S t1 a' w' → Q .normal a' w') (hm : P.follows .mixedOrders = true := by kernel_rfl) (h : kM P N m l H ms tm S (ca2 S.length) S t1 = kR P N l H tm S [] (ca2 S.length) S t1 := by kernel_rfl) : (Code.region id l.toArray true).wp P Q a w := bz9 G hh ms t1 [] b91 k hm h
theorem aD2 (G : x8 φ ψ w0 F N m ρ0 ρ S tm a w) (hh : HH P H) (ms : List Nat) (t1 : List (Nat × AV)) (o : List Prop) (ho : w9 o) (k : ∀ {ρ' a' w'}, x8 φ ψ w0 F N m ρ0 ρ' S (aT t1 tm) a' w' → Q .normal a' w') (hm : P.follows .mixedOrders = true := by kernel_rfl) (h : kM P N m l H ms tm S (ca2 S.length) S (aT t1 tm) = kR P N l H tm S o (ca2 S.length) S (aT t1 tm) := by kernel_rfl) : (Code.region id l.toArray true).wp P Q a w := rd1 (dk := dkP) G H hh.1 hh.2 ms (ca2 S.length) S (aT t1 tm) o ho (fun _ _ _ => k) hm (congrArg Prod.fst h) (congrArg Prod.snd h)
theorem bK2 (G : x8 φ ψ w0 F N m ρ0 ρ S tm a w) (hh : HH P H) (ms : List Nat) (t1 : List (Nat × AV)) (k : ∀ {ρ' a' w'}, x8 φ ψ w0 F N m ρ0 ρ' S (aT t1 tm) a' w' → Q .normal a' w') (hm : P.follows .mixedOrders = true := by kernel_rfl) (h : kM P N m l H ms tm S (ca2 S.length) S (aT t1 tm) = kR P N l H tm S [] (ca2 S.length) S (aT t1 tm) := by kernel_rfl) : (Code.region id l.toArray true).wp P Q a w := aD2 G hh ms t1 [] b91 k hm h
variable {c : Nat} {x y : Code}
theorem rcB {b : Bool} (G : x8 φ ψ w0 F N m ρ0 ρ S tm a w) (f : b = false → y.wp P Q a w) (t : b = true → x.wp P Q a w) (h : A9 tm c = some (.v (.bool b)) := by rfl) : (Code.cond (.tmp c) x y).wp P Q a w := am7 G b h t f
theorem T1 {α : Type} [BEq α] [LawfulBEq α] {u v : α} (G : x8 φ ψ w0 F N m ρ0 ρ S tm a w) (f : (u == v) = false → u ≠ v → y.wp P Q a w) (t : (u == v) = true → u = v → x.wp P Q a w) (h : A9 tm c = some (.v (.bool (u == v))) := by rfl) : (Code.cond (.tmp c) x y).wp P Q a w := am7 G _ h (fun q => t q (eq_of_beq q)) fun q => f q (ne_of_beq_false q)
theorem rcN {α : Type} [BEq α] [LawfulBEq α] {u v : α} (G : x8 φ ψ w0 F N m ρ0 ρ S tm a w) (f : (u != v) = false → u = v → y.wp P Q a w) (t : (u != v) = true → u ≠ v → x.wp P Q a w) (h : A9 tm c = some (.v (.bool (u != v))) := by rfl) : (Code.cond (.tmp c) x y).wp P Q a w := am7 G _ h (fun q => t q (bne_iff_ne.1 q)) fun q => f q (bne_eq_false_iff_eq.1 q)
theorem rcD {p : Prop} [Decidable p] (G : x8 φ ψ w0 F N m ρ0 ρ S tm a w) (f : decide p = false → ¬ p → y.wp P Q a w) (t : decide p = true → p → x.wp P Q a w) (h : A9 tm c = some (.v (.bool (decide p))) := by rfl) : (Code.cond (.tmp c) x y).wp P Q a w := am7 G _ h (fun q => t q (dTt q)) fun q => f q (dFf q)
end
theorem V9 (l : Int) (w : World) : Calls Tryz.prog 192 #[.int .i64 l] w fun e w' => e = .returned (.bool (i5 l)) ∧ w = w' := by
 go_enter Tryz.func192, Tryz.ntmps192
 go_wp2
 all_goals go_ret
 all_goals exact ⟨i6 (by simp [i5]; try omega), rfl⟩
theorem aW2 (v1 v2 v3 : Value) (vars arrays : List Int) (w : World) (h1 : N3 w v1 vars.length 1 (ints vars)) (h2 : N3 w v2 arrays.length 1 (ints arrays)) :
  Calls Tryz.prog 129 #[.agg #[v1, v2, v3]] w fun e w' => e = .returned (.bool (B6 vars arrays)) ∧ Below w.heap.size w w' := by
 have B0 : Below w.heap.size w (w.alloc (.cells #[v1, v2, v3] 26)) := by go_grown
 obtain ⟨a1, c1, rfl, -, hm1, -, hc1⟩ := (h1.below B0).open1
 obtain ⟨a2, c2, rfl, -, hm2, -, hc2⟩ := (h2.below B0).open1
 have HT : Hid (B6 vars arrays = (vars.all i5 && arrays.all i5 && decide (1 ≤ vars.length) && decide (vars.length ≤ 12) && decide (arrays.length ≤ 2))) := rfl
 clear h1 h2
 go_enter Tryz.func129, Tryz.ntmps129
 go_wp2_with fail
 go_loop [3] (fun i => ∃ k : Nat, k ≤ vars.length ∧ i = .int .i64 k ∧ (vars.take k).all i5 = true) (fun i => vars.length - (intOf i).toNat)
 case atStart => exact ⟨0, cb1 _, rfl, rfl⟩
 case round =>
  obtain ⟨k, hk, rfl, ha⟩ := hrel
  have HA := show Hid _ from ha
  clear ha
  by_cases hlt : k < vars.length
  ·obtain ⟨b1, o1, rfl, hb1, hx⟩ := hc1 k hlt
   rw [al5 _ _ hlt] at hx
   have HS := show Hid _ from ap9 i5 vars k hlt
   clear hc1 hc2
   cases hl : i5 vars[k]
   all_goals
    have HL := show Hid _ from hl
    clear hl
    go_wp2_with fail
    refine (V9 _ _).mono ?_
    rintro e w1 ⟨rfl, rfl⟩
    rw [HL.out]
    go_wp2_with fail
   ·go_ret
    exact ⟨i6 (by rw [HT.out, bm4 hlt HL.out]; rfl), B0⟩
   ·go_round
    case rel => exact ⟨k + 1, by omega, by go_num, by rw [HS.out, HA.out, HL.out]; rfl⟩
    case measure => simp [intOf]; omega
  ·have HA' := show Hid (vars.all i5 = true) from by have := HA.out; rwa [b98 (by omega)] at this
   clear HA hc1
   go_wp2_with fail
   go_loop [4] (fun i => ∃ k : Nat, k ≤ arrays.length ∧ i = .int .i64 k ∧ (arrays.take k).all i5 = true) (fun i => arrays.length - (intOf i).toNat)
   case atStart => exact ⟨0, cb1 _, rfl, rfl⟩
   case round =>
    obtain ⟨j, hj, rfl, ha⟩ := hrel
    have HB := show Hid _ from ha
    clear ha
    by_cases hlj : j < arrays.length
    ·obtain ⟨b1, o1, rfl, hb1, hx⟩ := hc2 j hlj
     rw [al5 _ _ hlj] at hx
     have HS := show Hid _ from ap9 i5 arrays j hlj
     clear hc2
     cases hl : i5 arrays[j]
     all_goals
      have HL := show Hid _ from hl
      clear hl
      go_wp2_with fail
      refine (V9 _ _).mono ?_
      rintro e w1 ⟨rfl, rfl⟩
      rw [HL.out]
      go_wp2_with fail
     ·go_ret
      exact ⟨i6 (by rw [HT.out, bm4 hlj HL.out]; simp), B0⟩
     ·go_round
      case rel => exact ⟨j + 1, by omega, by go_num, by rw [HS.out, HB.out, HL.out]; rfl⟩
      case measure => simp [intOf]; omega
    ·have HB' := show Hid (arrays.all i5 = true) from by have := HB.out; rwa [b98 (by omega)] at this
     clear HB hc2
     go_wp2_with fail
     all_goals go_ret
     all_goals refine ⟨i6 ?_, B0⟩
     all_goals rw [HT.out, HA'.out, HB'.out]
     all_goals rw [Bool.eq_iff_iff]
     all_goals simp
     all_goals omega
theorem aW4 (k : Int) (w : World) : Calls Tryz.prog 261 #[.int .i64 k] w fun e w' => e = .returned (.int .i64 (o0 k)) ∧ w = w' := by
 go_enter Tryz.func261, Tryz.ntmps261
 go_wp2
 all_goals
  go_ret
  exact ⟨B9 (by unfold o0; (repeat' split) <;> simp_all <;> omega), rfl⟩
theorem aB5 (k n : Int) (kv : Value) (w : World) : Calls Tryz.prog 234 #[.agg #[.int .i64 k, .int .i64 n, kv]] w fun e w' => e = .returned (.bool (decide (k = 1) || decide (k = 2))) ∧ Below w.heap.size w w' := by
 by_cases h1 : k = 1
 ·have p1 : (k == 1) = true := by simp [h1]
  have Q := show Hid _ from h1
  clear h1
  go_enter Tryz.func234, Tryz.ntmps234
  go_wp2
  go_ret
  exact ⟨i6 (by simp [Q.out]), by go_grown⟩
 ·have p1 : (k == 1) = false := by simp [h1]
  have Q := show Hid _ from h1
  clear h1
  by_cases h2 : k = 2
  ·have p2 : (k == 2) = true := by simp [h2]
   have Q2 := show Hid _ from h2
   clear h2
   go_enter Tryz.func234, Tryz.ntmps234
   go_wp2
   go_ret
   exact ⟨i6 (by simp [Q2.out]), by go_grown⟩
  ·have p2 : (k == 2) = false := by simp [h2]
   have Q2 := show Hid _ from h2
   clear h2
   go_enter Tryz.func234, Tryz.ntmps234
   go_wp2
   go_ret
   exact ⟨i6 (by rw [decide_eq_false Q.out, decide_eq_false Q2.out]; rfl), by go_grown⟩
theorem aW1 (a1 a2 : Option Addr) (nv c1 na c2 : Nat) (v3 : Value) (k : Int) (w : World) (h1 : nv ≤ 9223372036854775807) (h2 : na ≤ 9223372036854775807) :
  Calls Tryz.prog 262 #[.agg #[.slice a1 nv c1, .slice a2 na c2, v3], .int .i64 k] w fun e w' => e = .returned (.int .i64 (N6 nv na k)) ∧ Below w.heap.size w w' := by
 go_enter Tryz.func262, Tryz.ntmps262
 go_wp2
 all_goals
  go_ret
  exact ⟨B9 (by unfold N6; (repeat' split) <;> simp_all), by go_grown⟩
theorem aT0 {e : d7} (h3 : e.kind = 3) (hl : 0 < e.kids.length) : Z4 e = (decide (e.kids[0].kind = 1) || decide (e.kids[0].kind = 2)) := by
 rcases e with ⟨k, n, ks⟩
 cases ks with
 | nil => simp [d7.kids] at hl
 | cons a r =>
  have h3' : k = 3 := h3
  subst h3'
  simp only [Z4, d7.kids, List.getElem_cons_zero, F6]
  rw [decide_eq_false (by simp [d7.kind])]
  rfl
theorem aV9 (a1 a2 : Option Addr) (nv c1 na c2 : Nat) (v3 : Value) (h1 : nv ≤ 9223372036854775807) (h2 : na ≤ 9223372036854775807) : ∀ d : Nat, d ≤ 5 → ∀ (e : d7) (φ : Nat → Prop) (v : Value) (w : World), ae9 w φ v e →
  Calls Tryz.prog 252 #[.agg #[.slice a1 nv c1, .slice a2 na c2, v3], v, .int .i64 d] w fun x w' => x = .returned (.bool (m6 nv na d e)) ∧ Below w.heap.size w w' := by
 intro d
 induction d with
 | zero =>
  intro _ e φ v w h
  obtain ⟨kv, rfl, hk⟩ := h
  have HS : Hid (m6 nv na 0 e = false) := rfl
  obtain ⟨W, hW, M⟩ : ∃ W, W = (w.alloc (.cells #[.slice a1 nv c1, .slice a2 na c2, v3] 26)).alloc (.cells #[.int .i64 e.kind, .int .i64 e.value, kv] 104) ∧ C1 (fun _ => True) (fun _ => True) w W [.box w.heap.size [.slice a1 nv c1, .slice a2 na c2, v3], .box (w.heap.size + 1) [.int .i64 e.kind, .int .i64 e.value, kv]] :=
   ⟨_, rfl, ((C1.start fun _ _ => trivial).box _ _).box' _ _ (by simp)⟩
  have HB := show Hid _ from M.below fun _ _ => trivial
  clear hk M
  go_enter Tryz.func252, Tryz.ntmps252
  go_wp2_with fail
  rw [← hW]
  clear hW
  refine r9 (by kernel_rfl) (by kernel_rfl) ?_
  repeat (any_goals (first | go_big_quiet_step (((fail))) | quiet_step (((fail)))))
  refine wpQuiet_nil ?_
  rintro _ ⟨X, rfl⟩
  go_wp2_with fail
  go_ret
  exact ⟨i6 HS.out.symm, HB.out.trans ((l7 W X).mono HB.out.size)⟩
 | succ d ih =>
  intro hd5 e φ v w h
  obtain ⟨kv, rfl, hk⟩ := h
  obtain ⟨ak, ck, rfl, -, hn, -, hc⟩ := hk.open
  have hd0 : (d : Int) ≤ 5 := by omega
  have p0 : decide ((d : Int) + 1 < 1) = false := by simp; omega
  have HS : Hid (m6 nv na (d + 1) e = (C2 nv na e && e.kids.all (m6 nv na d) && Z4 e)) := rfl
  obtain ⟨W, hW, M⟩ : ∃ W, W = (w.alloc (.cells #[.slice a1 nv c1, .slice a2 na c2, v3] 26)).alloc (.cells #[.int .i64 e.kind, .int .i64 e.value, .slice ak e.kids.length ck] 104) ∧ C1 (fun _ => True) (fun _ => True) w W [.box w.heap.size [.slice a1 nv c1, .slice a2 na c2, v3], .box (w.heap.size + 1) [.int .i64 e.kind, .int .i64 e.value, .slice ak e.kids.length ck]] :=
   ⟨_, rfl, ((C1.start fun _ _ => trivial).box _ _).box' _ _ (by simp)⟩
  have HB := show Hid _ from M.below fun _ _ => trivial
  have HA : Hid (∀ X, Calls Tryz.prog 261 #[.int .i64 e.kind] (W.ext X) fun x w'' => x = .returned (.int .i64 (o0 e.kind)) ∧ ∃ Y, w'' = W.ext Y) := fun X =>
   Calls.ext_of' ((aW4 e.kind _).mono fun x w' h => ⟨h.1, h.2 ▸ Below.refl _ _⟩)
  have HL : Hid (∀ X, Calls Tryz.prog 262 #[.agg #[.slice a1 nv c1, .slice a2 na c2, v3], .int .i64 e.kind] (W.ext X) fun x w'' => x = .returned (.int .i64 (N6 nv na e.kind)) ∧ ∃ Y, w'' = W.ext Y) := fun X =>
   Calls.ext_of' (aW1 a1 a2 nv c1 na c2 v3 e.kind _ h1 h2)
  have HM := show Hid _ from M
  have HC := show Hid _ from hc
  have x0 := M.c 0 0 rfl rfl
  have x1 := M.c 0 1 rfl rfl
  have x2 := M.c 0 2 rfl rfl
  have y0 := M.c 1 0 rfl rfl
  have y1 := M.c 1 1 rfl rfl
  have y2 := M.c 1 2 rfl rfl
  have z0 := fun X => f8 x0 X
  have z1 := fun X => f8 x1 X
  have z2 := fun X => f8 x2 X
  have z3 := fun X => f8 y0 X
  have z4 := fun X => f8 y1 X
  have z5 := fun X => f8 y2 X
  clear hk M hc x0 x1 x2 y0 y1 y2
  by_cases q1 : (e.kids.length : Int) = o0 e.kind
  case neg =>
   have p1 : ((e.kids.length : Int) != o0 e.kind) = true := by simp [q1]
   have HN : Hid (C2 nv na e = false) := by unfold Hid C2; simp [q1]
   clear q1
   go_enter Tryz.func252, Tryz.ntmps252
   go_wp2_with fail
   rw [← hW]
   clear hW
   refine r9 (by kernel_rfl) (by kernel_rfl) ?_
   repeat (any_goals (first | go_big_quiet_step (((first | (go_at_call 261; exact HA.out _) | (go_at_call 262; exact HL.out _)))) | quiet_step (((first | (go_at_call 261; exact HA.out _) | (go_at_call 262; exact HL.out _))))))
   refine wpQuiet_nil ?_
   rintro _ ⟨X, rfl⟩
   go_wp2_with fail
   go_ret
   exact ⟨i6 (by rw [HS.out, HN.out]; rfl), HB.out.trans ((l7 W X).mono HB.out.size)⟩
  have p1 : ((e.kids.length : Int) != o0 e.kind) = false := by simp [q1]
  by_cases q2 : e.value < 0
  case pos =>
   have p2 : decide (e.value < 0) = true := by simp [q2]
   have HN : Hid (C2 nv na e = false) := by unfold Hid C2; simp; intro _ h; omega
   clear q1 q2
   go_enter Tryz.func252, Tryz.ntmps252
   go_wp2_with fail
   rw [← hW]
   clear hW
   refine r9 (by kernel_rfl) (by kernel_rfl) ?_
   repeat (any_goals (first | go_big_quiet_step (((first | (go_at_call 261; exact HA.out _) | (go_at_call 262; exact HL.out _)))) | quiet_step (((first | (go_at_call 261; exact HA.out _) | (go_at_call 262; exact HL.out _))))))
   refine wpQuiet_nil ?_
   rintro _ ⟨X, rfl⟩
   go_wp2_with fail
   go_ret
   exact ⟨i6 (by rw [HS.out, HN.out]; rfl), HB.out.trans ((l7 W X).mono HB.out.size)⟩
  have p2 : decide (e.value < 0) = false := by simp; omega
  by_cases q3 : N6 nv na e.kind ≤ e.value
  case pos =>
   have p3 : decide (N6 nv na e.kind ≤ e.value) = true := by simp [q3]
   have HN : Hid (C2 nv na e = false) := by unfold Hid C2; simp; intro _ h; omega
   clear q1 q2 q3
   go_enter Tryz.func252, Tryz.ntmps252
   go_wp2_with fail
   rw [← hW]
   clear hW
   refine r9 (by kernel_rfl) (by kernel_rfl) ?_
   repeat (any_goals (first | go_big_quiet_step (((first | (go_at_call 261; exact HA.out _) | (go_at_call 262; exact HL.out _)))) | quiet_step (((first | (go_at_call 261; exact HA.out _) | (go_at_call 262; exact HL.out _))))))
   refine wpQuiet_nil ?_
   rintro _ ⟨X, rfl⟩
   go_wp2_with fail
   go_ret
   exact ⟨i6 (by rw [HS.out, HN.out]; rfl), HB.out.trans ((l7 W X).mono HB.out.size)⟩
  have p3 : decide (N6 nv na e.kind ≤ e.value) = false := by simp; omega
  have HN : Hid (C2 nv na e = true) := by unfold Hid C2; simp; exact ⟨⟨q1, by omega⟩, by omega⟩
  have HQ := show Hid _ from q1
  clear q1 q2 q3
  go_enter Tryz.func252, Tryz.ntmps252
  go_wp2_with fail
  rw [← hW]
  clear hW
  refine r9 (by kernel_rfl) (by kernel_rfl) ?_
  repeat (any_goals (first | go_big_quiet_step (((first | (go_at_call 261; exact HA.out _) | (go_at_call 262; exact HL.out _)))) | quiet_step (((first | (go_at_call 261; exact HA.out _) | (go_at_call 262; exact HL.out _))))))
  refine wpQuiet_nil ?_
  rintro _ ⟨X, rfl⟩
  have M := HM.out.call (l7 W X)
  generalize W.ext X = W1 at *
  clear HA HL HM HB p1 p2 p3 z0 z1 z2 z3 z4 z5
  go_wp2_with fail
  go_loopw [7] (fun i wr => ∃ k : Nat, k ≤ e.kids.length ∧ i = .int .i64 k ∧ (e.kids.take k).all (m6 nv na d) = true ∧ C1 (fun _ => True) (fun _ => True) w wr [.box w.heap.size [.slice a1 nv c1, .slice a2 na c2, v3], .box (w.heap.size + 1) [.int .i64 e.kind, .int .i64 e.value, .slice ak e.kids.length ck]]) (fun i _ => e.kids.length - (intOf i).toNat)
  case atStart => exact ⟨0, cb1 _, rfl, rfl, M⟩
  case round =>
   clear M
   obtain ⟨k, hk, rfl, hall, M⟩ := hrel
   have HALL := show Hid _ from hall
   clear hall
   have hB := M.below fun _ _ => trivial
   have x0 := M.c 0 0 rfl rfl
   have x1 := M.c 0 1 rfl rfl
   have x2 := M.c 0 2 rfl rfl
   have y0 := M.c 1 0 rfl rfl
   have y2 := M.c 1 2 rfl rfl
   by_cases hlt : k < e.kids.length
   ·obtain ⟨b, off, kv, rfl, hbk, hf, c0, c1', c2', hkv⟩ := HC.out k hlt
    rw [← (K0 hB).1 _ _ hbk] at c0 c1' c2'
    obtain ⟨q, hq⟩ : ∃ q, q = m6 nv na d e.kids[k] := ⟨_, rfl⟩
    have HC3 : Hid (∀ X, Calls Tryz.prog 252 #[.agg #[.slice a1 nv c1, .slice a2 na c2, v3], .agg #[.int .i64 e.kids[k].kind, .int .i64 e.kids[k].value, kv], .int .i64 d] (wr.ext X) fun x w'' => x = .returned (.bool q) ∧ ∃ Y, w'' = wr.ext Y) := fun X => by
     have bb := hB.trans ((l7 wr X).mono hB.size)
     rw [hq]
     exact Calls.ext_of' (ih (by omega) _ φ _ _ ⟨kv, rfl, t7.nice _ _ _ _ _ _ (Agr.below bb) hkv⟩)
    have HQQ := show Hid _ from hq
    have HM := show Hid _ from M
    have j0 := fun X => f8 c0 X
    have j1 := fun X => f8 c1' X
    have j2 := fun X => f8 c2' X
    have z0 := fun X => f8 x0 X
    have z1 := fun X => f8 x1 X
    have z2 := fun X => f8 x2 X
    have z5 := fun X => f8 y2 X
    have hlt' : (k : Int) < e.kids.length := by omega
    clear hkv hq c0 c1' c2' x0 x1 x2 y0 M hB
    cases q
    ·go_wp2_with fail
     refine r9 (by kernel_rfl) (by kernel_rfl) ?_
     repeat (any_goals (first | go_big_quiet_step (((go_at_call 252; exact HC3.out _))) | quiet_step (((go_at_call 252; exact HC3.out _)))))
     refine wpQuiet_nil ?_
     rintro _ ⟨X, rfl⟩
     go_wp2_with fail
     go_ret
     have M := HM.out.call (l7 wr X)
     refine ⟨i6 ?_, M.below fun _ _ => trivial⟩
     have h9 : e.kids.all (m6 nv na d) = false := List.all_eq_false.2 ⟨_, ca5 hlt, by rw [← HQQ.out]; simp⟩
     rw [HS.out, h9, Bool.and_false, Bool.false_and]
    ·go_wp2_with fail
     refine r9 (by kernel_rfl) (by kernel_rfl) ?_
     repeat (any_goals (first | go_big_quiet_step (((go_at_call 252; exact HC3.out _))) | quiet_step (((go_at_call 252; exact HC3.out _)))))
     refine wpQuiet_nil ?_
     rintro _ ⟨X, rfl⟩
     go_wp2_with fail
     refine ⟨⟨k + 1, by omega, by go_num, ?_, HM.out.call (l7 wr X)⟩, by simp [intOf]; omega⟩
     rw [D4 _ _ hlt, List.all_append, HALL.out]
     simp [← HQQ.out]
   ·have hkn : k = e.kids.length := by omega
    subst hkn
    have hall := HALL.out
    rw [b98 (b94 _)] at hall
    have HAL := show Hid _ from hall
    have HB := show Hid _ from hB
    have HM := show Hid _ from M
    clear hall x0 x1 x2 M hB
    by_cases q4 : e.kind = 3
    ·have p4 : (e.kind != 3) = false := by simp [q4]
     have hl1 : e.kids.length = 1 := by have := HQ.out; rw [q4] at this; simp [o0] at this; omega
     have HL1 := show Hid _ from hl1
     have hpos : 0 < (e.kids.length : Int) := by omega
     obtain ⟨b, off, kv, rfl, hbk, hf, c0, c1', c2', hkv⟩ := HC.out 0 (by omega)
     rw [← (K0 HB.out).1 _ _ hbk] at c0 c1' c2'
     simp only [Nat.zero_mul, cc8] at c0 c1' c2'
     have HR := show Hid _ from aT0 q4 (by omega)
     clear hkv q4
     go_wp2_with fail
     refine (aB5 _ _ _ _).mono ?_
     rintro x w2 ⟨rfl, b2⟩
     have B2 := show Hid _ from HB.out.trans (b2.mono HB.out.size)
     clear b2
     go_wp2_with fail
     go_ret
     exact ⟨i6 (by rw [HS.out, HN.out, HAL.out, HR.out]; rfl), B2.out⟩
    ·have p4 : (e.kind != 3) = true := by simp [q4]
     have HR : Hid (Z4 e = true) := by unfold Hid Z4; simp [q4]
     clear q4
     go_wp2_with fail
     go_ret
     exact ⟨i6 (by rw [HS.out, HN.out, HAL.out, HR.out]; rfl), HB.out⟩
theorem aP0 {nv na d : Nat} {e : d7} (h : m6 nv na (d + 1) e = true) : e.kids.length ≤ 3 ∧ ∀ x ∈ e.kids, m6 nv na d x = true := by
 simp only [m6, C2, b85, decide_eq_true_eq, b93] at h
 refine ⟨?_, h.1.2⟩
 have h1 := h.1.1.1.1
 have : o0 e.kind ≤ 3 := by unfold o0; (repeat' split) <;> omega
 omega
theorem bb8 {ks : List d7} {B : Nat} (h : ∀ x ∈ ks, 1 + F0 x ≤ B) : s8 ks ≤ ks.length * B := by
 induction ks with
 | nil => simp [s8]
 | cons a r ih =>
  have h1 := h a ca6
  have h2 := ih fun x hx => h x (ca9 _ hx)
  simp only [s8, b84, cc1]; omega
theorem a30 (nv na : Nat) : ∀ (d : Nat) (e : d7), m6 nv na d e = true → 1 + F0 e ≤ 4 ^ d := by
 intro d
 induction d with
 | zero => intro e h; simp [m6] at h
 | succ d ih =>
  intro e h
  obtain ⟨h1, h2⟩ := aP0 h
  have h3 := bb8 (ks := e.kids) fun x hx => ih x (h2 x hx)
  have h4 : e.kids.length * 4 ^ d ≤ 3 * 4 ^ d := cc7 _ h1
  have h5 : 0 < 4 ^ d := Nat.pos_of_ne_zero (by simp)
  rw [U8, Nat.pow_succ]
  omega
theorem aW3 (nv na : Nat) : ∀ d : Nat, d ≤ 5 → ∀ (e : d7) (φ : Nat → Prop) (v : Value) (w : World), ae9 w φ v e → m6 nv na d e = true →
  Calls Tryz.prog 253 #[v, .int .i64 d] w fun x w' => x = .returned (.int .i64 (1 + F0 e : Nat)) ∧ Below w.heap.size w w' := by
 intro d
 induction d with
 | zero => intro _ e φ v w _ hs; simp [m6] at hs
 | succ d ih =>
  intro hd5 e φ v w h hs
  obtain ⟨kv, rfl, hk⟩ := h
  obtain ⟨ak, ck, rfl, -, hn, -, hc⟩ := hk.open
  have hd0 : (d : Int) ≤ 5 := by omega
  have hd1 : decide (0 < (d : Int) + 1) = true := decide_eq_true (by omega)
  have hsz : s8 e.kids ≤ 1024 := by
   have h1 := a30 nv na (d + 1) e hs
   have h2 : 4 ^ (d + 1) ≤ 4 ^ 5 := Nat.pow_le_pow_right (by omega) hd5
   rw [U8] at h1; omega
  have HK := show Hid _ from (aP0 hs).2
  obtain ⟨W, hW, M⟩ : ∃ W, W = w.alloc (.cells #[.int .i64 e.kind, .int .i64 e.value, .slice ak e.kids.length ck] 104) ∧ C1 (fun _ => True) (fun _ => True) w W [.box w.heap.size [.int .i64 e.kind, .int .i64 e.value, .slice ak e.kids.length ck]] :=
   ⟨_, rfl, (C1.start fun _ _ => trivial).box _ _⟩
  have HC := show Hid _ from hc
  have HSZ := show Hid _ from U8 e
  clear hk hc hs
  go_enter Tryz.func253, Tryz.ntmps253
  go_wp2_with fail
  rw [← hW]
  clear hW
  go_loopw [5, 6] (fun q i wr => ∃ k : Nat, k ≤ e.kids.length ∧ i = .int .i64 k ∧ q = .int .i64 (1 + s8 (e.kids.take k) : Nat) ∧ C1 (fun _ => True) (fun _ => True) w wr [.box w.heap.size [.int .i64 e.kind, .int .i64 e.value, .slice ak e.kids.length ck]]) (fun _ i _ => e.kids.length - (intOf i).toNat)
  case atStart => exact ⟨0, cb1 _, rfl, rfl, M⟩
  case round =>
   clear M
   obtain ⟨k, hk, rfl, rfl, M⟩ := hrel
   have hB := M.below fun _ _ => trivial
   have y2 := M.c 0 2 rfl rfl
   have htl := af4 e.kids k
   obtain ⟨z, hz⟩ : ∃ z, z = s8 (e.kids.take k) := ⟨_, rfl⟩
   rw [← hz] at htl ⊢
   have HZ := show Hid _ from hz
   clear hz
   by_cases hlt : k < e.kids.length
   ·obtain ⟨b, off, kv, rfl, hbk, hf, c0, c1', c2', hkv⟩ := HC.out k hlt
    rw [← (K0 hB).1 _ _ hbk] at c0 c1' c2'
    have HE := show Hid (ae9 wr φ (.agg #[.int .i64 e.kids[k].kind, .int .i64 e.kids[k].value, kv]) e.kids[k]) from ⟨kv, rfl, t7.nice _ _ _ _ _ _ (Agr.below hB) hkv⟩
    have HM := show Hid _ from M
    have hlt' : (k : Int) < e.kids.length := by omega
    have HT := show Hid _ from Z2 hlt
    have htl1 := af4 e.kids (k + 1)
    rw [HT.out, ← HZ.out] at htl1
    clear hkv M hB
    go_wp2_with fail
    refine (ih (by omega) _ φ _ _ HE.out (HK.out _ (ca5 hlt))).mono ?_
    rintro x w2 ⟨rfl, b2⟩
    have HM2 := show Hid _ from HM.out.call b2
    clear b2 y2
    go_wp2_with fail
    exact ⟨⟨k + 1, by omega, by go_num, by rw [HT.out, ← HZ.out]; go_num, HM2.out⟩, by simp [intOf]; omega⟩
   ·have hkn : k = e.kids.length := by omega
    subst hkn
    have HB := show Hid _ from hB
    clear M hB
    go_wp2_with fail
    go_ret
    exact ⟨B9 (by rw [HZ.out, b98 (b94 _), HSZ.out]), HB.out⟩
theorem L9 (a1 a2 : Option Addr) (nv c1 na c2 : Nat) (v3 : Value) (h1 : nv ≤ 9223372036854775807) (h2 : na ≤ 9223372036854775807) (e : d7) (φ : Nat → Prop) (v : Value) (w : World) (h : ae9 w φ v e) :
  Calls Tryz.prog 233 #[.agg #[.slice a1 nv c1, .slice a2 na c2, v3], v] w fun x w' => x = .returned (.bool (l0 nv na e)) ∧ Below w.heap.size w w' := by
 obtain ⟨kv, rfl, hk⟩ := h
 have HR : Hid (l0 nv na e = (m6 nv na 5 e && decide (1 + F0 e ≤ 15))) := rfl
 obtain ⟨W, hW, M⟩ : ∃ W, W = (w.alloc (.cells #[.slice a1 nv c1, .slice a2 na c2, v3] 26)).alloc (.cells #[.int .i64 e.kind, .int .i64 e.value, kv] 104) ∧ C1 (fun _ => True) (fun _ => True) w W [.box w.heap.size [.slice a1 nv c1, .slice a2 na c2, v3], .box (w.heap.size + 1) [.int .i64 e.kind, .int .i64 e.value, kv]] :=
  ⟨_, rfl, ((C1.start fun _ _ => trivial).box _ _).box' _ _ (by simp)⟩
 have HE := show Hid (∀ W', Below w.heap.size w W' → ae9 W' φ (.agg #[.int .i64 e.kind, .int .i64 e.value, kv]) e) from fun W' k => ⟨kv, rfl, t7.nice _ _ _ _ _ _ (Agr.below k) hk⟩
 clear hk
 have x0 := M.c 0 0 rfl rfl
 have x1 := M.c 0 1 rfl rfl
 have x2 := M.c 0 2 rfl rfl
 have y0 := M.c 1 0 rfl rfl
 have y1 := M.c 1 1 rfl rfl
 have y2 := M.c 1 2 rfl rfl
 rw [hW] at x0 x1 x2 y0 y1 y2
 go_enter Tryz.func233, Tryz.ntmps233
 go_wp2_with fail
 rw [← hW]
 clear hW x0 x1 x2 y0 y1 y2
 refine (aV9 a1 a2 nv c1 na c2 v3 h1 h2 5 (by omega) e φ _ _ (HE.out _ (M.below fun _ _ => trivial))).mono ?_
 rintro x w1 ⟨rfl, b1⟩
 replace M := M.call b1
 clear b1
 cases hs : m6 nv na 5 e
 ·have HB := show Hid _ from M.below fun _ _ => trivial
  have HS := show Hid _ from hs
  clear hs M
  go_wp2_with fail
  go_ret
  exact ⟨i6 (by rw [HR.out, HS.out]; rfl), HB.out⟩
 ·have HS := show Hid _ from hs
  have hsz := a30 nv na 5 e hs
  have y0 := M.c 1 0 rfl rfl
  have y1 := M.c 1 1 rfl rfl
  have y2 := M.c 1 2 rfl rfl
  have HM := show Hid _ from M
  clear hs M
  go_wp2_with fail
  refine (aW3 nv na 5 (by omega) e φ _ _ (HE.out _ (HM.out.below fun _ _ => trivial)) HS.out).mono ?_
  rintro x w2 ⟨rfl, b1⟩
  have HB := show Hid _ from (HM.out.call b1).below fun _ _ => trivial
  clear b1 y0 y1 y2
  go_wp2_with fail
  go_ret
  exact ⟨i6 (by rw [HR.out, HS.out, Bool.true_and]; exact decide_eq_decide.2 (by omega)), HB.out⟩
theorem w5 (n lo hi : Int) (w : World) : Calls Tryz.prog 101 #[.int .i64 n, .int .i64 lo, .int .i64 hi] w fun e w' => e = .returned (.bool (decide (lo ≤ n) && decide (n ≤ hi))) ∧ w = w' := by
 go_enter Tryz.func101, Tryz.ntmps101
 go_wp2
 all_goals go_ret
 all_goals exact ⟨i6 (by simp; try omega), rfl⟩
theorem O1 (l : Int) (w : World) : Calls Tryz.prog 105 #[.int .i64 l] w fun e w' => e = .returned (.bool (i5 l)) ∧ w = w' := by
 go_enter Tryz.func105, Tryz.ntmps105
 go_wp2_with fail
 refine (w5 l 0 3 _).mono ?_
 rintro e w1 ⟨rfl, rfl⟩
 go_wp2_with fail
 go_ret
 exact ⟨rfl, rfl⟩
theorem aD8 (l : Int) (w : World) : Calls Tryz.prog 222 #[.int .i64 l] w fun e w' => e = .returned (.bool (!i5 l)) ∧ w = w' := by
 go_enter Tryz.func222, Tryz.ntmps222
 go_wp2_with fail
 refine (O1 l _).mono ?_
 rintro e w1 ⟨rfl, rfl⟩
 go_wp2_with fail
 go_ret
 exact ⟨rfl, rfl⟩
theorem aP9 (p : Int → Bool) (f : FuncId) (v : Value) (xs : List Int) (w : World) (h : N3 w v xs.length 1 (ints xs)) (he : ∀ args w, (callFunc f args).run Tryz.prog w = .ok (.enter f args) w)
  (hf : ∀ x w', Calls Tryz.prog f #[.int .i64 x] w' fun e w'' => e = .returned (.bool (p x)) ∧ w' = w'') :
  Calls Tryz.prog 245 #[v, .func (.func f) #[] #[]] w fun e w' => ∃ r : Int, e = .returned (.int .i64 r) ∧ decide (0 ≤ r) = xs.any p ∧ w = w' := by
 obtain ⟨a1, c1, rfl, -, hm1, -, hc1⟩ := h.open1
 have HF := show Hid _ from hf
 clear h hf
 go_enter Tryz.func245, Tryz.ntmps245
 go_wp2_with fail
 go_loop [5, 8] (fun _ i => ∃ k : Nat, k ≤ xs.length ∧ i = .int .i64 k ∧ (xs.take k).any p = false) (fun _ i => xs.length - (intOf i).toNat)
 case atStart => exact ⟨0, cb1 _, rfl, rfl⟩
 case round =>
  obtain ⟨k, hk, rfl, ha⟩ := hrel
  have HA := show Hid _ from ha
  clear ha
  by_cases hlt : k < xs.length
  ·obtain ⟨b1, o1, rfl, hb1, hx⟩ := hc1 k hlt
   rw [al5 _ _ hlt] at hx
   clear hc1
   cases hp : p xs[k]
   all_goals
    have HP := show Hid _ from hp
    clear hp
    go_wp2_with fail
    refine (HF.out xs[k] _).mono ?_
    rintro e w1 ⟨rfl, rfl⟩
    rw [HP.out]
    go_wp2_with fail
   ·go_round
    case rel => exact ⟨k + 1, by omega, by go_num, by rw [n9 _ _ hlt, List.any_append, HA.out]; simp [HP.out]⟩
    case measure => simp [intOf]; omega
   ·go_ret
    exact ⟨_, rfl, by rw [decide_eq_true (by omega)]; symm; rw [List.any_eq_true]; exact ⟨_, ca5 hlt, HP.out⟩, rfl⟩
  ·go_wp2_with fail
   go_ret
   refine ⟨_, rfl, ?_, rfl⟩
   have := HA.out
   rw [b98 (by omega)] at this
   rw [this]; rfl
theorem az5 (p : Int → Bool) (f : FuncId) (v : Value) (xs : List Int) (w : World) (h : N3 w v xs.length 1 (ints xs)) (he : ∀ args w, (callFunc f args).run Tryz.prog w = .ok (.enter f args) w)
  (hf : ∀ x w', Calls Tryz.prog f #[.int .i64 x] w' fun e w'' => e = .returned (.bool (p x)) ∧ w' = w'') :
  Calls Tryz.prog 221 #[v, .func (.func f) #[] #[]] w fun e w' => e = .returned (.bool (xs.any p)) ∧ w = w' := by
 obtain ⟨a1, c1, rfl, -⟩ := h.open1
 have HF := show Hid _ from hf
 have HE := show Hid _ from he
 clear hf he
 go_enter Tryz.func221, Tryz.ntmps221
 go_wp2_with fail
 refine (aP9 p f _ xs _ h HE.out HF.out).mono ?_
 rintro e w1 ⟨r, rfl, hr, rfl⟩
 have HR := show Hid _ from hr
 clear hr
 go_wp2_with fail
 go_ret
 exact ⟨i6 HR.out, rfl⟩
theorem ba8 (xs : List Int) : (!xs.any fun l => !i5 l) = xs.all i5 := by
 induction xs with
 | nil => rfl
 | cons x r ih => simp only [List.any_cons, List.all_cons, ← ih]; cases i5 x <;> simp
theorem aa0 (v : Value) (xs : List Int) (w : World) (h : N3 w v xs.length 1 (ints xs)) :
  Calls Tryz.prog 172 #[v] w fun e w' => e = .returned (.bool (xs.all i5)) ∧ w = w' := by
 obtain ⟨a1, c1, rfl, -⟩ := h.open1
 go_enter Tryz.func172, Tryz.ntmps172
 go_wp2_with fail
 refine (az5 (fun l => !i5 l) 222 _ xs _ h (az0 Tryz.func222 (by kernel_rfl) rfl) (fun x w' => aD8 x w')).mono ?_
 rintro e w1 ⟨rfl, rfl⟩
 have HN := show Hid _ from ba8 xs
 go_wp2_with fail
 go_ret
 exact ⟨i6 HN.out, rfl⟩
theorem ap6 (v1 v2 : Value) (vars arrays : List Int) (w : World) (h1 : N3 w v1 vars.length 1 (ints vars)) (h2 : N3 w v2 arrays.length 1 (ints arrays)) :
  Calls Tryz.prog 100 #[v1, v2] w fun e w' => e = .returned (.bool (B6 vars arrays)) ∧ w = w' := by
 obtain ⟨a1, c1, rfl, -, q1, -⟩ := h1.open1
 obtain ⟨a2, c2, rfl, -, q2, -⟩ := h2.open1
 have HT : Hid (B6 vars arrays = (vars.all i5 && arrays.all i5 && decide (1 ≤ vars.length) && decide (vars.length ≤ 12) && decide (arrays.length ≤ 2))) := rfl
 by_cases hn : (1 : Int) ≤ (vars.length : Int) ∧ (vars.length : Int) ≤ 12
 ·have hb : (decide ((1 : Int) ≤ vars.length) && decide ((vars.length : Int) ≤ 12)) = true := by simpa using hn
  have HB := show Hid _ from hb
  by_cases hm : (arrays.length : Int) ≤ 2
  ·cases hv : vars.all i5
   ·have HV := show Hid _ from hv
    clear hv hb hn
    go_enter Tryz.func100, Tryz.ntmps100
    go_wp2_with fail
    refine (w5 _ 1 12 _).mono ?_
    rintro e w1 ⟨rfl, rfl⟩
    rw [HB.out]
    go_wp2_with fail
    refine (aa0 _ vars _ h1).mono ?_
    rintro e w1 ⟨rfl, rfl⟩
    rw [HV.out]
    go_wp2_with fail
    go_ret
    exact ⟨i6 (by rw [HT.out, HV.out]; rfl), rfl⟩
   ·have HV := show Hid _ from hv
    have hn' := show Hid _ from hn
    have hm' := show Hid _ from hm
    clear hv hb hn
    go_enter Tryz.func100, Tryz.ntmps100
    go_wp2_with fail
    refine (w5 _ 1 12 _).mono ?_
    rintro e w1 ⟨rfl, rfl⟩
    rw [HB.out]
    go_wp2_with fail
    refine (aa0 _ vars _ h1).mono ?_
    rintro e w1 ⟨rfl, rfl⟩
    rw [HV.out]
    go_wp2_with fail
    refine (aa0 _ arrays _ h2).mono ?_
    rintro e w1 ⟨rfl, rfl⟩
    go_wp2_with fail
    go_ret
    refine ⟨i6 ?_, rfl⟩
    have h3 := hn'.out
    have h4 := hm'.out
    rw [HT.out, HV.out, decide_eq_true (show 1 ≤ vars.length by omega), decide_eq_true (show vars.length ≤ 12 by omega), decide_eq_true (show arrays.length ≤ 2 by omega)]
    simp
  ·have hF : Hid (B6 vars arrays = false) := by unfold Hid; rw [HT.out, decide_eq_false (show ¬ arrays.length ≤ 2 by omega)]; simp
   clear hb hn
   go_enter Tryz.func100, Tryz.ntmps100
   go_wp2_with fail
   refine (w5 _ 1 12 _).mono ?_
   rintro e w1 ⟨rfl, rfl⟩
   rw [HB.out]
   go_wp2_with fail
   go_ret
   exact ⟨i6 hF.out.symm, rfl⟩
 ·have hb : (decide ((1 : Int) ≤ vars.length) && decide ((vars.length : Int) ≤ 12)) = false := by
   rw [Bool.eq_false_iff]; simp only [ne_eq, b85, decide_eq_true_eq]; exact hn
  have HB := show Hid _ from hb
  have hF : Hid (B6 vars arrays = false) := by
   unfold Hid; rw [HT.out]
   rcases Classical.not_and_iff_not_or_not.1 hn with h | h
   ·rw [decide_eq_false (show ¬ 1 ≤ vars.length by omega)]; simp
   ·rw [decide_eq_false (show ¬ vars.length ≤ 12 by omega)]; simp
  clear hb hn
  go_enter Tryz.func100, Tryz.ntmps100
  go_wp2_with fail
  refine (w5 _ 1 12 _).mono ?_
  rintro e w1 ⟨rfl, rfl⟩
  rw [HB.out]
  go_wp2_with fail
  go_ret
  exact ⟨i6 hF.out.symm, rfl⟩
theorem av0 (k n : Int) (kv : Value) (w : World) : Calls Tryz.prog 228 #[.agg #[.int .i64 k, .int .i64 n, kv]] w fun e w' => e = .returned (.bool (decide (k = 1) || decide (k = 2))) ∧ Below w.heap.size w w' := by
 by_cases h1 : k = 1
 ·have p1 : (k == 1) = true := by simp [h1]
  have Q := show Hid _ from h1
  clear h1
  go_enter Tryz.func228, Tryz.ntmps228
  go_wp2
  go_ret
  exact ⟨i6 (by simp [Q.out]), by go_grown⟩
 ·have p1 : (k == 1) = false := by simp [h1]
  have Q := show Hid _ from h1
  clear h1
  by_cases h2 : k = 2
  ·have p2 : (k == 2) = true := by simp [h2]
   have Q2 := show Hid _ from h2
   clear h2
   go_enter Tryz.func228, Tryz.ntmps228
   go_wp2
   go_ret
   exact ⟨i6 (by simp [Q2.out]), by go_grown⟩
  ·have p2 : (k == 2) = false := by simp [h2]
   have Q2 := show Hid _ from h2
   clear h2
   go_enter Tryz.func228, Tryz.ntmps228
   go_wp2
   go_ret
   exact ⟨i6 (by rw [decide_eq_false Q.out, decide_eq_false Q2.out]; rfl), by go_grown⟩
end Go.Proofs.YthikdkjjdeehoaaGreat
