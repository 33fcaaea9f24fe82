/-
  Texts of this claim, part 2: what the functions on the way do, and plain laws. Conditions: as each statement says.
-/
import Derived.Great.BuildSlice
import Derived.Deep.LoopGhost
import Derived.IntWalk
import Derived.Test.YtimmlkmpbmbgdaaK1

namespace Go.Proofs.Ytimmlkmpbmbgdaa
set_option linter.unusedVariables false
set_option linter.unusedSimpArgs false
open Go Go.RowKit

def tyBytes (P : Program) (t : TypeId) : Option Nat := (P.info? t).map (·.bytes)
def buildRes (P : Program) (dk : TypeId → Nat) (e : Operand → Option AV) (S : Nat → It) (id : Nat) (t : TypeId) (len : Nat) (parts : List (Nat × Operand)) : Option Tr :=
  match tyElem P t with
  | none => none
  | some el =>
    match tySz P el, tyZero P el, D.nil (dk el) with
    | some n, some z, some d0 =>
      if 0 < n && z.cells.size = n && d0.sz = n && len = parts.length && len * n ≤ 16777216 then
        match partsA e S n 0 parts with
        | some l => (manyD S (dk el) l).map fun r => ⟨[(id, .row el r.1)], [id], .ref id, r.2⟩
        | none => none
      else none
    | _, _, _ => none
/-- Elements that are zero. -/
def zerosD (k n : Nat) : Option (D × Value) :=
  match k with
  | 1 => some (.ints (List.replicate n 0), .int .i64 0)
  | 2 => some (.bools (List.replicate n false), .bool false)
  | 3 => some (.bytes (List.replicate n 0), .int .u8 0)
  | 7 => some (.rows (List.replicate n []), .slice none 0 0)
  | 8 => some (.brows (List.replicate n []), .slice none 0 0)
  | _ => none
def makeRes (P : Program) (dk : TypeId → Nat) (id : Nat) (t : TypeId) (l c : AV) : Option Tr :=
  match l, c, tyElem P t with
  | .v (.int .i64 n), .v (.int .i64 m), some el =>
    match zerosD (dk el) n.toNat, tyBytes P el, tySz P el, tyZero P el with
    | some (d, z), some by_, some sz, some z' => if sz = 1 then some ⟨[(id, .row el d)], [id], .ref id, [m = n, 0 ≤ n, by_ * n ≤ 281474976710656, n ≤ 9223372036854775807, z' = z]⟩ else none
    | _, _, _, _ => none
  | _, _, _ => none
def appRes (P : Program) (dk : TypeId → Nat) (S : Nat → It) (id : Nat) (t t' : TypeId) (s x : AV) : Option Tr :=
  if t = t' then
    match tyElem P t with
    | none => none
    | some el =>
      match slcD S (dk el) x, tyBytes P el, tySz P el, tyZero P el with
      | some d2, some by_, some n, some z =>
        if 0 < n && z.cells.size = n && d2.sz = n then
          match s with
          | .ref a => match S a with
            | .row e' d1 => if e' = el then (d1.app d2).map fun d => ⟨[(a, .dead), (id, .row el d)], [id], .ref id, [d1.len + d2.len ≤ 9223372036854775807, (d1.len + d2.len) * by_ ≤ 140737488355328]⟩ else none
            | _ => none
          | .v (.slice none 0 0) => some ⟨[(id, .row el d2)], [id], .ref id, [d2.len ≤ 9223372036854775807, d2.len * by_ ≤ 140737488355328]⟩
          | _ => none
        else none
      | _, _, _, _ => none
  else none
/-- A part of a slice. -/
def cutRes (P : Program) (S : Nat → It) (id : Nat) (t : TypeId) (x : AV) (lo hi : Option AV) : Option Tr :=
  match x with
  | .ref a => match S a, (tyElem P t).bind (tySz P) with
    | .dat d, some n =>
      if n = d.sz then
        match lo, hi with
        | none, none => some ⟨[(id, .dat (d.sub 0 d.len))], [id], .ref id, []⟩
        | none, some (.v (.int _ h)) => some ⟨[(id, .dat (d.sub 0 h.toNat))], [id], .ref id, [0 ≤ h, h ≤ (d.len : Int)]⟩
        | some (.v (.int _ l)), none => some ⟨[(id, .dat (d.sub l.toNat d.len))], [id], .ref id, [0 ≤ l, l ≤ (d.len : Int)]⟩
        | some (.v (.int _ l)), some (.v (.int _ h)) => some ⟨[(id, .dat (d.sub l.toNat h.toNat))], [id], .ref id, [0 ≤ l, l ≤ h, h ≤ (d.len : Int)]⟩
        | _, _ => none
      else none
    | _, _ => none
  | .v (.string s) => match P.underlying t with
    | some .string =>
      match lo, hi with
      | none, some (.v (.int _ h)) => some ⟨[], [], .v (.string (s.extract 0 h.toNat)), [0 ≤ h, h ≤ (s.size : Int)]⟩
      | some (.v (.int _ l)), none => some ⟨[], [], .v (.string (s.extract l.toNat s.size)), [0 ≤ l, l ≤ (s.size : Int)]⟩
      | some (.v (.int _ l)), some (.v (.int _ h)) => some ⟨[], [], .v (.string (s.extract l.toNat h.toNat)), [0 ≤ l, l ≤ h, h ≤ (s.size : Int)]⟩
      | _, _ => none
    | _ => none
  | _ => none

section
variable {P : Program} {ι : Type} {φ ψ : Nat → Prop} {w0 w w' : World} {F : ι → Rs} {ρ : Nat → Value} {S : Nat → It}

theorem build_ok (M : MemF φ ψ w0 w (lay F ρ S)) {dk : TypeId → Nat} {o : Oper} {e : Operand → Option AV} {g : Operand → Value} {t : TypeId} {len : Nat} {parts : Array (Nat × Operand)} (hop : o.op = .buildSlice t len parts) (hg : ∀ p ∈ parts.toList, ∀ v, e p.2 = some v → g p.2 = v.val ρ) {id : Nat} {r : Tr} (h : buildRes P dk e S id t len parts.toList = some r) (ho : AllP r.obs) (hmk : ∀ j ∈ r.made, S j = .none) (hi : Inv S ρ r.made) :
    Does P o g w (After φ ψ w0 F ρ S r) := by
  unfold buildRes at h
  split at h <;> first | cases h | skip
  rename_i el hel
  split at h <;> first | cases h | skip
  rename_i n z d0 h1 h2 h3
  split at h
  case isFalse => cases h
  rename_i hc
  simp only [Bool.and_eq_true, decide_eq_true_eq] at hc
  obtain ⟨⟨⟨⟨hn, hz⟩, hd0⟩, hlen⟩, hbig⟩ := hc
  split at h
  case h_2 => cases h
  rename_i l hl
  obtain ⟨⟨d, obs⟩, h4, h5⟩ := Option.map_eq_some_iff.1 h
  subst h5
  obtain ⟨k1, k2⟩ := partsA_len hl
  obtain ⟨m1, m2, m3⟩ := manyD_ok M h4 ho k2
  have hsz : d.sz = n := by
    rcases m2 with m2 | m2
    · subst m2
      simp only [manyD, h3, Option.map_some, Option.some.injEq, Prod.mk.injEq] at h4
      rw [← h4.1, hd0]
    · exact m2
  have hS : S id = .none := hmk id (by simp)
  obtain ⟨ie, hie, hie2⟩ := Option.map_eq_some_iff.1 h1
  have hiz : ie.zero = some z := by
    unfold tyZero at h2; rw [hie] at h2; exact h2
  have hu := elem_of hel
  have hdl : d.len = len := by rw [m1, k1, hlen]
  have hvl : (AV.vals ρ l.flatten).length = len * n := by
    have : ∀ (l : List (List AV)), (∀ c ∈ l, c.length = n) → l.flatten.length = l.length * n := by
      intro l
      induction l with
      | nil => intro _; simp
      | cons c r ih => intro h; rw [List.flatten_cons, List.length_append, ih fun c hc => h c (List.mem_cons_of_mem _ hc), h c List.mem_cons_self, List.length_cons, Nat.succ_mul]; omega
    rw [AV.vals_length, this l k2, k1, hlen]
  have hrun : (Instr.buildSlice t len (parts.map fun p => (p.1, g p.2))).run P w = .ok (.slice (some ⟨w.heap.size, 0, none⟩) len len) (w.alloc (.cells (AV.vals ρ l.flatten).toArray el)) := by
    rcases Nat.eq_zero_or_pos len with h0 | h0
    · have hp0 : parts.toList = [] := List.eq_nil_of_length_eq_zero (by omega)
      have hl0 : l = [] := List.eq_nil_of_length_eq_zero (by omega)
      subst hl0
      have hpa : parts = #[] := by apply Array.ext'; simpa using hp0
      subst hpa; subst h0
      have hr0 : Array.range 0 = #[] := rfl
      simp [Instr.buildSlice, run_underlying hu, sizeOf, typeInfo, hie, Instr.fill, newRow, AV.vals, hr0]
    · refine run_buildSlice w t el len _ _ ie z hu hie hiz (by rw [hie2]; omega) (by rw [hie2]; have := Nat.mul_pos h0 hn; omega) ?_
      have hf := partsA_fill M parts.toList 0 l [] (((Array.range (len * ie.size)).map (z.cells[· % z.cells.size]!)).toList) hl hg (by simp) (by simp [hie2, hlen])
      rw [hie2] at hf ⊢
      simp only [List.nil_append, Array.toArray_toList] at hf
      simpa using hf
  have hle : len ≤ 16777216 := Nat.le_trans (Nat.le_mul_of_pos_right len hn) hbig
  have hown := (own_built w (AV.vals ρ l.flatten).toArray len n el rfl (by simpa using hvl) (by omega)).1
  rw [← hdl, ← hsz] at hown
  obtain ⟨ρ', q1, q2, q3⟩ := M.newRow (id := id) (e := el) (d := d) ((Below.refl _ _).alloc (Nat.le_refl _) _) hS hi hown (by simpa using m3)
  have hrun2 : (execOp g o).run P w = .ok (.value (.slice (some ⟨w.heap.size, 0, none⟩) len len)) (w.alloc (.cells (AV.vals ρ l.flatten).toArray el)) := by
    simp only [execOp, hop, Sem.run_bind]
    rw [show (parts.map fun (i, x) => (i, g x)) = parts.map fun p => (p.1, g p.2) from rfl, hrun]
    rfl
  exact .inl ⟨_, _, hrun2, ρ', q1, q2, by simp only [AV.val]; rw [← q3, hdl]⟩

theorem rd_one {φ : Nat → Prop} {d : D} {v : Value} (h : RD w φ d v) : v.oneCell' = true := by
  obtain ⟨a, cap, rfl, _⟩ := h.open; rfl
theorem elem_one (d : D) (i j : Nat) (x : Value) (h : (d.elem i)[j]? = some (.v x)) : x.oneCell' = true := by
  have : ∀ y ∈ d.elem i, ∀ x, y = .v x → x.oneCell' = true := by
    intro y hy x hx
    subst hx
    cases d <;> simp [D.elem, insX, eventX, exprX, stmtX] at hy <;> (try rcases hy with rfl | rfl | rfl | rfl | rfl | rfl | rfl) <;> first | rfl | (subst hy; rfl) | (rcases hy with rfl | rfl | rfl | rfl | rfl <;> rfl) | (rcases hy with rfl | rfl <;> rfl)
  exact this _ (List.mem_of_getElem? h) x rfl
theorem rw_cells {φ : Nat → Prop} {d : D} {xs : List Value} (hl : xs.length = d.len * d.sz) (h : RW w φ d xs) : ∀ u ∈ xs, u.oneCell' = true := by
  intro u hu
  obtain ⟨p, hp⟩ := List.mem_iff_getElem?.1 hu
  have hp' := (List.getElem?_eq_some_iff.1 hp).1
  have hs : 0 < d.sz := by cases d <;> simp [D.sz]
  have hi : p / d.sz < d.len := by rw [hl] at hp'; exact Nat.div_lt_of_lt_mul (by rw [Nat.mul_comm]; exact hp')
  have hj : p % d.sz < (d.elem (p / d.sz)).length := by rw [D.elem_len]; exact Nat.mod_lt _ hs
  obtain ⟨v, h3, h4⟩ := h _ hi _ _ (List.getElem?_eq_getElem hj)
  rw [Nat.mul_comm, Nat.div_add_mod, hp] at h3
  cases h3
  cases hx : (d.elem (p / d.sz))[p % d.sz] with
  | v x =>
    rw [hx] at h4
    rw [show u = x from h4]
    exact elem_one d _ _ x (by rw [List.getElem?_eq_getElem hj, hx])
  | sl d' => rw [hx] at h4; exact rd_one (show RD _ _ _ _ from h4)

theorem slcD_ok (M : MemF φ ψ w0 w (lay F ρ S)) {k : Nat} {x : AV} {d : D} (h : slcD S k x = some d) : ∃ xs, Row w (x.val ρ) d.len d.sz xs ∧ RW w (FrF φ (lay F ρ S)) d xs := by
  unfold slcD at h
  split at h <;> first | cases h | skip
  · rename_i id
    cases hS : S id with
    | dat d' =>
      rw [hS] at h; cases h
      obtain ⟨xs, h1, h2⟩ := (M.datAt hS).split
      exact ⟨xs, h1.row, h2⟩
    | row e d' =>
      rw [hS] at h; cases h
      obtain ⟨xs, h1, h2⟩ := M.rowAt hS
      exact ⟨xs, owns_row h1, h2⟩
    | none => rw [hS] at h; cases h
    | dead => rw [hS] at h; cases h
    | box cs => rw [hS] at h; cases h
    | tree d => rw [hS] at h; cases h
    | kept e d => rw [hS] at h; cases h
  · refine ⟨[], ?_, RW.nil (D.nil_len h) _⟩
    rw [D.nil_len h]; exact Row.nil _ _

/-- A row's ownership goes from one number to another. -/
theorem MemF.move (M : MemF φ ψ w0 w (lay F ρ S)) {a id : Nat} {e : TypeId} {d1 d : D} {v : Value} {xs : List Value} (hS : S a = .row e d1) (hSi : S id = .none) (hi : Inv S ρ [id]) (hk : Kept (fun b => ¬ (ρ a).ownBlock = some b) w w')
    (ho : w'.ownsRow 0 e d.sz v d.len xs) (hx : RW w (FrF φ (lay F ρ S)) d xs) (hg : ∀ g, v.ownBlock = some g → (ρ a).ownBlock = some g ∨ w.heap.size ≤ g) :
    ∃ ρ', Agree [id] ρ ρ' ∧ MemF φ ψ w0 w' (lay F ρ' (updS S [(a, .dead), (id, .row e d)])) ∧ v = ρ' id := by
  have hne : id ≠ a := fun h => by rw [h, hS] at hSi; cases hSi
  have ha : Agree [id] ρ (fun j => if j = id then v else ρ j) := fun j hj => by
    have : j ≠ id := by simpa using hj
    simp [this]
  -- the row turned in its own place
  have M1 : MemF φ ψ w0 w' (fun k : ι ⊕ Nat => match k with | .inl i => F i | .inr j => if j = a then .row e d.sz v d.len (fun xs w φ => RW w φ d xs) else (S j).res ρ j) := by
    refine MemF.put M (.inr a) (fun k hk' => ?_) ?_ ?_ ?_
    · cases k with
      | inl i => rfl
      | inr j =>
        have : j ≠ a := fun e => hk' (by rw [e])
        simp [lay, this]
    · simp only [lay, hS, It.res]; exact hk
    · simp only [if_true]
      refine ⟨fun xs => RW.nice d xs, xs, ho, RW.nice d xs _ _ _ _ ⟨hk.size, fun b hb hf => ⟨⟨hf.1, fun k hk' => ?_⟩, hk.block b hb fun he => by have := hf.2 (.inr a); simp only [lay, hS, It.res] at this; exact this he⟩⟩ hx⟩
      cases k with
      | inl i => exact hf.2 (.inl i) hk'
      | inr j =>
        by_cases e' : j = a
        · subst e'
          simp only [if_true] at hk'
          have h2 := hf.2 (.inr j)
          simp only [lay, hS, It.res] at h2
          rcases hg b hk' with h3 | h3
          · exact h2 h3
          · omega
        · simp only [if_neg e'] at hk'
          exact hf.2 (.inr j) hk'
    · intro g hg'
      simp only [if_true] at hg'
      simp only [lay, hS, It.res]
      exact hg g hg'
  refine ⟨_, ha, ?_, by simp⟩
  refine M1.map (fun k : ι ⊕ Nat => (match k with | .inl i => some (.inl i) | .inr j => if j = id then some (.inr a) else if j = a then none else some (.inr j) : Option (ι ⊕ Nat))) ?_ ?_
  · intro k k' i h1 h2
    cases k with
    | inl x =>
      cases k' with
      | inl y => simp at h1 h2; rw [h1] at *; cases h2; rfl
      | inr y => simp at h1; subst h1; simp at h2; split at h2 <;> first | cases h2 | (split at h2 <;> cases h2)
    | inr x =>
      cases k' with
      | inl y => simp at h2; subst h2; simp at h1; split at h1 <;> first | cases h1 | (split at h1 <;> cases h1)
      | inr y =>
        simp only at h1 h2
        by_cases e1 : x = id
        · rw [if_pos e1] at h1
          cases h1
          by_cases e2 : y = id
          · rw [e1, e2]
          · rw [if_neg e2] at h2
            by_cases e3 : y = a
            · rw [if_pos e3] at h2; cases h2
            · rw [if_neg e3] at h2; simp at h2; exact absurd h2 e3
        · rw [if_neg e1] at h1
          by_cases e3 : x = a
          · rw [if_pos e3] at h1; cases h1
          · rw [if_neg e3] at h1
            simp at h1; subst h1
            by_cases e2 : y = id
            · rw [if_pos e2] at h2; simp at h2; exact absurd h2.symm e3
            · rw [if_neg e2] at h2
              by_cases e4 : y = a
              · rw [if_pos e4] at h2; cases h2
              · rw [if_neg e4] at h2; simp at h2; rw [h2]
  · intro k
    cases k with
    | inl i => exact .inl ⟨_, rfl, rfl⟩
    | inr j =>
      by_cases e1 : j = id
      · subst e1
        refine .inl ⟨.inr a, by simp, ?_⟩
        simp [lay, updS, hne, It.res]
      · by_cases e2 : j = a
        · subst e2
          exact .inr (by simp [lay, updS, It.res])
        · refine .inl ⟨.inr j, by simp [e1, e2], ?_⟩
          simp only [lay, updS, if_neg e1, if_neg e2]
          exact hi _ ha j

theorem app_ok (M : MemF φ ψ w0 w (lay F ρ S)) {dk : TypeId → Nat} {o : Oper} {g : Operand → Value} {t t' : TypeId} {s x : Operand} (hop : o.op = .call { callee := .builtin .append, args := #[s, x], argTypes := #[t, t'] }) {sa xa : AV} (hs : g s = sa.val ρ) (hx : g x = xa.val ρ) {id : Nat} {r : Tr} (h : appRes P dk S id t t' sa xa = some r) (ho : AllP r.obs) (hmk : ∀ j ∈ r.made, S j = .none) (hi : Inv S ρ r.made) :
    Does P o g w (After φ ψ w0 F ρ S r) := by
  unfold appRes at h
  split at h
  case isFalse => cases h
  rename_i htt
  subst htt
  split at h <;> first | cases h | skip
  rename_i el hel
  split at h <;> first | cases h | skip
  rename_i d2 by_ n z h1 h2 h3 h4
  split at h
  case isFalse => cases h
  rename_i hc
  simp only [Bool.and_eq_true, decide_eq_true_eq] at hc
  obtain ⟨⟨hn, hz⟩, hd2⟩ := hc
  have hu := elem_of hel
  obtain ⟨ie, hie, hie2⟩ := Option.map_eq_some_iff.1 h3
  have hiz : ie.zero = some z := by unfold tyZero at h4; rw [hie] at h4; exact h4
  have hib : ie.bytes = by_ := by
    unfold tyBytes at h2; rw [hie] at h2; exact Option.some.inj h2
  have hinfo : (P.info? el).map (fun i => (i.zero, i.size, i.bytes)) = some (some z, n, by_) := by rw [hie]; simp [hiz, hie2, hib]
  obtain ⟨news, k1, k2⟩ := slcD_ok M h1
  have k1' := k1
  rw [hd2] at k1'
  have h1c := rw_cells k1.1 k2
  have hexec : ∀ v w', (Builtin.append_ #[t, t] o.type #[sa.val ρ, xa.val ρ]).run P w = .ok v w' → (execOp g o).run P w = .ok (.value v) w' := by
    intro v w' hr
    simp only [execOp, hop, resolve, invoke, builtin, Sem.run_bind, Sem.run_pure, Result.andThen_ok, List.map_toArray, List.map_cons, List.map_nil, hs, hx, hr]
  split at h
  · rename_i a
    split at h <;> first | cases h | skip
    rename_i e' d1 hS
    split at h
    case isFalse => cases h
    rename_i he'
    subst he'
    obtain ⟨d, hd, hr⟩ := Option.map_eq_some_iff.1 h
    subst hr
    simp only [AllP] at ho
    obtain ⟨q1, q2, q3, q4⟩ := D.app_ok hd
    obtain ⟨xs, m1, m2⟩ := M.rowAt hS
    have hsz : d1.sz = n := by omega
    rw [hsz] at m1
    obtain ⟨a', k', w', hrun, r2, r3, r4, r5⟩ := run_app (P := P) (lo := 0) (ty := o.type) hu hinfo hz hn m1 k1' h1c ho.1 ho.2.1 (Nat.zero_le _)
    obtain ⟨ρ', p1, p2, p3⟩ := M.move (id := id) (d := d) (v := .slice a' (d1.len + d2.len) k') (xs := xs ++ news) hS (hmk id (by simp)) hi ⟨r4.os, r4.tape, r4.output, r4.size, fun b hb hne => r4.block b hb fun h => hne h.symm⟩
      (by rw [q2, hsz, q1]; exact r2) (RW.append hd (by rw [m1.1, hsz]) m2 k2) r5
    exact .inl ⟨_, _, hexec _ _ hrun, ρ', p1, p2, p3⟩
  · cases h
    simp only [AllP] at ho
    have m1 : w.ownsRow 0 el n (.slice none 0 0) 0 [] := World.ownsRow_nil _ _ _ _
    obtain ⟨a', k', w', hrun, r2, r3, r4, r5⟩ := run_app (P := P) (lo := w.heap.size) (ty := o.type) hu hinfo hz hn (World.ownsRow_nil _ _ _ _) k1' h1c (by omega) (by rw [Nat.zero_add]; exact ho.2.1) (Nat.le_refl _)
    rw [Nat.zero_add, List.nil_append] at r2
    obtain ⟨ρ', p1, p2, p3⟩ := M.newRow (id := id) (e := el) (d := d2) (w' := w') r3 (hmk id (by simp)) hi (by rw [hd2]; exact r2) k2
    refine .inl ⟨_, _, hexec _ _ hrun, ρ', p1, p2, ?_⟩
    rw [Nat.zero_add]; exact p3
  · cases h

theorem D.sub_len (d : D) (l h : Nat) (hh : h ≤ d.len) : (d.sub l h).len = h - l := by
  cases d <;> simp only [D.sub, D.len, List.length_drop, List.length_take] <;> (simp only [D.len] at hh; omega)
theorem D.sub_sz (d : D) (l h : Nat) : (d.sub l h).sz = d.sz := by cases d <;> rfl
theorem getD_sub {α : Type} (x : List α) (z : α) (l h i : Nat) (hi : i < h - l) : ((x.take h).drop l).getD i z = x.getD (l + i) z := by
  simp only [List.getD_eq_getElem?_getD, List.getElem?_drop, List.getElem?_take]
  rw [if_pos (by omega)]
theorem D.sub_elem (d : D) (l h i : Nat) (hi : i < h - l) : (d.sub l h).elem i = d.elem (l + i) := by
  cases d <;> simp only [D.sub, D.elem] <;> rw [getD_sub _ _ _ _ _ hi]
theorem RD.sub {φ : Nat → Prop} {d : D} {a : Option Addr} {n cap l h : Nat} (hr : RD w φ d (.slice a n cap)) (hl : l ≤ h) (hh : h ≤ d.len) : RD w φ (d.sub l h) (.slice (if cap = l then a else a.map (·.add (l * d.sz))) (h - l) (cap - l)) := by
  obtain ⟨xs, ⟨k0, a', cap', he, k1, k2, k3⟩, k4⟩ := hr.split
  cases he
  have hs : 0 < d.sz := by cases d <;> simp [D.sz]
  have hle : h * d.sz ≤ d.len * d.sz := Nat.mul_le_mul_right _ hh
  have hle2 : l * d.sz ≤ h * d.sz := Nat.mul_le_mul_right _ hl
  refine RD.make (xs := (xs.take (h * d.sz)).drop (l * d.sz)) ⟨?_, _, _, by rw [D.sub_len d l h hh], by rw [D.sub_len d l h hh]; omega, by omega, fun hp => ?_⟩ ?_
  · rw [D.sub_len d l h hh, D.sub_sz, List.length_drop, List.length_take, k0, Nat.sub_mul]; omega
  · rw [D.sub_len d l h hh] at hp
    obtain ⟨b, off, rfl, hb, hf, hc⟩ := k3 (by omega)
    rw [if_neg (by omega)]
    refine ⟨b, off + l * d.sz, ?_, hb, hf, fun j u hj => ?_⟩
    · simp only [Option.map_some, Addr.add]; split
      · rename_i h0; rw [h0, Nat.add_zero]
      · rfl
    · rw [List.getElem?_drop, List.getElem?_take] at hj
      split at hj
      · have := hc _ u hj; rw [← Nat.add_assoc] at this; exact this
      · cases hj
  · intro i hi j x hx
    rw [D.sub_len d l h hh] at hi
    rw [D.sub_elem d l h i hi] at hx
    have hj : j < d.sz := by
      have := (List.getElem?_eq_some_iff.1 hx).1
      rw [D.elem_len] at this; exact this
    obtain ⟨u, m1, m2⟩ := k4 (l + i) (by omega) j x hx
    refine ⟨u, ?_, m2⟩
    rw [D.sub_sz, List.getElem?_drop, List.getElem?_take, if_pos, ← m1]
    · congr 1; rw [Nat.add_mul]; omega
    · have : (i + 1) * d.sz ≤ (h - l) * d.sz := Nat.mul_le_mul_right _ (by omega)
      rw [Nat.succ_mul, Nat.sub_mul] at this; omega

theorem run_bound {k : IntKind} {i : Int} {y : Nat} {c : BoundsCode} (h1 : 0 ≤ i) (h2 : i ≤ y) : (Instr.sliceBound (.int k i) y c).run P w = .ok i.toNat w := by
  simp [Instr.sliceBound, asIntOf, h1, h2]
theorem MemF.newDat (M : MemF φ ψ w0 w (lay F ρ S)) {id : Nat} {d : D} {v : Value} (hS : S id = .none) (hi : Inv S ρ [id]) (h : RD w (FrF φ (lay F ρ S)) d v) : ∃ ρ', Agree [id] ρ ρ' ∧ MemF φ ψ w0 w (lay F ρ' (updS S [(id, .dat d)])) ∧ v = ρ' id := by
  obtain ⟨ρ', h1, h2, h3⟩ := M.dats [.sl d] [v] id ⟨h, trivial⟩ (fun j hj => by simp [xnew] at hj; rw [hj]; exact hS) (by simpa [xnew] using hi)
  simp only [xnew, List.map_cons, List.map_nil] at h1
  simp only [xav, AV.vals, AV.val, List.cons.injEq, and_true] at h3
  exact ⟨ρ', h1, h2, h3⟩

theorem cut_ok (M : MemF φ ψ w0 w (lay F ρ S)) {o : Oper} {g : Operand → Value} {t : TypeId} {x : Operand} {lo hi : Option Operand} {e : Operand → Option AV} (hop : o.op = .slice t x lo hi none) {xa : AV} (hx : g x = xa.val ρ) {la ha : Option AV} (hlo : lo.map g = la.map (AV.val ρ)) (hhi : hi.map g = ha.map (AV.val ρ)) {id : Nat} {r : Tr} (h : cutRes P S id t xa la ha = some r) (ho : AllP r.obs) (hmk : ∀ j ∈ r.made, S j = .none) (hin : Inv S ρ r.made) :
    Does P o g w (After φ ψ w0 F ρ S r) := by
  have hexec : ∀ v, (Instr.slice t (xa.val ρ) (la.map (AV.val ρ)) (ha.map (AV.val ρ)) none).run P w = .ok v w → P.underlying t = some .string ∨ (∃ el, P.underlying t = some (.slice el)) → (execOp g o).run P w = .ok (.value v) w := by
    intro v hr hu
    have hA : (Instr.sliceAt t (xa.val ρ) (la.map (AV.val ρ)) (ha.map (AV.val ρ)) none).run P w = .ok v w := by
      unfold Instr.sliceAt
      rcases hu with hu | ⟨el, hu⟩
      · rw [Sem.run_bind, run_underlying hu]; exact hr
      · rw [Sem.run_bind, run_underlying hu]; exact hr
    simp only [execOp, hop, Sem.run_bind, hx, hlo, hhi, Option.map_none, hA]
    rfl
  unfold cutRes at h
  split at h
  · rename_i a
    split at h
    case h_2 => cases h
    rename_i d n hS hn
    split at h
    case isFalse => cases h
    rename_i hsz
    obtain ⟨el, h1, h2⟩ := Option.bind_eq_some_iff.1 hn
    have hu := elem_of h1
    have hrd := M.datAt hS
    obtain ⟨aa, cap, hra, hcap, hmax, _⟩ := hrd.open
    rw [hra] at hrd
    have fin : ∀ (l hh : Nat) (obs : List Prop), l ≤ hh → hh ≤ d.len → r = ⟨[(id, .dat (d.sub l hh))], [id], .ref id, obs⟩ → (Instr.slice t (ρ a) (la.map (AV.val ρ)) (ha.map (AV.val ρ)) none).run P w = .ok (.slice (if cap = l then aa else aa.map (·.add (l * d.sz))) (hh - l) (cap - l)) w → Does P o g w (After φ ψ w0 F ρ S r) := by
      intro l hh obs hl hhd hr hrun
      subst hr
      obtain ⟨ρ', p1, p2, p3⟩ := M.newDat (id := id) (hmk id (by simp)) hin (hrd.sub hl hhd)
      exact .inl ⟨_, _, hexec _ hrun (.inr ⟨el, hu⟩), ρ', p1, p2, p3⟩
    have hsz' : (sizeOf el).run P w = .ok d.sz w := by rw [run_sizeOf' h2, hsz]
    split at h
    · cases h
      refine fin 0 d.len _ (Nat.zero_le _) (Nat.le_refl _) rfl ?_
      simp [Instr.slice, run_underlying hu, hra, Instr.sliceBounds, hsz']
    · cases h
      simp only [AllP] at ho
      refine fin 0 _ _ (Nat.zero_le _) (by omega) rfl ?_
      rename_i k hh
      have e1 := run_bound (P := P) (w := w) (k := k) (i := hh) (y := cap) (c := .sliceAcap) ho.1 (by omega)
      simp [Instr.slice, run_underlying hu, hra, Instr.sliceBounds, hsz', AV.val, e1]
    · cases h
      simp only [AllP] at ho
      refine fin _ d.len _ (by omega) (Nat.le_refl _) rfl ?_
      rename_i k l
      have e1 := run_bound (P := P) (w := w) (k := k) (i := l) (y := d.len) (c := .sliceB) ho.1 (by omega)
      simp [Instr.slice, run_underlying hu, hra, Instr.sliceBounds, hsz', AV.val, e1]
    · cases h
      simp only [AllP] at ho
      refine fin _ _ _ (by omega) (by omega) rfl ?_
      rename_i k l k' hh
      have e1 := run_bound (P := P) (w := w) (k := k) (i := l) (y := hh.toNat) (c := .sliceB) ho.1 (by omega)
      have e2 := run_bound (P := P) (w := w) (k := k') (i := hh) (y := cap) (c := .sliceAcap) (by omega) (by omega)
      simp [Instr.slice, run_underlying hu, hra, Instr.sliceBounds, hsz', AV.val, e1, e2]
    · cases h
  · rename_i s
    split at h
    case h_2 => cases h
    rename_i hu
    have fin : ∀ (l hh : Nat) (obs : List Prop), r = ⟨[], [], .v (.string (s.extract l hh)), obs⟩ → (Instr.slice t (.string s) (la.map (AV.val ρ)) (ha.map (AV.val ρ)) none).run P w = .ok (.string (s.extract l hh)) w → Does P o g w (After φ ψ w0 F ρ S r) := by
      intro l hh obs hr hrun
      subst hr
      exact .inl ⟨_, _, hexec _ hrun (.inl hu), ρ, Agree.refl _ _, M, rfl⟩
    split at h
    · cases h
      simp only [AllP] at ho
      refine fin 0 _ _ rfl ?_
      rename_i k hh
      have e1 := run_bound (P := P) (w := w) (k := k) (i := hh) (y := s.size) (c := .sliceAlen) ho.1 (by omega)
      simp [Instr.slice, run_underlying hu, Instr.sliceBounds, AV.val, e1]
    · cases h
      simp only [AllP] at ho
      refine fin _ s.size _ rfl ?_
      rename_i k l
      have e1 := run_bound (P := P) (w := w) (k := k) (i := l) (y := s.size) (c := .sliceB) ho.1 (by omega)
      simp [Instr.slice, run_underlying hu, Instr.sliceBounds, AV.val, e1]
    · cases h
      simp only [AllP] at ho
      refine fin _ _ _ rfl ?_
      rename_i k l k' hh
      have e1 := run_bound (P := P) (w := w) (k := k) (i := l) (y := hh.toNat) (c := .sliceB) ho.1 (by omega)
      have e2 := run_bound (P := P) (w := w) (k := k') (i := hh) (y := s.size) (c := .sliceAlen) (by omega) (by omega)
      simp [Instr.slice, run_underlying hu, Instr.sliceBounds, AV.val, e1, e2]
    · cases h
  · cases h

end

section
variable {P : Program} {ι : Type} {φ ψ : Nat → Prop} {w0 w w' : World} {F : ι → Rs} {ρ : Nat → Value} {S : Nat → It}

/-- Some resources are eaten up, one comes in their place. -/
theorem MemF.eat {L L' : ι → Rs} (M : MemF φ ψ w0 w L) (K : ι → Prop) (i : ι) (ho : ∀ j, j ≠ i → ¬ K j → L' j = L j) (hK : ∀ j, j ≠ i → K j → L' j = Rs.none) (hi : K i ∨ ∀ b, ¬ (L i).blk b)
    (hk : Kept (fun b => ¬ ∃ j, K j ∧ (L j).blk b) w w') (h : (L' i).holds w' (FrF φ L')) (hg : ∀ g, (L' i).blk g → (∃ j, K j ∧ (L j).blk g) ∨ w.heap.size ≤ g) : MemF φ ψ w0 w' L' := by
  have old : ∀ j b, j ≠ i → (L' j).blk b → ¬ K j ∧ (L j).blk b := fun j b hj hb => by
    by_cases e : K j
    · rw [hK j hj e] at hb; exact hb.elim
    · rw [ho j hj e] at hb; exact ⟨e, hb⟩
  have hfr : ∀ b, b < w.heap.size → FrF φ L b → FrF φ L' b := fun b hb hf => ⟨hf.1, fun j hj => by
    by_cases e : j = i
    · subst e
      rcases hg b hj with ⟨k, _, h2⟩ | h2
      · exact hf.2 k h2
      · omega
    · exact hf.2 j (old j b e hj).2⟩
  refine ⟨⟨hk.os.trans M.kept.os, hk.tape.trans M.kept.tape, hk.output.trans M.kept.output, Nat.le_trans M.size hk.size, fun b hb hp => (hk.block b (Nat.lt_of_lt_of_le hb M.size) ?_).trans (M.kept.block b hb hp)⟩, M.fresh, fun j => ?_, fun j k g hjk hj hk' => ?_, fun j b hj => ?_, fun j b hj => ?_⟩
  · rintro ⟨j, _, hj⟩
    rcases M.ge j b hj with h' | h'
    · omega
    · exact h' hp
  · by_cases e : j = i
    · subst e; exact h
    · by_cases e2 : K j
      · rw [hK j e e2]; exact Rs.none_holds _ _
      · rw [ho j e e2]
        refine Rs.keep (M.holds j) ⟨hk.size, fun b hb hf => ⟨hfr b hb hf, hk.block b hb ?_⟩⟩ fun g hgx => hk.block g (M.lt hgx) ?_
        · rintro ⟨k, _, h2⟩; exact hf.2 k h2
        · rintro ⟨k, h1, h2⟩
          exact M.dis j k g (fun h => e2 (h ▸ h1)) hgx h2
  · by_cases e : j = i
    · subst e
      obtain ⟨n2, h2⟩ := old k g (fun h => hjk h.symm) hk'
      rcases hg g hj with ⟨q, h3, h4⟩ | h3
      · exact M.dis q k g (fun h => n2 (h ▸ h3)) h4 h2
      · have := M.lt h2; omega
    · obtain ⟨n1, h1⟩ := old j g e hj
      by_cases e' : k = i
      · subst e'
        rcases hg g hk' with ⟨q, h3, h4⟩ | h3
        · exact M.dis j q g (fun h => n1 (h ▸ h3)) h1 h4
        · have := M.lt h1; omega
      · exact M.dis j k g hjk h1 (old k g e' hk').2
  · by_cases e : j = i
    · subst e
      rcases hg b hj with ⟨k, _, h2⟩ | h2
      · exact M.ge k b h2
      · exact .inl (Nat.le_trans M.size h2)
    · exact M.ge j b (old j b e hj).2
  · by_cases e : j = i
    · subst e
      rcases hg b hj with ⟨k, _, h2⟩ | h2
      · exact M.ph k b h2
      · exact M.fresh b (Nat.le_trans M.size h2)
    · exact M.ph j b (old j b e hj).2

/-- The blocks of some numbers. -/
def Bk (S : Nat → It) (ρ : Nat → Value) (ids : List Nat) (b : Nat) : Prop := ∃ j ∈ ids, ((S j).res ρ j).blk b
theorem updS_dead (S : Nat → It) (j : Nat) : ∀ (ids : List Nat), updS S (ids.map fun i => (i, It.dead)) j = if j ∈ ids then It.dead else S j
  | [] => rfl
  | a :: r => by
    simp only [List.map_cons, updS, List.mem_cons]
    rw [updS_dead S j r]
    by_cases e : j = a
    · simp [e]
    · simp [e]
theorem MemF.graft (M : MemF φ ψ w0 w (lay F ρ S)) {id : Nat} {ids : List Nat} {d : D} {v : Value} {T : Nat → Prop} (hS : S id = .none) (hid : id ∉ ids) (hi : Inv S ρ [id]) (hk : Kept (fun b => ¬ Bk S ρ ids b) w w') (hT : TreeO w' T d v) (hg : ∀ b, T b → Bk S ρ ids b ∨ w.heap.size ≤ b) :
    ∃ ρ', Agree [id] ρ ρ' ∧ MemF φ ψ w0 w' (lay F ρ' (updS S ((id, .tree d) :: ids.map fun j => (j, .dead)))) ∧ v = valOf (ρ' id) := by
  obtain ⟨x, hx1, hx2⟩ := enc_exists v (fun b => T b ∧ b < w'.heap.size) w'.heap.size fun b h => h.2
  have ha : Agree [id] ρ (fun j => if j = id then x else ρ j) := fun j hj => by
    have : j ≠ id := by simpa using hj
    simp [this]
  refine ⟨_, ha, ?_, by simp [hx1]⟩
  refine M.eat (fun k => ∃ j ∈ ids, k = .inr j) (.inr id) (fun k hk1 hk2 => ?_) (fun k hk1 hk2 => ?_) (.inr fun b hb => by simp only [lay, hS, It.res] at hb; exact hb) ?_ ?_ fun g hg' => ?_
  · cases k with
    | inl i => rfl
    | inr j =>
      have h1 : j ≠ id := fun e => hk1 (by rw [e])
      have h2 : j ∉ ids := fun e => hk2 ⟨j, e, rfl⟩
      simp only [lay, updS, if_neg h1]
      rw [updS_dead, if_neg h2]
      exact hi _ ha j
  · obtain ⟨j, hj, rfl⟩ := hk2
    have h1 : j ≠ id := fun e => hk1 (by rw [e])
    simp only [lay, updS, if_neg h1]
    rw [updS_dead, if_pos hj]; rfl
  · refine ⟨hk.os, hk.tape, hk.output, hk.size, fun b hb hn => hk.block b hb fun ⟨j, h1, h2⟩ => hn ⟨.inr j, ⟨j, h1, rfl⟩, h2⟩⟩
  · simp only [lay, updS, if_true, It.res]
    have e : blksOf x = fun b => T b ∧ b < w'.heap.size := funext fun b => propext (hx2 b)
    rw [hx1, e]
    exact ⟨fun _ _ h hs => h.same hs, hT.cut, fun b hb => hb.2⟩
  · simp only [lay, updS, if_true, It.res] at hg'
    have h1 := (hx2 g).1 hg'
    rcases hg g h1.1 with ⟨j, h2, h3⟩ | h2
    · exact .inl ⟨.inr j, ⟨j, h2, rfl⟩, h3⟩
    · exact .inr h2

def exprsT (S : Nat → It) : AV → Option (List LExpr × List Nat)
  | .tref id => match S id with
    | .tree (.exprs l) => some (l, [id])
    | _ => none
  | .v (.slice none 0 0) => some ([], [])
  | _ => none
def stmtsT (S : Nat → It) : AV → Option (List LStmt × List Nat)
  | .tref id => match S id with
    | .tree (.stmts l) => some (l, [id])
    | _ => none
  | .v (.slice none 0 0) => some ([], [])
  | _ => none
def intsT (S : Nat → It) : AV → Option (List Int × List Nat)
  | .ref id => match S id with
    | .row e (.ints l) => if natEq e 3 then some (l, [id]) else none
    | _ => none
  | .v (.slice none 0 0) => some ([], [])
  | _ => none
def oneT (S : Nat → It) (k : Nat) (l : List AV) : Option (D × List Nat) :=
  match k, l with
  | 9, [.v (.int .i64 a), .v (.int .i64 b), x] => (exprsT S x).map fun r => (.exprs [⟨a, b, r.1⟩], r.2)
  | 10, [.v (.int .i64 a), .v (.int .i64 b), .v (.int .i64 c), .v (.int .i64 d), x, .v (.int .i64 e), .v (.int .i64 f), y, .v (.int .i64 g), z, u] =>
    match exprsT S x, exprsT S y, stmtsT S z, stmtsT S u with
    | some x, some y, some z, some u => some (.stmts [⟨a, b, ⟨c, d, x.1⟩, ⟨e, f, y.1⟩, g, z.1, u.1⟩], x.2 ++ (y.2 ++ (z.2 ++ u.2)))
    | _, _, _, _ => none
  | 7, [x] => (intsT S x).map fun r => (.rows [r.1], r.2)
  | _, _ => none
theorem kids_nil (w : World) (T : Nat → Prop) : KidsO w (.slice none 0 0) [] T := ⟨[], fun _ => False, World.ownsRow_nil _ _ _ _, (fun g hg => by cases hg), fun _ h => h.elim, rfl⟩
theorem block_nil (w : World) (T : Nat → Prop) : BlockO w (.slice none 0 0) [] T := ⟨[], fun _ => False, World.ownsRow_nil _ _ _ _, (fun g hg => by cases hg), fun _ h => h.elim, rfl⟩
theorem exprsT_ok (M : MemF φ ψ w0 w (lay F ρ S)) {x : AV} {l : List LExpr} {ids : List Nat} (h : exprsT S x = some (l, ids)) : KidsO w (x.val ρ) l (Bk S ρ ids) := by
  unfold exprsT at h
  split at h <;> first | cases h | skip
  · rename_i id
    split at h <;> first | cases h | skip
    rename_i hS
    have h1 := (M.treeAt (id := id) (d := .exprs l) (by rw [hS]; rfl)).1
    exact (TreeO.kids.1 h1).mono fun b hb => ⟨id, by simp, by rw [hS]; exact hb⟩
  · exact kids_nil _ _
theorem stmtsT_ok (M : MemF φ ψ w0 w (lay F ρ S)) {x : AV} {l : List LStmt} {ids : List Nat} (h : stmtsT S x = some (l, ids)) : BlockO w (x.val ρ) l (Bk S ρ ids) := by
  unfold stmtsT at h
  split at h <;> first | cases h | skip
  · rename_i id
    split at h <;> first | cases h | skip
    rename_i hS
    have h1 := (M.treeAt (id := id) (d := .stmts l) (by rw [hS]; rfl)).1
    exact (TreeO.block.1 h1).mono fun b hb => ⟨id, by simp, by rw [hS]; exact hb⟩
  · exact block_nil _ _
theorem rw_ints {φ : Nat → Prop} {l : List Int} {xs : List Value} (hl : xs.length = l.length) (h : RW w φ (.ints l) xs) : xs = ints l := by
  apply List.ext_getElem?
  intro j
  by_cases hj : j < l.length
  · obtain ⟨u, h1, h2⟩ := h j hj 0 _ rfl
    simp only [D.sz, Nat.mul_one, Nat.add_zero] at h1
    rw [h1, show u = _ from h2]
    simp [ints, hj]
  · rw [List.getElem?_eq_none (by omega), List.getElem?_eq_none (by simp [ints]; omega)]
theorem intsT_ok (M : MemF φ ψ w0 w (lay F ρ S)) {x : AV} {l : List Int} {ids : List Nat} (h : intsT S x = some (l, ids)) : w.ownsRow 0 3 1 (x.val ρ) l.length (ints l) ∧ ∀ g, (x.val ρ).ownBlock = some g → Bk S ρ ids g := by
  unfold intsT at h
  split at h <;> first | cases h | skip
  · rename_i id
    split at h <;> first | cases h | skip
    rename_i e l' hS
    split at h <;> first | cases h | skip
    rename_i he
    have he' : e = 3 := by simpa [natEq] using he
    subst he'
    obtain ⟨xs, h1, h2⟩ := M.rowAt hS
    have h3 : xs.length = l.length := by have := h1.1; simpa [D.len, D.sz] using this
    rw [rw_ints h3 h2] at h1
    exact ⟨h1, fun g hg => ⟨id, by simp, by rw [hS]; exact hg⟩⟩
  · exact ⟨World.ownsRow_nil _ _ _ _, fun g hg => by cases hg⟩
theorem bk_dis (M : MemF φ ψ w0 w (lay F ρ S)) {a b : List Nat} (h : ∀ x ∈ a, x ∉ b) {g : Nat} (h1 : Bk S ρ a g) : ¬ Bk S ρ b g := by
  rintro ⟨j, hj, hb⟩
  obtain ⟨i, hi, ha⟩ := h1
  exact M.dis (.inr i) (.inr j) g (fun e => h i hi (by cases e; exact hj)) ha hb
theorem oneT_ok (M : MemF φ ψ w0 w (lay F ρ S)) {k : Nat} {l : List AV} {d : D} {ids : List Nat} (h : oneT S k l = some (d, ids)) (hn : ids.Nodup) : d.len = 1 ∧ d.sz = l.length ∧ SubO w d (Bk S ρ ids) (AV.vals ρ l) := by
  unfold oneT at h
  split at h <;> first | cases h | skip
  · rename_i a b x
    obtain ⟨r, h1, h2⟩ := Option.map_eq_some_iff.1 h
    cases h2
    refine ⟨rfl, rfl, ?_⟩
    simp only [SubO]
    exact ⟨_, [], Bk S ρ r.2, fun _ => False, (List.append_nil _).symm, fun b hb => ⟨hb, fun h => h⟩, fun b hb => hb.elim, (ExprO.iff _ _ _).2 ⟨_, rfl, exprsT_ok M h1⟩, rfl⟩
  · rename_i a b c d x e f y g z u
    split at h <;> first | cases h | skip
    rename_i rx ry rz ru hx hy hz hu
    refine ⟨rfl, rfl, ?_⟩
    simp only [List.nodup_append, List.mem_append] at hn
    obtain ⟨-, ⟨-, ⟨-, -, n3⟩, n2⟩, n1⟩ := hn
    have d1 : ∀ q ∈ rx.2, q ∉ ry.2 := fun q h1 h2 => n1 q h1 q (.inl h2) rfl
    have d2 : ∀ q ∈ rx.2, q ∉ rz.2 := fun q h1 h2 => n1 q h1 q (.inr (.inl h2)) rfl
    have d3 : ∀ q ∈ rx.2, q ∉ ru.2 := fun q h1 h2 => n1 q h1 q (.inr (.inr h2)) rfl
    have d4 : ∀ q ∈ ry.2, q ∉ rz.2 := fun q h1 h2 => n2 q h1 q (.inl h2) rfl
    have d5 : ∀ q ∈ ry.2, q ∉ ru.2 := fun q h1 h2 => n2 q h1 q (.inr h2) rfl
    have d6 : ∀ q ∈ rz.2, q ∉ ru.2 := fun q h1 h2 => n3 q h1 q h2 rfl
    have up : ∀ (s : List Nat), (∀ q ∈ s, q ∈ rx.2 ++ (ry.2 ++ (rz.2 ++ ru.2))) → ∀ b, Bk S ρ s b → Bk S ρ (rx.2 ++ (ry.2 ++ (rz.2 ++ ru.2))) b := fun s hs b ⟨j, h1, h2⟩ => ⟨j, hs j h1, h2⟩
    simp only [SubO]
    refine ⟨_, [], Bk S ρ (rx.2 ++ (ry.2 ++ (rz.2 ++ ru.2))), fun _ => False, (List.append_nil _).symm, fun b hb => ⟨hb, fun h => h⟩, fun b hb => hb.elim, (StmtO.iff _ _ _).2 ⟨_, _, _, _, Bk S ρ rx.2, Bk S ρ ry.2, Bk S ρ rz.2, Bk S ρ ru.2, rfl, ⟨fun b hb => ⟨up _ (fun q hq => by simp [hq]) b hb, bk_dis M d1 hb, bk_dis M d2 hb, bk_dis M d3 hb⟩, fun b hb => ⟨up _ (fun q hq => by simp [hq]) b hb, bk_dis M d4 hb, bk_dis M d5 hb⟩, fun b hb => ⟨up _ (fun q hq => by simp [hq]) b hb, bk_dis M d6 hb⟩, fun b hb => up _ (fun q hq => by simp [hq]) b hb⟩, exprsT_ok M hx, exprsT_ok M hy, stmtsT_ok M hz, stmtsT_ok M hu⟩, rfl⟩
  · rename_i x
    obtain ⟨r, h1, h2⟩ := Option.map_eq_some_iff.1 h
    cases h2
    obtain ⟨k1, k2⟩ := intsT_ok M h1
    refine ⟨rfl, rfl, ?_⟩
    simp only [SubO]
    exact ⟨_, [], fun _ => False, rfl, k1, fun g hg => ⟨k2 g hg, fun h => h⟩, fun b hb => hb.elim, rfl⟩
def treeIs (d : D) (el : TypeId) : Bool := match treeE d with
  | some e => natEq e el
  | none => false
theorem treeIs_ok {d : D} {el : TypeId} (h : treeIs d el = true) : treeE d = some el := by
  unfold treeIs at h
  split at h
  · rename_i e he; rw [he, show e = el by simpa [natEq] using h]
  · cases h
def buildTRes (P : Program) (dk : TypeId → Nat) (e : Operand → Option AV) (S : Nat → It) (id : Nat) (t : TypeId) (len : Nat) (parts : List (Nat × Operand)) : Option Tr :=
  match tyElem P t with
  | none => none
  | some el =>
    match tySz P el, tyZero P el with
    | some n, some z =>
      if 0 < n && z.cells.size = n && len = 1 && parts.length = 1 && n ≤ 16777216 then
        match partsA e S n 0 parts with
        | some [c] => match oneT S (dk el) c with
          | some (d, ids) => if nodupB ids && treeIs d el then some ⟨(id, .tree d) :: ids.map fun j => (j, .dead), [id], .tref id, []⟩ else none
          | none => none
        | _ => none
      else none
    | _, _ => none
where nodupB : List Nat → Bool
  | [] => true
  | x :: r => !(r.any (natEq x)) && nodupB r
theorem nodupT_iff {l : List Nat} (h : buildTRes.nodupB l = true) : l.Nodup := by
  induction l with
  | nil => simp
  | cons x r ih =>
    simp only [buildTRes.nodupB, Bool.and_eq_true, Bool.not_eq_true'] at h
    refine List.nodup_cons.2 ⟨fun hm => ?_, ih h.2⟩
    have : r.any (natEq x) = true := List.any_eq_true.2 ⟨x, hm, by simp [natEq]⟩
    rw [this] at h; cases h.1

theorem buildT_ok (M : MemF φ ψ w0 w (lay F ρ S)) {dk : TypeId → Nat} {o : Oper} {e : Operand → Option AV} {g : Operand → Value} {t : TypeId} {len : Nat} {parts : Array (Nat × Operand)} (hop : o.op = .buildSlice t len parts) (hg : ∀ p ∈ parts.toList, ∀ v, e p.2 = some v → g p.2 = v.val ρ) {id : Nat} {r : Tr} (h : buildTRes P dk e S id t len parts.toList = some r) (hmk : ∀ j ∈ r.made, S j = .none) (hi : Inv S ρ r.made) :
    Does P o g w (After φ ψ w0 F ρ S r) := by
  unfold buildTRes at h
  split at h <;> first | cases h | skip
  rename_i el hel
  split at h <;> first | cases h | skip
  rename_i n z h1 h2
  split at h
  case isFalse => cases h
  rename_i hc
  simp only [Bool.and_eq_true, decide_eq_true_eq] at hc
  obtain ⟨⟨⟨⟨hn, hz⟩, hlen⟩, hpl⟩, hbig⟩ := hc
  split at h <;> first | cases h | skip
  rename_i c hl
  split at h <;> first | cases h | skip
  rename_i d ids h4
  split at h
  case isFalse => cases h
  rename_i hcc
  simp only [Bool.and_eq_true] at hcc
  cases h
  subst hlen
  obtain ⟨k1, k2⟩ := partsA_len hl
  obtain ⟨m1, m2, m3⟩ := oneT_ok M h4 (nodupT_iff hcc.1)
  have hte := treeIs_ok hcc.2
  have hsz : d.sz = n := by rw [m2]; exact k2 c (by simp)
  have hS : S id = .none := hmk id (by simp)
  obtain ⟨ie, hie, hie2⟩ := Option.map_eq_some_iff.1 h1
  have hiz : ie.zero = some z := by
    unfold tyZero at h2; rw [hie] at h2; exact h2
  have hu := elem_of hel
  have hvl : (AV.vals ρ c).length = 1 * n := by rw [AV.vals_length, k2 c (by simp), Nat.one_mul]
  have hrun : (Instr.buildSlice t 1 (parts.map fun p => (p.1, g p.2))).run P w = .ok (.slice (some ⟨w.heap.size, 0, none⟩) 1 1) (w.alloc (.cells (AV.vals ρ c).toArray el)) := by
    refine run_buildSlice w t el 1 _ _ ie z hu hie hiz (by omega) (by rw [hie2]; omega) ?_
    have hf := partsA_fill M parts.toList 0 [c] [] (((Array.range (1 * ie.size)).map (z.cells[· % z.cells.size]!)).toList) hl hg (by simp) (by simp [hie2, hpl])
    rw [hie2] at hf ⊢
    simp only [List.nil_append, Array.toArray_toList, List.flatten_cons, List.flatten_nil, List.append_nil] at hf
    simpa using hf
  have hown := (own_built w (g := w.heap.size) (AV.vals ρ c).toArray 1 n el rfl (by simpa using hvl) (by omega)).1
  have hb : Below w.heap.size w (w.alloc (.cells (AV.vals ρ c).toArray el)) := (Below.refl _ _).alloc (Nat.le_refl _) _
  have hbk : ∀ j ∈ ids, ∀ b, ((S j).res ρ j).blk b → b < w.heap.size := fun j _ b hb => M.lt (i := .inr j) hb
  obtain ⟨ρ', q1, q2, q3⟩ := M.graft (id := id) (ids := ids) (d := d) (v := .slice (some ⟨w.heap.size, 0, none⟩) 1 1) (T := fun b => Bk S ρ ids b ∨ b = w.heap.size) hS (fun hm => by
      have : ∀ (k : Nat) (l : List AV) (r : D × List Nat), oneT S k l = some r → ∀ j ∈ r.2, S j ≠ .none := by
        intro k l r h j hj
        have hE : ∀ {x : AV} {q : List LExpr × List Nat}, exprsT S x = some q → ∀ j ∈ q.2, S j ≠ .none := by
          intro x q h j hj
          unfold exprsT at h
          split at h <;> first | cases h | skip
          · split at h <;> first | cases h | skip
            rename_i hS; simp at hj; subst hj; rw [hS]; intro h; cases h
          · cases hj
        have hT : ∀ {x : AV} {q : List LStmt × List Nat}, stmtsT S x = some q → ∀ j ∈ q.2, S j ≠ .none := by
          intro x q h j hj
          unfold stmtsT at h
          split at h <;> first | cases h | skip
          · split at h <;> first | cases h | skip
            rename_i hS; simp at hj; subst hj; rw [hS]; intro h; cases h
          · cases hj
        have hI : ∀ {x : AV} {q : List Int × List Nat}, intsT S x = some q → ∀ j ∈ q.2, S j ≠ .none := by
          intro x q h j hj
          unfold intsT at h
          split at h <;> first | cases h | skip
          · split at h <;> first | cases h | skip
            split at h <;> first | cases h | skip
            rename_i hS _; simp at hj; subst hj; rw [hS]; intro h; cases h
          · cases hj
        unfold oneT at h
        split at h <;> first | cases h | skip
        · obtain ⟨q, h1, h2⟩ := Option.map_eq_some_iff.1 h
          cases h2; exact hE h1 j hj
        · split at h <;> first | cases h | skip
          rename_i hx hy hz hu
          simp only [List.mem_append] at hj
          rcases hj with hj | hj | hj | hj
          · exact hE hx j hj
          · exact hE hy j hj
          · exact hT hz j hj
          · exact hT hu j hj
        · obtain ⟨q, h1, h2⟩ := Option.map_eq_some_iff.1 h
          cases h2; exact hI h1 j hj
      exact this _ _ _ h4 id hm hS) hi (Kept.any hb)
    ⟨el, _, Bk S ρ ids, hte, by rw [m1, hsz]; exact owns_base hown (Nat.zero_le _), fun g hg => by
      cases hg
      exact ⟨.inr rfl, fun ⟨j, h1, h2⟩ => Nat.lt_irrefl _ (hbk j h1 _ h2)⟩, fun b hb => .inl hb, by
      simpa using m3.same (w' := w.alloc (.cells (AV.vals ρ c).toArray el)) fun b _ hlt => hb.block b hlt⟩
    (fun b hb => hb.imp (fun h => h) fun h => by omega)
  have hrun2 : (execOp g o).run P w = .ok (.value (.slice (some ⟨w.heap.size, 0, none⟩) 1 1)) (w.alloc (.cells (AV.vals ρ c).toArray el)) := by
    simp only [execOp, hop, Sem.run_bind]
    rw [show (parts.map fun (i, x) => (i, g x)) = parts.map fun p => (p.1, g p.2) from rfl, hrun]
    rfl
  exact .inl ⟨_, _, hrun2, ρ', q1, q2, by simp only [AV.val]; exact q3⟩

def build0Res (P : Program) (dk : TypeId → Nat) (id : Nat) (t : TypeId) (len : Nat) (parts : List (Nat × Operand)) : Option Tr :=
  match tyElem P t with
  | none => none
  | some el =>
    match tySz P el, tyZero P el, D.nil (dk el) with
    | some n, some z, some d =>
      if 0 < n && z.cells.size = n && d.sz = n && natEq len 0 && natEq parts.length 0 && treeIs d el && decide (9 ≤ dk el) then some ⟨[(id, .tree d)], [id], .tref id, []⟩ else none
    | _, _, _ => none
theorem sub_nil {k : Nat} {d : D} (h : D.nil k = some d) (h9 : 9 ≤ k) (w : World) (T : Nat → Prop) : SubO w d T [] := by
  unfold D.nil at h
  split at h <;> first | omega | skip
  · cases h; rfl
  · cases h; rfl
  · cases h
theorem build0_ok (M : MemF φ ψ w0 w (lay F ρ S)) {dk : TypeId → Nat} {o : Oper} {g : Operand → Value} {t : TypeId} {len : Nat} {parts : Array (Nat × Operand)} (hop : o.op = .buildSlice t len parts) {id : Nat} {r : Tr} (h : build0Res P dk id t len parts.toList = some r) (hmk : ∀ j ∈ r.made, S j = .none) (hi : Inv S ρ r.made) :
    Does P o g w (After φ ψ w0 F ρ S r) := by
  unfold build0Res at h
  split at h <;> first | cases h | skip
  rename_i el hel
  split at h <;> first | cases h | skip
  rename_i n z d h1 h2 h3
  split at h
  case isFalse => cases h
  rename_i hc
  simp only [Bool.and_eq_true, decide_eq_true_eq, natEq, beq_iff_eq] at hc
  obtain ⟨⟨⟨⟨⟨⟨hn, hz⟩, hsz⟩, hlen⟩, hpl⟩, ht⟩, h9⟩ := hc
  cases h
  subst hlen
  have hp0 : parts = #[] := by
    apply Array.ext'
    exact List.eq_nil_of_length_eq_zero hpl
  subst hp0
  have hte := treeIs_ok ht
  have hd0 := D.nil_len h3
  have hS : S id = .none := hmk id (by simp)
  obtain ⟨ie, hie, hie2⟩ := Option.map_eq_some_iff.1 h1
  have hiz : ie.zero = some z := by
    unfold tyZero at h2; rw [hie] at h2; exact h2
  have hu := elem_of hel
  have hrun : (Instr.buildSlice t 0 (#[] : Array (Nat × Value))).run P w = .ok (.slice (some ⟨w.heap.size, 0, none⟩) 0 0) (w.alloc (.cells #[] el)) := by
    have hr0 : Array.range 0 = #[] := rfl
    simp [Instr.buildSlice, run_underlying hu, sizeOf, typeInfo, hie, Instr.fill, newRow, hr0]
  have hown := (own_built w (g := w.heap.size) (#[] : Array Value) 0 n el rfl (by simp) (by omega)).1
  have hb : Below w.heap.size w (w.alloc (.cells #[] el)) := (Below.refl _ _).alloc (Nat.le_refl _) _
  obtain ⟨ρ', q1, q2, q3⟩ := M.graft (id := id) (ids := []) (d := d) (v := .slice (some ⟨w.heap.size, 0, none⟩) 0 0) (T := fun b => b = w.heap.size) hS (by simp) hi (Kept.any hb)
    ⟨el, [], fun _ => False, hte, by rw [hd0, hsz]; exact owns_base hown (Nat.zero_le _), fun g hg => by
      cases hg
      exact ⟨rfl, fun h => h⟩, fun b hb => hb.elim, sub_nil h3 h9 _ _⟩
    (fun b hb => .inr (by omega))
  have hrun2 : (execOp g o).run P w = .ok (.value (.slice (some ⟨w.heap.size, 0, none⟩) 0 0)) (w.alloc (.cells #[] el)) := by
    simp only [execOp, hop, Sem.run_bind, List.map_toArray, List.map_nil, hrun]
    rfl
  exact .inl ⟨_, _, hrun2, ρ', q1, q2, by simp only [AV.val]; exact q3⟩

def appTRes (P : Program) (S : Nat → It) (id : Nat) (t t' : TypeId) (s x : AV) : Option Tr :=
  if t = t' then
    match tyElem P t, x with
    | some el, .tref b =>
      match S b, tyBytes P el, tySz P el, tyZero P el with
      | .tree d2, some by_, some n, some z =>
        if 0 < n && z.cells.size = n && d2.sz = n && treeIs d2 el then
          match s with
          | .tref a => if natEq a b then none else match S a with
            | .tree d1 => if treeIs d1 el then (d1.app d2).map fun d => ⟨(id, .tree d) :: [a, b].map fun j => (j, .dead), [id], .tref id, [d1.len + d2.len ≤ 9223372036854775807, (d1.len + d2.len) * by_ ≤ 140737488355328]⟩ else none
            | _ => none
          | .v (.slice none 0 0) => some ⟨(id, .tree d2) :: [b].map fun j => (j, .dead), [id], .tref id, [d2.len ≤ 9223372036854775807, d2.len * by_ ≤ 140737488355328]⟩
          | _ => none
        else none
      | _, _, _, _ => none
    | _, _ => none
  else none
theorem row_unique {v : Value} {n sz : Nat} {xs ys : List Value} (h : Row w v n sz xs) (k : Row w v n sz ys) : xs = ys := by
  obtain ⟨h0, a, cap, rfl, _, _, h1⟩ := h
  obtain ⟨k0, a', cap', he, _, _, k1⟩ := k
  cases he
  apply List.ext_getElem?
  intro j
  by_cases hj : j < n * sz
  · have hn : 0 < n := Nat.pos_of_ne_zero fun h => by subst h; simp at hj
    obtain ⟨b, off, rfl, _, h2⟩ := h1 hn
    obtain ⟨b', off', he, _, k2⟩ := k1 hn
    cases he
    have e1 := h2 j _ (List.getElem?_eq_getElem (by omega))
    have e2 := k2 j _ (List.getElem?_eq_getElem (by omega))
    rw [e1] at e2
    rw [List.getElem?_eq_getElem (by omega), List.getElem?_eq_getElem (by omega)]; exact e2
  · rw [List.getElem?_eq_none (by omega), List.getElem?_eq_none (by omega)]
theorem SubO.app {d1 d2 d : D} {S T S' : Nat → Prop} {xs ys : List Value} (h : d1.app d2 = some d) (h1 : SubO w d1 S xs) (h2 : SubO w d2 T ys) (h3 : ∀ x, S x → S' x ∧ ¬ T x) (h4 : ∀ x, T x → S' x) : SubO w d S' (xs ++ ys) := by
  cases d1 <;> cases d2 <;> simp only [D.app] at h <;> first | cases h | skip
  all_goals simp only [SubO] at h1 h2 ⊢
  · exact h1.app h2 h3 h4
  · exact ExprsO.app h1 h2 h3 h4
  · exact StmtsO.app h1 h2 h3 h4
theorem treeE_app {d1 d2 d : D} (h : d1.app d2 = some d) : treeE d = treeE d1 := by
  cases d1 <;> cases d2 <;> simp only [D.app] at h <;> first | cases h | skip
  all_goals rfl
theorem appT_ok (M : MemF φ ψ w0 w (lay F ρ S)) {o : Oper} {g : Operand → Value} {t t' : TypeId} {s x : Operand} (hop : o.op = .call { callee := .builtin .append, args := #[s, x], argTypes := #[t, t'] }) {sa xa : AV} (hs : g s = sa.val ρ) (hx : g x = xa.val ρ) {id : Nat} {r : Tr} (h : appTRes P S id t t' sa xa = some r) (ho : AllP r.obs) (hmk : ∀ j ∈ r.made, S j = .none) (hi : Inv S ρ r.made) :
    Does P o g w (After φ ψ w0 F ρ S r) := by
  unfold appTRes at h
  split at h
  case isFalse => cases h
  rename_i htt
  subst htt
  split at h <;> first | cases h | skip
  rename_i el b hel
  split at h <;> first | cases h | skip
  rename_i d2 by_ n z hSb h2 h3 h4
  split at h
  case isFalse => cases h
  rename_i hc
  simp only [Bool.and_eq_true, decide_eq_true_eq] at hc
  obtain ⟨⟨⟨hn, hz⟩, hd2⟩, ht2⟩ := hc
  have hu := elem_of hel
  obtain ⟨ie, hie, hie2⟩ := Option.map_eq_some_iff.1 h3
  have hiz : ie.zero = some z := by unfold tyZero at h4; rw [hie] at h4; exact h4
  have hib : ie.bytes = by_ := by
    unfold tyBytes at h2; rw [hie] at h2; exact Option.some.inj h2
  have hinfo : (P.info? el).map (fun i => (i.zero, i.size, i.bytes)) = some (some z, n, by_) := by rw [hie]; simp [hiz, hie2, hib]
  obtain ⟨hTb, hltb⟩ := M.treeAt (id := b) (d := d2) (by rw [hSb]; rfl)
  have hrd := TreeO.read (φ := fun _ => True) hTb fun _ _ => trivial
  obtain ⟨e2, news, S2, f0, f1, f2, f3, f4⟩ := hTb
  rw [treeIs_ok ht2] at f0; cases f0
  have k1 := owns_row f1
  have h1c : ∀ u ∈ news, u.oneCell' = true := by
    obtain ⟨xs', r1, r2⟩ := hrd.split
    rw [row_unique k1 r1.row]
    exact rw_cells r1.1 r2
  rw [hd2] at k1
  have hexec : ∀ v w', (Builtin.append_ #[t, t] o.type #[sa.val ρ, AV.val ρ (.tref b)]).run P w = .ok v w' → (execOp g o).run P w = .ok (.value v) w' := by
    intro v w' hr
    simp only [execOp, hop, resolve, invoke, builtin, Sem.run_bind, Sem.run_pure, Result.andThen_ok, List.map_toArray, List.map_cons, List.map_nil, hs, hx, hr]
  have hbk : ∀ c, blksOf (ρ b) c → ((S b).res ρ b).blk c := fun c hc => by rw [hSb]; exact hc
  split at h
  · rename_i a
    split at h
    case isTrue => cases h
    rename_i hab
    have hab' : a ≠ b := by simpa [natEq] using hab
    split at h <;> first | cases h | skip
    rename_i d1 hSa
    split at h
    case isFalse => cases h
    rename_i ht1
    obtain ⟨d, hd, hr⟩ := Option.map_eq_some_iff.1 h
    subst hr
    simp only [AllP] at ho
    obtain ⟨q1, q2, q3, q4⟩ := D.app_ok hd
    obtain ⟨hTa, hlta⟩ := M.treeAt (id := a) (d := d1) (by rw [hSa]; rfl)
    obtain ⟨e1, xs, S1, g0, g1, g2, g3, g4⟩ := hTa
    rw [treeIs_ok ht1] at g0; cases g0
    have hak : ∀ c, blksOf (ρ a) c → ((S a).res ρ a).blk c := fun c hc => by rw [hSa]; exact hc
    have hdis : ∀ c, blksOf (ρ a) c → ¬ blksOf (ρ b) c := fun c h1 h2 => M.dis (.inr a) (.inr b) c (fun e => hab' (by cases e; rfl)) (hak c h1) (hbk c h2)
    have hsz : d1.sz = n := by omega
    rw [hsz] at g1
    obtain ⟨a', k', w', hrun, r2, r3, r4, r5⟩ := run_app (P := P) (lo := 0) (ty := o.type) hu hinfo hz hn g1 k1 h1c ho.1 ho.2.1 (Nat.zero_le _)
    have hkeep : ∀ c, c < w.heap.size → (valOf (ρ a)).ownBlock ≠ some c → w'.heap[c]? = w.heap[c]? := fun c hc hne => r4.block c hc fun h => hne h.symm
    obtain ⟨ρ', p1, p2, p3⟩ := M.graft (id := id) (ids := [a, b]) (d := d) (v := .slice a' (d1.len + d2.len) k') (T := fun c => blksOf (ρ a) c ∨ blksOf (ρ b) c ∨ (w.heap.size ≤ c ∧ (Value.slice a' (d1.len + d2.len) k').ownBlock = some c)) (hmk id (by simp))
      (fun hm => by
        have h0 := hmk id (by simp)
        simp only [List.mem_cons, List.not_mem_nil, or_false] at hm
        rcases hm with rfl | rfl
        · rw [hSa] at h0; cases h0
        · rw [hSb] at h0; cases h0) hi
      ⟨r4.os, r4.tape, r4.output, r4.size, fun c hc hne => hkeep c hc fun he => hne ⟨a, by simp, hak c (g2 c he).1⟩⟩
      ⟨el, xs ++ news, fun c => S1 c ∨ S2 c, by rw [treeE_app hd, treeIs_ok ht1], by rw [q2, hsz, q1]; exact r2, fun c hc => by
        rcases r5 c hc with h | h
        · exact ⟨.inl (g2 c h).1, fun hh => hh.elim (g2 c h).2 fun h2 => hdis c (g2 c h).1 (f3 c h2)⟩
        · exact ⟨.inr (.inr ⟨h, hc⟩), fun hh => hh.elim (fun h2 => by have := hlta c (g3 c h2); omega) fun h2 => by have := hltb c (f3 c h2); omega⟩,
        fun c hc => hc.imp (g3 c) fun h => .inl (f3 c h), by
        refine SubO.app hd (g4.same fun c hc hlt => hkeep c hlt fun he => (g2 c he).2 hc) (f4.same fun c hc hlt => hkeep c hlt fun he => hdis c (g2 c he).1 (f3 c hc)) (fun c hc => ⟨.inl hc, fun h2 => hdis c (g3 c hc) (f3 c h2)⟩) fun c hc => .inr hc⟩
      (fun c hc => by
        rcases hc with h | h | h
        · exact .inl ⟨a, by simp, hak c h⟩
        · exact .inl ⟨b, by simp, hbk c h⟩
        · exact .inr h.1)
    exact .inl ⟨_, _, hexec _ _ hrun, ρ', p1, p2, p3⟩
  · cases h
    simp only [AllP] at ho
    obtain ⟨a', k', w', hrun, r2, r3, r4, r5⟩ := run_app (P := P) (lo := w.heap.size) (ty := o.type) hu hinfo hz hn (World.ownsRow_nil _ _ _ _) k1 h1c (by omega) (by rw [Nat.zero_add]; exact ho.2.1) (Nat.le_refl _)
    rw [Nat.zero_add, List.nil_append] at r2
    obtain ⟨ρ', p1, p2, p3⟩ := M.graft (id := id) (ids := [b]) (d := d2) (v := .slice a' (0 + d2.len) k') (w' := w') (T := fun c => blksOf (ρ b) c ∨ (w.heap.size ≤ c ∧ (Value.slice a' (0 + d2.len) k').ownBlock = some c)) (hmk id (by simp))
      (fun hm => by
        have h0 := hmk id (by simp)
        simp only [List.mem_cons, List.not_mem_nil, or_false] at hm
        subst hm
        rw [hSb] at h0; cases h0) hi (Kept.any r3)
      ⟨el, news, S2, treeIs_ok ht2, by rw [hd2, Nat.zero_add]; exact owns_base r2 (Nat.zero_le _), fun c hc => by
        rcases r5 c hc with h | h
        · cases h
        · exact ⟨.inr ⟨h, hc⟩, fun h2 => by have := hltb c (f3 c h2); omega⟩, fun c hc => .inl (f3 c hc), f4.same fun c _ hlt => r3.block c hlt⟩
      (fun c hc => hc.imp (fun h => ⟨b, by simp, hbk c h⟩) fun h => h.1)
    exact .inl ⟨_, _, hexec _ _ hrun, ρ', p1, p2, p3⟩
  · cases h

theorem updS_app (S : Nat → It) (l2 : List (Nat × It)) : ∀ (l1 : List (Nat × It)) (j : Nat), updS (updS S l2) l1 j = updS S (l1 ++ l2) j
  | [], _ => rfl
  | (k, x) :: r, j => by
    simp only [updS, List.cons_append]
    rw [updS_app S l2 r j]
theorem MemF.rowDat (M : MemF φ ψ w0 w (lay F ρ S)) {a : Nat} {el : TypeId} {d : D} (hS : S a = .row el d) : MemF φ ψ w0 w (lay F ρ (updS S [(a, .dat d)])) := by
  obtain ⟨xs, h1, h2⟩ := M.rowAt hS
  have e0 : updS S [(a, .dat d)] a = .dat d := by simp [updS]
  have e1 : ∀ j, j ≠ a → updS S [(a, .dat d)] j = S j := fun j h => by simp [updS, h]
  generalize updS S [(a, .dat d)] = S' at e0 e1
  have hoth : ∀ k : ι ⊕ Nat, k ≠ .inr a → lay F ρ S' k = lay F ρ S k := fun k hk => by
    cases k with
    | inl q => rfl
    | inr j =>
      have : j ≠ a := fun e => hk (by rw [e])
      simp only [lay]; rw [e1 j this]
  have hno : ∀ g, ¬ (lay F ρ S' (.inr a)).blk g := fun g hg => by
    simp only [lay] at hg
    rw [e0] at hg; exact hg
  refine M.put (.inr a) hoth (Kept.refl _ _) ?_ fun g hg => (hno g hg).elim
  show (((S' a).res ρ a)).holds w _
  rw [e0]
  refine ⟨RD.nice _ _, ?_⟩
  have hfr : ∀ b, FrF φ (lay F ρ S) b → FrF φ (lay F ρ S') b := fun b hb => ⟨hb.1, fun k hk => by
    by_cases e : k = .inr a
    · subst e; exact hno b hk
    · rw [hoth k e] at hk; exact hb.2 k hk⟩
  refine RD.make (owns_rowF h1 fun g hg => ?_) (RW.nice _ _ _ _ _ _ (Agr.mono fun b _ hb => hfr b hb) h2)
  have ho : (lay F ρ S (.inr a)).blk g := by simp only [lay]; rw [hS]; exact hg
  refine ⟨M.ph _ _ ho, fun k hk => ?_⟩
  by_cases e : k = .inr a
  · subst e; exact hno g hk
  · rw [hoth k e] at hk
    exact M.dis _ _ g (fun h => e h.symm) ho hk
def cutRowRes (P : Program) (S : Nat → It) (id : Nat) (t : TypeId) (x : AV) (lo hi : Option AV) : Option Tr :=
  match x with
  | .ref a => match S a with
    | .row _ d => (cutRes P (updS S [(a, .dat d)]) id t x lo hi).map fun r => ⟨r.new ++ [(a, .dat d)], r.made, r.res, r.obs⟩
    | _ => none
  | _ => none
theorem cutRow_ok (M : MemF φ ψ w0 w (lay F ρ S)) {o : Oper} {g : Operand → Value} {t : TypeId} {x : Operand} {lo hi : Option Operand} {e : Operand → Option AV} (hop : o.op = .slice t x lo hi none) {xa : AV} (hx : g x = xa.val ρ) {la ha : Option AV} (hlo : lo.map g = la.map (AV.val ρ)) (hhi : hi.map g = ha.map (AV.val ρ)) {id : Nat} {r : Tr} (h : cutRowRes P S id t xa la ha = some r) (ho : AllP r.obs) (hmk : ∀ j ∈ r.made, S j = .none) (hin : Inv S ρ r.made) :
    Does P o g w (After φ ψ w0 F ρ S r) := by
  unfold cutRowRes at h
  split at h <;> first | cases h | skip
  rename_i a
  split at h <;> first | cases h | skip
  rename_i el d hS
  obtain ⟨r', h1, h2⟩ := Option.map_eq_some_iff.1 h
  subst h2
  have ha : ∀ j ∈ r'.made, j ≠ a := fun j hj e => by
    have := hmk j hj
    rw [e, hS] at this; cases this
  have hin' : Inv (updS S [(a, .dat d)]) ρ r'.made := fun ρ' hag j => by
    simp only [updS]
    split
    · rename_i e
      subst e
      have := hin ρ' hag j
      refine It.res_congr _ (fun i hi => by cases hi) (.inr (.inr (hag j fun hm => ha j hm rfl)))
    · exact hin ρ' hag j
  have D1 := cut_ok (e := e) (M.rowDat hS) hop hx hlo hhi h1 ho (fun j hj => by
    simp only [updS]
    rw [if_neg (ha j hj)]
    exact hmk j hj) hin'
  refine D1.mono fun v w' ⟨ρ', q1, q2, q3⟩ => ⟨ρ', q1, ?_, q3⟩
  have e2 : updS S (r'.new ++ [(a, .dat d)]) = updS (updS S [(a, .dat d)]) r'.new := funext fun j => (updS_app S _ _ j).symm
  simp only
  rw [e2]; exact q2

def cut2Res (P : Program) (S : Nat → It) (id : Nat) (t : TypeId) (x : AV) (lo hi : Option AV) : Option Tr := match cutRes P S id t x lo hi with
  | some r => some r
  | none => cutRowRes P S id t x lo hi
theorem cut2_ok (M : MemF φ ψ w0 w (lay F ρ S)) {o : Oper} {g : Operand → Value} {t : TypeId} {x : Operand} {lo hi : Option Operand} {e : Operand → Option AV} (hop : o.op = .slice t x lo hi none) {xa : AV} (hx : g x = xa.val ρ) {la ha : Option AV} (hlo : lo.map g = la.map (AV.val ρ)) (hhi : hi.map g = ha.map (AV.val ρ)) {id : Nat} {r : Tr} (h : cut2Res P S id t xa la ha = some r) (ho : AllP r.obs) (hmk : ∀ j ∈ r.made, S j = .none) (hin : Inv S ρ r.made) :
    Does P o g w (After φ ψ w0 F ρ S r) := by
  unfold cut2Res at h
  split at h
  · rename_i r' h1
    cases h
    exact cut_ok (e := e) M hop hx hlo hhi h1 ho hmk hin
  · exact cutRow_ok (e := e) M hop hx hlo hhi h ho hmk hin

end

section
variable {P : Program} {ι : Type} {φ ψ : Nat → Prop} {w0 w w' : World} {F : ι → Rs} {ρ : Nat → Value} {S : Nat → It}

theorem zeros_ok {φ : Nat → Prop} {k n : Nat} {d : D} {z : Value} (h : zerosD k n = some (d, z)) : d.len = n ∧ d.sz = 1 ∧ z.cells = #[z] ∧ RW w φ d (List.replicate n z) := by
  have key : ∀ (d : D) (z : Value), d.len = n → d.sz = 1 → (∀ i, i < n → ∃ x, d.elem i = [x] ∧ XH w φ x z) → RW w φ d (List.replicate n z) := by
    intro d z h1 h2 h3 i hi j x hx
    obtain ⟨y, hy, hz⟩ := h3 i (by omega)
    rw [hy] at hx
    cases j with
    | zero => simp at hx; subst hx; exact ⟨z, by rw [h1] at hi; rw [h2, Nat.mul_one, Nat.add_zero, List.getElem?_replicate, if_pos hi], hz⟩
    | succ j => simp at hx
  unfold zerosD at h
  split at h <;> first | cases h | skip
  · exact ⟨by simp [D.len], rfl, rfl, key _ _ (by simp [D.len]) rfl fun i hi => ⟨_, rfl, by simp [XH, hi]⟩⟩
  · exact ⟨by simp [D.len], rfl, rfl, key _ _ (by simp [D.len]) rfl fun i hi => ⟨_, rfl, by simp [XH, hi]⟩⟩
  · exact ⟨by simp [D.len], rfl, rfl, key _ _ (by simp [D.len]) rfl fun i hi => ⟨_, rfl, by simp [XH, hi]⟩⟩
  · exact ⟨by simp [D.len], rfl, rfl, key _ _ (by simp [D.len]) rfl fun i hi => ⟨_, rfl, by simp only [XH, List.getD_eq_getElem?_getD, List.getElem?_replicate, hi, if_true, Option.getD_some]; exact RowF.nil _ _ _⟩⟩
  · exact ⟨by simp [D.len], rfl, rfl, key _ _ (by simp [D.len]) rfl fun i hi => ⟨_, rfl, by simp only [XH, List.getD_eq_getElem?_getD, List.getElem?_replicate, hi, if_true, Option.getD_some]; exact RowF.nil _ _ _⟩⟩

theorem make_ok (M : MemF φ ψ w0 w (lay F ρ S)) {dk : TypeId → Nat} {o : Oper} {g : Operand → Value} {t : TypeId} {l c : Operand} (hop : o.op = .makeSlice t l c) {la ca : AV} (hl : g l = la.val ρ) (hc : g c = ca.val ρ) {id : Nat} {r : Tr} (h : makeRes P dk id t la ca = some r) (ho : AllP r.obs) (hmk : ∀ j ∈ r.made, S j = .none) (hi : Inv S ρ r.made) :
    Does P o g w (After φ ψ w0 F ρ S r) := by
  unfold makeRes at h
  split at h
  case h_2 => cases h
  rename_i n m el hel
  split at h
  case h_2 => cases h
  rename_i d z by_ sz z' h1 h2 h3 h4
  split at h
  case isFalse => cases h
  rename_i hsz
  cases h
  simp only [AllP] at ho
  obtain ⟨hm, hn, hb, hbig, hzz, -⟩ := ho
  subst hm; subst hzz; subst hsz
  obtain ⟨k1, k2, k3, k4⟩ := zeros_ok (w := w) (φ := FrF φ (lay F ρ S)) h1
  obtain ⟨ie, hie, hie2⟩ := Option.map_eq_some_iff.1 h3
  have hiz : ie.zero = some z' := by unfold tyZero at h4; rw [hie] at h4; exact h4
  have hib : ie.bytes = by_ := by
    unfold tyBytes at h2; rw [hie] at h2; exact Option.some.inj h2
  have hinfo : (P.info? el).map (fun i => (i.zero, i.size, i.bytes)) = some (some z', 1, by_) := by rw [hie]; simp [hiz, hie2, hib]
  have hb' : by_ * m.toNat ≤ 281474976710656 := by
    have : ((by_ * m.toNat : Nat) : Int) = by_ * m := by rw [Int.natCast_mul, Int.toNat_of_nonneg hn]
    omega
  have hrun := make_run (P := P) (elem_of hel) hinfo (by rw [k3]; rfl) (by omega) m.toNat hb' (by omega) w
  rw [Int.toNat_of_nonneg hn] at hrun
  have hown := (own_made w z'.cells.toList m.toNat 1 el (by rw [k3]; rfl) (by omega)).1
  rw [k3, zeroRow_one, ← k1, ← k2] at hown
  obtain ⟨ρ', q1, q2, q3⟩ := M.newRow (id := id) (e := el) (d := d) ((Below.refl _ _).alloc (Nat.le_refl _) _) (hmk id (by simp)) hi hown (by rw [k1]; exact k4)
  have hrun2 : (execOp g o).run P w = .ok (.value (.slice (some ⟨w.heap.size, 0, none⟩) m.toNat m.toNat)) (w.alloc (.cells (zeroRow z'.cells.toList m.toNat).toArray el)) := by
    simp only [execOp, hop, Sem.run_bind, hl, hc, AV.val, hrun]
    rfl
  rw [k3, zeroRow_one, ← k1] at hrun2
  exact .inl ⟨_, _, hrun2, ρ', q1, q2, q3⟩

end

/-- The number of what an operation makes; what it does. -/
def memRes (P : Program) (dk : TypeId → Nat) (e : Operand → Option AV) (S : Nat → It) (id : Nat) : Op → Option Tr
  | .load t x => (e x).bind fun a => loadRes P S id t a
  | .store t x y => match e x, e y with
    | some a, some v => storeRes P S t v a
    | _, _ => none
  | .alloc t => match tyZero P t with
    | some z => if z.cells.toList.all (·.oneCell') then some ⟨[(id, .box (z.cells.toList.map .v))], [id], .ptr id 0, []⟩ else none
    | none => none
  | .box _ x => (e x).bind fun v => newRes S id v
  | .buildSlice t len parts => match build0Res P dk id t len parts.toList with
    | some r => some r
    | none => match buildTRes P dk e S id t len parts.toList with
      | some r => some r
      | none => buildRes P dk e S id t len parts.toList
  | .makeSlice t l c => match e l, e c with
    | some a, some b => makeRes P dk id t a b
    | _, _ => none
  | .slice t x lo hi none => match e x, lo.map e, hi.map e with
    | some a, none, none => cut2Res P S id t a none none
    | some a, some (some l), none => cut2Res P S id t a (some l) none
    | some a, none, some (some h) => cut2Res P S id t a none (some h)
    | some a, some (some l), some (some h) => cut2Res P S id t a (some l) (some h)
    | _, _, _ => none
  | .call { callee := .builtin .append, args, argTypes } =>
    match args.toList, argTypes.toList with
    | [s, x], [t, t'] => match e s, e x with
      | some a, some b => match appRes P dk S id t t' a b with
        | some r => some r
        | none => appTRes P S id t t' a b
      | _, _ => none
    | _, _ => none
  | _ => none
def step0 (P : Program) (dk : TypeId → Nat) (e : Operand → Option AV) (S : Nat → It) (id : Nat) (op : Op) : Option Tr :=
  match pureRes P e S op with
  | some r => some ⟨[], [], r.1, r.2⟩
  | none => memRes P dk e S id op

section
variable {P : Program} {ι : Type} {φ ψ : Nat → Prop} {w0 w w' : World} {F : ι → Rs} {ρ : Nat → Value} {S : Nat → It}

theorem new_ok2 (M : MemF φ ψ w0 w (lay F ρ S)) {o : Oper} {g : Operand → Value} {t : TypeId} {cs : List AV} {v : Value} (hop : (execOp g o).run P w = .ok (.value (.pointer (some ⟨w.heap.size, 0, none⟩))) (w.alloc (.cells v.cells t))) (hv : v.cells = (AV.vals ρ cs).toArray) {id : Nat} (hn : id ∉ AV.idsL cs) (hS : S id = .none) (hi : Inv S ρ [id]) :
    Does P o g w (After φ ψ w0 F ρ S ⟨[(id, .box cs)], [id], .ptr id 0, []⟩) := by
  have ha : Agree [id] ρ (fun j => if j = id then .pointer (some ⟨w.heap.size, 0, none⟩) else ρ j) := fun j hj => by
    have : j ≠ id := by simpa using hj
    simp [this]
  refine .inl ⟨_, _, hop, _, ha, M.one id _ [id] hi ha (Kept.any ((Below.refl _ _).alloc (Nat.le_refl _) _)) (fun g hg => ?_) ?_, ?_⟩
  · simp only [It.res, if_true, blkOf] at hg
    exact .inr (by rw [show g = w.heap.size from hg]; exact Nat.le_refl _)
  · simp only [It.res, if_true, blkOf, Rs.holds]
    have e : AV.vals (fun j => if j = id then .pointer (some ⟨w.heap.size, 0, none⟩) else ρ j) cs = AV.vals ρ cs := AV.vals_congr _ fun k hk => by
      have : k ≠ id := fun e => hn (e ▸ hk)
      simp [this]
    rw [e, hv]
    exact Blk.new _ _ _
  · simp [AV.val, blkOf]
theorem idsL_map_v (l : List Value) : AV.idsL (l.map .v) = [] := by
  induction l with
  | nil => rfl
  | cons a r ih => simp [AV.idsL, AV.ids, ih]

theorem step0_ok (M : MemF φ ψ w0 w (lay F ρ S)) {dk : TypeId → Nat} {o : Oper} {e : Operand → Option AV} {g : Operand → Value} (hg : ∀ x ∈ o.op.operands, ∀ v, e x = some v → g x = v.val ρ) {id : Nat} {r : Tr} (h : step0 P dk e S id o.op = some r) (ho : AllP r.obs) (hmk : ∀ j ∈ r.made, S j = .none) (hi : Inv S ρ r.made) :
    Does P o g w (After φ ψ w0 F ρ S r) := by
  unfold step0 at h
  split at h
  · rename_i q hq
    cases h
    exact .inl ⟨_, _, pure_ok M hg (r := q.1) (obs := q.2) hq ho, ρ, Agree.refl _ _, M, rfl⟩
  rename_i hnone
  clear hnone
  cases hop : o.op <;> rw [hop] at h hg <;> simp only [memRes] at h <;> first | cases h | skip
  case load t x =>
    obtain ⟨a, h1, h2⟩ := Option.bind_eq_some_iff.1 h
    exact load_ok M hop (hg x (by simp [Op.operands]) _ h1) h2 ho hmk hi
  case store t x y =>
    split at h
    case h_2 => cases h
    rename_i a v h1 h2
    exact store_ok M hop (hg x (by simp [Op.operands]) _ h1) (hg y (by simp [Op.operands]) _ h2) h ho
  case alloc t =>
    split at h
    case h_2 => cases h
    rename_i z hz
    split at h
    case isFalse => cases h
    cases h
    have hrun : (execOp g o).run P w = .ok (.value (.pointer (some ⟨w.heap.size, 0, none⟩))) (w.alloc (.cells z.cells t)) := by
      simp [execOp, hop, Instr.alloc, run_zero' hz, newVar, newRow]
    exact new_ok2 M hrun (by rw [vals_of_map]) (by rw [idsL_map_v]; simp) (hmk id (by simp)) hi
  case box t x =>
    obtain ⟨a, h1, h2⟩ := Option.bind_eq_some_iff.1 h
    have hx := hg x (by simp [Op.operands]) _ h1
    have hrun : (execOp g o).run P w = .ok (.value (.pointer (some ⟨w.heap.size, 0, none⟩))) (w.alloc (.cells (a.val ρ).cells t)) := by
      simp [execOp, hop, Instr.box, newVar, newRow, hx]
    exact new_ok M hrun rfl h2 hmk hi
  case buildSlice t len parts =>
    split at h
    · rename_i r' h'
      cases h
      exact build0_ok M hop h' hmk hi
    split at h
    · rename_i r' h'
      cases h
      exact buildT_ok M hop (fun p hp v hv => hg p.2 (by simp [Op.operands]; exact ⟨p.1, by simpa using hp⟩) v hv) h' hmk hi
    · exact build_ok M hop (fun p hp v hv => hg p.2 (by simp [Op.operands]; exact ⟨p.1, by simpa using hp⟩) v hv) h ho hmk hi
  case makeSlice t l c =>
    split at h
    case h_2 => cases h
    rename_i a b h1 h2
    exact make_ok M hop (hg l (by simp [Op.operands]) _ h1) (hg c (by simp [Op.operands]) _ h2) h ho hmk hi
  case slice t x lo hi' mx =>
    cases mx with
    | some mx => simp only [memRes] at h; cases h
    | none =>
    simp only [memRes] at h
    split at h <;> first | cases h | skip
    · rename_i a h1 h2 h3
      have : lo = none := by cases lo <;> simp at h2 ⊢
      subst this
      have : hi' = none := by cases hi' <;> simp at h3 ⊢
      subst this
      exact cut2_ok M (e := e) hop (hg x (by simp [Op.operands]) _ h1) rfl rfl h ho hmk hi
    · rename_i a l h1 h2 h3
      obtain ⟨lo', rfl, hlo⟩ := Option.map_eq_some_iff.1 h2
      have : hi' = none := by cases hi' <;> simp at h3 ⊢
      subst this
      exact cut2_ok M (e := e) hop (hg x (by simp [Op.operands]) _ h1) (by simp [hg lo' (by simp [Op.operands]) _ hlo]) rfl h ho hmk hi
    · rename_i a l h1 h2 h3
      obtain ⟨hi'', rfl, hhi⟩ := Option.map_eq_some_iff.1 h3
      have : lo = none := by cases lo <;> simp at h2 ⊢
      subst this
      exact cut2_ok M (e := e) hop (hg x (by simp [Op.operands]) _ h1) rfl (by simp [hg hi'' (by simp [Op.operands]) _ hhi]) h ho hmk hi
    · rename_i a l hh h1 h2 h3
      obtain ⟨lo', rfl, hlo⟩ := Option.map_eq_some_iff.1 h2
      obtain ⟨hi'', rfl, hhi⟩ := Option.map_eq_some_iff.1 h3
      exact cut2_ok M (e := e) hop (hg x (by simp [Op.operands]) _ h1) (by simp [hg lo' (by simp [Op.operands]) _ hlo]) (by simp [hg hi'' (by simp [Op.operands]) _ hhi]) h ho hmk hi
  case call c =>
    obtain ⟨callee, args, argTypes⟩ := c
    cases callee <;> (try simp only [memRes] at h) <;> first | cases h | skip
    rename_i b
    cases b <;> (try simp only [memRes] at h) <;> first | cases h | skip
    split at h <;> first | cases h | skip
    rename_i s x t t' hx ht
    have hx' : args = #[s, x] := by apply Array.ext'; simpa using hx
    have ht' : argTypes = #[t, t'] := by apply Array.ext'; simpa using ht
    subst hx'; subst ht'
    split at h
    case h_2 => cases h
    rename_i a b h1 h2
    split at h
    · rename_i r' h'
      cases h
      exact app_ok M hop (hg s (by simp [Op.operands, Call.operands]) _ h1) (hg x (by simp [Op.operands, Call.operands]) _ h2) h' ho hmk hi
    · exact appT_ok M hop (hg s (by simp [Op.operands, Call.operands]) _ h1) (hg x (by simp [Op.operands, Call.operands]) _ h2) h ho hmk hi

end

/-- What a function does: its arguments; what stands at the numbers ahead, and behind; what it hands. -/
structure Ctr where
  f : FuncId
  args : List AV
  pre : List It
  post : List It
  res : AV
def Ctr.ok (P : Program) (c : Ctr) : Prop := ∀ (ι : Type) (φ ψ : Nat → Prop) (w0 w : World) (F : ι → Rs) (ρ : Nat → Value), MemF φ ψ w0 w (lay F ρ (lst c.pre)) →
  Calls P c.f (AV.vals ρ c.args).toArray w fun x w' => ∃ ρ', (∀ i, i < c.pre.length → ρ' i = ρ i) ∧ x = .returned (c.res.val ρ') ∧ MemF φ ψ w0 w' (lay F ρ' (lst c.post))
def entersB (P : Program) (f : FuncId) : Bool :=
  match P.funcs[f]? with
  | some fn => fn.body.isSome && !(fn.name == "runtime.NumGoroutine")
  | none => false
theorem enters_ok {P : Program} {f : FuncId} (h : entersB P f = true) (args : Array Value) (w : World) : (callFunc f args).run P w = .ok (.enter f args) w := by
  unfold entersB at h
  cases hf : P.funcs[f]? with
  | none => rw [hf] at h; cases h
  | some fn =>
    rw [hf] at h
    simp only [Bool.and_eq_true, Bool.not_eq_true'] at h
    cases hb : fn.body with
    | none => rw [hb] at h; cases h.1
    | some c => exact enters_of hf h.2 hb args w

def memN (j : Nat) : List Nat → Bool
  | [] => false
  | x :: r => natEq j x || memN j r
def nodupB : List Nat → Bool
  | [] => true
  | x :: r => !memN x r && nodupB r
theorem memN_iff {j : Nat} {l : List Nat} : memN j l = true ↔ j ∈ l := by
  induction l with
  | nil => simp [memN]
  | cons x r ih => simp [memN, natEq, ih]
theorem nodupB_iff {l : List Nat} (h : nodupB l = true) : l.Nodup := by
  induction l with
  | nil => simp
  | cons x r ih =>
    simp only [nodupB, Bool.and_eq_true, Bool.not_eq_true'] at h
    refine List.nodup_cons.2 ⟨fun hm => ?_, ih h.2⟩
    rw [memN_iff.2 hm] at h; cases h.1
def ltAll (n : Nat) (l : List Nat) : Bool := l.all fun j => decide (j < n)
theorem ltAll_iff {n : Nat} {l : List Nat} (h : ltAll n l = true) : ∀ j ∈ l, j < n := fun j hj => by simpa using List.all_eq_true.1 h j hj

def zipN : List Nat → List It → List (Nat × It)
  | a :: r, x :: s => (a, x) :: zipN r s
  | _, _ => []
def nth (σ : List Nat) (i : Nat) : Nat := σ.getD i 0
/-- What is read alone stays as it stands. -/
def zipK : List Nat → List It → List It → List (Nat × It)
  | a :: r, p :: q, x :: s => match p, x with
    | .dat _, .dat _ => zipK r q s
    | .row _ _, .kept (some _) _ => zipK r q s
    | .tree _, .kept none _ => zipK r q s
    | _, _ => (a, x.unK) :: zipK r q s
  | a :: r, [], x :: s => (a, x.unK) :: zipK r [] s
  | _, _, _ => []
def datP : List It → List It → List It
  | p :: q, x :: s => match p, x with
    | .dat d, .dat _ => .dat d :: datP q s
    | .row e d, .kept (some _) _ => .row e d :: datP q s
    | .tree d, .kept none _ => .tree d :: datP q s
    | _, _ => datP q s
  | _, _ => []
def datQ : List It → List It → List It
  | p :: q, x :: s => match p, x with
    | .dat _, .dat e => .dat e :: datQ q s
    | .row _ _, .kept (some e) d => .row e d :: datQ q s
    | .tree _, .kept none d => .tree d :: datQ q s
    | _, _ => datQ q s
  | _, _ => []
def keptB : It → It → Bool
  | .dat _, .dat _ => true
  | .row _ _, .kept (some _) _ => true
  | .tree _, .kept none _ => true
  | _, _ => false
theorem zipK_cons (a : Nat) (r : List Nat) (p : It) (q : List It) (x : It) (s : List It) : zipK (a :: r) (p :: q) (x :: s) = if keptB p x then zipK r q s else (a, x.unK) :: zipK r q s := by
  cases p <;> cases x <;> first | rfl | (rename_i e d; cases e <;> rfl) | (rename_i d e; cases e <;> rfl) | (rename_i e d f g; cases f <;> rfl) | (rename_i d f g; cases f <;> rfl)
theorem datP_cons (p : It) (q : List It) (x : It) (s : List It) : datP (p :: q) (x :: s) = if keptB p x then p :: datP q s else datP q s := by
  cases p <;> cases x <;> first | rfl | (rename_i e d; cases e <;> rfl) | (rename_i d e; cases e <;> rfl) | (rename_i e d f g; cases f <;> rfl) | (rename_i d f g; cases f <;> rfl)
theorem datQ_cons (p : It) (q : List It) (x : It) (s : List It) : datQ (p :: q) (x :: s) = if keptB p x then x.unK :: datQ q s else datQ q s := by
  cases p <;> cases x <;> first | rfl | (rename_i e d; cases e <;> rfl) | (rename_i d e; cases e <;> rfl) | (rename_i e d f g; cases f <;> rfl) | (rename_i d f g; cases f <;> rfl)
theorem kept_eq : ∀ {P X : List It} {i : Nat} {p x : It}, datP P X = datQ P X → P[i]? = some p → X[i]? = some x → keptB p x = true → p = x.unK
  | [], _, _, _, _, _, h, _, _ => by simp at h
  | _ :: _, [], _, _, _, _, _, h, _ => by simp at h
  | p :: q, x :: s, i, p1, x1, h, h1, h2, hk => by
    rw [datP_cons, datQ_cons] at h
    cases i with
    | zero =>
      simp at h1 h2
      subst h1 h2
      rw [if_pos hk, if_pos hk] at h
      exact (List.cons.inj h).1
    | succ i =>
      refine kept_eq (P := q) (X := s) (i := i) ?_ (by simpa using h1) (by simpa using h2) hk
      split at h
      · exact (List.cons.inj h).2
      · exact h
theorem dat_eq {P X : List It} {i : Nat} {d e : D} (h : datP P X = datQ P X) (h1 : P[i]? = some (.dat d)) (h2 : X[i]? = some (.dat e)) : d = e := by
  have := kept_eq h h1 h2 rfl
  simpa [It.unK] using this
theorem updS_zipK {S : Nat → It} : ∀ {σ : List Nat} {P X : List It}, σ.Nodup → (∀ (i j : Nat) (p x : It), σ[i]? = some j → P[i]? = some p → X[i]? = some x → keptB p x = true → S j = x.unK) → ∀ j, updS S (zipK σ P X) j = updS S (zipN σ (X.map It.unK)) j
  | [], _, _, _, _, j => by simp [zipK, zipN]
  | a :: r, P, [], _, _, j => by cases P <;> simp [zipK, zipN]
  | a :: r, [], x :: s, hn, h, j => by
    simp only [zipK, zipN, updS, List.map_cons]
    rw [updS_zipK (List.nodup_cons.1 hn).2 (fun i j d e _ h2 _ => by simp at h2) j]
  | a :: r, p :: q, x :: s, hn, h, j => by
    have ih := updS_zipK (S := S) (P := q) (X := s) (List.nodup_cons.1 hn).2 (fun i j d e h1 h2 h3 h4 => h (i + 1) j d e (by simpa using h1) (by simpa using h2) (by simpa using h3) h4) j
    rw [zipK_cons]
    simp only [zipN, List.map_cons]
    split
    · rename_i hk
      rw [ih]
      simp only [updS]
      split
      · rename_i hj
        subst hj
        rw [updS_not fun hm => (List.nodup_cons.1 hn).1 (by
          have : ∀ {σ : List Nat} {L : List It} {j : Nat}, j ∈ (zipN σ L).map (·.1) → j ∈ σ := fun {σ} => by
            induction σ with
            | nil => intro L j h; simp [zipN] at h
            | cons a r ih => intro L j h; cases L with
              | nil => simp [zipN] at h
              | cons y s => simp only [zipN, List.map_cons, List.mem_cons] at h ⊢; exact h.imp id ih
          exact this hm)]
        exact h 0 j p x rfl rfl rfl hk
      · rfl
    · simp only [updS]
      rw [ih]
/-- What is called: its number, what stands ahead of the arguments, and what stands behind them. -/
def calOf : AV → Option (Nat × List AV × List AV)
  | .fn f l => some (f, [], l)
  | .bm f l => some (f, l, [])
  | _ => none
def callRes (P : Program) (e : Operand → Option AV) (S : Nat → It) (id : Nat) (c : Ctr) (τ : List Nat) : Op → Option Tr
  | .call { callee := .value fo, args, .. } =>
    match (e fo).bind calOf, args.toList.mapM e with
    | some (f, _, _), some xs =>
      if natEq f c.f && entersB P f && natEq τ.length c.pre.length && decide (c.pre.length ≤ c.post.length) && nodupB (τ ++ List.range' id (c.post.length - c.pre.length)) && c.post.all (fun x => ltAll c.post.length x.ids) && ltAll c.post.length c.res.ids then
        some ⟨zipK (τ ++ List.range' id (c.post.length - c.pre.length)) c.pre (c.post.map (It.ren (nth (τ ++ List.range' id (c.post.length - c.pre.length))))),
          List.range' id (c.post.length - c.pre.length), c.res.ren (nth (τ ++ List.range' id (c.post.length - c.pre.length))),
          []⟩
      else none
    | _, _ => none
  | _ => none

/-- What must agree at a call. -/
def callEqs (e : Operand → Option AV) (S : Nat → It) (id : Nat) (c : Ctr) (τ : List Nat) : Op → List (List AV × List It) × List (List AV × List It)
  | .call { callee := .value fo, args, .. } =>
    match (e fo).bind calOf, args.toList.mapM e with
    | some (_, fst, caps), some xs => ([(fst ++ (xs ++ caps), τ.map S ++ datP c.pre c.post)], [(AV.renL (nth (τ ++ List.range' id (c.post.length - c.pre.length))) c.args, c.pre.map (It.ren (nth (τ ++ List.range' id (c.post.length - c.pre.length)))) ++ datQ c.pre c.post)])
    | _, _ => ([], [])
  | _ => ([], [])
section
variable {P : Program} {ι : Type} {φ ψ : Nat → Prop} {w0 w w' : World} {F : ι → Rs} {ρ : Nat → Value} {S : Nat → It}

theorem updS_zip {S : Nat → It} : ∀ {σ : List Nat} {L : List It} {i j : Nat} {x : It}, σ.Nodup → σ[i]? = some j → L[i]? = some x → updS S (zipN σ L) j = x
  | [], _, _, _, _, _, h, _ => by simp at h
  | a :: r, [], _, _, _, _, _, h => by simp at h
  | a :: r, y :: s, 0, j, x, _, h1, h2 => by
    simp at h1 h2
    subst h1 h2
    simp [zipN, updS]
  | a :: r, y :: s, i + 1, j, x, hn, h1, h2 => by
    have h1' : r[i]? = some j := by simpa using h1
    have hne : j ≠ a := fun e => (List.nodup_cons.1 hn).1 (e ▸ List.mem_of_getElem? h1')
    simp only [zipN, updS, if_neg hne]
    exact updS_zip (List.nodup_cons.1 hn).2 h1' (by simpa using h2)
theorem zipN_fst : ∀ {σ : List Nat} {L : List It} {j : Nat}, j ∈ (zipN σ L).map (·.1) → j ∈ σ
  | [], _, _, h => by simp [zipN] at h
  | a :: r, [], _, h => by simp [zipN] at h
  | a :: r, y :: s, j, h => by
    simp only [zipN, List.map_cons, List.mem_cons] at h ⊢
    exact h.imp id zipN_fst
theorem nth_at {σ : List Nat} {i j : Nat} (h : σ[i]? = some j) : nth σ i = j := by simp [nth, List.getD_eq_getElem?_getD, h]
theorem idx_at {σ : List Nat} (hn : σ.Nodup) {i j : Nat} (h : σ[i]? = some j) : σ.idxOf j = i := by
  have hl := (List.getElem?_eq_some_iff.1 h).1
  have hm := List.mem_of_getElem? h
  have h1 : σ[σ.idxOf j]? = some j := by
    have := List.idxOf_lt_length_of_mem hm
    rw [List.getElem?_eq_getElem this, List.getElem_idxOf]
  exact (List.getElem?_inj (List.idxOf_lt_length_of_mem hm) hn).1 (h1.trans h.symm)

theorem Ctr.okPost {c : Ctr} (hc : c.ok P) (post : List It) (h : ∀ (ρ : Nat → Value) (i : Nat), (lst post i).res ρ i = (lst c.post i).res ρ i) : Ctr.ok P ⟨c.f, c.args, c.pre, post, c.res⟩ := by
  intro ι φ ψ w0 w F ρ M
  refine (hc ι φ ψ w0 w F ρ M).mono ?_
  rintro x w' ⟨ρ', h1, h2, M2⟩
  refine ⟨ρ', h1, h2, ?_⟩
  have e : lay F ρ' (lst post) = lay F ρ' (lst c.post) := by
    funext k
    cases k with
    | inl i => rfl
    | inr j => exact h ρ' j
  simp only
  rw [e]; exact M2
theorem lst_map {f : It → It} (hf : f .none = .none) (l : List It) (i : Nat) : lst (l.map f) i = f (lst l i) := by
  simp only [lst, List.getD_eq_getElem?_getD, List.getElem?_map]
  cases l[i]? with
  | none => exact hf.symm
  | some x => rfl
theorem call_tail (M : MemF φ ψ w0 w (lay F ρ S)) {o : Oper} {e : Operand → Option AV} {g : Operand → Value} {fo : Operand} {args : Array Operand} {argTypes : Array TypeId} (hop : o.op = .call { callee := .value fo, args := args, argTypes := argTypes })
    (hg : ∀ x ∈ (Op.call { callee := .value fo, args := args, argTypes := argTypes }).operands, ∀ v, e x = some v → g x = v.val ρ) {c : Ctr} (hc : c.ok P) {fst caps xs : List AV} (hf : (e fo).bind calOf = some (c.f, fst, caps)) (has : args.toList.mapM e = some xs) {τ σ : List Nat} {id m : Nat} (hm0 : m = c.post.length - c.pre.length) (hσ : τ ++ List.range' id m = σ)
    (hent : entersB P c.f = true) (hτ : τ.length = c.pre.length) (hle : c.pre.length ≤ c.post.length) (hn : σ.Nodup) (hpost : c.post.all (fun x => ltAll c.post.length x.ids) = true) (hres : ltAll c.post.length c.res.ids = true) (hargs : fst ++ (xs ++ caps) = AV.renL (nth σ) c.args) (hSpre : ∀ i j, i < c.pre.length → σ[i]? = some j → S j = ((lst c.pre) i).ren (nth σ))
    (L : List (Nat × It)) (hzip : updS S L = updS S (zipN σ (c.post.map (It.ren (nth σ))))) (hi : Inv S ρ (List.range' id m)) : Does P o g w (After φ ψ w0 F ρ S ⟨L, List.range' id m, c.res.ren (nth σ), []⟩) := by
  subst hm0
  have hσl : σ.length = c.post.length := by rw [← hσ, List.length_append, List.length_range']; omega
  have hmade : ∀ i, c.pre.length ≤ i → ∀ j, σ[i]? = some j → j ∈ List.range' id (c.post.length - c.pre.length) := fun i hi' j hj => by
    rw [← hσ, List.getElem?_append_right (by omega)] at hj
    exact List.mem_of_getElem? hj
  let F' : ι ⊕ Nat → Rs := fun k => match k with | .inl i => F i | .inr j => if memN j σ then Rs.none else (S j).res ρ j
  have M1 : MemF φ ψ w0 w (lay F' (fun i => ρ (nth σ i)) (lst c.pre)) := by
    refine M.map (fun k : (ι ⊕ Nat) ⊕ Nat => (match k with | .inl (.inl i) => some (.inl i) | .inl (.inr j) => if memN j σ then none else some (.inr j) | .inr i => if i < c.pre.length then some (.inr (nth σ i)) else none : Option (ι ⊕ Nat))) ?_ ?_
    · intro k k' x h1 h2
      match k, k' with
      | .inl (.inl i), .inl (.inl i') => simp at h1 h2; subst h1; simpa using h2.symm
      | .inl (.inl i), .inl (.inr j') => simp at h1; subst h1; simp at h2
      | .inl (.inl i), .inr j' => simp at h1; subst h1; simp at h2
      | .inl (.inr j), .inl (.inl i') => simp at h2; subst h2; simp at h1
      | .inr j, .inl (.inl i') => simp at h2; subst h2; simp at h1
      | .inl (.inr j), .inl (.inr j') =>
        simp at h1 h2
        rw [← h1.2] at h2
        rw [Sum.inr.inj h2.2]
      | .inl (.inr j), .inr i' =>
        simp at h1 h2
        rw [← h1.2] at h2
        have hj := Sum.inr.inj h2.2
        have hlt : i' < σ.length := by omega
        have : memN j σ = true := memN_iff.2 (by rw [← hj, nth_at (List.getElem?_eq_getElem hlt)]; exact List.getElem_mem hlt)
        rw [this] at h1; cases h1.1
      | .inr i, .inl (.inr j') =>
        simp at h1 h2
        rw [← h1.2] at h2
        have hj := Sum.inr.inj h2.2
        have hlt : i < σ.length := by omega
        have : memN j' σ = true := memN_iff.2 (by rw [hj, nth_at (List.getElem?_eq_getElem hlt)]; exact List.getElem_mem hlt)
        rw [this] at h2; cases h2.1
      | .inr i, .inr i' =>
        simp at h1 h2
        rw [← h1.2] at h2
        have hj := Sum.inr.inj h2.2
        have hlt : i < σ.length := by omega
        have hlt' : i' < σ.length := by omega
        rw [nth_at (List.getElem?_eq_getElem hlt), nth_at (List.getElem?_eq_getElem hlt')] at hj
        have := (List.getElem?_inj hlt hn).1 ((List.getElem?_eq_getElem hlt).trans (by rw [← hj]; exact (List.getElem?_eq_getElem hlt').symm))
        rw [this]
    · intro k
      match k with
      | .inl (.inl i) => exact .inl ⟨.inl i, rfl, rfl⟩
      | .inl (.inr j) =>
        cases hm : memN j σ
        · exact .inl ⟨.inr j, by simp [hm], by simp [lay, F', hm]⟩
        · exact .inr (by simp [lay, F', hm])
      | .inr i =>
        by_cases hlt : i < c.pre.length
        · refine .inl ⟨.inr (nth σ i), by simp [hlt], ?_⟩
          have hlt' : i < σ.length := by omega
          have h1 := hSpre i _ hlt (List.getElem?_eq_getElem hlt')
          simp only [lay]
          rw [nth_at (List.getElem?_eq_getElem hlt'), h1, ← It.res_ren, nth_at (List.getElem?_eq_getElem hlt')]
        · refine .inr ?_
          simp only [lay, lst, List.getD_eq_getElem?_getD, List.getElem?_eq_none (Nat.le_of_not_lt hlt)]
          rfl
  have hcalls := hc _ φ ψ w0 w F' (fun i => ρ (nth σ i)) M1
  obtain ⟨av, hav, hcal⟩ := Option.bind_eq_some_iff.1 hf
  have hgf := hg fo (by simp [Op.operands, Call.operands]) _ hav
  have hga := mapM_vals (ρ := ρ) (g := g) (fun x hx v hv => hg x (by simp [Op.operands, Call.operands]; exact .inr (by simpa using hx)) v hv) has
  have hrun : (execOp g o).run P w = .ok (.enter c.f (AV.vals (fun i => ρ (nth σ i)) c.args).toArray) w := by
    have e1 : (AV.vals ρ fst).toArray ++ args.map g ++ (AV.vals ρ caps).toArray = (AV.vals (fun i => ρ (nth σ i)) c.args).toArray := by
      rw [← AV.vals_ren (ρ := ρ) (σ := nth σ) c.args, ← hargs, AV.vals_append, AV.vals_append, ← hga]
      apply Array.ext'; simp
    simp only [execOp, hop, resolve, Deferred.ofValue, Sem.run_bind, Sem.run_pure, Result.andThen_ok]
    rw [hgf]
    cases av <;> simp only [calOf, Option.some.injEq, Prod.mk.injEq, reduceCtorEq] at hcal
    · obtain ⟨rfl, rfl, rfl⟩ := hcal
      simp only [AV.val, Sem.run_pure, Result.andThen_ok, invoke]
      simp only [AV.vals] at e1
      rw [e1]
      exact enters_ok hent _ _
    · obtain ⟨rfl, rfl, rfl⟩ := hcal
      simp only [AV.val, Sem.run_pure, Result.andThen_ok, invoke]
      simp only [AV.vals] at e1
      rw [e1]
      exact enters_ok hent _ _
  refine .inr (.inr ⟨_, _, _, hrun, hcalls.mono ?_⟩)
  rintro x w' ⟨ρ', h1, rfl, M2⟩
  refine ⟨_, rfl, fun j => if memN j σ then ρ' (σ.idxOf j) else ρ j, ?_, ?_, ?_⟩
  · intro j hj
    show (if memN j σ then ρ' (σ.idxOf j) else ρ j) = ρ j
    cases hm : memN j σ
    · rfl
    · obtain ⟨i, hi'⟩ := List.mem_iff_getElem?.1 (memN_iff.1 hm)
      have hlt : i < c.pre.length := by
        rcases Nat.lt_or_ge i c.pre.length with h | h
        · exact h
        · exact absurd (hmade i h j hi') hj
      simp only [if_true]
      rw [idx_at hn hi', h1 i hlt, nth_at hi']
  · have hag : ∀ j, j ∉ List.range' id (c.post.length - c.pre.length) → (fun j => if memN j σ then ρ' (σ.idxOf j) else ρ j) j = ρ j := by
      intro j hj
      show (if memN j σ then ρ' (σ.idxOf j) else ρ j) = ρ j
      cases hm : memN j σ
      · rfl
      · obtain ⟨i, hi'⟩ := List.mem_iff_getElem?.1 (memN_iff.1 hm)
        have hlt : i < c.pre.length := by
          rcases Nat.lt_or_ge i c.pre.length with h | h
          · exact h
          · exact absurd (hmade i h j hi') hj
        simp only [if_true]
        rw [idx_at hn hi', h1 i hlt, nth_at hi']
    have hρσ : ∀ i, i < c.post.length → (fun j => if memN j σ then ρ' (σ.idxOf j) else ρ j) (nth σ i) = ρ' i := by
      intro i hlt
      have hi' := List.getElem?_eq_getElem (show i < σ.length by omega)
      show (if memN (nth σ i) σ then ρ' (σ.idxOf (nth σ i)) else ρ (nth σ i)) = ρ' i
      rw [nth_at hi', memN_iff.2 (List.getElem_mem _), if_pos rfl, idx_at hn hi']
    rw [hzip]
    refine M2.map (fun k : ι ⊕ Nat => (match k with | .inl i => some (.inl (.inl i)) | .inr j => if memN j σ then some (.inr (σ.idxOf j)) else some (.inl (.inr j)) : Option ((ι ⊕ Nat) ⊕ Nat))) ?_ ?_
    · intro k k' x h2 h3
      match k, k' with
      | .inl i, .inl i' => simp at h2 h3; rw [← h2] at h3; simpa using h3.symm
      | .inl i, .inr j => simp at h2; subst h2; simp at h3; split at h3 <;> simp at h3
      | .inr j, .inl i => simp at h3; subst h3; simp at h2; split at h2 <;> simp at h2
      | .inr j, .inr j' =>
        simp only at h2 h3
        cases hm : memN j σ <;> cases hm' : memN j' σ <;> rw [hm] at h2 <;> rw [hm'] at h3 <;> simp at h2 h3 <;> subst h2 <;> simp at h3
        · rw [h3]
        · obtain ⟨i, hi1⟩ := List.mem_iff_getElem?.1 (memN_iff.1 hm)
          obtain ⟨i', hi2⟩ := List.mem_iff_getElem?.1 (memN_iff.1 hm')
          rw [idx_at hn hi1, idx_at hn hi2] at h3
          subst h3
          rw [hi1] at hi2; cases hi2; rfl
    · intro k
      match k with
      | .inl i => exact .inl ⟨_, rfl, rfl⟩
      | .inr j =>
        cases hm : memN j σ
        · refine .inl ⟨.inl (.inr j), by simp [hm], ?_⟩
          simp only [lay, F', hm]
          rw [updS_not fun hh => by have := memN_iff.2 (zipN_fst hh); rw [hm] at this; cases this]
          exact hi _ hag j
        · obtain ⟨i, hi'⟩ := List.mem_iff_getElem?.1 (memN_iff.1 hm)
          have hlt : i < c.post.length := by have := (List.getElem?_eq_some_iff.1 hi').1; omega
          refine .inl ⟨.inr (σ.idxOf j), by simp [hm], ?_⟩
          rw [idx_at hn hi']
          have hx : (c.post.map (It.ren (nth σ)))[i]? = some ((c.post[i]).ren (nth σ)) := by simp [hlt]
          simp only [lay]
          rw [updS_zip hn hi' hx]
          conv => lhs; rw [← nth_at hi']
          rw [It.res_ren]
          have hl : lst c.post i = c.post[i] := by simp [lst, List.getD_eq_getElem?_getD, hlt]
          rw [hl]
          exact It.res_congr _ (fun q hq => hρσ q (ltAll_iff (List.all_eq_true.1 hpost _ (List.getElem_mem hlt)) q hq)) (.inr (.inr (hρσ i hlt)))
  · rw [AV.val_ren]
    refine (AV.val_congr _ fun q hq => ?_).symm
    have hlt := ltAll_iff hres q hq
    have hi' := List.getElem?_eq_getElem (show q < σ.length by omega)
    show (if memN (nth σ q) σ then ρ' (σ.idxOf (nth σ q)) else ρ (nth σ q)) = ρ' q
    rw [nth_at hi', memN_iff.2 (List.getElem_mem _), if_pos rfl, idx_at hn hi']

theorem call_ok (M : MemF φ ψ w0 w (lay F ρ S)) {o : Oper} {e : Operand → Option AV} {g : Operand → Value} (hg : ∀ x ∈ o.op.operands, ∀ v, e x = some v → g x = v.val ρ) {c : Ctr} (hc : c.ok P) {τ : List Nat} {id : Nat} {r : Tr} (h : callRes P e S id c τ o.op = some r) (ho : (callEqs e S id c τ o.op).1 = (callEqs e S id c τ o.op).2) (hmk : ∀ j ∈ r.made, S j = .none) (hi : Inv S ρ r.made) :
    Does P o g w (After φ ψ w0 F ρ S r) := by
  cases hop : o.op <;> rw [hop] at h hg ho <;> simp only [callRes] at h <;> first | cases h | skip
  rename_i cl
  obtain ⟨callee, args, argTypes⟩ := cl
  cases callee <;> (try simp only [callRes] at h) <;> first | cases h | skip
  rename_i fo
  split at h
  case h_2 => cases h
  rename_i f fst caps xs hf has
  split at h
  case isFalse => cases h
  rename_i hcond
  cases h
  simp only [callEqs, hf, has, List.cons.injEq, Prod.mk.injEq, and_true] at ho
  generalize hσ : τ ++ List.range' id (c.post.length - c.pre.length) = σ at *
  simp only [Bool.and_eq_true, decide_eq_true_eq, natEq, beq_iff_eq] at hcond
  obtain ⟨⟨⟨⟨⟨⟨rfl, hent⟩, hτ⟩, hle⟩, hnd⟩, hpost⟩, hres⟩ := hcond
  have hn := nodupB_iff hnd
  obtain ⟨hargs, hpre⟩ := ho
  obtain ⟨hpre, hsame⟩ := List.append_inj hpre (by simp [hτ])
  have hσl : σ.length = c.post.length := by rw [← hσ, List.length_append, List.length_range']; omega
  have hστ : ∀ i, i < c.pre.length → σ[i]? = τ[i]? := fun i hi' => by rw [← hσ, List.getElem?_append_left (by omega)]
  have hmade : ∀ i, c.pre.length ≤ i → ∀ j, σ[i]? = some j → j ∈ List.range' id (c.post.length - c.pre.length) := fun i hi' j hj => by
    rw [← hσ, List.getElem?_append_right (by omega)] at hj
    exact List.mem_of_getElem? hj
  have hSpre : ∀ i j, i < c.pre.length → σ[i]? = some j → S j = ((lst c.pre) i).ren (nth σ) := fun i j hi' hj => by
    have h1 : (τ.map S)[i]? = (c.pre.map (It.ren (nth σ)))[i]? := by rw [hpre]
    rw [List.getElem?_map, List.getElem?_map, ← hστ i hi', hj] at h1
    simp only [lst, List.getD_eq_getElem?_getD]
    rw [List.getElem?_eq_getElem hi'] at h1 ⊢
    simpa using h1
  have hc1 : Ctr.ok P ⟨c.f, c.args, c.pre, c.post.map It.unK, c.res⟩ := Ctr.okPost hc _ fun ρ i => by rw [lst_map rfl, It.res_unK]
  have hll : (c.post.map It.unK).length = c.post.length := List.length_map It.unK
  refine call_tail M hop hg hc1 hf has (by simp only; rw [hll]) hσ hent hτ (by simp only; omega) hn ?_ (by simp only; rw [hll]; exact hres) hargs hSpre _ ?_ hi
  · simp only
    rw [hll, List.all_map]
    refine List.all_eq_true.2 fun x hx => ?_
    simp only [Function.comp, It.ids_unK]
    exact List.all_eq_true.1 hpost x hx
  · funext j
    rw [updS_zipK hn (fun i j p x h1 h2 h3 hk => ?_) j]
    · simp only [List.map_map]
      congr 3
      funext x
      exact It.unK_ren _ x
    · have hlt : i < c.pre.length := (List.getElem?_eq_some_iff.1 h2).1
      rw [hSpre i j hlt h1]
      rw [List.getElem?_map] at h3
      cases hx : c.post[i]? with
      | none => rw [hx] at h3; simp at h3
      | some y =>
        rw [hx] at h3
        simp at h3
        subst h3
        have hk2 : keptB p y = true := by
          cases p <;> cases y <;> first | exact hk | (simp [keptB, It.ren] at hk; done)
        have := kept_eq hsame h2 hx hk2
        rw [show lst c.pre i = p by simp [lst, List.getD_eq_getElem?_getD, h2], this, It.unK_ren]

end

def look : List (Nat × AV) → Nat → Option AV
  | [], _ => none
  | (k, x) :: r, t => if natEq t k then some x else look r t
/-- Ranges of numbers, each with a number. -/
def us : List (Nat × Nat × Nat) → List (Nat × Nat)
  | [] => []
  | (a, b, k) :: r => ((List.range (b + 1 - a)).map fun i => (a + i, k)) ++ us r
/-- What is told beside: calls, by the operation; which guarded operations come up. -/
structure Hint where
  calls : List (Nat × Ctr × List Nat)
  facts : List (Bool × Bool)
  uses : List (Nat × Nat)
def hcall : List (Nat × Ctr × List Nat) → Nat → Option (Ctr × List Nat)
  | [], _ => none
  | (k, x) :: r, i => if natEq i k then some x else hcall r i
def huse : List (Nat × Nat) → Nat → Option Nat
  | [], _ => none
  | (k, x) :: r, i => if natEq i k then some x else huse r i
def hfact (H : Hint) (i : Nat) : Option (Bool × Bool) := (huse H.uses i).bind fun k => H.facts[k]?
/-- The facts hold. -/
def Facts : List (Bool × Bool) → Prop
  | [] => True
  | p :: r => p.1 = p.2 ∧ Facts r
theorem facts_at : ∀ {l : List (Bool × Bool)} {k : Nat} {p : Bool × Bool}, Facts l → l[k]? = some p → p.1 = p.2
  | [], _, _, _, h => by simp at h
  | q :: r, 0, p, hf, h => by simp at h; subst h; exact hf.1
  | q :: r, k + 1, p, hf, h => facts_at hf.2 (by simpa using h)
theorem hfact_ok {H : Hint} (hF : Facts H.facts) {i : Nat} {p : Bool × Bool} (h : hfact H i = some p) : p.1 = p.2 := by
  obtain ⟨k, _, h2⟩ := Option.bind_eq_some_iff.1 h
  exact facts_at hF h2
/-- Slots that an operation reads. -/
def opT (op : Op) : List Nat := op.operands.toList.filterMap fun | .tmp t => some t | _ => none
def rtm (tm : Nat → Option AV) (l : List Nat) : Nat → Option AV := fun t => if memN t l then tm t else none
def rS (S : Nat → It) (l : List Nat) : Nat → It := fun j => if memN j l then S j else .none
def touch (tm : Nat → Option AV) (l : List Nat) : List Nat := (l.filterMap tm).flatMap AV.ids
/-- The numbers that an operation looks at. -/
def tch (tm : Nat → Option AV) (op : Op) : List Nat := match op with
  | .move _ => []
  | _ => touch tm (opT op)
/-- Of two values the one that a test picks. -/
def pickRes (d : Option (Bool × Bool)) (e : Operand → Option AV) : Op → Option Tr
  | .pick c a b =>
    match d, e c with
    | some d, some (.v (.bool _)) => (e (if d.2 then a else b)).map fun r => ⟨[], [], r, []⟩
    | _, _ => none
  | _ => none
def pickEq (d : Option (Bool × Bool)) (e : Operand → Option AV) : Op → List (List AV × List It) × List (List AV × List It)
  | .pick c _ _ =>
    match d, e c with
    | some d, some x => ([([x], [])], [([.v (.bool d.1)], [])])
    | _, _ => ([], [])
  | _ => ([], [])
def opRes (P : Program) (dk : TypeId → Nat) (H : Hint) (tm : Nat → Option AV) (S : Nat → It) (id i : Nat) (op : Op) : Option Tr :=
  match hcall H.calls i with
  | some (c, τ) => callRes P (ev (rtm tm (opT op))) (rS S (tch tm op ++ τ)) id c τ op
  | none =>
    match pickRes (hfact H (i + 1000)) (ev (rtm tm (opT op))) op with
    | some r => some r
    | none => step0 P dk (ev (rtm tm (opT op))) (rS S (tch tm op)) id op
def opEq (H : Hint) (tm : Nat → Option AV) (S : Nat → It) (id i : Nat) (op : Op) : List (List AV × List It) × List (List AV × List It) :=
  match hcall H.calls i with
  | some (c, τ) => callEqs (ev (rtm tm (opT op))) (rS S (tch tm op ++ τ)) id c τ op
  | none => pickEq (hfact H (i + 1000)) (ev (rtm tm (opT op))) op
def wantA (ops : List Oper) (H : Hint) (tm : Nat → Option AV) (i : Nat) (o : Oper) : Option (Bool × List AV × List AV) :=
  match o.guard with
  | none => some (true, [], [])
  | some (j, want) =>
    match (ops[j]?).bind (·.dst) with
    | none => none
    | some t =>
      match tm t with
      | some (.v (.bool b)) => (hfact H i).map fun d => (d.2 == want, [.v (.bool b)], [.v (.bool d.1)])
      | some (.v (.tuple _)) => some (false, [], [])
      | _ => none

section
variable {P : Program} {ι : Type} {φ ψ : Nat → Prop} {w0 w w' : World} {F : ι → Rs} {ρ : Nat → Value} {S : Nat → It}

theorem updS_congr {S S' : Nat → It} {j : Nat} (h : S j = S' j) : ∀ (l : List (Nat × It)), updS S l j = updS S' l j
  | [] => h
  | (k, x) :: r => by simp only [updS]; split; rfl; exact updS_congr h r
theorem Does.frame {o : Oper} {g : Operand → Value} {t : Tr} (l : List Nat) (M : MemF φ ψ w0 w (lay F ρ S)) (hi : Inv S ρ t.made) (hmk : ∀ j ∈ t.made, S j = .none) (hnew : ∀ j ∈ t.new.map (·.1), j ∈ l ∨ S j = .none)
    (h : ∀ {κ : Type} (F' : κ → Rs), MemF φ ψ w0 w (lay F' ρ (rS S l)) → Inv (rS S l) ρ t.made → (∀ j ∈ t.made, rS S l j = .none) → Does P o g w (After φ ψ w0 F' ρ (rS S l) t)) : Does P o g w (After φ ψ w0 F ρ S t) := by
  let F' : ι ⊕ Nat → Rs := fun k => match k with | .inl i => F i | .inr j => if memN j l then Rs.none else (S j).res ρ j
  have M1 : MemF φ ψ w0 w (lay F' ρ (rS S l)) := by
    refine M.map (fun k : (ι ⊕ Nat) ⊕ Nat => (match k with | .inl (.inl i) => some (.inl i) | .inl (.inr j) => if memN j l then none else some (.inr j) | .inr j => if memN j l then some (.inr j) else none : Option (ι ⊕ Nat))) ?_ ?_
    · intro k k' x h1 h2
      match k, k' with
      | .inl (.inl i), .inl (.inl i') => simp at h1 h2; subst h1; simpa using h2.symm
      | .inl (.inl i), .inl (.inr j') => simp at h1; subst h1; simp at h2
      | .inl (.inl i), .inr j' => simp at h1; subst h1; simp at h2
      | .inl (.inr j), .inl (.inl i') => simp at h2; subst h2; simp at h1
      | .inr j, .inl (.inl i') => simp at h2; subst h2; simp at h1
      | .inl (.inr j), .inl (.inr j') => simp at h1 h2; rw [← h1.2] at h2; rw [Sum.inr.inj h2.2]
      | .inl (.inr j), .inr j' =>
        simp at h1 h2
        rw [← h1.2] at h2
        have := Sum.inr.inj h2.2
        subst this
        rw [h1.1] at h2; cases h2.1
      | .inr j, .inl (.inr j') =>
        simp at h1 h2
        rw [← h1.2] at h2
        have := Sum.inr.inj h2.2
        subst this
        rw [h1.1] at h2; cases h2.1
      | .inr j, .inr j' => simp at h1 h2; rw [← h1.2] at h2; rw [Sum.inr.inj h2.2]
    · intro k
      match k with
      | .inl (.inl i) => exact .inl ⟨.inl i, rfl, rfl⟩
      | .inl (.inr j) =>
        cases hm : memN j l
        · exact .inl ⟨.inr j, by simp [hm], by simp [lay, F', hm]⟩
        · exact .inr (by simp [lay, F', hm])
      | .inr j =>
        cases hm : memN j l
        · exact .inr (by simp [lay, rS, hm, It.res])
        · exact .inl ⟨.inr j, by simp [hm], by simp [lay, rS, hm]⟩
  have hi1 : Inv (rS S l) ρ t.made := fun ρ' ha j => by
    unfold rS
    split
    · exact hi ρ' ha j
    · rfl
  refine (h F' M1 hi1 fun j hj => by unfold rS; split; exact hmk j hj; rfl).mono ?_
  rintro v w' ⟨ρ', ha, M2, rfl⟩
  refine ⟨ρ', ha, ?_, rfl⟩
  refine M2.map (fun k : ι ⊕ Nat => (match k with | .inl i => some (.inl (.inl i)) | .inr j => if memN j l || memN j (t.new.map (·.1)) then some (.inr j) else some (.inl (.inr j)) : Option ((ι ⊕ Nat) ⊕ Nat))) ?_ ?_
  · intro k k' x h1 h2
    match k, k' with
    | .inl i, .inl i' => simp at h1 h2; rw [← h1] at h2; simpa using h2.symm
    | .inl i, .inr j => simp only at h1 h2; cases h1; split at h2 <;> simp at h2
    | .inr j, .inl i => simp only at h1 h2; cases h2; split at h1 <;> simp at h1
    | .inr j, .inr j' =>
      simp only at h1 h2
      split at h1 <;> split at h2 <;> simp at h1 h2 <;> subst h1 <;> simp at h2 <;> rw [h2]
  · intro k
    match k with
    | .inl i => exact .inl ⟨_, rfl, rfl⟩
    | .inr j =>
      cases hc : (memN j l || memN j (t.new.map (·.1)))
      · refine .inl ⟨.inl (.inr j), by simp only [hc]; rfl, ?_⟩
        simp only [Bool.or_eq_false_iff] at hc
        simp only [lay, F', hc.1]
        rw [updS_not fun hh => by rw [memN_iff.2 hh] at hc; cases hc.2]
        exact hi ρ' ha j
      · refine .inl ⟨.inr j, by simp only [hc, if_true], ?_⟩
        simp only [lay]
        cases hm : memN j l
        · rw [hm] at hc
          simp only [Bool.false_or] at hc
          rcases hnew j (memN_iff.1 hc) with h1 | h1
          · rw [memN_iff.2 h1] at hm; cases hm
          · rw [updS_congr (S := rS S l) (S' := S) (by unfold rS; rw [hm, h1]; rfl)]
        · rw [updS_congr (S := rS S l) (S' := S) (by unfold rS; rw [hm]; rfl)]

theorem ev_rtm {tm : Nat → Option AV} {l : List Nat} {a : Act} {x : Operand} {v : AV} (ht : ∀ t y, t ∈ l → tm t = some y → a.tmps[t]? = some (y.val ρ)) (h : ev (rtm tm l) x = some v) : a.eval x = v.val ρ := by
  cases x with
  | tmp t =>
    simp only [ev, rtm] at h
    split at h
    · rename_i hm
      have := ht t v (memN_iff.1 hm) h
      simp [Act.eval, Array.getD_eq_getD_getElem?, this]
    · cases h
  | const c => cases h; rfl
  | global g => cases h; rfl
  | func f => cases h; rfl

theorem pick_ok (M : MemF φ ψ w0 w (lay F ρ S)) {o : Oper} {e : Operand → Option AV} {g : Operand → Value} (hg : ∀ x, ∀ v, e x = some v → g x = v.val ρ) {d : Option (Bool × Bool)} {r : Tr} (h : pickRes d e o.op = some r) (hd : ∀ p, d = some p → p.1 = p.2) (he : (pickEq d e o.op).1 = (pickEq d e o.op).2) : Does P o g w (After φ ψ w0 F ρ S r) := by
  cases hop : o.op <;> rw [hop] at h he <;> simp only [pickRes] at h <;> first | cases h | skip
  rename_i c a b
  split at h
  case h_2 => cases h
  rename_i d' x hx
  obtain ⟨v, h1, h2⟩ := Option.map_eq_some_iff.1 h
  subst h2
  simp only [pickEq, hx, List.cons.injEq, Prod.mk.injEq, and_true, AV.v.injEq, Value.bool.injEq] at he
  have hc := hg c _ hx
  have hv := hg _ _ h1
  have hx2 : x = d'.2 := he.trans (hd d' rfl)
  refine .inl ⟨v.val ρ, w, ?_, ρ, Agree.refl _ _, M, rfl⟩
  simp only [execOp, hop, hc, AV.val, hx2]
  cases hdd : d'.2 <;> rw [hdd] at hv <;> simp [asBool] at hv ⊢ <;> exact hv
/-- The numbers that are turned. -/
def newIn (l : List Nat) (made : List Nat) (t : Tr) : Bool := t.new.all fun p => memN p.1 l || memN p.1 made
theorem opRes_ok (M : MemF φ ψ w0 w (lay F ρ S)) {dk : TypeId → Nat} {H : Hint} (hH : ∀ i c τ, hcall H.calls i = some (c, τ) → c.ok P) (hF : Facts H.facts) {tm : Nat → Option AV} {a : Act} {o : Oper} (ht : ∀ t y, t ∈ opT o.op → tm t = some y → a.tmps[t]? = some (y.val ρ)) {id i : Nat} {r : Tr} (h : opRes P dk H tm S id i o.op = some r) (ho : AllP r.obs) (he : (opEq H tm S id i o.op).1 = (opEq H tm S id i o.op).2) (hmk : ∀ j ∈ r.made, S j = .none) (hi : Inv S ρ r.made)
    (hnew : ∀ j ∈ r.new.map (·.1), j ∈ tch tm o.op ++ (match hcall H.calls i with | some (_, τ) => τ | none => []) ∨ j ∈ r.made) :
    Does P o a.eval w (After φ ψ w0 F ρ S r) := by
  unfold opRes at h
  unfold opEq at he
  split at h
  · rename_i c τ hcl
    rw [hcl] at hnew he
    refine Does.frame (tch tm o.op ++ τ) M hi hmk (fun j hj => (hnew j hj).imp (fun h => h) (hmk j)) fun F' M' hi' hmk' => ?_
    exact call_ok M' (e := ev (rtm tm (opT o.op))) (fun x _ v hv => ev_rtm ht hv) (hH i c τ hcl) h he hmk' hi'
  · rename_i hcl
    rw [hcl] at hnew he
    refine Does.frame (tch tm o.op) M hi hmk (fun j hj => (hnew j hj).imp (fun h => by simpa using h) (hmk j)) fun F' M' hi' hmk' => ?_
    split at h
    · rename_i q hq
      cases h
      exact pick_ok M' (e := ev (rtm tm (opT o.op))) (fun x v hv => ev_rtm ht hv) hq (fun p hp => hfact_ok hF hp) he
    · exact step0_ok M' (e := ev (rtm tm (opT o.op))) (fun x _ v hv => ev_rtm ht hv) h ho hmk' hi'

theorem wantA_ok {ops : List Oper} {H : Hint} (hF : Facts H.facts) {tm : Nat → Option AV} {i : Nat} {o : Oper} {a : Act} {b : Bool} {l r : List AV} (h : wantA ops H tm i o = some (b, l, r)) (ho : l = r)
    (ht : ∀ t y, (∃ j wnt, o.guard = some (j, wnt) ∧ (ops[j]?).bind (·.dst) = some t) → tm t = some y → a.tmps[t]? = some (y.val ρ)) : Region.wanted o (yielded ops.toArray a.tmps) = b := by
  unfold wantA at h
  unfold Region.wanted
  cases hg : o.guard with
  | none => rw [hg] at h; cases h; rfl
  | some q =>
    obtain ⟨j, want⟩ := q
    rw [hg] at h
    simp only at h ⊢
    split at h
    case h_1 => cases h
    rename_i t hd
    have hy : ∀ y, tm t = some y → a.tmps[t]? = some (y.val ρ) := fun y hy => ht t y ⟨j, want, hg, hd⟩ hy
    unfold yielded
    rw [show ((ops.toArray[j]?).bind (·.dst)).bind (a.tmps[·]?) = a.tmps[t]? by simp only [List.getElem?_toArray, hd]; rfl]
    split at h
    · rename_i x b' hb
      rw [hy _ hb]
      obtain ⟨d, h1, h2⟩ := Option.map_eq_some_iff.1 h
      cases h2
      simp only [List.cons.injEq, AV.v.injEq, Value.bool.injEq, and_true] at ho
      simp only [AV.val]
      rw [ho, hfact_ok hF h1]
      rfl
    · rename_i x b' hb
      rw [hy _ hb]
      cases h
      rfl
    · cases h

end

/-- What an operation does, with the slots and the things that it looks at. -/
structure Ac where
  dst : Option Nat
  t : Tr
  want : Bool
  rt : List Nat
  ri : List Nat
  eqs : List (List AV × List It) × List (List AV × List It)
  eqw : List AV × List AV
def noTr : Tr := ⟨[], [], .v undef, []⟩
def putL (dst : Option Nat) (x : AV) (tm : List (Nat × AV)) : List (Nat × AV) :=
  match dst with
  | some d => (d, x) :: tm
  | none => tm
def putF (dst : Option Nat) (x : AV) (tm : Nat → Option AV) : Nat → Option AV := fun t => if dst = some t then some x else tm t
def dstB (N : Nat) (dst : Option Nat) : Bool := match dst with | some d => decide (d < N) | none => true
def fineB (n : Nat) (t : Tr) : Bool :=
  t.new.all (fun p => decide (p.1 < n + 8) && ltAll (n + 8) p.2.ids) && t.made.all (fun j => decide (n ≤ j) && decide (j < n + 8)) && ltAll (n + 8) t.res.ids
def guardT (ops : List Oper) (o : Oper) : List Nat :=
  match o.guard with
  | some (j, _) => ((ops[j]?).bind (·.dst)).toList
  | none => []
def callT (H : Hint) (i : Nat) : List Nat := match hcall H.calls i with
  | some (_, τ) => τ
  | none => []
/-- One operation. -/
def opA (P : Program) (dk : TypeId → Nat) (N : Nat) (ops : List Oper) (H : Hint) (i : Nat) (o : Oper) (tm : Nat → Option AV) (S : Nat → It) (n : Nat) : Option (Ac × List Prop) :=
  if dstB N o.dst then
    match wantA ops H tm i o with
    | none => none
    | some (false, l, r) => some (⟨o.dst, noTr, false, guardT ops o, [], ([], []), (l, r)⟩, [])
    | some (true, l, r) =>
      match opRes P dk H tm S n i o.op with
      | none => none
      | some t =>
        if fineB n t && newIn (tch tm o.op ++ callT H i) t.made t then some (⟨o.dst, t, true, opT o.op ++ guardT ops o, tch tm o.op ++ callT H i, opEq H tm S n i o.op, (l, r)⟩, t.obs) else none
  else none
structure RS where
  acts : List Ac
  obs : List Prop
  tm : List (Nat × AV)
  S : Nat → It
def runA (P : Program) (dk : TypeId → Nat) (N : Nat) (ops : List Oper) (H : Hint) : List Oper → Nat → List (Nat × AV) → (Nat → It) → Nat → Option RS
  | [], _, tm, S, _ => some ⟨[], [], tm, S⟩
  | o :: r, i, tm, S, n =>
    match opA P dk N ops H i o (look tm) S n with
    | none => none
    | some (a, ob) =>
      match runA P dk N ops H r (i + 1) (putL a.dst a.t.res tm) (updS S a.t.new) (n + 8) with
      | none => none
      | some s => some ⟨a :: s.acts, ob ++ s.obs, s.tm, s.S⟩

section
variable {P : Program} {ι : Type} {φ ψ : Nat → Prop} {w0 w w' : World} {F : ι → Rs} {ρ : Nat → Value} {S : Nat → It} {N m n : Nat} {ρ0 : Nat → Value}

/-- How a call stands. -/
structure Inn (φ ψ : Nat → Prop) (w0 : World) (F : ι → Rs) (N m : Nat) (ρ0 : Nat → Value) (n : Nat) (ρ : Nat → Value) (tm : Nat → Option AV) (S : Nat → It) (a : Act) (w : World) : Prop where
  size : a.tmps.size = N
  defs : a.defers = []
  tmv : ∀ t x, tm t = some x → a.tmps[t]? = some (x.val ρ)
  tmi : ∀ t x, tm t = some x → ∀ id ∈ x.ids, id < n
  bd : ∀ j, (∀ id ∈ (S j).ids, id < n) ∧ (n ≤ j → S j = .none)
  mem : MemF φ ψ w0 w (lay F ρ S)
  le : m ≤ n
  old : ∀ i, i < m → ρ i = ρ0 i

theorem Inn.inv {tm : Nat → Option AV} {a : Act} (I : Inn φ ψ w0 F N m ρ0 n ρ tm S a w) {mk : List Nat} (h : ∀ j ∈ mk, n ≤ j) : Inv S ρ mk := fun ρ' ha j => by
  have hlt : ∀ id, id < n → ρ' id = ρ id := fun id hid => ha id fun hm => by have := h id hm; omega
  refine It.res_congr _ (fun id hid => hlt id ((I.bd j).1 id hid)) ?_
  rcases Nat.lt_or_ge j n with hj | hj
  · exact .inr (.inr (hlt j hj))
  · exact .inl ((I.bd j).2 hj)
theorem putF_look {dst : Option Nat} {x : AV} {tm : List (Nat × AV)} : look (putL dst x tm) = putF dst x (look tm) := by
  funext t
  cases dst with
  | none => simp [putL, putF]
  | some d =>
    simp only [putL, look, putF, natEq]
    by_cases h : t = d
    · subst h; simp
    · simp [h, Ne.symm h]
theorem fine_parts {t : Tr} (h : fineB n t = true) : (∀ p ∈ t.new, p.1 < n + 8 ∧ ∀ id ∈ p.2.ids, id < n + 8) ∧ (∀ j ∈ t.made, n ≤ j ∧ j < n + 8) ∧ ∀ id ∈ t.res.ids, id < n + 8 := by
  simp only [fineB, Bool.and_eq_true] at h
  refine ⟨fun p hp => ?_, fun j hj => ?_, ltAll_iff h.2⟩
  · have := List.all_eq_true.1 h.1.1 p hp
    simp only [Bool.and_eq_true, decide_eq_true_eq] at this
    exact ⟨this.1, ltAll_iff this.2⟩
  · have := List.all_eq_true.1 h.1.2 j hj
    simpa using this
theorem updS_bd {l : List (Nat × It)} {m : Nat} (hS : ∀ j, (∀ id ∈ (S j).ids, id < m) ∧ (m ≤ j → S j = .none)) (h : ∀ p ∈ l, p.1 < m ∧ ∀ id ∈ p.2.ids, id < m) : ∀ j, (∀ id ∈ (updS S l j).ids, id < m) ∧ (m ≤ j → updS S l j = .none) := by
  induction l with
  | nil => exact hS
  | cons p r ih =>
    obtain ⟨k, x⟩ := p
    intro j
    have hp := h (k, x) List.mem_cons_self
    simp only at hp
    simp only [updS]
    by_cases e : j = k
    · rw [if_pos e]
      exact ⟨hp.2, fun hm => by omega⟩
    · rw [if_neg e]
      exact ih (fun p hp => h p (List.mem_cons_of_mem _ hp)) j
theorem put_size (a : Act) (dst : Option Nat) (v : Value) : (a.put dst v).tmps.size = a.tmps.size := by cases dst <;> simp [Act.put]
theorem put_defs (a : Act) (dst : Option Nat) (v : Value) : (a.put dst v).defers = a.defers := by cases dst <;> simp [Act.put]
theorem put_at {a : Act} {dst : Option Nat} {v : Value} {t : Nat} (h : dstB a.tmps.size dst = true) : (a.put dst v).tmps[t]? = if dst = some t then some v else a.tmps[t]? := by
  cases dst with
  | none => simp [Act.put]
  | some d =>
    have hd : d < a.tmps.size := by simpa [dstB] using h
    simp only [Act.put, Option.some.injEq]
    rw [Array.getElem?_setIfInBounds]
    by_cases e : d = t
    · subst e; simp [hd]
    · simp [e]
theorem Inn.next {tm : Nat → Option AV} {a : Act} (I : Inn φ ψ w0 F N m ρ0 n ρ tm S a w) {t : Tr} {dst : Option Nat} (hd : dstB N dst = true) (hf : fineB n t = true) {ρ' : Nat → Value} (ha : Agree t.made ρ ρ') (M : MemF φ ψ w0 w' (lay F ρ' (updS S t.new))) :
    Inn φ ψ w0 F N m ρ0 (n + 8) ρ' (putF dst t.res tm) (updS S t.new) (a.put dst (t.res.val ρ')) w' := by
  obtain ⟨h1, h2, h3⟩ := fine_parts hf
  have hlt : ∀ id, id < n → ρ' id = ρ id := fun id hid => ha id fun hm => by have := (h2 id hm).1; omega
  refine ⟨(put_size _ _ _).trans I.size, (put_defs _ _ _).trans I.defs, fun s x hx => ?_, fun s x hx => ?_, updS_bd (fun j => ⟨fun id hid => by have := (I.bd j).1 id hid; omega, fun hj => (I.bd j).2 (by omega)⟩) h1, M, by have := I.le; omega, fun i hi => (hlt i (by have := I.le; omega)).trans (I.old i hi)⟩
  · rw [put_at (by rw [I.size]; exact hd)]
    simp only [putF] at hx
    split
    · rename_i e; rw [if_pos e] at hx; cases hx; rfl
    · rename_i e
      rw [if_neg e] at hx
      rw [I.tmv s x hx, AV.val_congr x fun id hid => hlt id (I.tmi s x hx id hid)]
  · simp only [putF] at hx
    split at hx
    · cases hx; exact h3
    · intro id hid; have := I.tmi s x hx id hid; omega

theorem opA_ok {dk : TypeId → Nat} {H : Hint} (hH : ∀ i c τ, hcall H.calls i = some (c, τ) → c.ok P) (hF : Facts H.facts) {ops : List Oper} {i : Nat} {o : Oper} {tm : Nat → Option AV} {a : Act} (I : Inn φ ψ w0 F N m ρ0 n ρ tm S a w) {ac : Ac} {obs : List Prop} (h : opA P dk N ops H i o tm S n = some (ac, obs)) (ho : AllP obs) (he : ac.eqs.1 = ac.eqs.2) (hw' : ac.eqw.1 = ac.eqw.2)
    {Q : Exit → Act → World → Prop} {rest : List Oper} (hk : ∀ ρ' w', Agree ac.t.made ρ ρ' → MemF φ ψ w0 w' (lay F ρ' (updS S ac.t.new)) → wpList P ops.toArray Q rest (a.put o.dst (ac.t.res.val ρ')) w') : wpList P ops.toArray Q (o :: rest) a w := by
  unfold opA at h
  split at h
  case isFalse => cases h
  rename_i hd
  split at h
  case h_1 => cases h
  · rename_i l r hw
    cases h
    refine skip_wp (wantA_ok (ρ := ρ) hF hw hw' fun t y _ hy => I.tmv t y hy) ?_
    exact hk ρ w (Agree.refl _ _) (by simpa [noTr, updS] using I.mem)
  · rename_i l r hw
    split at h
    case h_1 => cases h
    rename_i t ht
    split at h
    case isFalse => cases h
    rename_i hf
    cases h
    simp only [Bool.and_eq_true] at hf
    obtain ⟨h1, h2, h3⟩ := fine_parts hf.1
    refine Does.wp (wantA_ok (ρ := ρ) hF hw hw' fun t y _ hy => I.tmv t y hy) ?_
    refine (opRes_ok I.mem hH hF (fun t y _ hy => I.tmv t y hy) ht ho he (fun j hj => (I.bd j).2 (h2 j hj).1) (I.inv fun j hj => (h2 j hj).1) (fun j hj => ?_)).mono ?_
    · obtain ⟨p, hp, rfl⟩ := List.mem_map.1 hj
      have := List.all_eq_true.1 hf.2 p hp
      simp only [Bool.or_eq_true] at this
      exact this.imp memN_iff.1 memN_iff.1
    · rintro v w' ⟨ρ', p1, p2, rfl⟩
      exact hk ρ' w' p1 p2
theorem opA_dst {dk : TypeId → Nat} {H : Hint} {ops : List Oper} {i : Nat} {o : Oper} {tm : Nat → Option AV} {ac : Ac} {obs : List Prop} (h : opA P dk N ops H i o tm S n = some (ac, obs)) : ac.dst = o.dst ∧ dstB N o.dst = true ∧ fineB n ac.t = true := by
  unfold opA at h
  split at h
  case isFalse => cases h
  rename_i hd
  split at h
  case h_1 => cases h
  · cases h; exact ⟨rfl, hd, rfl⟩
  · split at h
    case h_1 => cases h
    split at h
    case isFalse => cases h
    rename_i hf
    cases h
    simp only [Bool.and_eq_true] at hf
    exact ⟨rfl, hd, hf.1⟩

theorem runA_ok {dk : TypeId → Nat} {H : Hint} (hH : ∀ i c τ, hcall H.calls i = some (c, τ) → c.ok P) (hF : Facts H.facts) {ops : List Oper} {Q : Exit → Act → World → Prop} : ∀ (l : List Oper) (i n : Nat) {tm : List (Nat × AV)} {S : Nat → It} {ρ : Nat → Value} {a : Act} {w : World} {r : RS}, Inn φ ψ w0 F N m ρ0 n ρ (look tm) S a w → runA P dk N ops H l i tm S n = some r → AllP r.obs → r.acts.map (·.eqs.1) = r.acts.map (·.eqs.2) → r.acts.map (·.eqw.1) = r.acts.map (·.eqw.2) →
    (∀ ρ' a' w' n', Inn φ ψ w0 F N m ρ0 n' ρ' (look r.tm) r.S a' w' → Q .normal a' w') → wpList P ops.toArray Q l a w
  | [], i, n, tm, S, ρ, a, w, r, I, h, _, _, _, hk => by cases h; exact hk _ _ _ _ I
  | o :: l, i, n, tm, S, ρ, a, w, r, I, h, ho, he, hw', hk => by
    simp only [runA] at h
    split at h
    case h_1 => cases h
    rename_i ac ob h1
    split at h
    case h_1 => cases h
    rename_i s h2
    cases h
    simp only [AllP.append] at ho
    simp only [List.map_cons, List.cons.injEq] at he hw'
    obtain ⟨q1, q2, q3⟩ := opA_dst h1
    refine opA_ok hH hF I h1 ho.1 he.1 hw'.1 fun ρ' w' ha M => ?_
    have I' : Inn φ ψ w0 F N m ρ0 (n + 8) ρ' (look (putL ac.dst ac.t.res tm)) (updS S ac.t.new) (a.put o.dst (ac.t.res.val ρ')) w' := by
      rw [putF_look, q1]
      exact I.next q2 q3 ha M
    exact runA_ok hH hF l (i + 1) (n + 8) I' h2 ho.2 he.2 hw'.2 hk

end

section
variable {P : Program}

/-- Further memory; S: the new boxes. -/
structure Grows (wr w : World) (S : Nat → Prop) : Prop where
  below : Below wr.heap.size wr w
  box : ∀ b, S b → wr.heap.size ≤ b ∧ b < w.heap.size
theorem Grows.start (w : World) : Grows w w.drew fun _ => False := ⟨(Below.refl _ _).drew, fun _ h => h.elim⟩
theorem Grows.call {wr w w' : World} {S : Nat → Prop} (h : Grows wr w S) (b : Below w.heap.size w w') : Grows wr w' S := ⟨h.below.trans (b.mono h.below.size), fun c hc => ⟨(h.box c hc).1, Nat.lt_of_lt_of_le (h.box c hc).2 b.size⟩⟩
theorem Grows.new {wr w w' : World} {S : Nat → Prop} (h : Grows wr w S) (b : Below w.heap.size w w') (hs : w.heap.size < w'.heap.size) : Grows wr w' fun c => S c ∨ c = w.heap.size :=
  ⟨h.below.trans (b.mono h.below.size), fun c hc => by
    rcases hc with hc | rfl
    · exact ⟨(h.box c hc).1, Nat.lt_of_lt_of_le (h.box c hc).2 b.size⟩
    · exact ⟨h.below.size, hs⟩⟩
/-- What may be read beside the new boxes. -/
def RF (φ S : Nat → Prop) (b : Nat) : Prop := φ b ∧ ¬ S b
theorem Grows.fresh {wr w : World} {S φ : Nat → Prop} (h : Grows wr w S) (hf : ∀ b, wr.heap.size ≤ b → φ b) : ∀ b, w.heap.size ≤ b → RF φ S b := fun b hb => ⟨hf b (Nat.le_trans h.below.size hb), fun hs => by have := (h.box b hs).2; omega⟩
/-- What was there can be read still. -/
theorem Grows.old {wr w : World} {S φ : Nat → Prop} (h : Grows wr w S) {R : World → (Nat → Prop) → Prop} (hn : Nice R) (hr : R wr φ) : R w (RF φ S) :=
  hn _ _ _ _ ⟨h.below.size, fun b hb hf => ⟨⟨hf, fun hs => by have := (h.box b hs).1; omega⟩, h.below.block b hb⟩⟩ hr

end

/-- What a region has made, with what there was. -/
theorem Mem.region {φ ψ : Nat → Prop} {w0 wr w : World} {L : List Res} {S : Nat → Prop} (M : Mem φ ψ w0 wr L) (hg : Grows wr w S) {g : Nat} {cs : List Value} (hb : Blk w g cs) (hs : S g) : Mem φ ψ w0 w (L ++ [.box g cs]) :=
  M.add hg.below _ hb fun g' h => by cases h; exact (hg.box _ hs).1
theorem RF.app {φ S : Nat → Prop} {L : List Res} {b : Nat} (h : RF (Fr φ L) S b) (X : List Res) (hX : ∀ r ∈ X, ∀ g, r.blk g → S g) : Fr φ (L ++ X) b :=
  ⟨h.1.1, fun r hr he => by
    rcases List.mem_append.1 hr with hr | hr
    · exact h.1.2 r hr he
    · exact h.2 (hX r hr b he)⟩


section
variable {P : Program}

/-- Edges that bind go back. -/
def backB2 (ops : Array Oper) : Bool := (List.range ops.size).all fun j => (ops[j]?).any fun o => o.after.all fun e => !Region.binds .any e || decide (e.on < j)
theorem back2_lt {ops : Array Oper} (hb : backB2 ops = true) {k : Nat} {o : Oper} (hk : k < ops.size) (ho : ops[k]? = some o) {e : Edge} (he : e ∈ o.after) (hbi : Region.binds .any e = true) : e.on < k := by
  have h1 := List.all_eq_true.1 hb k (List.mem_range.2 hk)
  rw [ho] at h1
  simp only [Option.any_some] at h1
  have h2 := Array.all_eq_true'.1 h1 e he
  rw [hbi] at h2
  simpa using h2
theorem some_ready2 {ops : Array Oper} (hb : backB2 ops = true) {listed : Array Bool} (hsz : listed.size = ops.size) : ∀ k, k < ops.size → listed.getD k true = false → Region.ready .any ops listed ≠ [] := by
  intro k
  induction k using Nat.strongRecOn with
  | _ k ih =>
    intro hk hl hn
    by_cases hall : ∃ j, j < k ∧ listed.getD j true = false
    · obtain ⟨j, hj, hlj⟩ := hall
      exact ih j hj (by omega) hlj hn
    · have hok : ops[k]? = some ops[k] := Array.getElem?_eq_getElem hk
      have : k ∈ Region.ready .any ops listed := by
        refine mem_ready.2 ⟨hl, ops[k], hok, fun e he hbi => ?_⟩
        have h2 := back2_lt hb hk hok he hbi
        cases h3 : listed.getD e.on true
        · exact absurd ⟨e.on, h2, h3⟩ hall
        · have : e.on < listed.size := by omega
          simp [this] at h3 ⊢
          exact h3
      rw [hn] at this
      cases this

theorem getD_tf {a : Array Bool} {j : Nat} (h : j < a.size) : a.getD j true = a.getD j false := by simp [h]

end

/-- What has been written last, of those that have come up. -/
def pf {β : Type} (wr : Ac → Option β) : List Ac → Nat → (Nat → Bool) → β → β
  | [], _, _, v => v
  | a :: r, k, B, v => pf wr r (k + 1) B (match wr a with | some x => if B k then x else v | none => v)
theorem pf_agree {β : Type} {wr : Ac → Option β} {B B' : Nat → Bool} : ∀ {az : List Ac} {k : Nat} {v : β}, (∀ j a, az[j]? = some a → (wr a).isSome = true → B (k + j) = B' (k + j)) → pf wr az k B v = pf wr az k B' v
  | [], _, _, _ => rfl
  | a :: r, k, v, h => by
    simp only [pf]
    have h0 := h 0 a rfl
    have hr : ∀ j b, r[j]? = some b → (wr b).isSome = true → B (k + 1 + j) = B' (k + 1 + j) := fun j b hb hw => by
      have := h (j + 1) b (by simpa using hb) hw
      rw [show k + (j + 1) = k + 1 + j by omega] at this; exact this
    cases hw : wr a with
    | none => exact pf_agree hr
    | some x =>
      rw [hw] at h0
      simp only [Nat.add_zero, Option.isSome_some, forall_const] at h0
      rw [h0]
      exact pf_agree hr
theorem pf_none {β : Type} {wr : Ac → Option β} {B : Nat → Bool} : ∀ {az : List Ac} {k : Nat} {v : β}, (∀ j a, az[j]? = some a → (wr a).isSome = true → B (k + j) = false) → pf wr az k B v = v
  | [], _, _, _ => rfl
  | a :: r, k, v, h => by
    simp only [pf]
    have h0 := h 0 a rfl
    have hr : ∀ j b, r[j]? = some b → (wr b).isSome = true → B (k + 1 + j) = false := fun j b hb hw => by
      have := h (j + 1) b (by simpa using hb) hw
      rw [show k + (j + 1) = k + 1 + j by omega] at this; exact this
    rw [pf_none hr]
    cases hw : wr a with
    | none => rfl
    | some x =>
      rw [hw] at h0
      simp only [Nat.add_zero, Option.isSome_some, forall_const] at h0
      simp [h0]
theorem pf_last {β : Type} {wr : Ac → Option β} {B : Nat → Bool} : ∀ {az : List Ac} {k i : Nat} {v x : β} {a : Ac}, az[i]? = some a → wr a = some x → B (k + i) = true → (∀ j b, i < j → az[j]? = some b → (wr b).isSome = true → B (k + j) = false) → pf wr az k B v = x
  | [], _, _, _, _, _, h, _, _, _ => by simp at h
  | b :: r, k, 0, v, x, a, h, hw, hB, hn => by
    simp at h; subst h
    simp only [pf, hw]
    rw [Nat.add_zero] at hB
    rw [hB, if_pos rfl]
    refine pf_none fun j c hc hs => ?_
    have := hn (j + 1) c (by omega) (by simpa using hc) hs
    rw [show k + (j + 1) = k + 1 + j by omega] at this; exact this
  | b :: r, k, i + 1, v, x, a, h, hw, hB, hn => by
    simp only [pf]
    refine pf_last (i := i) (by simpa using h) hw (by rw [show k + 1 + i = k + (i + 1) by omega]; exact hB) fun j c hj hc hs => ?_
    have := hn (j + 1) c (by omega) (by simpa using hc) hs
    rw [show k + (j + 1) = k + 1 + j by omega] at this; exact this
theorem pf_prop {β : Type} {wr : Ac → Option β} {B : Nat → Bool} (p : β → Prop) : ∀ {az : List Ac} {k : Nat} {v : β}, p v → (∀ j a x, az[j]? = some a → B (k + j) = true → wr a = some x → p x) → p (pf wr az k B v)
  | [], _, _, h, _ => h
  | a :: r, k, v, h, hs => by
    simp only [pf]
    refine pf_prop p ?_ fun j b x hb hB hw => hs (j + 1) b x (by simpa using hb) (by rw [show k + (j + 1) = k + 1 + j by omega]; exact hB) hw
    cases hw : wr a with
    | none => exact h
    | some x =>
      simp only
      split
      · rename_i hB; exact hs 0 a x rfl (by simpa using hB) hw
      · exact h
def findN : List (Nat × It) → Nat → Option It
  | [], _ => none
  | (k, x) :: r, i => if i = k then some x else findN r i
theorem updS_find (S : Nat → It) (i : Nat) : ∀ (l : List (Nat × It)), updS S l i = match findN l i with | some x => x | none => S i
  | [] => rfl
  | (k, x) :: r => by simp only [updS, findN]; split; rfl; exact updS_find S i r
theorem findN_mem {l : List (Nat × It)} {i : Nat} {x : It} (h : findN l i = some x) : (i, x) ∈ l := by
  induction l with
  | nil => cases h
  | cons p r ih =>
    obtain ⟨k, y⟩ := p
    simp only [findN] at h
    split at h
    · rename_i e; cases h; rw [e]; exact List.mem_cons_self
    · exact List.mem_cons_of_mem _ (ih h)
def wrT (t : Nat) (a : Ac) : Option (Option AV) := if a.dst = some t then some (some a.t.res) else none
def wrS (i : Nat) (a : Ac) : Option It := findN a.t.new i
def tmD (az : List Ac) (B : Nat → Bool) (tm : Nat → Option AV) : Nat → Option AV := fun t => pf (wrT t) az 0 B (tm t)
def sD (az : List Ac) (B : Nat → Bool) (S : Nat → It) : Nat → It := fun i => pf (wrS i) az 0 B (S i)

/-- Which come ahead. -/
def bef (ms : List Nat) (j i : Nat) : Bool := (nth ms i).testBit j
def maskOf (ms : List Nat) (o : Oper) : Nat := o.after.foldl (fun s e => if Region.binds .any e then s ||| (2 ^ e.on ||| nth ms e.on) else s) 0
def masksB (ms : List Nat) (l : List Oper) : Bool := (List.range l.length).all fun i => match l[i]? with | some o => natEq (nth ms i) (maskOf ms o) | none => false
/-- Two operations that meet are ordered. -/
def meetB (a b : Ac) : Bool :=
  (match b.dst with | some t => memN t a.rt || (match a.dst with | some s => natEq s t | none => false) | none => false) ||
  b.t.new.any (fun p => memN p.1 a.ri || a.t.new.any fun q => natEq q.1 p.1)
def ordB (ms : List Nat) (az : List Ac) : Bool :=
  (List.range az.length).all fun i => (List.range az.length).all fun j =>
    match az[i]?, az[j]? with
    | some a, some b => natEq i j || !meetB a b || (if decide (j < i) then bef ms j i else bef ms i j)
    | _, _ => false
def mentB (ms : List Nat) (n0 : Nat) (az : List Ac) : Bool :=
  (List.range az.length).all fun i =>
    match az[i]? with
    | some a => (a.t.res.ids ++ a.t.new.map (·.1) ++ a.t.new.flatMap (fun p => p.2.ids)).all fun id => decide (id < n0) || natEq ((id - n0) / 8) i || bef ms ((id - n0) / 8) i
    | none => false

section
variable {P : Program} {ι : Type} {φ ψ : Nat → Prop} {w0 w w' : World} {F : ι → Rs} {ρ : Nat → Value} {S : Nat → It} {N n : Nat}

theorem fmap_congr {α β : Type} {f g : α → Option β} : ∀ {l : List α}, (∀ x ∈ l, f x = g x) → l.filterMap f = l.filterMap g
  | [], _ => rfl
  | a :: r, h => by rw [List.filterMap_cons, List.filterMap_cons, h a List.mem_cons_self, fmap_congr fun x hx => h x (List.mem_cons_of_mem _ hx)]
theorem wantA_congr {ops : List Oper} {H : Hint} {tm tm' : Nat → Option AV} {i : Nat} {o : Oper} (h : ∀ t ∈ guardT ops o, tm' t = tm t) : wantA ops H tm' i o = wantA ops H tm i o := by
  unfold wantA
  unfold guardT at h
  cases hg : o.guard with
  | none => rfl
  | some q =>
    obtain ⟨j, want⟩ := q
    rw [hg] at h
    simp only at h ⊢
    cases hd : (ops[j]?).bind (·.dst) with
    | none => rfl
    | some t =>
      rw [hd] at h
      simp only at h ⊢
      rw [h t (by simp)]
theorem opA_local {dk : TypeId → Nat} {H : Hint} {ops : List Oper} {i : Nat} {o : Oper} {tm tm' : Nat → Option AV} {S S' : Nat → It} {ac : Ac} {ob : List Prop} (h : opA P dk N ops H i o tm S n = some (ac, ob)) (ht : ∀ t ∈ ac.rt, tm' t = tm t) (hs : ∀ j ∈ ac.ri, S' j = S j) : opA P dk N ops H i o tm' S' n = some (ac, ob) := by
  unfold opA at h ⊢
  split at h
  case isFalse => cases h
  rename_i hd
  rw [if_pos hd]
  cases hw : wantA ops H tm i o with
  | none => rw [hw] at h; cases h
  | some q =>
    obtain ⟨b, lq, rq⟩ := q
    rw [hw] at h
    cases b
    · simp only at h
      cases h
      rw [wantA_congr (tm := tm) ht, hw]
    · simp only at h
      cases hr : opRes P dk H tm S n i o.op with
      | none => rw [hr] at h; cases h
      | some t =>
        rw [hr] at h
        simp only at h
        split at h
        case isFalse => cases h
        rename_i hf
        cases h
        simp only at ht hs
        rw [wantA_congr (tm := tm) fun t ht' => ht t (List.mem_append_right _ ht'), hw]
        have e1 : rtm tm' (opT o.op) = rtm tm (opT o.op) := by
          funext t
          unfold rtm
          split
          · rename_i hm; exact ht t (List.mem_append_left _ (memN_iff.1 hm))
          · rfl
        have e2 : tch tm' o.op = tch tm o.op := by
          have e9 : touch tm' (opT o.op) = touch tm (opT o.op) := by
            unfold touch
            congr 1
            exact fmap_congr fun t ht' => ht t (List.mem_append_left _ ht')
          unfold tch
          split
          · rfl
          · exact e9
        have e3 : opRes P dk H tm' S' n i o.op = opRes P dk H tm S n i o.op := by
          unfold opRes
          cases hc : hcall H.calls i with
          | none =>
            simp only
            rw [e1, e2]
            have e5 : rS S' (tch tm o.op) = rS S (tch tm o.op) := by
              funext j
              unfold rS
              split
              · rename_i hm; exact hs j (List.mem_append_left _ (memN_iff.1 hm))
              · rfl
            rw [e5]
          | some q =>
            obtain ⟨c, τ⟩ := q
            simp only
            rw [e1, e2]
            congr 1
            funext j
            unfold rS
            split
            · rename_i hm
              refine hs j ?_
              unfold callT
              rw [hc]; exact memN_iff.1 hm
            · rfl
        have e4 : opEq H tm' S' n i o.op = opEq H tm S n i o.op := by
          unfold opEq
          cases hc : hcall H.calls i with
          | none => simp only; rw [e1]
          | some q =>
            obtain ⟨c, τ⟩ := q
            simp only
            rw [e1, e2]
            congr 1
            funext j
            unfold rS
            split
            · rename_i hm
              refine hs j ?_
              unfold callT
              rw [hc]; exact memN_iff.1 hm
            · rfl
        rw [e3, hr, e4]
        simp only
        rw [e2, if_pos hf]

theorem opA_ok' {dk : TypeId → Nat} {H : Hint} (hH : ∀ i c τ, hcall H.calls i = some (c, τ) → c.ok P) (hF : Facts H.facts) {ops : List Oper} {i : Nat} {o : Oper} {tm : Nat → Option AV} {a : Act} (hv : ∀ t x, tm t = some x → a.tmps[t]? = some (x.val ρ)) (M : MemF φ ψ w0 w (lay F ρ S)) {ac : Ac} {obs : List Prop} (h : opA P dk N ops H i o tm S n = some (ac, obs)) (ho : AllP obs) (he : ac.eqs.1 = ac.eqs.2) (hw' : ac.eqw.1 = ac.eqw.2)
    (hmk : ∀ j ∈ ac.t.made, S j = .none) (hi : Inv S ρ ac.t.made)
    {Q : Exit → Act → World → Prop} {rest : List Oper} (hk : ∀ ρ' w', Agree ac.t.made ρ ρ' → MemF φ ψ w0 w' (lay F ρ' (updS S ac.t.new)) → wpList P ops.toArray Q rest (a.put o.dst (ac.t.res.val ρ')) w') : wpList P ops.toArray Q (o :: rest) a w := by
  unfold opA at h
  split at h
  case isFalse => cases h
  rename_i hd
  split at h
  case h_1 => cases h
  · rename_i l r hw
    cases h
    refine skip_wp (wantA_ok (ρ := ρ) hF hw hw' fun t y _ hy => hv t y hy) ?_
    exact hk ρ w (Agree.refl _ _) (by simpa [noTr, updS] using M)
  · rename_i l r hw
    split at h
    case h_1 => cases h
    rename_i t ht
    split at h
    case isFalse => cases h
    rename_i hf
    cases h
    simp only [Bool.and_eq_true] at hf
    refine Does.wp (wantA_ok (ρ := ρ) hF hw hw' fun t y _ hy => hv t y hy) ?_
    refine (opRes_ok M hH hF (fun t y _ hy => hv t y hy) ht ho he hmk hi (fun j hj => ?_)).mono ?_
    · obtain ⟨p, hp, rfl⟩ := List.mem_map.1 hj
      have := List.all_eq_true.1 hf.2 p hp
      simp only [Bool.or_eq_true] at this
      exact this.imp memN_iff.1 memN_iff.1
    · rintro v w' ⟨ρ', p1, p2, rfl⟩
      exact hk ρ' w' p1 p2

theorem runA_at {dk : TypeId → Nat} {H : Hint} {ops : List Oper} : ∀ (l : List Oper) (i n : Nat) {tm : List (Nat × AV)} {S : Nat → It} {r : RS}, runA P dk N ops H l i tm S n = some r → AllP r.obs →
    r.acts.length = l.length ∧ (∀ t, look r.tm t = pf (wrT t) r.acts i (fun _ => true) (look tm t)) ∧ (∀ j, r.S j = pf (wrS j) r.acts i (fun _ => true) (S j)) ∧
    ∀ k o, l[k]? = some o → ∃ ac ob, r.acts[k]? = some ac ∧ AllP ob ∧ opA P dk N ops H (i + k) o (fun t => pf (wrT t) r.acts i (fun j => decide (j < i + k)) (look tm t)) (fun j => pf (wrS j) r.acts i (fun q => decide (q < i + k)) (S j)) (n + 8 * k) = some (ac, ob)
  | [], i, n, tm, S, r, h, _ => by cases h; exact ⟨rfl, fun _ => rfl, fun _ => rfl, fun k o h => by simp at h⟩
  | o :: l, i, n, tm, S, r, h, ho => by
    simp only [runA] at h
    split at h
    case h_1 => cases h
    rename_i ac ob h1
    split at h
    case h_1 => cases h
    rename_i s h2
    cases h
    simp only [AllP.append] at ho
    obtain ⟨k1, k2, k3, k4⟩ := runA_at l (i + 1) (n + 8) h2 ho.2
    have eT : ∀ t, look (putL ac.dst ac.t.res tm) t = match wrT t ac with | some x => x | none => look tm t := fun t => by
      rw [putF_look]
      simp only [putF, wrT]
      split <;> rfl
    have eS : ∀ j, updS S ac.t.new j = match wrS j ac with | some x => x | none => S j := fun j => updS_find S j _
    refine ⟨by simp [k1], fun t => ?_, fun j => ?_, fun k o' hk => ?_⟩
    · rw [k2 t, eT]; simp only [pf]; cases wrT t ac <;> rfl
    · rw [k3 j, eS]; simp only [pf]; cases wrS j ac <;> rfl
    · cases k with
      | zero =>
        simp at hk; subst hk
        refine ⟨ac, ob, rfl, ho.1, ?_⟩
        have e1 : (fun t => pf (wrT t) (ac :: s.acts) i (fun j => decide (j < i + 0)) (look tm t)) = look tm := by
          funext t; exact pf_none fun j a _ _ => by simp
        have e2 : (fun j => pf (wrS j) (ac :: s.acts) i (fun q => decide (q < i + 0)) (S j)) = S := by
          funext j; exact pf_none fun j a _ _ => by simp
        rw [e1, e2]; exact h1
      | succ k =>
        obtain ⟨ac', ob', m1, m2, m3⟩ := k4 k o' (by simpa using hk)
        refine ⟨ac', ob', by simpa using m1, m2, ?_⟩
        have hi : decide (i < i + (k + 1)) = true := by simp
        have e1 : (fun t => pf (wrT t) (ac :: s.acts) i (fun j => decide (j < i + (k + 1))) (look tm t)) = fun t => pf (wrT t) s.acts (i + 1) (fun j => decide (j < i + 1 + k)) (look (putL ac.dst ac.t.res tm) t) := by
          funext t
          rw [eT]
          simp only [pf, hi, if_true]
          rw [show i + (k + 1) = i + 1 + k by omega]
          cases wrT t ac <;> rfl
        have e2 : (fun j => pf (wrS j) (ac :: s.acts) i (fun q => decide (q < i + (k + 1))) (S j)) = fun j => pf (wrS j) s.acts (i + 1) (fun q => decide (q < i + 1 + k)) (updS S ac.t.new j) := by
          funext j
          rw [eS]
          simp only [pf, hi, if_true]
          rw [show i + (k + 1) = i + 1 + k by omega]
          cases wrS j ac <;> rfl
        rw [e1, e2, show i + (k + 1) = i + 1 + k by omega, show n + 8 * (k + 1) = n + 8 + 8 * k by omega]
        exact m3

/-- Closed under what comes ahead. -/
def Downs (l : List Oper) (B : Nat → Bool) : Prop := ∀ j o, l[j]? = some o → B j = true → ∀ e ∈ o.after, Region.binds .any e = true → B e.on = true
theorem maskOf_bit {ms : List Nat} {o : Oper} {j : Nat} (h : (maskOf ms o).testBit j = true) : ∃ e ∈ o.after, Region.binds .any e = true ∧ (e.on = j ∨ bef ms j e.on = true) := by
  unfold maskOf at h
  rw [← Array.foldl_toList] at h
  have key : ∀ (es : List Edge) (s : Nat), (es.foldl (fun s e => if Region.binds .any e then s ||| (2 ^ e.on ||| nth ms e.on) else s) s).testBit j = true → s.testBit j = true ∨ ∃ e ∈ es, Region.binds .any e = true ∧ (e.on = j ∨ bef ms j e.on = true) := by
    intro es
    induction es with
    | nil => intro s h; exact .inl h
    | cons e r ih =>
      intro s h
      simp only [List.foldl_cons] at h
      rcases ih _ h with h1 | ⟨e', he', h2⟩
      · split at h1
        · rename_i hb
          simp only [Nat.testBit_or, Bool.or_eq_true, Nat.testBit_two_pow, decide_eq_true_eq] at h1
          rcases h1 with h1 | h1 | h1
          · exact .inl h1
          · exact .inr ⟨e, List.mem_cons_self, hb, .inl h1⟩
          · exact .inr ⟨e, List.mem_cons_self, hb, .inr h1⟩
        · exact .inl h1
      · exact .inr ⟨e', List.mem_cons_of_mem _ he', h2⟩
  rcases key _ _ h with h1 | ⟨e, he, h2⟩
  · simp at h1
  · exact ⟨e, by simpa using he, h2⟩
theorem bef_closed {ms : List Nat} {l : List Oper} (hm : masksB ms l = true) (hb : backB2 l.toArray = true) {B : Nat → Bool} (hc : Downs l B) : ∀ i, i < l.length → B i = true → ∀ j, bef ms j i = true → B j = true := by
  intro i
  induction i using Nat.strongRecOn with
  | _ i ih =>
    intro hi hB j hj
    have h1 := List.all_eq_true.1 hm i (List.mem_range.2 hi)
    rw [List.getElem?_eq_getElem hi] at h1
    simp only [natEq, beq_iff_eq] at h1
    unfold bef at hj
    rw [h1] at hj
    obtain ⟨e, he, h2, h3⟩ := maskOf_bit hj
    have h4 := hc i _ (List.getElem?_eq_getElem hi) hB e he h2
    have h5 := back2_lt hb (show i < l.toArray.size by simpa using hi) (show l.toArray[i]? = some l[i] by simp [hi]) he h2
    rcases h3 with rfl | h3
    · exact h4
    · exact ih e.on h5 (by omega) h4 j h3
/-- The same for one that has not come up, all of whose forerunners have. -/
theorem bef_ready {ms : List Nat} {l : List Oper} (hm : masksB ms l = true) (hb : backB2 l.toArray = true) {B : Nat → Bool} (hc : Downs l B) {i : Nat} {o : Oper} (ho : l[i]? = some o) (hr : ∀ e ∈ o.after, Region.binds .any e = true → B e.on = true) {j : Nat} (hj : bef ms j i = true) : B j = true := by
  have hi := (List.getElem?_eq_some_iff.1 ho).1
  have h1 := List.all_eq_true.1 hm i (List.mem_range.2 hi)
  rw [ho] at h1
  simp only [natEq, beq_iff_eq] at h1
  unfold bef at hj
  rw [h1] at hj
  obtain ⟨e, he, h2, h3⟩ := maskOf_bit hj
  have h5 := back2_lt hb (show i < l.toArray.size by simpa using hi) (show l.toArray[i]? = some o by simpa using ho) he h2
  rcases h3 with rfl | h3
  · exact hr e he h2
  · exact bef_closed hm hb hc e.on (by omega) (hr e he h2) j h3

end

section
variable {P : Program} {ι : Type} {φ ψ : Nat → Prop} {w0 w w' : World} {F : ι → Rs} {ρ : Nat → Value} {S : Nat → It} {N m n : Nat} {ρ0 : Nat → Value}

theorem wpAny_inv2 {l : List Oper} {Q : Exit → Act → World → Prop} (I : Array Bool → Act → World → Prop) (hb : backB2 l.toArray = true)
    (step : ∀ listed a w, I listed a w → ∀ i o, l[i]? = some o → listed.getD i true = false → (∀ e ∈ o.after, Region.binds .any e = true → listed.getD e.on false = true) →
      ∀ Q' : Exit → Act → World → Prop, (∀ a w, I (listed.setIfInBounds i true) a w → Q' .normal a w) → wpList P l.toArray Q' [o] a w)
    (done : ∀ listed a w, I listed a w → (∀ j, j < l.length → listed.getD j true = true) → Q .normal a w) :
    ∀ (fuel : Nat) (listed : Array Bool) (a : Act) (w : World), listed.size = l.toArray.size → listed.toList.count false = fuel → I listed a w → wpAny P .any l.toArray Q fuel listed a w := by
  have hfin : ∀ (listed : Array Bool) (a : Act) (w : World), listed.size = l.toArray.size → Region.ready .any l.toArray listed = [] → I listed a w → Q .normal a w := by
    intro listed a w hsz hr hI
    refine done listed a w hI fun j hj => ?_
    cases hl : listed.getD j true
    · exact absurd hr (some_ready2 hb hsz j (by simpa using hj) hl)
    · rfl
  intro fuel
  induction fuel with
  | zero =>
    intro listed a w hsz hc hI
    have hr : Region.ready .any l.toArray listed = [] := by
      rw [List.eq_nil_iff_forall_not_mem]
      intro j hj
      have := count_listed (mem_ready.1 hj).1
      omega
    exact ⟨hr, hfin listed a w hsz hr hI⟩
  | succ f ih =>
    intro listed a w hsz hc hI
    refine ⟨fun hr => hfin listed a w hsz hr hI, fun i hi => ?_⟩
    obtain ⟨h1, o, ho, h2⟩ := mem_ready.1 hi
    have ho' : l[i]? = some o := by simpa using ho
    have hcl := count_listed h1
    have hs := step listed a w hI i o ho' h1 h2 (fun e a w => e = .normal ∧ I (listed.setIfInBounds i true) a w) fun a w h => ⟨rfl, h⟩
    unfold wpOp
    rw [ho]
    simp only
    unfold wpList at hs
    split
    · rename_i hw
      rw [if_pos hw] at hs
      rcases hs with hs | ⟨_, a, w, he, _⟩
      · exact .inl (wp_strict (fun _ _ _ h => h.1) (Oper.wp_mono (fun a' w' h => ih _ a' w' (by simpa using hsz) (by omega) h.2) hs))
      · cases he
    · rename_i hw
      rw [if_neg hw] at hs
      exact ih _ _ _ (by simpa using hsz) (by omega) hs.2
theorem wp_region_inv2 {id : Nat} {l : List Oper} {Q : Exit → Act → World → Prop} {a : Act} {w : World} (I : Array Bool → Act → World → Prop) (hm : P.follows .mixedOrders = true) (hb : backB2 l.toArray = true)
    (h0 : I (Array.replicate l.length false) a w.drew)
    (step : ∀ listed a w, I listed a w → ∀ i o, l[i]? = some o → listed.getD i true = false → (∀ e ∈ o.after, Region.binds .any e = true → listed.getD e.on false = true) →
      ∀ Q' : Exit → Act → World → Prop, (∀ a w, I (listed.setIfInBounds i true) a w → Q' .normal a w) → wpList P l.toArray Q' [o] a w)
    (done : ∀ listed a w, I listed a w → (∀ j, j < l.length → listed.getD j true = true) → Q .normal a w) : (Code.region id l.toArray true).wp P Q a w :=
  wp_region_any hm (wpAny_inv2 I hb step done _ _ _ _ (by simp) (by simp) (by simpa using h0))

/-- What is known on the way. -/
def RI (φ ψ : Nat → Prop) (w0 : World) (F : ι → Rs) (N m : Nat) (ρ0 : Nat → Value) (l : List Oper) (az : List Ac) (tm : Nat → Option AV) (S : Nat → It) (listed : Array Bool) (a : Act) (w : World) : Prop :=
  listed.size = l.length ∧ Downs l (fun j => listed.getD j false) ∧ ∃ ρ, (∀ i, i < m → ρ i = ρ0 i) ∧ a.tmps.size = N ∧ a.defers = [] ∧ (∀ t x, tmD az (fun j => listed.getD j false) tm t = some x → a.tmps[t]? = some (x.val ρ)) ∧ MemF φ ψ w0 w (lay F ρ (sD az (fun j => listed.getD j false) S))

theorem ord_at {ms : List Nat} {az : List Ac} (h : ordB ms az = true) {i j : Nat} {a b : Ac} (ha : az[i]? = some a) (hb : az[j]? = some b) (hij : i ≠ j) (hm : meetB a b = true) : (j < i → bef ms j i = true) ∧ (i < j → bef ms i j = true) := by
  have hi := (List.getElem?_eq_some_iff.1 ha).1
  have hj := (List.getElem?_eq_some_iff.1 hb).1
  have h1 := List.all_eq_true.1 (List.all_eq_true.1 h i (List.mem_range.2 hi)) j (List.mem_range.2 hj)
  rw [ha, hb] at h1
  have hne : natEq i j = false := by simp [natEq, hij]
  simp only [hne, hm, Bool.not_true, Bool.false_or] at h1
  constructor
  · intro hlt; rw [if_pos (by simpa using hlt)] at h1; exact h1
  · intro hlt; rw [if_neg (by simp; omega)] at h1; exact h1
theorem ment_at {ms : List Nat} {n0 : Nat} {az : List Ac} (h : mentB ms n0 az = true) {i : Nat} {a : Ac} (ha : az[i]? = some a) : ∀ id, (id ∈ a.t.res.ids ∨ id ∈ a.t.new.map (·.1) ∨ ∃ p ∈ a.t.new, id ∈ p.2.ids) → id < n0 ∨ (id - n0) / 8 = i ∨ bef ms ((id - n0) / 8) i = true := by
  intro id hid
  have hi := (List.getElem?_eq_some_iff.1 ha).1
  have h1 := List.all_eq_true.1 h i (List.mem_range.2 hi)
  rw [ha] at h1
  have h2 := List.all_eq_true.1 h1 id (by
    rcases hid with h | h | ⟨p, hp, h⟩
    · exact List.mem_append_left _ (List.mem_append_left _ h)
    · exact List.mem_append_left _ (List.mem_append_right _ h)
    · exact List.mem_append_right _ (List.mem_flatMap.2 ⟨p, hp, h⟩))
  simp only [Bool.or_eq_true, decide_eq_true_eq, natEq, beq_iff_eq] at h2
  rcases h2 with (h2 | h2) | h2
  · exact .inl h2
  · exact .inr (.inl h2)
  · exact .inr (.inr h2)

theorem wp_region_rx {dk : TypeId → Nat} {H : Hint} (hH : ∀ i c τ, hcall H.calls i = some (c, τ) → c.ok P) (hF : Facts H.facts) {l : List Oper} {id : Nat} {Q : Exit → Act → World → Prop} {tm : List (Nat × AV)} {a : Act} {wr : World} (I0 : Inn φ ψ w0 F N m ρ0 n ρ (look tm) S a wr) {r : RS} (hrun : runA P dk N l H l 0 tm S n = some r) (ho : AllP r.obs) (heq : r.acts.map (·.eqs.1) = r.acts.map (·.eqs.2)) (hew : r.acts.map (·.eqw.1) = r.acts.map (·.eqw.2))
    (ms : List Nat) (hm : P.follows .mixedOrders = true) (hb : backB2 l.toArray = true) (hms : masksB ms l = true) (hord : ordB ms r.acts = true) (hment : mentB ms n r.acts = true)
    (done : ∀ ρ' a' w' n', Inn φ ψ w0 F N m ρ0 n' ρ' (look r.tm) r.S a' w' → Q .normal a' w') : (Code.region id l.toArray true).wp P Q a wr := by
  obtain ⟨hlen, hfT, hfS, hat⟩ := runA_at l 0 n hrun ho
  have hmt : ∀ (i : Nat) ac, r.acts[i]? = some ac → ∀ t b, b.dst = some t → t ∈ ac.rt → meetB ac b = true := fun i ac _ t b hb ht => by
    simp [meetB, hb, memN_iff.2 ht]
  have hmd : ∀ ac b t, ac.dst = some t → b.dst = some t → meetB ac b = true := fun ac b t h1 h2 => by
    simp [meetB, h1, h2, natEq]
  have hms' : ∀ (ac b : Ac) (j : Nat), j ∈ ac.ri → j ∈ b.t.new.map (·.1) → meetB ac b = true := fun ac b j h1 h2 => by
    obtain ⟨p, hp, rfl⟩ := List.mem_map.1 h2
    unfold meetB
    have : b.t.new.any (fun p => memN p.1 ac.ri || ac.t.new.any fun q => natEq q.1 p.1) = true := List.any_eq_true.2 ⟨p, hp, by simp [memN_iff.2 h1]⟩
    rw [this]; simp
  have hmn : ∀ (ac b : Ac) (j : Nat), j ∈ ac.t.new.map (·.1) → j ∈ b.t.new.map (·.1) → meetB ac b = true := fun ac b j h1 h2 => by
    obtain ⟨p, hp, rfl⟩ := List.mem_map.1 h2
    obtain ⟨q, hq, e⟩ := List.mem_map.1 h1
    unfold meetB
    have : b.t.new.any (fun p => memN p.1 ac.ri || ac.t.new.any fun q => natEq q.1 p.1) = true := List.any_eq_true.2 ⟨p, hp, by
      have : ac.t.new.any (fun q => natEq q.1 p.1) = true := List.any_eq_true.2 ⟨q, hq, by simp [natEq, e]⟩
      rw [this]; simp⟩
    rw [this]; simp
  refine wp_region_inv2 (RI φ ψ w0 F N m ρ0 l r.acts (look tm) S) hm hb ?_ ?_ ?_
  · refine ⟨by simp, fun j o _ hj => ?_, ρ, I0.old, I0.size, I0.defs, fun t x hx => ?_, ?_⟩
    · have hj' : (Array.replicate l.length false).getD j false = true := hj
      rw [getD_replicate_false] at hj'; cases hj'
    · refine I0.tmv t x ?_
      rw [← hx]
      exact (pf_none fun j b _ _ => getD_replicate_false _ _).symm
    · have e : sD r.acts (fun j => (Array.replicate l.length false).getD j false) S = S := by
        funext j; exact pf_none fun j b _ _ => getD_replicate_false _ _
      rw [e]; exact I0.mem.drew
  · rintro listed a w ⟨hsz, hdn, ρ, hold, hN, hdf, hv, M⟩ i o hoi hun hdep Q' hQ
    generalize hB : (fun j => listed.getD j false) = B at *
    have hBj : ∀ j, B j = listed.getD j false := fun j => by rw [← hB]
    have hil := (List.getElem?_eq_some_iff.1 hoi).1
    have hBi : B i = false := by
      rw [hBj, ← getD_tf (by omega)]; exact hun
    obtain ⟨ac, ob, hac, hob, hop⟩ := hat i o hoi
    simp only [Nat.zero_add] at hop
    have heqi : ac.eqs.1 = ac.eqs.2 := by
      have := congrArg (·[i]?) heq
      simpa [hac] using this
    have hewi : ac.eqw.1 = ac.eqw.2 := by
      have := congrArg (·[i]?) hew
      simpa [hac] using this
    obtain ⟨hdst, hdN, hfine⟩ := opA_dst hop
    obtain ⟨hf1, hf2, hf3⟩ := fine_parts hfine
    have hdep' : ∀ e ∈ o.after, Region.binds .any e = true → B e.on = true := fun e he hbi => by rw [hBj]; exact hdep e he hbi
    have ahead : ∀ j, bef ms j i = true → B j = true := fun j hj => bef_ready hms hb hdn hoi hdep' hj
    have behind : ∀ j, j < l.length → bef ms i j = true → B j = false := fun j hjl hj => by
      cases h : B j
      · rfl
      · have := bef_closed hms hb hdn j hjl h i hj
        rw [hBi] at this; cases this
    have hagree : ∀ (j : Nat) b, r.acts[j]? = some b → meetB ac b = true → B j = decide (j < i) := fun j b hj hmm => by
      have hjl : j < l.length := by have := (List.getElem?_eq_some_iff.1 hj).1; omega
      rcases Nat.lt_trichotomy j i with h | h | h
      · rw [ahead j ((ord_at hord hac hj (by omega) hmm).1 h)]; simp [h]
      · subst h; rw [hBi]; simp
      · rw [behind j hjl ((ord_at hord hac hj (by omega) hmm).2 h)]
        have : ¬ j < i := by omega
        simp [this]
    have hop2 := opA_local hop (tm' := tmD r.acts B (look tm)) (S' := sD r.acts B S) (fun t ht => pf_agree fun j b hj hw => by
        rw [Nat.zero_add]
        refine hagree j b hj (hmt i ac hac t b ?_ ht)
        unfold wrT at hw
        split at hw
        · assumption
        · cases hw)
      (fun q hq => pf_agree fun j b hj hw => by
        rw [Nat.zero_add]
        obtain ⟨x, hx⟩ := Option.isSome_iff_exists.1 hw
        exact hagree j b hj (hms' ac b q hq (List.mem_map.2 ⟨_, findN_mem hx, rfl⟩)))
    have hrange : ∀ id, n + 8 * i ≤ id → id < n + 8 * i + 8 → (id - n) / 8 = i := fun id h1 h2 => by omega
    have hmk : ∀ j ∈ ac.t.made, sD r.acts B S j = .none := fun j hj => by
      obtain ⟨g1, g2⟩ := hf2 j hj
      have e : sD r.acts B S j = S j := pf_none fun k b hk hw => by
        rw [Nat.zero_add]
        obtain ⟨x, hx⟩ := Option.isSome_iff_exists.1 hw
        have hkl : k < l.length := by have := (List.getElem?_eq_some_iff.1 hk).1; omega
        rcases ment_at hment hk j (.inr (.inl (List.mem_map.2 ⟨_, findN_mem hx, rfl⟩))) with h | h | h
        · omega
        · rw [hrange j g1 g2] at h; subst h; exact hBi
        · rw [hrange j g1 g2] at h; exact behind k hkl h
      rw [e]; exact (I0.bd j).2 (by omega)
    have hnot : ∀ (k : Nat) b, r.acts[k]? = some b → B k = true → ∀ id, (id ∈ b.t.res.ids ∨ id ∈ b.t.new.map (·.1) ∨ ∃ p ∈ b.t.new, id ∈ p.2.ids) → id ∉ ac.t.made := fun k b hk hBk id hid hm => by
      obtain ⟨g1, g2⟩ := hf2 id hm
      have hkl : k < l.length := by have := (List.getElem?_eq_some_iff.1 hk).1; omega
      rcases ment_at hment hk id hid with h | h | h
      · omega
      · rw [hrange id g1 g2] at h; subst h; rw [hBi] at hBk; cases hBk
      · rw [hrange id g1 g2] at h; rw [behind k hkl h] at hBk; cases hBk
    have hitem : ∀ j, ∀ id ∈ (sD r.acts B S j).ids, id ∉ ac.t.made := fun j => by
      refine pf_prop (fun x : It => ∀ id ∈ x.ids, id ∉ ac.t.made) (fun id hid hm => ?_) fun k b x hk hBk hw id hid => ?_
      · have := (I0.bd j).1 id hid; have := (hf2 id hm).1; omega
      · rw [Nat.zero_add] at hBk
        exact hnot k b hk hBk id (.inr (.inr ⟨_, findN_mem hw, hid⟩))
    have htm : ∀ t x, tmD r.acts B (look tm) t = some x → ∀ id ∈ x.ids, id ∉ ac.t.made := fun t => by
      refine pf_prop (fun y : Option AV => ∀ x, y = some x → ∀ id ∈ x.ids, id ∉ ac.t.made) (fun x hx id hid hm => ?_) fun k b y hk hBk hw x hx id hid => ?_
      · have := I0.tmi t x hx id hid; have := (hf2 id hm).1; omega
      · rw [Nat.zero_add] at hBk
        unfold wrT at hw
        split at hw
        · cases hw; cases hx
          exact hnot k b hk hBk id (.inl hid)
        · cases hw
    have hinv : Inv (sD r.acts B S) ρ ac.t.made := fun ρ' ha j => by
      refine It.res_congr _ (fun id hid => ha id (hitem j id hid)) ?_
      by_cases hj : j ∈ ac.t.made
      · exact .inl (hmk j hj)
      · exact .inr (.inr (ha j hj))
    refine opA_ok' hH hF hv M hop2 hob heqi hewi hmk hinv fun ρ' w' ha M' => ?_
    refine hQ _ _ ?_
    have hB' : ∀ j, (listed.setIfInBounds i true).getD j false = if j = i then true else B j := fun j => by
      by_cases e : j = i
      · subst e
        have : j < listed.size := by omega
        simp [this]
      · rw [if_neg e, getD_set_ne false (fun h => e h.symm), hBj]
    have hBe : (fun j => (listed.setIfInBounds i true).getD j false) = fun j => if j = i then true else B j := funext hB'
    have later : ∀ (j : Nat) b, i < j → r.acts[j]? = some b → meetB ac b = true → (if j = i then true else B j) = false := fun j b hij hj hmm => by
      have hjl : j < l.length := by have := (List.getElem?_eq_some_iff.1 hj).1; omega
      rw [if_neg (by omega)]
      exact behind j hjl ((ord_at hord hac hj (by omega) hmm).2 hij)
    have eT : tmD r.acts (fun j => if j = i then true else B j) (look tm) = putF ac.dst ac.t.res (tmD r.acts B (look tm)) := by
      funext t
      simp only [putF]
      by_cases e : ac.dst = some t
      · rw [if_pos e]
        refine pf_last (i := i) hac (by simp [wrT, e]) (by simp) fun j b hij hj hw => ?_
        rw [Nat.zero_add]
        refine later j b hij hj (hmd ac b t e ?_)
        unfold wrT at hw
        split at hw
        · assumption
        · cases hw
      · rw [if_neg e]
        refine pf_agree fun j b hj hw => ?_
        have : j ≠ i := fun h => by
          subst h
          rw [hac] at hj; cases hj
          simp [wrT, e] at hw
        simp [this]
    have eS : sD r.acts (fun j => if j = i then true else B j) S = updS (sD r.acts B S) ac.t.new := by
      funext q
      rw [updS_find]
      cases hx : findN ac.t.new q with
      | some x =>
        refine pf_last (i := i) hac hx (by simp) fun j b hij hj hw => ?_
        rw [Nat.zero_add]
        obtain ⟨y, hy⟩ := Option.isSome_iff_exists.1 hw
        exact later j b hij hj (hmn ac b q (List.mem_map.2 ⟨_, findN_mem hx, rfl⟩) (List.mem_map.2 ⟨_, findN_mem hy, rfl⟩))
      | none =>
        refine pf_agree fun j b hj hw => ?_
        have : j ≠ i := fun h => by
          subst h
          rw [hac] at hj; cases hj
          unfold wrS at hw
          rw [hx] at hw; cases hw
        simp [this]
    refine ⟨by simpa using hsz, ?_, ρ', fun j hj => (ha j fun hm => by have := (hf2 j hm).1; have := I0.le; omega).trans (hold j hj), (put_size _ _ _).trans hN, (put_defs _ _ _).trans hdf, ?_, ?_⟩
    · rw [hBe]
      intro j oj hj hBj' e he hbi
      show (if e.on = i then true else B e.on) = true
      by_cases e1 : e.on = i
      · simp [e1]
      · rw [if_neg e1]
        by_cases e2 : j = i
        · subst e2
          rw [hoi] at hj; cases hj
          exact hdep' e he hbi
        · simp only [if_neg e2] at hBj'
          exact hdn j oj hj hBj' e he hbi
    · rw [hBe, eT, hdst]
      intro t x hx
      rw [put_at (by rw [hN]; exact hdN)]
      simp only [putF] at hx
      split
      · rename_i e; rw [if_pos e] at hx; cases hx; rfl
      · rename_i e
        rw [if_neg e] at hx
        rw [hv t x hx, AV.val_congr x fun id hid => ha id (htm t x hx id hid)]
    · rw [hBe, eS]; exact M'
  · rintro listed a w ⟨hsz, hdn, ρ, hold, hN, hdf, hv, M⟩ hall
    have hall' : ∀ j, j < l.length → listed.getD j false = true := fun j hj => by rw [← getD_tf (by omega)]; exact hall j hj
    have eT : tmD r.acts (fun j => listed.getD j false) (look tm) = look r.tm := by
      funext t
      rw [hfT t]
      refine pf_agree fun j b hj _ => ?_
      rw [Nat.zero_add]
      exact hall' j (by have := (List.getElem?_eq_some_iff.1 hj).1; omega)
    have eS : sD r.acts (fun j => listed.getD j false) S = r.S := by
      funext q
      rw [hfS q]
      refine pf_agree fun j b hj _ => ?_
      rw [Nat.zero_add]
      exact hall' j (by have := (List.getElem?_eq_some_iff.1 hj).1; omega)
    have hids : ∀ (k : Nat) b, r.acts[k]? = some b → ∀ id, (id ∈ b.t.res.ids ∨ id ∈ b.t.new.map (·.1) ∨ ∃ p ∈ b.t.new, id ∈ p.2.ids) → id < n + 8 * l.length := fun k b hk id hid => by
      have hkl : k < l.length := by have := (List.getElem?_eq_some_iff.1 hk).1; omega
      obtain ⟨o, ho'⟩ : ∃ o, l[k]? = some o := ⟨_, List.getElem?_eq_getElem hkl⟩
      obtain ⟨ac, ob, hac, _, hop⟩ := hat k o ho'
      rw [hk] at hac; cases hac
      obtain ⟨_, _, hfine⟩ := opA_dst hop
      obtain ⟨hf1, hf2, hf3⟩ := fine_parts hfine
      rcases hid with h | h | ⟨p, hp, h⟩
      · have := hf3 id h; omega
      · obtain ⟨p, hp, rfl⟩ := List.mem_map.1 h
        have := (hf1 p hp).1; omega
      · have := (hf1 p hp).2 id h; omega
    refine done ρ a w (n + 8 * l.length) ⟨hN, hdf, by rw [← eT]; exact hv, fun t x hx => ?_, fun j => ?_, by rw [← eS]; exact M, by have := I0.le; omega, hold⟩
    · rw [hfT t] at hx
      revert x
      refine pf_prop (fun y : Option AV => ∀ x, y = some x → ∀ id ∈ x.ids, id < n + 8 * l.length) (fun x hx id hid => ?_) fun k b y hk _ hw x hx id hid => ?_
      · have := I0.tmi t x hx id hid; omega
      · unfold wrT at hw
        split at hw
        · cases hw; cases hx
          exact hids k b hk id (.inl hid)
        · cases hw
    · refine ⟨?_, fun hj => ?_⟩
      · rw [hfS j]
        refine pf_prop (fun x : It => ∀ id ∈ x.ids, id < n + 8 * l.length) (fun id hid => ?_) fun k b x hk _ hw id hid => ?_
        · have := (I0.bd j).1 id hid; omega
        · exact hids k b hk id (.inr (.inr ⟨_, findN_mem hw, hid⟩))
      · rw [hfS j, pf_none fun k b hk hw => ?_]
        · exact (I0.bd j).2 (by omega)
        · obtain ⟨x, hx⟩ := Option.isSome_iff_exists.1 hw
          have := hids k b hk j (.inr (.inl (List.mem_map.2 ⟨_, findN_mem hx, rfl⟩)))
          omega

end

/-- How a call stands, by lists. -/
def Gam {ι : Type} (φ ψ : Nat → Prop) (w0 : World) (F : ι → Rs) (N m : Nat) (ρ0 ρ : Nat → Value) (S : List It) (tm : List (Nat × AV)) (a : Act) (w : World) : Prop := Inn φ ψ w0 F N m ρ0 S.length ρ (look tm) (lst S) a w
def wfB (S : List It) (tm : List (Nat × AV)) : Bool := S.all (fun x => ltAll S.length x.ids) && tm.all (fun p => ltAll S.length p.2.ids)
def keepB (m : Nat) (js : List Nat) : Bool := (List.range m).all fun i => natEq (nth js i) i && decide (i < js.length)
def selB (m : Nat) (js : List Nat) (S : List It) (tm : List (Nat × AV)) : Bool := nodupB js && natEq js.length S.length && wfB S tm && keepB m js

section
variable {P : Program} {ι : Type} {φ ψ : Nat → Prop} {w0 w w' : World} {F : ι → Rs} {ρ ρ0 : Nat → Value} {N m n : Nat} {S : List It} {tm : List (Nat × AV)} {a : Act} {Q : Exit → Act → World → Prop}

theorem look_mem : ∀ {tm : List (Nat × AV)} {t : Nat} {x : AV}, look tm t = some x → (t, x) ∈ tm
  | [], _, _, h => by cases h
  | (k, y) :: r, t, x, h => by
    simp only [look, natEq, beq_iff_eq] at h
    split at h
    · rename_i e; subst e; cases h; exact List.mem_cons_self
    · exact List.mem_cons_of_mem _ (look_mem h)
theorem lst_at {l : List It} {i : Nat} (h : i < l.length) : lst l i = l[i] := by simp [lst, List.getD_eq_getElem?_getD, h]
theorem lst_out {l : List It} {i : Nat} (h : l.length ≤ i) : lst l i = .none := by simp [lst, List.getD_eq_getElem?_getD, h]
theorem wf_bd {S : List It} {tm : List (Nat × AV)} (h : wfB S tm = true) : (∀ j, (∀ id ∈ (lst S j).ids, id < S.length) ∧ (S.length ≤ j → lst S j = .none)) ∧ ∀ t x, look tm t = some x → ∀ id ∈ x.ids, id < S.length := by
  simp only [wfB, Bool.and_eq_true] at h
  refine ⟨fun j => ⟨fun id hid => ?_, fun hj => lst_out hj⟩, fun t x hx id hid => ?_⟩
  · rcases Nat.lt_or_ge j S.length with hj | hj
    · rw [lst_at hj] at hid
      exact ltAll_iff (List.all_eq_true.1 h.1 _ (List.getElem_mem hj)) id hid
    · rw [lst_out hj] at hid; cases hid
  · exact ltAll_iff (List.all_eq_true.1 h.2 _ (look_mem hx)) id hid

theorem Inn.sel {tf : Nat → Option AV} {Sf : Nat → It} (I : Inn φ ψ w0 F N m ρ0 n ρ tf Sf a w) (js : List Nat) (S1 : List It) (tm1 : List (Nat × AV)) (hb : selB m js S1 tm1 = true) (hS : js.map Sf = S1.map (It.ren (nth js))) (ht : (tm1.map (·.1)).map tf = tm1.map fun p => some (p.2.ren (nth js))) :
    Gam φ ψ w0 F N m ρ0 (fun i => ρ (nth js i)) S1 tm1 a w := by
  simp only [selB, Bool.and_eq_true, natEq, beq_iff_eq] at hb
  obtain ⟨⟨⟨hnd, hl⟩, hwf⟩, hkeep⟩ := hb
  have hn := nodupB_iff hnd
  obtain ⟨b1, b2⟩ := wf_bd hwf
  have hk : ∀ i, i < m → nth js i = i ∧ i < js.length := fun i hi => by
    have := List.all_eq_true.1 hkeep i (List.mem_range.2 hi)
    simpa [natEq] using this
  refine ⟨I.size, I.defs, fun t x hx => ?_, b2, b1, ?_, ?_, fun i hi => ?_⟩
  · obtain ⟨i, hi⟩ := List.mem_iff_getElem?.1 (look_mem hx)
    have h1 := congrArg (·[i]?) ht
    simp only [List.getElem?_map, hi, Option.map_some] at h1
    rw [I.tmv t _ (Option.some.inj h1), AV.val_ren]
  · refine I.mem.map (fun k : ι ⊕ Nat => (match k with | .inl i => some (.inl i) | .inr i => if i < js.length then some (.inr (nth js i)) else none : Option (ι ⊕ Nat))) ?_ ?_
    · intro k k' x h1 h2
      match k, k' with
      | .inl i, .inl i' => simp at h1 h2; rw [← h1] at h2; simpa using h2.symm
      | .inl i, .inr j => simp only at h1 h2; cases h1; split at h2 <;> simp at h2
      | .inr j, .inl i => simp only at h1 h2; cases h2; split at h1 <;> simp at h1
      | .inr j, .inr j' =>
        simp at h1 h2
        obtain ⟨f1, f2⟩ := h1
        obtain ⟨g1, g2⟩ := h2
        rw [← f2] at g2
        have hj := Sum.inr.inj g2
        have e1 := List.getElem?_eq_getElem f1
        have e2 := List.getElem?_eq_getElem g1
        rw [nth_at e2, nth_at e1] at hj
        have := (List.getElem?_inj f1 hn).1 (e1.trans (by rw [← hj]; exact e2.symm))
        rw [this]
    · intro k
      match k with
      | .inl i => exact .inl ⟨_, rfl, rfl⟩
      | .inr i =>
        by_cases hlt : i < js.length
        · refine .inl ⟨.inr (nth js i), by simp [hlt], ?_⟩
          have h1 := congrArg (·[i]?) hS
          have hlt' : i < S1.length := by omega
          simp only [List.getElem?_map, List.getElem?_eq_getElem hlt, List.getElem?_eq_getElem hlt', Option.map_some, Option.some.injEq] at h1
          simp only [lay]
          rw [lst_at hlt', nth_at (List.getElem?_eq_getElem hlt), h1, ← It.res_ren, nth_at (List.getElem?_eq_getElem hlt)]
        · refine .inr ?_
          simp only [lay]
          rw [lst_out (by omega)]
          rfl
  · rcases Nat.lt_or_ge S1.length m with h | h
    · have := (hk S1.length h).2; omega
    · exact h
  · rw [(hk i hi).1]; exact I.old i hi

/-- What is left of a statement. -/
def outL (o : Option RS) (js ts : List Nat) : Option (List Prop × List It × List (Option AV) × List (List (List AV × List It)) × List (List AV)) := o.map fun r => (r.obs, js.map r.S, ts.map (look r.tm), r.acts.map (·.eqs.1), r.acts.map (·.eqw.1))
def outR (o : Option RS) (obs : List Prop) (js : List Nat) (S : List It) (tm : List (Nat × AV)) : Option (List Prop × List It × List (Option AV) × List (List (List AV × List It)) × List (List AV)) := o.map fun r => (obs, S.map (It.ren (nth js)), tm.map (fun p => some (p.2.ren (nth js))), r.acts.map (·.eqs.2), r.acts.map (·.eqw.2))
def drawB (l : List Oper) (ms : List Nat) (n : Nat) (o : Option RS) : Bool := masksB ms l && backB2 l.toArray && match o with
  | some r => ordB ms r.acts && mentB ms n r.acts
  | none => false

theorem rx_seq {dk : TypeId → Nat} {l : List Oper} {id : Nat} (G : Gam φ ψ w0 F N m ρ0 ρ S tm a w) (H : Hint) (hH : ∀ i c τ, hcall H.calls i = some (c, τ) → c.ok P) (hF : Facts H.facts) (js : List Nat) (S1 : List It) (tm1 : List (Nat × AV)) (obs : List Prop)
    (hs : ((runA P dk N l H l 0 tm (lst S) S.length).isSome && selB m js S1 tm1) = true)
    (hc : outL (runA P dk N l H l 0 tm (lst S) S.length) js (tm1.map (·.1)) = outR (runA P dk N l H l 0 tm (lst S) S.length) obs js S1 tm1)
    (ho : AllP obs) (k : ∀ ρ' a' w', Gam φ ψ w0 F N m ρ0 ρ' S1 tm1 a' w' → Q .normal a' w') : (Code.region id l.toArray false).wp P Q a w := by
  simp only [Bool.and_eq_true] at hs
  obtain ⟨r, hr⟩ := Option.isSome_iff_exists.1 hs.1
  rw [hr] at hc
  simp only [outL, outR, Option.map_some, Option.some.injEq, Prod.mk.injEq] at hc
  obtain ⟨h1, h2, h3, h4, h5⟩ := hc
  refine wp_region_lit (runA_ok hH hF l 0 S.length G hr (by rw [h1]; exact ho) h4 h5 fun ρ' a' w' n' I => ?_)
  exact k _ a' w' (I.sel js S1 tm1 hs.2 h2 h3)

theorem rx_draw {dk : TypeId → Nat} {l : List Oper} {id : Nat} (G : Gam φ ψ w0 F N m ρ0 ρ S tm a w) (H : Hint) (hH : ∀ i c τ, hcall H.calls i = some (c, τ) → c.ok P) (hF : Facts H.facts) (ms : List Nat) (js : List Nat) (S1 : List It) (tm1 : List (Nat × AV)) (obs : List Prop) (hm : P.follows .mixedOrders = true)
    (hs : (drawB l ms S.length (runA P dk N l H l 0 tm (lst S) S.length) && selB m js S1 tm1) = true)
    (hc : outL (runA P dk N l H l 0 tm (lst S) S.length) js (tm1.map (·.1)) = outR (runA P dk N l H l 0 tm (lst S) S.length) obs js S1 tm1)
    (ho : AllP obs) (k : ∀ ρ' a' w', Gam φ ψ w0 F N m ρ0 ρ' S1 tm1 a' w' → Q .normal a' w') : (Code.region id l.toArray true).wp P Q a w := by
  simp only [Bool.and_eq_true, drawB] at hs
  obtain ⟨⟨⟨q1, q2⟩, q3⟩, q4⟩ := hs
  cases hr : runA P dk N l H l 0 tm (lst S) S.length with
  | none => rw [hr] at q3; cases q3
  | some r =>
    rw [hr] at q3 hc
    simp only [Bool.and_eq_true] at q3
    simp only [outL, outR, Option.map_some, Option.some.injEq, Prod.mk.injEq] at hc
    obtain ⟨h1, h2, h3, h4, h5⟩ := hc
    refine wp_region_rx hH hF G hr (by rw [h1]; exact ho) h4 h5 ms hm q2 q1 q3.1 q3.2 fun ρ' a' w' n' I => ?_
    exact k _ a' w' (I.sel js S1 tm1 q4 h2 h3)

/-- The same, the checks left to the kernel. -/
theorem rs1 {dk : TypeId → Nat} {l : List Oper} {id : Nat} (G : Gam φ ψ w0 F N m ρ0 ρ S tm a w) (H : Hint) (hH : ∀ i c τ, hcall H.calls i = some (c, τ) → c.ok P) (hF : Facts H.facts) (js : List Nat) (S1 : List It) (tm1 : List (Nat × AV)) (obs : List Prop)
    (ho : AllP obs) (k : ∀ ρ' a' w', Gam φ ψ w0 F N m ρ0 ρ' S1 tm1 a' w' → Q .normal a' w')
    (hs : ((runA P dk N l H l 0 tm (lst S) S.length).isSome && selB m js S1 tm1) = true := by kernel_rfl)
    (hc : outL (runA P dk N l H l 0 tm (lst S) S.length) js (tm1.map (·.1)) = outR (runA P dk N l H l 0 tm (lst S) S.length) obs js S1 tm1 := by kernel_rfl) : (Code.region id l.toArray false).wp P Q a w := rx_seq G H hH hF js S1 tm1 obs hs hc ho k
theorem rd1 {dk : TypeId → Nat} {l : List Oper} {id : Nat} (G : Gam φ ψ w0 F N m ρ0 ρ S tm a w) (H : Hint) (hH : ∀ i c τ, hcall H.calls i = some (c, τ) → c.ok P) (hF : Facts H.facts) (ms : List Nat) (js : List Nat) (S1 : List It) (tm1 : List (Nat × AV)) (obs : List Prop)
    (ho : AllP obs) (k : ∀ ρ' a' w', Gam φ ψ w0 F N m ρ0 ρ' S1 tm1 a' w' → Q .normal a' w') (hm : P.follows .mixedOrders = true := by kernel_rfl)
    (hs : (drawB l ms S.length (runA P dk N l H l 0 tm (lst S) S.length) && selB m js S1 tm1) = true := by kernel_rfl)
    (hc : outL (runA P dk N l H l 0 tm (lst S) S.length) js (tm1.map (·.1)) = outR (runA P dk N l H l 0 tm (lst S) S.length) obs js S1 tm1 := by kernel_rfl) : (Code.region id l.toArray true).wp P Q a w := rx_draw G H hH hF ms js S1 tm1 obs hm hs hc ho k

theorem calls_nil : ∀ i c τ, hcall [] i = some (c, τ) → Ctr.ok P c := fun i c τ h => by cases h
theorem calls_cons {i0 : Nat} {c0 : Ctr} {τ0 : List Nat} {r : List (Nat × Ctr × List Nat)} (h0 : c0.ok P) (hr : ∀ i c τ, hcall r i = some (c, τ) → Ctr.ok P c) : ∀ i c τ, hcall ((i0, c0, τ0) :: r) i = some (c, τ) → Ctr.ok P c := fun i c τ h => by
  simp only [hcall] at h
  split at h
  · cases h; exact h0
  · exact hr i c τ h

/-- Things are told anew. -/
theorem Gam.sel (G : Gam φ ψ w0 F N m ρ0 ρ S tm a w) (js : List Nat) (S1 : List It) (tm1 : List (Nat × AV)) (hb : selB m js S1 tm1 = true) (hS : js.map (lst S) = S1.map (It.ren (nth js))) (ht : (tm1.map (·.1)).map (look tm) = tm1.map fun p => some (p.2.ren (nth js))) : ∃ ρ', Gam φ ψ w0 F N m ρ0 ρ' S1 tm1 a w := ⟨_, Inn.sel G js S1 tm1 hb hS ht⟩
theorem Gam.as (G : Gam φ ψ w0 F N m ρ0 ρ S tm a w) (S1 : List It) (tm1 : List (Nat × AV)) (hS : S = S1) (ht : tm = tm1) : Gam φ ψ w0 F N m ρ0 ρ S1 tm1 a w := by subst hS; subst ht; exact G

theorem Gam.at (G : Gam φ ψ w0 F N m ρ0 ρ S tm a w) (S1 : List It) (tm1 : List (Nat × AV)) (hS : S = S1 := by kernel_rfl) (ht : tm = tm1 := by kernel_rfl) : Gam φ ψ w0 F N m ρ0 ρ S1 tm1 a w := G.as S1 tm1 hS ht
theorem rx_cond {c : Nat} {x y : Code} (G : Gam φ ψ w0 F N m ρ0 ρ S tm a w) (b : Bool) (hc : look tm c = some (.v (.bool b))) (ht : b = true → x.wp P Q a w) (hf : b = false → y.wp P Q a w) : (Code.cond (.tmp c) x y).wp P Q a w := by
  have h := G.tmv c _ hc
  refine wp_cond_split (t := b) ?_ ht hf
  simp [Act.eval, Array.getD_eq_getD_getElem?, h, AV.val]

theorem rx_condT {c : Nat} {x y : Code} (G : Gam φ ψ w0 F N m ρ0 ρ S tm a w) (b : Bool) (hc : look tm c = some (.v (.bool b))) (hb : b = true) (h : x.wp P Q a w) : (Code.cond (.tmp c) x y).wp P Q a w := rx_cond G b hc (fun _ => h) fun hf => by rw [hb] at hf; cases hf
theorem rx_condF {c : Nat} {x y : Code} (G : Gam φ ψ w0 F N m ρ0 ρ S tm a w) (b : Bool) (hc : look tm c = some (.v (.bool b))) (hb : b = false) (h : y.wp P Q a w) : (Code.cond (.tmp c) x y).wp P Q a w := rx_cond G b hc (fun ht => by rw [hb] at ht; cases ht) fun _ => h
/-- Results. -/
def resL (P : Program) (tm : Nat → Option AV) (S : Nat → It) : List ResultVar → Option (List AV)
  | [] => some []
  | .tmp t :: r =>
    match tm t, resL P tm S r with
    | some x, some l => some (x :: l)
    | _, _ => none
  | .cell t ty :: r =>
    match tm t, resL P tm S r with
    | some (.ptr b off), some l =>
      match S b with
      | .box cs => (asTy P ty ((cs.drop off).take (tyLen P ty))).map fun x => x :: l
      | _ => none
    | _, _ => none
def resA (P : Program) (fn : Func) (tm : List (Nat × AV)) (S : List It) : Option AV :=
  match resL P (look tm) (lst S) fn.results.toList with
  | some [x] => some x
  | some l => some (.tup l)
  | none => none
theorem asTy_box {cs : List AV} {ty : TypeId} {b off : Nat} {x : AV} (hB : Blk w b (AV.vals ρ cs)) (h : asTy P ty ((cs.drop off).take (tyLen P ty)) = some x) : (loadVar ty ⟨b, off, none⟩).run P w = .ok (x.val ρ) w :=
  asTy_load h ⟨b, off, none⟩ fun j u hj => by
    rw [AV.vals_take, AV.vals_drop] at hj
    have hadd : (⟨b, off, none⟩ : Addr).add j = ⟨b, off + j, none⟩ := by unfold Addr.add; split <;> simp_all
    rw [hadd, hB.cell]
    rw [List.getElem?_take] at hj
    split at hj
    · rw [List.getElem?_drop] at hj; exact hj
    · cases hj
theorem resL_ok (G : Gam φ ψ w0 F N m ρ0 ρ S tm a w) : ∀ {rs : List ResultVar} {l : List AV}, resL P (look tm) (lst S) rs = some l →
    (rs.mapM (fun r => (match r with | .tmp t => pure (a.tmps.getD t undef) | .cell b t => do loadVar t (← asAddr (a.tmps.getD b undef)) : Sem Value))).run P w = .ok (AV.vals ρ l) w
  | [], l, h => by cases h; simp [AV.vals]
  | .tmp t :: r, l, h => by
    simp only [resL] at h
    split at h
    case h_2 => cases h
    rename_i x l' h1 h2
    cases h
    have ht := G.tmv t x h1
    have ih := resL_ok G h2
    have e : (pure (a.tmps.getD t undef) : Sem Value).run P w = .ok (x.val ρ) w := by simp [Array.getD_eq_getD_getElem?, ht]
    rw [List.mapM_cons, Sem.run_bind, e, Result.andThen_ok, Sem.run_bind, ih]
    rfl
  | .cell t ty :: r, l, h => by
    simp only [resL] at h
    split at h
    case h_2 => cases h
    rename_i b off l' h1 h2
    split at h
    case h_2 => cases h
    rename_i cs hS
    obtain ⟨x, h3, h4⟩ := Option.map_eq_some_iff.1 h
    subst h4
    have ht := G.tmv t _ h1
    have ih := resL_ok G h2
    have hl := asTy_box (P := P) (G.mem.boxAt hS) h3
    have e : (do loadVar ty (← asAddr (a.tmps.getD t undef)) : Sem Value).run P w = .ok (x.val ρ) w := by
      rw [show a.tmps.getD t undef = .pointer (some ⟨blkOf (ρ b), off, none⟩) by simp [Array.getD_eq_getD_getElem?, ht, AV.val]]
      simp [asAddr, hl]
    rw [List.mapM_cons, Sem.run_bind, e, Result.andThen_ok, Sem.run_bind, ih]
    rfl
theorem rx_res {fn : Func} {R : Ending → World → Prop} {v : AV} (G : Gam φ ψ w0 F N m ρ0 ρ S tm a w) (h : resA P fn tm S = some v) (hR : R (.returned (v.val ρ)) w) : bodyPost P fn R .ret a w := by
  refine ⟨G.defs, v.val ρ, ?_, hR⟩
  unfold resA at h
  cases hl : resL P (look tm) (lst S) fn.results.toList with
  | none => rw [hl] at h; cases h
  | some l =>
    rw [hl] at h
    have := resL_ok G hl
    unfold results
    rw [Sem.run_bind, Array.mapM_eq_mapM_toList, Sem.run_map]
    erw [this]
    simp only [Result.andThen_ok, Sem.run_pure]
    match l, h with
    | [], h => cases h; rfl
    | [x], h => cases h; rfl
    | x :: y :: r, h => cases h; rfl

def argTm (i : Nat) : List AV → List (Nat × AV)
  | [] => []
  | x :: r => (i, x) :: argTm (i + 1) r
theorem argTm_at (ρ : Nat → Value) : ∀ {l : List AV} {i t : Nat} {x : AV}, look (argTm i l) t = some x → i ≤ t ∧ (AV.vals ρ l)[t - i]? = some (x.val ρ)
  | [], _, _, _, h => by cases h
  | y :: r, i, t, x, h => by
    simp only [argTm, look, natEq, beq_iff_eq] at h
    split at h
    · rename_i e; subst e; cases h; exact ⟨Nat.le_refl _, by simp [AV.vals]⟩
    · obtain ⟨h1, h2⟩ := argTm_at ρ h
      refine ⟨by omega, ?_⟩
      rw [show t - i = (t - (i + 1)) + 1 by omega]
      simpa [AV.vals] using h2
/-- How a function ends. -/
def Done (φ ψ : Nat → Prop) (w0 : World) (F : ι → Rs) (ρ0 : Nat → Value) (c : Ctr) (x : Ending) (w' : World) : Prop := ∃ ρ', (∀ i, i < c.pre.length → ρ' i = ρ0 i) ∧ x = .returned (c.res.val ρ') ∧ MemF φ ψ w0 w' (lay F ρ' (lst c.post))
theorem rx_enter {c : Ctr} {fn : Func} {code : Code} (N : Nat) (hf : P.funcs[c.f]? = some fn) (hb : fn.body = some code) (hN : fn.ntmps = N) (hw : (wfB c.pre (argTm 0 c.args) && decide (c.args.length ≤ N)) = true)
    (k : ∀ {ι : Type} (φ ψ : Nat → Prop) (w0 w : World) (F : ι → Rs) (ρ0 ρ : Nat → Value) (a : Act), Gam φ ψ w0 F N c.pre.length ρ0 ρ c.pre (argTm 0 c.args) a w → code.wp P (bodyPost P fn (Done φ ψ w0 F ρ0 c)) a w) : c.ok P := by
  intro ι φ ψ w0 w F ρ M
  simp only [Bool.and_eq_true, decide_eq_true_eq] at hw
  obtain ⟨b1, b2⟩ := wf_bd hw.1
  refine calls_of_wp hf hb (k φ ψ w0 w F ρ ρ _ ⟨?_, rfl, fun t x hx => ?_, b2, b1, M, Nat.le_refl _, fun _ _ => rfl⟩)
  · simp [AV.vals_length, hN]; omega
  · obtain ⟨_, h1⟩ := argTm_at ρ hx
    rw [Nat.sub_zero] at h1
    have hlt := (List.getElem?_eq_some_iff.1 h1).1
    rw [Array.getElem?_append_left (by simpa using hlt)]
    simpa using h1
theorem rx_ret {fn : Func} {c : Ctr} {v : AV} (G : Gam φ ψ w0 F N c.pre.length ρ0 ρ S tm a w) (js : List Nat) (h : resA P fn tm S = some v) (hb : selB c.pre.length js c.post [] = true) (hS : js.map (lst S) = c.post.map (It.ren (nth js))) (hv : v = c.res.ren (nth js)) : bodyPost P fn (Done φ ψ w0 F ρ0 c) .ret a w := by
  have G1 := Inn.sel G js c.post [] hb hS rfl
  refine rx_res G h ⟨fun i => ρ (nth js i), G1.old, ?_, G1.mem⟩
  rw [hv, AV.val_ren]
theorem rx_retN {fn : Func} {c : Ctr} {v : AV} (G : Gam φ ψ w0 F N c.pre.length ρ0 ρ S tm a w) (js : List Nat) (h : resA P fn tm S = some v) (hb : selB c.pre.length js c.post [] = true) (hS : js.map (lst S) = c.post.map (It.ren (nth js))) (hv : v = c.res.ren (nth js)) : bodyPost P fn (Done φ ψ w0 F ρ0 c) .normal a w := rx_ret G js h hb hS hv

theorem th_n {K : Act → World → Prop} (h : K a w) : Exit.then K Q .normal a w := h
theorem th_e {K : Act → World → Prop} {id : Nat} (h : Q (.exit id) a w) : Exit.then K Q (.exit id) a w := h
theorem th_r {K : Act → World → Prop} (h : Q .ret a w) : Exit.then K Q .ret a w := h
theorem bl_n {id : Nat} (h : Q .normal a w) : Exit.inBlock id Q .normal a w := h
theorem bl_r {id : Nat} (h : Q .ret a w) : Exit.inBlock id Q .ret a w := h
theorem bl_hit {id : Nat} (h : Q .normal a w) : Exit.inBlock id Q (.exit id) a w := by simp only [Exit.inBlock, if_true]; exact h
theorem bl_miss {id id' : Nat} (hne : natEq id' id = false) (h : Q (.exit id') a w) : Exit.inBlock id Q (.exit id') a w := by
  simp only [Exit.inBlock]
  rw [if_neg (by simpa [natEq] using hne)]; exact h
theorem w64 {x : Int} (h1 : -9223372036854775808 ≤ x) (h2 : x ≤ 9223372036854775807) : IntKind.i64.wrap x = x := IntWalk.i64_in x ⟨h1, h2⟩

theorem rT {c : Nat} {x y : Code} (G : Gam φ ψ w0 F N m ρ0 ρ S tm a w) (b : Bool) (hb : b = true) (h : x.wp P Q a w) (hc : look tm c = some (.v (.bool b)) := by kernel_rfl) : (Code.cond (.tmp c) x y).wp P Q a w := rx_condT G b hc hb h
theorem rF {c : Nat} {x y : Code} (G : Gam φ ψ w0 F N m ρ0 ρ S tm a w) (b : Bool) (hb : b = false) (h : y.wp P Q a w) (hc : look tm c = some (.v (.bool b)) := by kernel_rfl) : (Code.cond (.tmp c) x y).wp P Q a w := rx_condF G b hc hb h

/-- A loop. -/
theorem rx_for {κ : Type} {c : Code} (pre : κ → Prop) (μ : κ → Nat) (Sk : κ → List It) (Tk : κ → List (Nat × AV)) (k0 : κ) (hp : pre k0) (G : Gam φ ψ w0 F N m ρ0 ρ (Sk k0) (Tk k0) a w)
    (round : ∀ k ρ a w, pre k → Gam φ ψ w0 F N m ρ0 ρ (Sk k) (Tk k) a w → c.wp P (Exit.then (fun a' w' => ∃ k' ρ', pre k' ∧ μ k' < μ k ∧ Gam φ ψ w0 F N m ρ0 ρ' (Sk k') (Tk k') a' w') Q) a w) : (Code.loop c).wp P Q a w := by
  refine wp_loop_ghost (fun n a w => ∃ k ρ, μ k = n ∧ pre k ∧ Gam φ ψ w0 F N m ρ0 ρ (Sk k) (Tk k) a w) (μ k0) ⟨k0, ρ, rfl, hp, G⟩ ?_
  rintro n a w ⟨k, ρ, rfl, hk, Gk⟩
  refine wp_mono (round k ρ a w hk Gk) ?_
  intro e a' w' hq
  cases e with
  | normal =>
    obtain ⟨k', ρ', h1, h2, h3⟩ := hq
    exact ⟨μ k', h2, k', ρ', rfl, h1, h3⟩
  | _ => exact hq
theorem rx_next {κ : Type} {pre : κ → Prop} {μ : κ → Nat} {Sk : κ → List It} {Tk : κ → List (Nat × AV)} {k : κ} (G : Gam φ ψ w0 F N m ρ0 ρ S tm a w) (k' : κ) (hp : pre k') (hμ : μ k' < μ k) (js : List Nat) (S1 : List It) (tm1 : List (Nat × AV)) (hs1 : Sk k' = S1) (ht1 : Tk k' = tm1)
    (hb : selB m js S1 tm1 = true) (hS : js.map (lst S) = S1.map (It.ren (nth js))) (ht : (tm1.map (·.1)).map (look tm) = tm1.map fun p => some (p.2.ren (nth js))) :
    ∃ k' ρ', pre k' ∧ μ k' < μ k ∧ Gam φ ψ w0 F N m ρ0 ρ' (Sk k') (Tk k') a w := by
  subst hs1; subst ht1
  exact ⟨k', _, hp, hμ, Inn.sel G js _ _ hb hS ht⟩

theorem Gam.len (G : Gam φ ψ w0 F N m ρ0 ρ S tm a w) (i : Nat) {d : D} (h : itD (lst S i) = some d) : d.len ≤ 9223372036854775807 := by
  obtain ⟨_, cap, _, h1, h2, _⟩ := G.mem.sliceAt h
  unfold maxLen at h2; omega

end
end Go.Proofs.Ytimmlkmpbmbgdaa

namespace Go.Proofs.Ytimmlkmpbmbgdaa
set_option linter.unusedVariables false
set_option linter.unusedSimpArgs false

def arity (k : Int) : Int := if k = 1 ∨ k = 2 then 0 else if k = 3 then 1 else if 4 ≤ k ∧ k ≤ 10 then 2 else if k = 11 then 3 else -1
def limit (nv na : Nat) (k : Int) : Int := if k = 1 then 256 else if k = 2 then nv else if k = 3 then na else 1
def atomB (e : LExpr) : Bool := decide (e.kind = 1) || decide (e.kind = 2)
/-- What is asked of a node itself. -/
def nodeB (nv na : Nat) (e : LExpr) : Bool := decide ((e.kids.length : Int) = arity e.kind) && decide (0 ≤ e.value) && decide (e.value < limit nv na e.kind)
def readB (e : LExpr) : Bool := decide (e.kind ≠ 3) || (match e.kids with | k :: _ => atomB k | [] => false)
def shapeB (nv na : Nat) : Nat → LExpr → Bool
  | 0, _ => false
  | d + 1, e => nodeB nv na e && e.kids.all (shapeB nv na d) && readB e
/-- An expression is valid. -/
def rightB (nv na : Nat) (e : LExpr) : Bool := shapeB nv na 5 e && decide (1 + szE e ≤ 15)
theorem szE_kids (e : LExpr) : szE e = szEs e.kids := by cases e; rfl

/-- The program's search: how many nodes there are then, if all is well. -/
def scanB (nv na : Nat) (d c : Nat) (e : LExpr) : Bool := shapeB nv na d e && decide (c + 1 + szE e ≤ 15)
/-- Some of the operands looked at. -/
def scanPre (nv na : Nat) (d c : Nat) (ks : List LExpr) (k : Nat) : Bool := (ks.take k).all (shapeB nv na d) && decide (c + szEs (ks.take k) ≤ 15)
theorem szEs_take {ks : List LExpr} {k : Nat} (h : k < ks.length) : szEs (ks.take (k + 1)) = szEs (ks.take k) + (1 + szE ks[k]) := by
  rw [p_take_succ _ _ h, szEs_append]
  simp [szEs]
theorem szEs_take_le (ks : List LExpr) (k : Nat) : szEs (ks.take k) ≤ szEs ks := by
  have := szEs_append (ks.take k) (ks.drop k)
  rw [List.take_append_drop] at this
  omega
theorem scanPre_succ (nv na : Nat) {d c : Nat} {ks : List LExpr} {k : Nat} (h : k < ks.length) : scanPre nv na d c ks (k + 1) = (scanPre nv na d c ks k && scanB nv na d (c + szEs (ks.take k)) ks[k]) := by
  unfold scanPre scanB
  rw [szEs_take h, p_take_succ _ _ h, List.all_append]
  simp only [List.all_cons, List.all_nil, Bool.and_true]
  rw [Bool.eq_iff_iff]
  simp only [Bool.and_eq_true, decide_eq_true_eq]
  constructor
  · rintro ⟨⟨h1, h2⟩, h3⟩; exact ⟨⟨h1, by omega⟩, h2, by omega⟩
  · rintro ⟨⟨h1, _⟩, h3, h4⟩; exact ⟨⟨h1, h3⟩, by omega⟩
theorem scanPre_fail (nv na : Nat) {d c : Nat} {ks : List LExpr} {k : Nat} (h : k < ks.length) (hs : scanB nv na d (c + szEs (ks.take k)) ks[k] = false) : (ks.all (shapeB nv na d) && decide (c + szEs ks ≤ 15)) = false := by
  rw [Bool.eq_false_iff]
  intro ht
  simp only [Bool.and_eq_true, decide_eq_true_eq, List.all_eq_true] at ht
  have h1 := ht.1 _ (List.getElem_mem h)
  have h2 := szEs_take_le ks (k + 1)
  rw [szEs_take h] at h2
  unfold scanB at hs
  rw [h1] at hs
  simp at hs
  omega

def noneB (e : LExpr) : Bool := decide (e.kind = 0) && decide (e.value = 0) && decide (e.kids.length = 0)

/-- What is asked of a statement's fields that its kind does not have. -/
def partsB (s : LStmt) : Bool :=
  if (s.kind = 3 ∨ s.kind = 4) then
    decide (s.target = 0) && (if s.kind = 4 then decide (s.els.length = 0) && decide (1 ≤ s.count) && decide (s.count ≤ 3) && noneB s.index && noneB s.value
      else decide (s.count = 0) && noneB s.index)
  else decide (s.body.length = 0) && decide (s.els.length = 0) && decide (s.count = 0) && (decide (s.kind = 2) || noneB s.index)
def stmtB (nv na : Nat) : Nat → LStmt → Bool
  | 0, _ => false
  | d + 1, s => partsB s &&
    (if s.kind = 1 ∨ s.kind = 5 then decide (0 ≤ s.target) && decide (s.target < nv) && rightB nv na s.value
     else if s.kind = 2 then decide (0 ≤ s.target) && decide (s.target < na) && rightB nv na s.index && atomB s.index && rightB nv na s.value
     else if s.kind = 3 then rightB nv na s.value && s.body.all (stmtB nv na d) && s.els.all (stmtB nv na d)
     else if s.kind = 4 then s.body.all (stmtB nv na d)
     else false)
def blockB (nv na : Nat) (d : Nat) (ss : List LStmt) : Bool := ss.all (stmtB nv na d)
mutual
/-- How many statements there are. -/
def nS : LStmt → Nat
  | ⟨_, _, _, _, _, b, e⟩ => 1 + nSs b + nSs e
def nSs : List LStmt → Nat
  | [] => 0
  | s :: r => nS s + nSs r
end
/-- A program is valid. -/
def progB (p : LProg) : Bool := headsB p.vars p.arrays && blockB p.vars.length p.arrays.length 5 p.body && decide (nSs p.body ≤ 60)

end Go.Proofs.Ytimmlkmpbmbgdaa

namespace Go.Proofs.Ytimmlkmpbmbgdaa
set_option linter.unusedVariables false
set_option linter.unusedSimpArgs false
open Go Go.RowKit

def dkP (t : TypeId) : Nat :=
  if natEq t 3 then 1 else
  if natEq t 4 then 2 else
  if natEq t 5 then 3 else
  if natEq t 9 then 4 else
 if natEq t 50 then 5 else
  if natEq t 22 then 7 else
 if natEq t 58 then 9 else
 if natEq t 60 then 10 else
  0
/-- An expression, a statement and a program as arguments. -/
abbrev eA (e : LExpr) (r : Nat) : AV := .agg [.v (.int .i64 e.kind), .v (.int .i64 e.value), .ref r]
abbrev eS (e : LExpr) : List It := [.dat (.exprs e.kids)]
abbrev sA (s : LStmt) (r : Nat) : AV := .agg [.v (.int .i64 s.kind), .v (.int .i64 s.target), .v (.int .i64 s.index.kind), .v (.int .i64 s.index.value), .ref r, .v (.int .i64 s.value.kind), .v (.int .i64 s.value.value), .ref (r + 1), .v (.int .i64 s.count), .ref (r + 2), .ref (r + 3)]
abbrev sS (s : LStmt) : List It := [.dat (.exprs s.index.kids), .dat (.exprs s.value.kids), .dat (.stmts s.body), .dat (.stmts s.els)]
abbrev pA (r : Nat) : AV := .agg [.ref r, .ref (r + 1), .ref (r + 2)]
abbrev pS (p : LProg) : List It := [.dat (.ints p.vars), .dat (.ints p.arrays), .dat (.stmts p.body)]
abbrev iA (n : Int) : AV := .v (.int .i64 n)
abbrev bA (b : Bool) : AV := .v (.bool b)
/-- A function that turns nothing that it is handed. -/
abbrev fnC (f : FuncId) (args : List AV) (S : List It) (res : AV) : Ctr := ⟨f, args, S, S, res⟩

/-- Short words for what the walks name. -/
abbrev dI (l : List Int) : It := .dat (.ints l)
abbrev dY (l : List UInt8) : It := .dat (.bytes l)
abbrev dE (l : List LExpr) : It := .dat (.exprs l)
abbrev dT (l : List LStmt) : It := .dat (.stmts l)
abbrev eL (e : LExpr) (r : Nat) : List AV := [.v (.int .i64 e.kind), .v (.int .i64 e.value), .ref r]
abbrev sL (s : LStmt) (r : Nat) : List AV := [.v (.int .i64 s.kind), .v (.int .i64 s.target), .v (.int .i64 s.index.kind), .v (.int .i64 s.index.value), .ref r, .v (.int .i64 s.value.kind), .v (.int .i64 s.value.value), .ref (r + 1), .v (.int .i64 s.count), .ref (r + 2), .ref (r + 3)]
abbrev pL (r : Nat) : List AV := [.ref r, .ref (r + 1), .ref (r + 2)]
section
variable {P : Program} {ι : Type} {φ ψ : Nat → Prop} {w0 w w' : World} {F : ι → Rs} {ρ ρ0 : Nat → Value} {N m n : Nat} {S : List It} {tm : List (Nat × AV)} {a : Act} {Q : Exit → Act → World → Prop}
/-- A statement that only reads, tests nothing and owes nothing. -/
theorem rs0 {l : List Oper} {id : Nat} (G : Gam φ ψ w0 F N m ρ0 ρ S tm a w) (js : List Nat) (S1 : List It) (tm1 : List (Nat × AV)) (k : ∀ ρ' a' w', Gam φ ψ w0 F N m ρ0 ρ' S1 tm1 a' w' → Q .normal a' w')
    (hs : ((runA P dkP N l ⟨[], [], []⟩ l 0 tm (lst S) S.length).isSome && selB m js S1 tm1) = true := by kernel_rfl)
    (hc : outL (runA P dkP N l ⟨[], [], []⟩ l 0 tm (lst S) S.length) js (tm1.map (·.1)) = outR (runA P dkP N l ⟨[], [], []⟩ l 0 tm (lst S) S.length) [] js S1 tm1 := by kernel_rfl) : (Code.region id l.toArray false).wp P Q a w := rx_seq G ⟨[], [], []⟩ calls_nil trivial js S1 tm1 [] hs hc trivial k
/-- The same where the things stay as they stand. -/
theorem rs0s {l : List Oper} {id : Nat} (G : Gam φ ψ w0 F N m ρ0 ρ S tm a w) (tm1 : List (Nat × AV)) (k : ∀ ρ' a' w', Gam φ ψ w0 F N m ρ0 ρ' S tm1 a' w' → Q .normal a' w')
    (hs : ((runA P dkP N l ⟨[], [], []⟩ l 0 tm (lst S) S.length).isSome && selB m (List.range S.length) S tm1) = true := by kernel_rfl)
    (hc : outL (runA P dkP N l ⟨[], [], []⟩ l 0 tm (lst S) S.length) (List.range S.length) (tm1.map (·.1)) = outR (runA P dkP N l ⟨[], [], []⟩ l 0 tm (lst S) S.length) [] (List.range S.length) S tm1 := by kernel_rfl) : (Code.region id l.toArray false).wp P Q a w := rs0 G _ S tm1 k hs hc
theorem rs1s {l : List Oper} {id : Nat} (G : Gam φ ψ w0 F N m ρ0 ρ S tm a w) (H : Hint) (hH : ∀ i c τ, hcall H.calls i = some (c, τ) → c.ok P) (hF : Facts H.facts) (tm1 : List (Nat × AV)) (obs : List Prop)
    (ho : AllP obs) (k : ∀ ρ' a' w', Gam φ ψ w0 F N m ρ0 ρ' S tm1 a' w' → Q .normal a' w')
    (hs : ((runA P dkP N l H l 0 tm (lst S) S.length).isSome && selB m (List.range S.length) S tm1) = true := by kernel_rfl)
    (hc : outL (runA P dkP N l H l 0 tm (lst S) S.length) (List.range S.length) (tm1.map (·.1)) = outR (runA P dkP N l H l 0 tm (lst S) S.length) obs (List.range S.length) S tm1 := by kernel_rfl) : (Code.region id l.toArray false).wp P Q a w := rs1 G H hH hF _ S tm1 obs ho k hs hc
theorem rd1s {l : List Oper} {id : Nat} (G : Gam φ ψ w0 F N m ρ0 ρ S tm a w) (H : Hint) (hH : ∀ i c τ, hcall H.calls i = some (c, τ) → c.ok P) (hF : Facts H.facts) (ms : List Nat) (tm1 : List (Nat × AV)) (obs : List Prop)
    (ho : AllP obs) (k : ∀ ρ' a' w', Gam φ ψ w0 F N m ρ0 ρ' S tm1 a' w' → Q .normal a' w') (hm : P.follows .mixedOrders = true := by kernel_rfl)
    (hs : (drawB l ms S.length (runA P dkP N l H l 0 tm (lst S) S.length) && selB m (List.range S.length) S tm1) = true := by kernel_rfl)
    (hc : outL (runA P dkP N l H l 0 tm (lst S) S.length) (List.range S.length) (tm1.map (·.1)) = outR (runA P dkP N l H l 0 tm (lst S) S.length) obs (List.range S.length) S tm1 := by kernel_rfl) : (Code.region id l.toArray true).wp P Q a w := rd1 G H hH hF ms _ S tm1 obs ho k hm hs hc
end
theorem LExpr.eta (e : LExpr) : (⟨e.kind, e.value, e.kids⟩ : LExpr) = e := by cases e; rfl
theorem LStmt.eta (s : LStmt) : (⟨s.kind, s.target, s.index, s.value, s.count, s.body, s.els⟩ : LStmt) = s := by cases s; rfl


theorem spec_LabelValid (l : Int) (w : World) : Calls Try.prog 90 #[.int .i64 l] w fun e w' => e = .returned (.bool (labOk l)) ∧ w = w' := by
  go_enter Try.func90, Try.ntmps90
  go_wp2
  all_goals go_ret
  all_goals exact ⟨ret_bool (by simp [labOk]; try omega), rfl⟩

set_option maxHeartbeats 1000000 in
theorem spec_l2Heads (v1 v2 v3 : Value) (vars arrays : List Int) (w : World) (h1 : Row w v1 vars.length 1 (ints vars)) (h2 : Row w v2 arrays.length 1 (ints arrays)) :
    Calls Try.prog 119 #[.agg #[v1, v2, v3]] w fun e w' => e = .returned (.bool (headsB vars arrays)) ∧ Below w.heap.size w w' := by
  have B0 : Below w.heap.size w (w.alloc (.cells #[v1, v2, v3] 31)) := by go_grown
  obtain ⟨a1, c1, rfl, -, hm1, -, hc1⟩ := (h1.below B0).open1
  obtain ⟨a2, c2, rfl, -, hm2, -, hc2⟩ := (h2.below B0).open1
  have HT : Hid (headsB vars arrays = (vars.all labOk && arrays.all labOk && decide (1 ≤ vars.length) && decide (vars.length ≤ 12) && decide (arrays.length ≤ 2))) := rfl
  clear h1 h2
  go_enter Try.func119, Try.ntmps119
  go_wp2_with fail
  go_loop [3] (fun i => ∃ k : Nat, k ≤ vars.length ∧ i = .int .i64 k ∧ (vars.take k).all labOk = true) (fun i => vars.length - (intOf i).toNat)
  case atStart => exact ⟨0, Nat.zero_le _, rfl, rfl⟩
  case round =>
    obtain ⟨k, hk, rfl, ha⟩ := hrel
    have HA := show Hid _ from ha
    clear ha
    by_cases hlt : k < vars.length
    · obtain ⟨b1, o1, rfl, hb1, hx⟩ := hc1 k hlt
      rw [ints_get _ _ hlt] at hx
      have HS := show Hid _ from all_take_succ labOk vars k hlt
      clear hc1 hc2
      cases hl : labOk vars[k]
      all_goals
        have HL := show Hid _ from hl
        clear hl
        go_wp2_with fail
        refine (spec_LabelValid _ _).mono ?_
        rintro e w1 ⟨rfl, rfl⟩
        rw [HL.out]
        go_wp2_with fail
      · go_ret
        exact ⟨ret_bool (by rw [HT.out, not_all hlt HL.out]; rfl), B0⟩
      · go_round
        case rel => exact ⟨k + 1, by omega, by go_num, by rw [HS.out, HA.out, HL.out]; rfl⟩
        case measure => simp [intOf]; omega
    · have HA' := show Hid (vars.all labOk = true) from by have := HA.out; rwa [List.take_of_length_le (by omega)] at this
      clear HA hc1
      go_wp2_with fail
      go_loop [4] (fun i => ∃ k : Nat, k ≤ arrays.length ∧ i = .int .i64 k ∧ (arrays.take k).all labOk = true) (fun i => arrays.length - (intOf i).toNat)
      case atStart => exact ⟨0, Nat.zero_le _, rfl, rfl⟩
      case round =>
        obtain ⟨j, hj, rfl, ha⟩ := hrel
        have HB := show Hid _ from ha
        clear ha
        by_cases hlj : j < arrays.length
        · obtain ⟨b1, o1, rfl, hb1, hx⟩ := hc2 j hlj
          rw [ints_get _ _ hlj] at hx
          have HS := show Hid _ from all_take_succ labOk arrays j hlj
          clear hc2
          cases hl : labOk arrays[j]
          all_goals
            have HL := show Hid _ from hl
            clear hl
            go_wp2_with fail
            refine (spec_LabelValid _ _).mono ?_
            rintro e w1 ⟨rfl, rfl⟩
            rw [HL.out]
            go_wp2_with fail
          · go_ret
            exact ⟨ret_bool (by rw [HT.out, not_all hlj HL.out]; simp), B0⟩
          · go_round
            case rel => exact ⟨j + 1, by omega, by go_num, by rw [HS.out, HB.out, HL.out]; rfl⟩
            case measure => simp [intOf]; omega
        · have HB' := show Hid (arrays.all labOk = true) from by have := HB.out; rwa [List.take_of_length_le (by omega)] at this
          clear HB hc2
          go_wp2_with fail
          all_goals go_ret
          all_goals refine ⟨ret_bool ?_, B0⟩
          all_goals rw [HT.out, HA'.out, HB'.out]
          all_goals rw [Bool.eq_iff_iff]
          all_goals simp
          all_goals omega


theorem spec_l2Arity (k : Int) (w : World) : Calls Try.prog 175 #[.int .i64 k] w fun e w' => e = .returned (.int .i64 (arity k)) ∧ w = w' := by
  go_enter Try.func175, Try.ntmps175
  go_wp2
  all_goals
    go_ret
    exact ⟨ret_int (by unfold arity; (repeat' split) <;> simp_all <;> omega), rfl⟩

theorem spec_l2Atom (k n : Int) (kv : Value) (w : World) : Calls Try.prog 165 #[.agg #[.int .i64 k, .int .i64 n, kv]] w fun e w' => e = .returned (.bool (decide (k = 1) || decide (k = 2))) ∧ Below w.heap.size w w' := by
  by_cases h1 : k = 1
  · have p1 : (k == 1) = true := by simp [h1]
    have Q := show Hid _ from h1
    clear h1
    go_enter Try.func165, Try.ntmps165
    go_wp2
    go_ret
    exact ⟨ret_bool (by simp [Q.out]), by go_grown⟩
  · have p1 : (k == 1) = false := by simp [h1]
    have Q := show Hid _ from h1
    clear h1
    by_cases h2 : k = 2
    · have p2 : (k == 2) = true := by simp [h2]
      have Q2 := show Hid _ from h2
      clear h2
      go_enter Try.func165, Try.ntmps165
      go_wp2
      go_ret
      exact ⟨ret_bool (by simp [Q2.out]), by go_grown⟩
    · have p2 : (k == 2) = false := by simp [h2]
      have Q2 := show Hid _ from h2
      clear h2
      go_enter Try.func165, Try.ntmps165
      go_wp2
      go_ret
      exact ⟨ret_bool (by rw [decide_eq_false Q.out, decide_eq_false Q2.out]; rfl), by go_grown⟩

theorem spec_l2Limit (a1 a2 : Option Addr) (nv c1 na c2 : Nat) (v3 : Value) (k : Int) (w : World) (h1 : nv ≤ 9223372036854775807) (h2 : na ≤ 9223372036854775807) :
    Calls Try.prog 176 #[.agg #[.slice a1 nv c1, .slice a2 na c2, v3], .int .i64 k] w fun e w' => e = .returned (.int .i64 (limit nv na k)) ∧ Below w.heap.size w w' := by
  go_enter Try.func176, Try.ntmps176
  go_wp2
  all_goals
    go_ret
    exact ⟨ret_int (by unfold limit; (repeat' split) <;> simp_all), by go_grown⟩


theorem readB_get {e : LExpr} (h3 : e.kind = 3) (hl : 0 < e.kids.length) : readB e = (decide (e.kids[0].kind = 1) || decide (e.kids[0].kind = 2)) := by
  rcases e with ⟨k, n, ks⟩
  cases ks with
  | nil => simp [LExpr.kids] at hl
  | cons a r =>
    have h3' : k = 3 := h3
    subst h3'
    simp only [readB, LExpr.kids, List.getElem_cons_zero, atomB]
    rw [decide_eq_false (by simp [LExpr.kind])]
    rfl

set_option maxRecDepth 100000 in
set_option maxHeartbeats 8000000 in
theorem spec_l2Shape (a1 a2 : Option Addr) (nv c1 na c2 : Nat) (v3 : Value) (h1 : nv ≤ 9223372036854775807) (h2 : na ≤ 9223372036854775807) : ∀ d : Nat, d ≤ 5 → ∀ (e : LExpr) (φ : Nat → Prop) (v : Value) (w : World), ExprV w φ v e →
    Calls Try.prog 171 #[.agg #[.slice a1 nv c1, .slice a2 na c2, v3], v, .int .i64 d] w fun x w' => x = .returned (.bool (shapeB nv na d e)) ∧ Below w.heap.size w w' := by
  intro d
  induction d with
  | zero =>
    intro _ e φ v w h
    obtain ⟨kv, rfl, hk⟩ := h
    have HS : Hid (shapeB nv na 0 e = false) := rfl
    obtain ⟨W, hW, M⟩ : ∃ W, W = (w.alloc (.cells #[.slice a1 nv c1, .slice a2 na c2, v3] 31)).alloc (.cells #[.int .i64 e.kind, .int .i64 e.value, kv] 58) ∧ Mem (fun _ => True) (fun _ => True) w W [.box w.heap.size [.slice a1 nv c1, .slice a2 na c2, v3], .box (w.heap.size + 1) [.int .i64 e.kind, .int .i64 e.value, kv]] :=
      ⟨_, rfl, ((Mem.start fun _ _ => trivial).box _ _).box' _ _ (by simp)⟩
    have HB := show Hid _ from M.below fun _ _ => trivial
    clear hk M
    go_enter Try.func171, Try.ntmps171
    go_wp2_with fail
    rw [← hW]
    clear hW
    refine wp_region_ext (by kernel_rfl) (by kernel_rfl) ?_
    repeat (any_goals (first | go_big_quiet_step (((fail))) | quiet_step (((fail)))))
    refine wpQuiet_nil ?_
    rintro _ ⟨X, rfl⟩
    go_wp2_with fail
    go_ret
    exact ⟨ret_bool HS.out.symm, HB.out.trans ((ext_below W X).mono HB.out.size)⟩
  | succ d ih =>
    intro hd5 e φ v w h
    obtain ⟨kv, rfl, hk⟩ := h
    obtain ⟨ak, ck, rfl, -, hn, -, hc⟩ := hk.open
    have hd0 : (d : Int) ≤ 5 := by omega
    have p0 : decide ((d : Int) + 1 < 1) = false := by simp; omega
    have HS : Hid (shapeB nv na (d + 1) e = (nodeB nv na e && e.kids.all (shapeB nv na d) && readB e)) := rfl
    obtain ⟨W, hW, M⟩ : ∃ W, W = (w.alloc (.cells #[.slice a1 nv c1, .slice a2 na c2, v3] 31)).alloc (.cells #[.int .i64 e.kind, .int .i64 e.value, .slice ak e.kids.length ck] 58) ∧ Mem (fun _ => True) (fun _ => True) w W [.box w.heap.size [.slice a1 nv c1, .slice a2 na c2, v3], .box (w.heap.size + 1) [.int .i64 e.kind, .int .i64 e.value, .slice ak e.kids.length ck]] :=
      ⟨_, rfl, ((Mem.start fun _ _ => trivial).box _ _).box' _ _ (by simp)⟩
    have HB := show Hid _ from M.below fun _ _ => trivial
    have HA : Hid (∀ X, Calls Try.prog 175 #[.int .i64 e.kind] (W.ext X) fun x w'' => x = .returned (.int .i64 (arity e.kind)) ∧ ∃ Y, w'' = W.ext Y) := fun X =>
      Calls.ext_of' ((spec_l2Arity e.kind _).mono fun x w' h => ⟨h.1, h.2 ▸ Below.refl _ _⟩)
    have HL : Hid (∀ X, Calls Try.prog 176 #[.agg #[.slice a1 nv c1, .slice a2 na c2, v3], .int .i64 e.kind] (W.ext X) fun x w'' => x = .returned (.int .i64 (limit nv na e.kind)) ∧ ∃ Y, w'' = W.ext Y) := fun X =>
      Calls.ext_of' (spec_l2Limit a1 a2 nv c1 na c2 v3 e.kind _ h1 h2)
    have HM := show Hid _ from M
    have HC := show Hid _ from hc
    have x0 := M.c 0 0 rfl rfl
    have x1 := M.c 0 1 rfl rfl
    have x2 := M.c 0 2 rfl rfl
    have y0 := M.c 1 0 rfl rfl
    have y1 := M.c 1 1 rfl rfl
    have y2 := M.c 1 2 rfl rfl
    have z0 := fun X => ext_cell x0 X
    have z1 := fun X => ext_cell x1 X
    have z2 := fun X => ext_cell x2 X
    have z3 := fun X => ext_cell y0 X
    have z4 := fun X => ext_cell y1 X
    have z5 := fun X => ext_cell y2 X
    clear hk M hc x0 x1 x2 y0 y1 y2
    by_cases q1 : (e.kids.length : Int) = arity e.kind
    case neg =>
      have p1 : ((e.kids.length : Int) != arity e.kind) = true := by simp [q1]
      have HN : Hid (nodeB nv na e = false) := by unfold Hid nodeB; simp [q1]
      clear q1
      go_enter Try.func171, Try.ntmps171
      go_wp2_with fail
      rw [← hW]
      clear hW
      refine wp_region_ext (by kernel_rfl) (by kernel_rfl) ?_
      repeat (any_goals (first | go_big_quiet_step (((first | (go_at_call 175; exact HA.out _) | (go_at_call 176; exact HL.out _)))) | quiet_step (((first | (go_at_call 175; exact HA.out _) | (go_at_call 176; exact HL.out _))))))
      refine wpQuiet_nil ?_
      rintro _ ⟨X, rfl⟩
      go_wp2_with fail
      go_ret
      exact ⟨ret_bool (by rw [HS.out, HN.out]; rfl), HB.out.trans ((ext_below W X).mono HB.out.size)⟩
    have p1 : ((e.kids.length : Int) != arity e.kind) = false := by simp [q1]
    by_cases q2 : e.value < 0
    case pos =>
      have p2 : decide (e.value < 0) = true := by simp [q2]
      have HN : Hid (nodeB nv na e = false) := by unfold Hid nodeB; simp; intro _ h; omega
      clear q1 q2
      go_enter Try.func171, Try.ntmps171
      go_wp2_with fail
      rw [← hW]
      clear hW
      refine wp_region_ext (by kernel_rfl) (by kernel_rfl) ?_
      repeat (any_goals (first | go_big_quiet_step (((first | (go_at_call 175; exact HA.out _) | (go_at_call 176; exact HL.out _)))) | quiet_step (((first | (go_at_call 175; exact HA.out _) | (go_at_call 176; exact HL.out _))))))
      refine wpQuiet_nil ?_
      rintro _ ⟨X, rfl⟩
      go_wp2_with fail
      go_ret
      exact ⟨ret_bool (by rw [HS.out, HN.out]; rfl), HB.out.trans ((ext_below W X).mono HB.out.size)⟩
    have p2 : decide (e.value < 0) = false := by simp; omega
    by_cases q3 : limit nv na e.kind ≤ e.value
    case pos =>
      have p3 : decide (limit nv na e.kind ≤ e.value) = true := by simp [q3]
      have HN : Hid (nodeB nv na e = false) := by unfold Hid nodeB; simp; intro _ h; omega
      clear q1 q2 q3
      go_enter Try.func171, Try.ntmps171
      go_wp2_with fail
      rw [← hW]
      clear hW
      refine wp_region_ext (by kernel_rfl) (by kernel_rfl) ?_
      repeat (any_goals (first | go_big_quiet_step (((first | (go_at_call 175; exact HA.out _) | (go_at_call 176; exact HL.out _)))) | quiet_step (((first | (go_at_call 175; exact HA.out _) | (go_at_call 176; exact HL.out _))))))
      refine wpQuiet_nil ?_
      rintro _ ⟨X, rfl⟩
      go_wp2_with fail
      go_ret
      exact ⟨ret_bool (by rw [HS.out, HN.out]; rfl), HB.out.trans ((ext_below W X).mono HB.out.size)⟩
    have p3 : decide (limit nv na e.kind ≤ e.value) = false := by simp; omega
    have HN : Hid (nodeB nv na e = true) := by unfold Hid nodeB; simp; exact ⟨⟨q1, by omega⟩, by omega⟩
    have HQ := show Hid _ from q1
    clear q1 q2 q3
    go_enter Try.func171, Try.ntmps171
    go_wp2_with fail
    rw [← hW]
    clear hW
    refine wp_region_ext (by kernel_rfl) (by kernel_rfl) ?_
    repeat (any_goals (first | go_big_quiet_step (((first | (go_at_call 175; exact HA.out _) | (go_at_call 176; exact HL.out _)))) | quiet_step (((first | (go_at_call 175; exact HA.out _) | (go_at_call 176; exact HL.out _))))))
    refine wpQuiet_nil ?_
    rintro _ ⟨X, rfl⟩
    have M := HM.out.call (ext_below W X)
    generalize W.ext X = W1 at *
    clear HA HL HM HB p1 p2 p3 z0 z1 z2 z3 z4 z5
    go_wp2_with fail
    go_loopw [7] (fun i wr => ∃ k : Nat, k ≤ e.kids.length ∧ i = .int .i64 k ∧ (e.kids.take k).all (shapeB nv na d) = true ∧ Mem (fun _ => True) (fun _ => True) w wr [.box w.heap.size [.slice a1 nv c1, .slice a2 na c2, v3], .box (w.heap.size + 1) [.int .i64 e.kind, .int .i64 e.value, .slice ak e.kids.length ck]]) (fun i _ => e.kids.length - (intOf i).toNat)
    case atStart => exact ⟨0, Nat.zero_le _, rfl, rfl, M⟩
    case round =>
      clear M
      obtain ⟨k, hk, rfl, hall, M⟩ := hrel
      have HALL := show Hid _ from hall
      clear hall
      have hB := M.below fun _ _ => trivial
      have x0 := M.c 0 0 rfl rfl
      have x1 := M.c 0 1 rfl rfl
      have x2 := M.c 0 2 rfl rfl
      have y0 := M.c 1 0 rfl rfl
      have y2 := M.c 1 2 rfl rfl
      by_cases hlt : k < e.kids.length
      · obtain ⟨b, off, kv, rfl, hbk, hf, c0, c1', c2', hkv⟩ := HC.out k hlt
        rw [← (bcell hB).1 _ _ hbk] at c0 c1' c2'
        obtain ⟨q, hq⟩ : ∃ q, q = shapeB nv na d e.kids[k] := ⟨_, rfl⟩
        have HC3 : Hid (∀ X, Calls Try.prog 171 #[.agg #[.slice a1 nv c1, .slice a2 na c2, v3], .agg #[.int .i64 e.kids[k].kind, .int .i64 e.kids[k].value, kv], .int .i64 d] (wr.ext X) fun x w'' => x = .returned (.bool q) ∧ ∃ Y, w'' = wr.ext Y) := fun X => by
          have bb := hB.trans ((ext_below wr X).mono hB.size)
          rw [hq]
          exact Calls.ext_of' (ih (by omega) _ φ _ _ ⟨kv, rfl, KidsV.nice _ _ _ _ _ _ (Agr.below bb) hkv⟩)
        have HQQ := show Hid _ from hq
        have HM := show Hid _ from M
        have j0 := fun X => ext_cell c0 X
        have j1 := fun X => ext_cell c1' X
        have j2 := fun X => ext_cell c2' X
        have z0 := fun X => ext_cell x0 X
        have z1 := fun X => ext_cell x1 X
        have z2 := fun X => ext_cell x2 X
        have z5 := fun X => ext_cell y2 X
        have hlt' : (k : Int) < e.kids.length := by omega
        clear hkv hq c0 c1' c2' x0 x1 x2 y0 M hB
        cases q
        · go_wp2_with fail
          refine wp_region_ext (by kernel_rfl) (by kernel_rfl) ?_
          repeat (any_goals (first | go_big_quiet_step (((go_at_call 171; exact HC3.out _))) | quiet_step (((go_at_call 171; exact HC3.out _)))))
          refine wpQuiet_nil ?_
          rintro _ ⟨X, rfl⟩
          go_wp2_with fail
          go_ret
          have M := HM.out.call (ext_below wr X)
          refine ⟨ret_bool ?_, M.below fun _ _ => trivial⟩
          have h9 : e.kids.all (shapeB nv na d) = false := List.all_eq_false.2 ⟨_, List.getElem_mem hlt, by rw [← HQQ.out]; simp⟩
          rw [HS.out, h9, Bool.and_false, Bool.false_and]
        · go_wp2_with fail
          refine wp_region_ext (by kernel_rfl) (by kernel_rfl) ?_
          repeat (any_goals (first | go_big_quiet_step (((go_at_call 171; exact HC3.out _))) | quiet_step (((go_at_call 171; exact HC3.out _)))))
          refine wpQuiet_nil ?_
          rintro _ ⟨X, rfl⟩
          go_wp2_with fail
          refine ⟨⟨k + 1, by omega, by go_num, ?_, HM.out.call (ext_below wr X)⟩, by simp [intOf]; omega⟩
          rw [p_take_succ _ _ hlt, List.all_append, HALL.out]
          simp [← HQQ.out]
      · have hkn : k = e.kids.length := by omega
        subst hkn
        have hall := HALL.out
        rw [List.take_of_length_le (Nat.le_refl _)] at hall
        have HAL := show Hid _ from hall
        have HB := show Hid _ from hB
        have HM := show Hid _ from M
        clear hall x0 x1 x2 M hB
        by_cases q4 : e.kind = 3
        · have p4 : (e.kind != 3) = false := by simp [q4]
          have hl1 : e.kids.length = 1 := by have := HQ.out; rw [q4] at this; simp [arity] at this; omega
          have HL1 := show Hid _ from hl1
          have hpos : 0 < (e.kids.length : Int) := by omega
          obtain ⟨b, off, kv, rfl, hbk, hf, c0, c1', c2', hkv⟩ := HC.out 0 (by omega)
          rw [← (bcell HB.out).1 _ _ hbk] at c0 c1' c2'
          simp only [Nat.zero_mul, Nat.add_zero] at c0 c1' c2'
          have HR := show Hid _ from readB_get q4 (by omega)
          clear hkv q4
          go_wp2_with fail
          refine (spec_l2Atom _ _ _ _).mono ?_
          rintro x w2 ⟨rfl, b2⟩
          have B2 := show Hid _ from HB.out.trans (b2.mono HB.out.size)
          clear b2
          go_wp2_with fail
          go_ret
          exact ⟨ret_bool (by rw [HS.out, HN.out, HAL.out, HR.out]; rfl), B2.out⟩
        · have p4 : (e.kind != 3) = true := by simp [q4]
          have HR : Hid (readB e = true) := by unfold Hid readB; simp [q4]
          clear q4
          go_wp2_with fail
          go_ret
          exact ⟨ret_bool (by rw [HS.out, HN.out, HAL.out, HR.out]; rfl), HB.out⟩


theorem arity_kids {nv na d : Nat} {e : LExpr} (h : shapeB nv na (d + 1) e = true) : e.kids.length ≤ 3 ∧ ∀ x ∈ e.kids, shapeB nv na d x = true := by
  simp only [shapeB, nodeB, Bool.and_eq_true, decide_eq_true_eq, List.all_eq_true] at h
  refine ⟨?_, h.1.2⟩
  have h1 := h.1.1.1.1
  have : arity e.kind ≤ 3 := by unfold arity; (repeat' split) <;> omega
  omega
theorem szEs_bound {ks : List LExpr} {B : Nat} (h : ∀ x ∈ ks, 1 + szE x ≤ B) : szEs ks ≤ ks.length * B := by
  induction ks with
  | nil => simp [szEs]
  | cons a r ih =>
    have h1 := h a List.mem_cons_self
    have h2 := ih fun x hx => h x (List.mem_cons_of_mem _ hx)
    simp only [szEs, List.length_cons, Nat.succ_mul]; omega
theorem shape_sz (nv na : Nat) : ∀ (d : Nat) (e : LExpr), shapeB nv na d e = true → 1 + szE e ≤ 4 ^ d := by
  intro d
  induction d with
  | zero => intro e h; simp [shapeB] at h
  | succ d ih =>
    intro e h
    obtain ⟨h1, h2⟩ := arity_kids h
    have h3 := szEs_bound (ks := e.kids) fun x hx => ih x (h2 x hx)
    have h4 : e.kids.length * 4 ^ d ≤ 3 * 4 ^ d := Nat.mul_le_mul_right _ h1
    have h5 : 0 < 4 ^ d := Nat.pos_of_ne_zero (by simp)
    rw [szE_kids, Nat.pow_succ]
    omega

set_option maxRecDepth 100000 in
set_option maxHeartbeats 4000000 in
theorem spec_l2Count (nv na : Nat) : ∀ d : Nat, d ≤ 5 → ∀ (e : LExpr) (φ : Nat → Prop) (v : Value) (w : World), ExprV w φ v e → shapeB nv na d e = true →
    Calls Try.prog 172 #[v, .int .i64 d] w fun x w' => x = .returned (.int .i64 (1 + szE e : Nat)) ∧ Below w.heap.size w w' := by
  intro d
  induction d with
  | zero => intro _ e φ v w _ hs; simp [shapeB] at hs
  | succ d ih =>
    intro hd5 e φ v w h hs
    obtain ⟨kv, rfl, hk⟩ := h
    obtain ⟨ak, ck, rfl, -, hn, -, hc⟩ := hk.open
    have hd0 : (d : Int) ≤ 5 := by omega
    have hd1 : decide (0 < (d : Int) + 1) = true := decide_eq_true (by omega)
    have hsz : szEs e.kids ≤ 1024 := by
      have h1 := shape_sz nv na (d + 1) e hs
      have h2 : 4 ^ (d + 1) ≤ 4 ^ 5 := Nat.pow_le_pow_right (by omega) hd5
      rw [szE_kids] at h1; omega
    have HK := show Hid _ from (arity_kids hs).2
    obtain ⟨W, hW, M⟩ : ∃ W, W = w.alloc (.cells #[.int .i64 e.kind, .int .i64 e.value, .slice ak e.kids.length ck] 58) ∧ Mem (fun _ => True) (fun _ => True) w W [.box w.heap.size [.int .i64 e.kind, .int .i64 e.value, .slice ak e.kids.length ck]] :=
      ⟨_, rfl, (Mem.start fun _ _ => trivial).box _ _⟩
    have HC := show Hid _ from hc
    have HSZ := show Hid _ from szE_kids e
    clear hk hc hs
    go_enter Try.func172, Try.ntmps172
    go_wp2_with fail
    rw [← hW]
    clear hW
    go_loopw [5, 6] (fun q i wr => ∃ k : Nat, k ≤ e.kids.length ∧ i = .int .i64 k ∧ q = .int .i64 (1 + szEs (e.kids.take k) : Nat) ∧ Mem (fun _ => True) (fun _ => True) w wr [.box w.heap.size [.int .i64 e.kind, .int .i64 e.value, .slice ak e.kids.length ck]]) (fun _ i _ => e.kids.length - (intOf i).toNat)
    case atStart => exact ⟨0, Nat.zero_le _, rfl, rfl, M⟩
    case round =>
      clear M
      obtain ⟨k, hk, rfl, rfl, M⟩ := hrel
      have hB := M.below fun _ _ => trivial
      have y2 := M.c 0 2 rfl rfl
      have htl := szEs_take_le e.kids k
      obtain ⟨z, hz⟩ : ∃ z, z = szEs (e.kids.take k) := ⟨_, rfl⟩
      rw [← hz] at htl ⊢
      have HZ := show Hid _ from hz
      clear hz
      by_cases hlt : k < e.kids.length
      · obtain ⟨b, off, kv, rfl, hbk, hf, c0, c1', c2', hkv⟩ := HC.out k hlt
        rw [← (bcell hB).1 _ _ hbk] at c0 c1' c2'
        have HE := show Hid (ExprV wr φ (.agg #[.int .i64 e.kids[k].kind, .int .i64 e.kids[k].value, kv]) e.kids[k]) from ⟨kv, rfl, KidsV.nice _ _ _ _ _ _ (Agr.below hB) hkv⟩
        have HM := show Hid _ from M
        have hlt' : (k : Int) < e.kids.length := by omega
        have HT := show Hid _ from szEs_take1 hlt
        have htl1 := szEs_take_le e.kids (k + 1)
        rw [HT.out, ← HZ.out] at htl1
        clear hkv M hB
        go_wp2_with fail
        refine (ih (by omega) _ φ _ _ HE.out (HK.out _ (List.getElem_mem hlt))).mono ?_
        rintro x w2 ⟨rfl, b2⟩
        have HM2 := show Hid _ from HM.out.call b2
        clear b2 y2
        go_wp2_with fail
        exact ⟨⟨k + 1, by omega, by go_num, by rw [HT.out, ← HZ.out]; go_num, HM2.out⟩, by simp [intOf]; omega⟩
      · have hkn : k = e.kids.length := by omega
        subst hkn
        have HB := show Hid _ from hB
        clear M hB
        go_wp2_with fail
        go_ret
        exact ⟨ret_int (by rw [HZ.out, List.take_of_length_le (Nat.le_refl _), HSZ.out]), HB.out⟩

set_option maxHeartbeats 1000000 in
theorem spec_l2Right (a1 a2 : Option Addr) (nv c1 na c2 : Nat) (v3 : Value) (h1 : nv ≤ 9223372036854775807) (h2 : na ≤ 9223372036854775807) (e : LExpr) (φ : Nat → Prop) (v : Value) (w : World) (h : ExprV w φ v e) :
    Calls Try.prog 164 #[.agg #[.slice a1 nv c1, .slice a2 na c2, v3], v] w fun x w' => x = .returned (.bool (rightB nv na e)) ∧ Below w.heap.size w w' := by
  obtain ⟨kv, rfl, hk⟩ := h
  have HR : Hid (rightB nv na e = (shapeB nv na 5 e && decide (1 + szE e ≤ 15))) := rfl
  obtain ⟨W, hW, M⟩ : ∃ W, W = (w.alloc (.cells #[.slice a1 nv c1, .slice a2 na c2, v3] 31)).alloc (.cells #[.int .i64 e.kind, .int .i64 e.value, kv] 58) ∧ Mem (fun _ => True) (fun _ => True) w W [.box w.heap.size [.slice a1 nv c1, .slice a2 na c2, v3], .box (w.heap.size + 1) [.int .i64 e.kind, .int .i64 e.value, kv]] :=
    ⟨_, rfl, ((Mem.start fun _ _ => trivial).box _ _).box' _ _ (by simp)⟩
  have HE := show Hid (∀ W', Below w.heap.size w W' → ExprV W' φ (.agg #[.int .i64 e.kind, .int .i64 e.value, kv]) e) from fun W' k => ⟨kv, rfl, KidsV.nice _ _ _ _ _ _ (Agr.below k) hk⟩
  clear hk
  have x0 := M.c 0 0 rfl rfl
  have x1 := M.c 0 1 rfl rfl
  have x2 := M.c 0 2 rfl rfl
  have y0 := M.c 1 0 rfl rfl
  have y1 := M.c 1 1 rfl rfl
  have y2 := M.c 1 2 rfl rfl
  rw [hW] at x0 x1 x2 y0 y1 y2
  go_enter Try.func164, Try.ntmps164
  go_wp2_with fail
  rw [← hW]
  clear hW x0 x1 x2 y0 y1 y2
  refine (spec_l2Shape a1 a2 nv c1 na c2 v3 h1 h2 5 (by omega) e φ _ _ (HE.out _ (M.below fun _ _ => trivial))).mono ?_
  rintro x w1 ⟨rfl, b1⟩
  replace M := M.call b1
  clear b1
  cases hs : shapeB nv na 5 e
  · have HB := show Hid _ from M.below fun _ _ => trivial
    have HS := show Hid _ from hs
    clear hs M
    go_wp2_with fail
    go_ret
    exact ⟨ret_bool (by rw [HR.out, HS.out]; rfl), HB.out⟩
  · have HS := show Hid _ from hs
    have hsz := shape_sz nv na 5 e hs
    have y0 := M.c 1 0 rfl rfl
    have y1 := M.c 1 1 rfl rfl
    have y2 := M.c 1 2 rfl rfl
    have HM := show Hid _ from M
    clear hs M
    go_wp2_with fail
    refine (spec_l2Count nv na 5 (by omega) e φ _ _ (HE.out _ (HM.out.below fun _ _ => trivial)) HS.out).mono ?_
    rintro x w2 ⟨rfl, b1⟩
    have HB := show Hid _ from (HM.out.call b1).below fun _ _ => trivial
    clear b1 y0 y1 y2
    go_wp2_with fail
    go_ret
    exact ⟨ret_bool (by rw [HR.out, HS.out, Bool.true_and]; exact decide_eq_decide.2 (by omega)), HB.out⟩


theorem impl_within (n lo hi : Int) (w : World) : Calls Try.prog 72 #[.int .i64 n, .int .i64 lo, .int .i64 hi] w fun e w' => e = .returned (.bool (decide (lo ≤ n) && decide (n ≤ hi))) ∧ w = w' := by
  go_enter Try.func72, Try.ntmps72
  go_wp2
  all_goals go_ret
  all_goals exact ⟨ret_bool (by simp; try omega), rfl⟩

theorem impl_LabelValid (l : Int) (w : World) : Calls Try.prog 88 #[.int .i64 l] w fun e w' => e = .returned (.bool (labOk l)) ∧ w = w' := by
  go_enter Try.func88, Try.ntmps88
  go_wp2_with fail
  refine (impl_within l 0 3 _).mono ?_
  rintro e w1 ⟨rfl, rfl⟩
  go_wp2_with fail
  go_ret
  exact ⟨rfl, rfl⟩

theorem impl_areLabels1 (l : Int) (w : World) : Calls Try.prog 141 #[.int .i64 l] w fun e w' => e = .returned (.bool (!labOk l)) ∧ w = w' := by
  go_enter Try.func141, Try.ntmps141
  go_wp2_with fail
  refine (impl_LabelValid l _).mono ?_
  rintro e w1 ⟨rfl, rfl⟩
  go_wp2_with fail
  go_ret
  exact ⟨rfl, rfl⟩

set_option maxHeartbeats 1000000 in
/-- slices.IndexFunc over ints, the function capturing nothing. -/
theorem indexFunc_int (p : Int → Bool) (f : FuncId) (v : Value) (xs : List Int) (w : World) (h : Row w v xs.length 1 (ints xs)) (he : ∀ args w, (callFunc f args).run Try.prog w = .ok (.enter f args) w)
    (hf : ∀ x w', Calls Try.prog f #[.int .i64 x] w' fun e w'' => e = .returned (.bool (p x)) ∧ w' = w'') :
    Calls Try.prog 157 #[v, .func (.func f) #[] #[]] w fun e w' => ∃ r : Int, e = .returned (.int .i64 r) ∧ decide (0 ≤ r) = xs.any p ∧ w = w' := by
  obtain ⟨a1, c1, rfl, -, hm1, -, hc1⟩ := h.open1
  have HF := show Hid _ from hf
  clear h hf
  go_enter Try.func157, Try.ntmps157
  go_wp2_with fail
  go_loop [5, 8] (fun _ i => ∃ k : Nat, k ≤ xs.length ∧ i = .int .i64 k ∧ (xs.take k).any p = false) (fun _ i => xs.length - (intOf i).toNat)
  case atStart => exact ⟨0, Nat.zero_le _, rfl, rfl⟩
  case round =>
    obtain ⟨k, hk, rfl, ha⟩ := hrel
    have HA := show Hid _ from ha
    clear ha
    by_cases hlt : k < xs.length
    · obtain ⟨b1, o1, rfl, hb1, hx⟩ := hc1 k hlt
      rw [ints_get _ _ hlt] at hx
      clear hc1
      cases hp : p xs[k]
      all_goals
        have HP := show Hid _ from hp
        clear hp
        go_wp2_with fail
        refine (HF.out xs[k] _).mono ?_
        rintro e w1 ⟨rfl, rfl⟩
        rw [HP.out]
        go_wp2_with fail
      · go_round
        case rel => exact ⟨k + 1, by omega, by go_num, by rw [take_succ_get _ _ hlt, List.any_append, HA.out]; simp [HP.out]⟩
        case measure => simp [intOf]; omega
      · go_ret
        exact ⟨_, rfl, by rw [decide_eq_true (by omega)]; symm; rw [List.any_eq_true]; exact ⟨_, List.getElem_mem hlt, HP.out⟩, rfl⟩
    · go_wp2_with fail
      go_ret
      refine ⟨_, rfl, ?_, rfl⟩
      have := HA.out
      rw [List.take_of_length_le (by omega)] at this
      rw [this]; rfl

theorem containsFunc_int (p : Int → Bool) (f : FuncId) (v : Value) (xs : List Int) (w : World) (h : Row w v xs.length 1 (ints xs)) (he : ∀ args w, (callFunc f args).run Try.prog w = .ok (.enter f args) w)
    (hf : ∀ x w', Calls Try.prog f #[.int .i64 x] w' fun e w'' => e = .returned (.bool (p x)) ∧ w' = w'') :
    Calls Try.prog 140 #[v, .func (.func f) #[] #[]] w fun e w' => e = .returned (.bool (xs.any p)) ∧ w = w' := by
  obtain ⟨a1, c1, rfl, -⟩ := h.open1
  have HF := show Hid _ from hf
  have HE := show Hid _ from he
  clear hf he
  go_enter Try.func140, Try.ntmps140
  go_wp2_with fail
  refine (indexFunc_int p f _ xs _ h HE.out HF.out).mono ?_
  rintro e w1 ⟨r, rfl, hr, rfl⟩
  have HR := show Hid _ from hr
  clear hr
  go_wp2_with fail
  go_ret
  exact ⟨ret_bool HR.out, rfl⟩

theorem any_not_all (xs : List Int) : (!xs.any fun l => !labOk l) = xs.all labOk := by
  induction xs with
  | nil => rfl
  | cons x r ih => simp only [List.any_cons, List.all_cons, ← ih]; cases labOk x <;> simp

theorem impl_areLabels (v : Value) (xs : List Int) (w : World) (h : Row w v xs.length 1 (ints xs)) :
    Calls Try.prog 109 #[v] w fun e w' => e = .returned (.bool (xs.all labOk)) ∧ w = w' := by
  obtain ⟨a1, c1, rfl, -⟩ := h.open1
  go_enter Try.func109, Try.ntmps109
  go_wp2_with fail
  refine (containsFunc_int (fun l => !labOk l) 141 _ xs _ h (enters_of Try.func141 (by kernel_rfl) rfl) (fun x w' => impl_areLabels1 x w')).mono ?_
  rintro e w1 ⟨rfl, rfl⟩
  have HN := show Hid _ from any_not_all xs
  go_wp2_with fail
  go_ret
  exact ⟨ret_bool HN.out, rfl⟩

set_option maxHeartbeats 1000000 in
theorem impl_declared (v1 v2 : Value) (vars arrays : List Int) (w : World) (h1 : Row w v1 vars.length 1 (ints vars)) (h2 : Row w v2 arrays.length 1 (ints arrays)) :
    Calls Try.prog 71 #[v1, v2] w fun e w' => e = .returned (.bool (headsB vars arrays)) ∧ w = w' := by
  obtain ⟨a1, c1, rfl, -, q1, -⟩ := h1.open1
  obtain ⟨a2, c2, rfl, -, q2, -⟩ := h2.open1
  have HT : Hid (headsB vars arrays = (vars.all labOk && arrays.all labOk && decide (1 ≤ vars.length) && decide (vars.length ≤ 12) && decide (arrays.length ≤ 2))) := rfl
  by_cases hn : (1 : Int) ≤ (vars.length : Int) ∧ (vars.length : Int) ≤ 12
  · have hb : (decide ((1 : Int) ≤ vars.length) && decide ((vars.length : Int) ≤ 12)) = true := by simpa using hn
    have HB := show Hid _ from hb
    by_cases hm : (arrays.length : Int) ≤ 2
    · cases hv : vars.all labOk
      · have HV := show Hid _ from hv
        clear hv hb hn
        go_enter Try.func71, Try.ntmps71
        go_wp2_with fail
        refine (impl_within _ 1 12 _).mono ?_
        rintro e w1 ⟨rfl, rfl⟩
        rw [HB.out]
        go_wp2_with fail
        refine (impl_areLabels _ vars _ h1).mono ?_
        rintro e w1 ⟨rfl, rfl⟩
        rw [HV.out]
        go_wp2_with fail
        go_ret
        exact ⟨ret_bool (by rw [HT.out, HV.out]; rfl), rfl⟩
      · have HV := show Hid _ from hv
        have hn' := show Hid _ from hn
        have hm' := show Hid _ from hm
        clear hv hb hn
        go_enter Try.func71, Try.ntmps71
        go_wp2_with fail
        refine (impl_within _ 1 12 _).mono ?_
        rintro e w1 ⟨rfl, rfl⟩
        rw [HB.out]
        go_wp2_with fail
        refine (impl_areLabels _ vars _ h1).mono ?_
        rintro e w1 ⟨rfl, rfl⟩
        rw [HV.out]
        go_wp2_with fail
        refine (impl_areLabels _ arrays _ h2).mono ?_
        rintro e w1 ⟨rfl, rfl⟩
        go_wp2_with fail
        go_ret
        refine ⟨ret_bool ?_, rfl⟩
        have h3 := hn'.out
        have h4 := hm'.out
        rw [HT.out, HV.out, decide_eq_true (show 1 ≤ vars.length by omega), decide_eq_true (show vars.length ≤ 12 by omega), decide_eq_true (show arrays.length ≤ 2 by omega)]
        simp
    · have hF : Hid (headsB vars arrays = false) := by unfold Hid; rw [HT.out, decide_eq_false (show ¬ arrays.length ≤ 2 by omega)]; simp
      clear hb hn
      go_enter Try.func71, Try.ntmps71
      go_wp2_with fail
      refine (impl_within _ 1 12 _).mono ?_
      rintro e w1 ⟨rfl, rfl⟩
      rw [HB.out]
      go_wp2_with fail
      go_ret
      exact ⟨ret_bool hF.out.symm, rfl⟩
  · have hb : (decide ((1 : Int) ≤ vars.length) && decide ((vars.length : Int) ≤ 12)) = false := by
      rw [Bool.eq_false_iff]; simp only [ne_eq, Bool.and_eq_true, decide_eq_true_eq]; exact hn
    have HB := show Hid _ from hb
    have hF : Hid (headsB vars arrays = false) := by
      unfold Hid; rw [HT.out]
      rcases Classical.not_and_iff_not_or_not.1 hn with h | h
      · rw [decide_eq_false (show ¬ 1 ≤ vars.length by omega)]; simp
      · rw [decide_eq_false (show ¬ vars.length ≤ 12 by omega)]; simp
    clear hb hn
    go_enter Try.func71, Try.ntmps71
    go_wp2_with fail
    refine (impl_within _ 1 12 _).mono ?_
    rintro e w1 ⟨rfl, rfl⟩
    rw [HB.out]
    go_wp2_with fail
    go_ret
    exact ⟨ret_bool hF.out.symm, rfl⟩


theorem impl_isPlain (k n : Int) (kv : Value) (w : World) : Calls Try.prog 146 #[.agg #[.int .i64 k, .int .i64 n, kv]] w fun e w' => e = .returned (.bool (decide (k = 1) || decide (k = 2))) ∧ Below w.heap.size w w' := by
  by_cases h1 : k = 1
  · have p1 : (k == 1) = true := by simp [h1]
    have Q := show Hid _ from h1
    clear h1
    go_enter Try.func146, Try.ntmps146
    go_wp2
    go_ret
    exact ⟨ret_bool (by simp [Q.out]), by go_grown⟩
  · have p1 : (k == 1) = false := by simp [h1]
    have Q := show Hid _ from h1
    clear h1
    by_cases h2 : k = 2
    · have p2 : (k == 2) = true := by simp [h2]
      have Q2 := show Hid _ from h2
      clear h2
      go_enter Try.func146, Try.ntmps146
      go_wp2
      go_ret
      exact ⟨ret_bool (by simp [Q2.out]), by go_grown⟩
    · have p2 : (k == 2) = false := by simp [h2]
      have Q2 := show Hid _ from h2
      clear h2
      go_enter Try.func146, Try.ntmps146
      go_wp2
      go_ret
      exact ⟨ret_bool (by rw [decide_eq_false Q.out, decide_eq_false Q2.out]; rfl), by go_grown⟩


theorem impl_operands (k : Int) (w : World) : Calls Try.prog 173 #[.int .i64 k] w fun e w' => e = .returned (.int .i64 (arity k)) ∧ w = w' := by
  by_cases h1 : k = 1
  · subst h1
    go_enter Try.func173, Try.ntmps173
    go_wp2_with fail
    go_ret
    exact ⟨ret_int (by simp [arity]), rfl⟩
  by_cases h2 : k = 2
  · subst h2
    go_enter Try.func173, Try.ntmps173
    go_wp2_with fail
    go_ret
    exact ⟨ret_int (by simp [arity]), rfl⟩
  by_cases h3 : k = 3
  · subst h3
    go_enter Try.func173, Try.ntmps173
    go_wp2_with fail
    go_ret
    exact ⟨ret_int (by simp [arity]), rfl⟩
  have p1 : (k == 1) = false := by simp [h1]
  have p2 : (k == 2) = false := by simp [h2]
  have p3 : (k == 3) = false := by simp [h3]
  have H := show Hid _ from And.intro h1 (And.intro h2 h3)
  clear h1 h2 h3
  go_enter Try.func173, Try.ntmps173
  go_wp2_with fail
  refine (impl_within k 4 10 _).mono ?_
  rintro x w1 ⟨rfl, rfl⟩
  by_cases h4 : 4 ≤ k ∧ k ≤ 10
  · have p4 : (decide (4 ≤ k) && decide (k ≤ 10)) = true := by simp [h4]
    rw [p4]
    have H4 := show Hid _ from h4
    clear h4 p4
    go_wp2_with fail
    go_ret
    exact ⟨ret_int (by have := H.out; have := H4.out; unfold arity; rw [if_neg (by omega), if_neg (by omega), if_pos (by omega)]), rfl⟩
  · have p4 : (decide (4 ≤ k) && decide (k ≤ 10)) = false := by simp; omega
    rw [p4]
    have H4 := show Hid _ from h4
    clear h4 p4
    by_cases h5 : k = 11
    · subst h5
      go_wp2_with fail
      go_ret
      exact ⟨ret_int (by simp [arity]), rfl⟩
    · have p5 : (k == 11) = false := by simp [h5]
      have H5 := show Hid _ from h5
      clear h5
      go_wp2_with fail
      go_ret
      exact ⟨ret_int (by have := H.out; have := H4.out; have := H5.out; unfold arity; rw [if_neg (by omega), if_neg (by omega), if_neg (by omega), if_neg (by omega)]), rfl⟩

theorem scanB_node {nv na d c : Nat} {e : LExpr} (h1 : nodeB nv na e = true) (h2 : readB e = true) : scanB nv na (d + 1) c e = scanPre nv na d (c + 1) e.kids e.kids.length := by
  unfold scanB scanPre
  rw [List.take_of_length_le (Nat.le_refl _), shapeB, h1, h2, szE_kids]
  simp
theorem scanPre_end {nv na d c k : Nat} {ks : List LExpr} (hk : k < ks.length) (hs : scanB nv na d (c + szEs (ks.take k)) ks[k] = false) : scanPre nv na d c ks ks.length = false := by
  unfold scanPre
  rw [List.take_of_length_le (Nat.le_refl _)]
  exact scanPre_fail nv na hk hs
theorem scanB_noNode {nv na d c : Nat} {e : LExpr} (h1 : nodeB nv na e = false) : scanB nv na (d + 1) c e = false := by
  unfold scanB; rw [shapeB, h1]; rfl
theorem scanB_noRead {nv na d c : Nat} {e : LExpr} (h1 : readB e = false) : scanB nv na (d + 1) c e = false := by
  unfold scanB; rw [shapeB, h1]; simp
theorem limit_high {nv na : Nat} {k n h : Int} (hh : h = limit nv na k - 1) : (decide (0 ≤ n) && decide (n ≤ h)) = (decide (0 ≤ n) && decide (n < limit nv na k)) := by
  congr 1; exact decide_eq_decide.2 (by omega)

set_option maxRecDepth 100000 in
set_option maxHeartbeats 8000000 in
theorem impl_scan (a1 a2 : Option Addr) (nv c1 na c2 : Nat) (v3 : Value) (h1 : nv ≤ 9223372036854775807) (h2 : na ≤ 9223372036854775807) : ∀ (d : Nat) (deep : Int), deep + d = 6 → 1 ≤ deep → ∀ (e : LExpr) (φ : Nat → Prop) (v : Value) (c cb : Nat) (w : World), ExprV w φ v e → ¬ φ cb → Blk w cb [.int .i64 c] → c ≤ 15 →
    Calls Try.prog 166 #[.agg #[.slice a1 nv c1, .slice a2 na c2, v3], v, .int .i64 deep, .pointer (some ⟨cb, 0, none⟩)] w fun x w' =>
      x = .returned (.bool (scanB nv na d c e)) ∧ (scanB nv na d c e = true → Blk w' cb [.int .i64 (c + 1 + szE e : Nat)]) ∧ (∃ u, Blk w' cb [u]) ∧ Kept (fun b => ¬ b = cb) w w' := by
  intro d
  induction d with
  | zero =>
    intro deep hdp hd1 e φ v c cb w h hcb hblk hc
    obtain ⟨kv, rfl, hk⟩ := h
    have HF : Hid (scanB nv na 0 c e = false) := rfl
    obtain rfl : deep = 6 := by omega
    have hl := hblk.lt
    have x0 : w.cell? ⟨cb, 0, none⟩ = some (.int .i64 c) := (hblk.cell 0).trans rfl
    have f0 := hblk.free
    obtain ⟨W, hW, M⟩ : ∃ W, W = (((w.setCell ⟨cb, 0, none⟩ (.int .i64 ((c : Int) + 1))).alloc (.cells #[.slice a1 nv c1, .slice a2 na c2, v3] 31)).alloc (.cells #[.int .i64 e.kind, .int .i64 e.value, kv] 58)) ∧ Mem (fun _ => True) (fun b => ¬ b = cb) w W [.box cb [.int .i64 ((c : Int) + 1)]] :=
      ⟨_, rfl, (((Mem.start fun _ _ => trivial).adopt (.box cb [.int .i64 c]) (fun _ ha => by cases ha) trivial hblk (fun _ ha => by cases ha) (fun g hg hn => by cases hg; exact hn rfl)).set 0 rfl 0 (.int .i64 ((c : Int) + 1))).call (by go_grown)⟩
    have y0 := M.c 0 0 rfl rfl
    have z0 := fun X => ext_cell y0 X
    clear hk y0 hblk
    by_cases q : (15 : Int) < (c : Int) + 1
    · have p : decide ((15 : Int) < (c : Int) + 1) = true := by simp; omega
      clear q
      go_enter Try.func166, Try.ntmps166
      go_wp2_with fail
      rw [← hW]
      clear hW
      refine wp_region_ext (by kernel_rfl) (by kernel_rfl) ?_
      repeat (any_goals (first | go_big_quiet_step (((fail))) | quiet_step (((fail)))))
      refine wpQuiet_nil ?_
      rintro _ ⟨X, rfl⟩
      replace M := M.call (ext_below W X)
      go_wp2_with fail
      go_ret
      exact ⟨ret_bool (by rw [HF.out]), fun h => absurd (h.symm.trans HF.out) (by simp), ⟨_, M.blk 0 rfl⟩, M.kept⟩
    · have p : decide ((15 : Int) < (c : Int) + 1) = false := by simp; omega
      clear q
      go_enter Try.func166, Try.ntmps166
      go_wp2_with fail
      rw [← hW]
      clear hW
      refine wp_region_ext (by kernel_rfl) (by kernel_rfl) ?_
      repeat (any_goals (first | go_big_quiet_step (((fail))) | quiet_step (((fail)))))
      refine wpQuiet_nil ?_
      rintro _ ⟨X, rfl⟩
      replace M := M.call (ext_below W X)
      go_wp2_with fail
      go_ret
      exact ⟨ret_bool (by rw [HF.out]), fun h => absurd (h.symm.trans HF.out) (by simp), ⟨_, M.blk 0 rfl⟩, M.kept⟩
  | succ d ih =>
    intro deep hdp hd1 e φ v c cb w h hcb hblk hc
    obtain ⟨kv, rfl, hk⟩ := h
    obtain ⟨ak, ck, rfl, -, hn, -, -⟩ := hk.open
    have hl := hblk.lt
    have hd5 : deep ≤ 5 := by omega
    obtain ⟨φ', hφ'⟩ : ∃ φ' : Nat → Prop, φ' = fun b => φ b ∨ w.heap.size ≤ b := ⟨_, rfl⟩
    have x0 : w.cell? ⟨cb, 0, none⟩ = some (.int .i64 c) := (hblk.cell 0).trans rfl
    have f0 := hblk.free
    obtain ⟨W, hW, M⟩ : ∃ W, W = (((w.setCell ⟨cb, 0, none⟩ (.int .i64 ((c : Int) + 1))).alloc (.cells #[.slice a1 nv c1, .slice a2 na c2, v3] 31)).alloc (.cells #[.int .i64 e.kind, .int .i64 e.value, .slice ak e.kids.length ck] 58)) ∧
        Mem φ' (fun b => ¬ b = cb) w W [.box cb [.int .i64 ((c : Int) + 1)], .box w.heap.size [.slice a1 nv c1, .slice a2 na c2, v3], .box (w.heap.size + 1) [.int .i64 e.kind, .int .i64 e.value, .slice ak e.kids.length ck], .dat (fun w φ => KidsV w φ (.slice ak e.kids.length ck) e.kids)] := by
      refine ⟨_, rfl, (((((Mem.start (by rw [hφ']; exact fun _ h => .inr h)).adopt (.box cb [.int .i64 c]) (fun _ ha => by cases ha) trivial hblk (fun _ ha => by cases ha) (fun g hg hn => by cases hg; exact hn rfl)).set 0 rfl 0 (.int .i64 ((c : Int) + 1))).box' _ _ (by simp)).box' _ _ (by simp)).dat (KidsV.nice _ _) (KidsV.nice _ _ _ _ _ _ ⟨by simp; omega, fun b hb hf => ⟨⟨by rw [hφ']; exact .inl hf, fun r hr he => ?_⟩, ?_⟩⟩ hk)⟩
      · simp at hr
        rcases hr with rfl | rfl | rfl
        · cases he; exact hcb hf
        · cases he; omega
        · cases he; omega
      · have hbc : b ≠ cb := fun he => hcb (he ▸ hf)
        exact (((Below.refl w.heap.size (w.setCell ⟨cb, 0, none⟩ (.int .i64 ((c : Int) + 1)))).alloc (by simp) _ |>.alloc (by simp) _).block b (by simpa using hb)).trans (Below.heap_setCell _ _ _ _ hbc)
    clear hk hblk hφ'
    have y0 := M.c 0 0 rfl rfl
    have y1 := M.c 2 0 rfl rfl
    have y2 := M.c 2 2 rfl rfl
    have z0 := fun X => ext_cell y0 X
    have z1 := fun X => ext_cell y1 X
    have z2 := fun X => ext_cell y2 X
    have HA : Hid (∀ X, Calls Try.prog 173 #[.int .i64 e.kind] (W.ext X) fun x w'' => x = .returned (.int .i64 (arity e.kind)) ∧ ∃ Y, w'' = W.ext Y) := fun X =>
      Calls.ext_of' ((impl_operands e.kind _).mono fun x w' h => ⟨h.1, h.2 ▸ Below.refl _ _⟩)
    clear y0 y1 y2
    have p2 : decide ((5 : Int) < deep) = false := decide_eq_false (by omega)
    by_cases q1 : (15 : Int) < (c : Int) + 1
    · have p1 : decide ((15 : Int) < (c : Int) + 1) = true := decide_eq_true q1
      have HF : Hid (scanB nv na (d + 1) c e = false) := by unfold Hid scanB; rw [decide_eq_false (by omega), Bool.and_false]
      clear q1
      go_enter Try.func166, Try.ntmps166
      go_wp2_with fail
      rw [← hW]
      clear hW
      refine wp_region_ext (by kernel_rfl) (by kernel_rfl) ?_
      repeat (any_goals (first | go_big_quiet_step (((go_at_call 173; exact HA.out _))) | quiet_step (((go_at_call 173; exact HA.out _)))))
      refine wpQuiet_nil ?_
      rintro _ ⟨X, rfl⟩
      replace M := M.call (ext_below W X)
      go_wp2_with fail
      go_ret
      exact ⟨ret_bool (by rw [HF.out]), fun h => absurd (h.symm.trans HF.out) (by simp), ⟨_, M.blk 0 rfl⟩, M.kept⟩
    have p1 : decide ((15 : Int) < (c : Int) + 1) = false := decide_eq_false q1
    by_cases q3 : (e.kids.length : Int) = arity e.kind
    case neg =>
      have p3 : (arity e.kind != (e.kids.length : Int)) = true := by simp; omega
      have HF : Hid (scanB nv na (d + 1) c e = false) := scanB_noNode (by unfold nodeB; rw [decide_eq_false q3]; rfl)
      clear q1 q3
      go_enter Try.func166, Try.ntmps166
      go_wp2_with fail
      rw [← hW]
      clear hW
      refine wp_region_ext (by kernel_rfl) (by kernel_rfl) ?_
      repeat (any_goals (first | go_big_quiet_step (((go_at_call 173; exact HA.out _))) | quiet_step (((go_at_call 173; exact HA.out _)))))
      refine wpQuiet_nil ?_
      rintro _ ⟨X, rfl⟩
      replace M := M.call (ext_below W X)
      go_wp2_with fail
      go_ret
      exact ⟨ret_bool (by rw [HF.out]), fun h => absurd (h.symm.trans HF.out) (by simp), ⟨_, M.blk 0 rfl⟩, M.kept⟩
    have p3 : (arity e.kind != (e.kids.length : Int)) = false := by simp; omega
    have HQ := show Hid _ from And.intro q1 q3
    clear q1 q3
    go_enter Try.func166, Try.ntmps166
    go_wp2_with fail
    rw [← hW]
    clear hW
    refine wp_region_ext (by kernel_rfl) (by kernel_rfl) ?_
    repeat (any_goals (first | go_big_quiet_step (((go_at_call 173; exact HA.out _))) | quiet_step (((go_at_call 173; exact HA.out _)))))
    refine wpQuiet_nil ?_
    rintro _ ⟨X, rfl⟩
    replace M := M.call (ext_below W X)
    generalize W.ext X = W1 at *
    clear z0 z1 z2 HA p1 p2 p3 f0 x0
    have y0 := M.c 1 0 rfl rfl
    have y1 := M.c 1 1 rfl rfl
    have y2 := M.c 2 0 rfl rfl
    have y3 := M.c 2 1 rfl rfl
    have y4 := M.c 2 2 rfl rfl
    have HM := show Hid _ from M
    clear M
    -- KINDS
    by_cases k1 : e.kind = 1
    · have qq1 : (e.kind == 1) = true := by simp [k1]
      have qq2 : (e.kind == 3) = false := by simp [k1]
      have HRD : Hid (readB e = true) := by unfold Hid readB; simp [k1]
      have hhi : (255 : Int) = limit nv na e.kind - 1 := by rw [k1]; simp [limit]
      clear k1
      have HNB := show Hid (nodeB nv na e = (decide (0 ≤ e.value) && decide (e.value ≤ 255))) from by
        unfold Hid nodeB; rw [decide_eq_true HQ.out.2, limit_high hhi]; rfl
      clear hhi
      go_wp2_with fail
      refine (impl_within e.value 0 _ _).mono ?_
      rintro x w1 ⟨rfl, rfl⟩
      have HNB2 := show Hid (nodeB nv na e = (decide (0 ≤ e.value) && decide (e.value ≤ 255))) from HNB.out
      clear HNB
      obtain ⟨qn, hqn⟩ : ∃ qn, qn = (decide (0 ≤ e.value) && decide (e.value ≤ 255)) := ⟨_, rfl⟩
      rw [← hqn]
      have HN := show Hid (nodeB nv na e = qn) from HNB2.out.trans hqn.symm
      clear hqn HNB2
      cases qn
      · have HF : Hid (scanB nv na (d + 1) c e = false) := scanB_noNode HN.out
        have M := HM.out
        clear HM
        go_wp2_with fail
        go_ret
        exact ⟨ret_bool (by rw [HF.out]), fun h => absurd (h.symm.trans HF.out) (by simp), ⟨_, M.blk 0 rfl⟩, M.kept⟩
      have HSC : Hid (scanB nv na (d + 1) c e = scanPre nv na d (c + 1) e.kids e.kids.length) := scanB_node HN.out HRD.out
      go_wp2_with fail
      clear y0 y1 y2 y3 y4
      have HST : Hid (scanPre nv na d (c + 1) e.kids 0 = true ∧ Mem φ' (fun b => ¬ b = cb) w W1 [.box cb [.int .i64 (c + 1 + szEs (e.kids.take 0) : Nat)], .box w.heap.size [.slice a1 nv c1, .slice a2 na c2, v3], .box (w.heap.size + 1) [.int .i64 e.kind, .int .i64 e.value, .slice ak e.kids.length ck], .dat (fun w φ => KidsV w φ (.slice ak e.kids.length ck) e.kids)]) := by
        refine ⟨?_, ?_⟩
        · have := HQ.out.1
          simp [scanPre, szEs]; omega
        · rw [show ((c + 1 + szEs (e.kids.take 0) : Nat) : Int) = (c : Int) + 1 by simp [szEs]]
          exact HM.out
      go_loopw [71] (fun i wr => ∃ k : Nat, k ≤ e.kids.length ∧ i = .int .i64 k ∧ scanPre nv na d (c + 1) e.kids k = true ∧ Mem φ' (fun b => ¬ b = cb) w wr [.box cb [.int .i64 (c + 1 + szEs (e.kids.take k) : Nat)], .box w.heap.size [.slice a1 nv c1, .slice a2 na c2, v3], .box (w.heap.size + 1) [.int .i64 e.kind, .int .i64 e.value, .slice ak e.kids.length ck], .dat (fun w φ => KidsV w φ (.slice ak e.kids.length ck) e.kids)]) (fun i _ => e.kids.length - (intOf i).toNat)
      case atStart => exact ⟨0, Nat.zero_le _, rfl, HST.out.1, HST.out.2⟩
      case round =>
        clear HM
        obtain ⟨k, hk, rfl, hpre, M⟩ := hrel
        have HPRE := show Hid _ from hpre
        have hle : c + 1 + szEs (e.kids.take k) ≤ 15 := by unfold scanPre at hpre; simp at hpre; exact hpre.2
        clear hpre
        by_cases hlt : k < e.kids.length
        · have hncb : ¬ Fr φ' [.box cb [.int .i64 (c + 1 + szEs (e.kids.take k) : Nat)], .box w.heap.size [.slice a1 nv c1, .slice a2 na c2, v3], .box (w.heap.size + 1) [.int .i64 e.kind, .int .i64 e.value, .slice ak e.kids.length ck], .dat (fun w φ => KidsV w φ (.slice ak e.kids.length ck) e.kids)] cb := fun h => h.2 _ List.mem_cons_self rfl
          obtain ⟨a', c', he, -, -, -, hcell⟩ := (M.d 3 rfl).open
          cases he
          obtain ⟨b, off, kv, hbo, hbk, hf, g0, g1, g2, hkk⟩ := hcell k hlt
          cases hbo
          obtain ⟨ka, kc, rfl, -, -, -, -⟩ := hkk.open
          have bz : Below wr.heap.size wr (wr.alloc (.cells #[.int .i64 e.kids[k].kind, .int .i64 e.kids[k].value, .slice ka e.kids[k].kids.length kc] 58)) := by go_grown
          have HE := show Hid _ from KidsV.nice _ _ _ _ _ _ (Agr.below bz) hkk
          have HNCB := show Hid _ from hncb
          have x0 := M.c 1 0 rfl rfl
          have x1 := M.c 1 1 rfl rfl
          have x2 := M.c 1 2 rfl rfl
          have s1 : w.heap.size < wr.heap.size := M.lt (r := .box w.heap.size [.slice a1 nv c1, .slice a2 na c2, v3]) (List.mem_cons_of_mem _ List.mem_cons_self) rfl
          have HM := show Hid _ from M.box [.int .i64 e.kids[k].kind, .int .i64 e.kids[k].value, .slice ka e.kids[k].kids.length kc] 58
          have HP := show Hid _ from scanPre_succ nv na (d := d) (c := c + 1) hlt
          have HX := show Hid (scanB nv na d (c + 1 + szEs (e.kids.take k)) e.kids[k] = false → scanB nv na (d + 1) c e = false) from fun h => HSC.out.trans (scanPre_end hlt h)
          have HT := show Hid _ from szEs_take1 hlt
          clear hcell hncb bz hkk M
          go_wp2_with fail
          refine (ih (deep + 1) (by omega) (by omega) e.kids[k] _ _ (c + 1 + szEs (e.kids.take k)) cb _ ⟨_, rfl, HE.out⟩ HNCB.out (HM.out.blk 0 rfl) hle).mono ?_
          rintro x w2 ⟨rfl, r1, ⟨u, r2⟩, kp⟩
          obtain ⟨q, hq⟩ : ∃ q, q = scanB nv na d (c + 1 + szEs (e.kids.take k)) e.kids[k] := ⟨_, rfl⟩
          rw [← hq] at r1 ⊢
          have HQ2 := show Hid _ from hq
          clear hq x0 x1 x2 g0 g1 g2
          cases q
          · have M2 := HM.out.callB 0 rfl kp r2
            have HF := show Hid _ from HX.out HQ2.out.symm
            clear r1 r2 kp
            go_wp2_with fail
            go_ret
            exact ⟨ret_bool (by rw [HF.out]), fun h => absurd (h.symm.trans HF.out) (by simp), ⟨_, M2.blk 0 rfl⟩, M2.kept⟩
          · have M2 := (HM.out.callB 0 rfl kp (r1 rfl)).take 4
            have HM2 := show Hid _ from M2
            clear r1 r2 kp M2
            go_wp2_with fail
            refine ⟨⟨k + 1, by omega, by go_num, by rw [HP.out, HPRE.out, ← HQ2.out]; rfl, ?_⟩, by simp [intOf]; omega⟩
            rw [HT.out, show c + 1 + (szEs (e.kids.take k) + (1 + szE e.kids[k])) = c + 1 + szEs (e.kids.take k) + 1 + szE e.kids[k] by omega]
            exact HM2.out
        · have hkn : k = e.kids.length := by omega
          subst hkn
          have HM := show Hid _ from M
          have HS : Hid (scanB nv na (d + 1) c e = true) := HSC.out.trans HPRE.out
          clear M
          go_wp2_with fail
          go_ret
          refine ⟨ret_bool (by rw [HS.out]), fun _ => ?_, ⟨_, HM.out.blk 0 rfl⟩, HM.out.kept⟩
          have := HM.out.blk 0 rfl
          rw [List.take_of_length_le (Nat.le_refl _)] at this
          rw [szE_kids]
          exact this
    have k1' : (e.kind == 1) = false := by simp [k1]
    by_cases k2 : e.kind = 2
    · have qq1 : (e.kind == 2) = true := by simp [k2]
      have qq2 : (e.kind == 3) = false := by simp [k2]
      have HRD : Hid (readB e = true) := by unfold Hid readB; simp [k2]
      have hhi : (nv : Int) - 1 = limit nv na e.kind - 1 := by rw [k2]; simp [limit]
      clear k1 k2
      have HNB := show Hid (nodeB nv na e = (decide (0 ≤ e.value) && decide (e.value ≤ (nv : Int) - 1))) from by
        unfold Hid nodeB; rw [decide_eq_true HQ.out.2, limit_high hhi]; rfl
      clear hhi
      go_wp2_with fail
      refine (impl_within e.value 0 _ _).mono ?_
      rintro x w1 ⟨rfl, rfl⟩
      have HNB2 := show Hid (nodeB nv na e = (decide (0 ≤ e.value) && decide (e.value ≤ (nv : Int) - 1))) from HNB.out
      clear HNB
      obtain ⟨qn, hqn⟩ : ∃ qn, qn = (decide (0 ≤ e.value) && decide (e.value ≤ (nv : Int) - 1)) := ⟨_, rfl⟩
      rw [← hqn]
      have HN := show Hid (nodeB nv na e = qn) from HNB2.out.trans hqn.symm
      clear hqn HNB2
      cases qn
      · have HF : Hid (scanB nv na (d + 1) c e = false) := scanB_noNode HN.out
        have M := HM.out
        clear HM
        go_wp2_with fail
        go_ret
        exact ⟨ret_bool (by rw [HF.out]), fun h => absurd (h.symm.trans HF.out) (by simp), ⟨_, M.blk 0 rfl⟩, M.kept⟩
      have HSC : Hid (scanB nv na (d + 1) c e = scanPre nv na d (c + 1) e.kids e.kids.length) := scanB_node HN.out HRD.out
      go_wp2_with fail
      clear y0 y1 y2 y3 y4
      have HST : Hid (scanPre nv na d (c + 1) e.kids 0 = true ∧ Mem φ' (fun b => ¬ b = cb) w W1 [.box cb [.int .i64 (c + 1 + szEs (e.kids.take 0) : Nat)], .box w.heap.size [.slice a1 nv c1, .slice a2 na c2, v3], .box (w.heap.size + 1) [.int .i64 e.kind, .int .i64 e.value, .slice ak e.kids.length ck], .dat (fun w φ => KidsV w φ (.slice ak e.kids.length ck) e.kids)]) := by
        refine ⟨?_, ?_⟩
        · have := HQ.out.1
          simp [scanPre, szEs]; omega
        · rw [show ((c + 1 + szEs (e.kids.take 0) : Nat) : Int) = (c : Int) + 1 by simp [szEs]]
          exact HM.out
      go_loopw [71] (fun i wr => ∃ k : Nat, k ≤ e.kids.length ∧ i = .int .i64 k ∧ scanPre nv na d (c + 1) e.kids k = true ∧ Mem φ' (fun b => ¬ b = cb) w wr [.box cb [.int .i64 (c + 1 + szEs (e.kids.take k) : Nat)], .box w.heap.size [.slice a1 nv c1, .slice a2 na c2, v3], .box (w.heap.size + 1) [.int .i64 e.kind, .int .i64 e.value, .slice ak e.kids.length ck], .dat (fun w φ => KidsV w φ (.slice ak e.kids.length ck) e.kids)]) (fun i _ => e.kids.length - (intOf i).toNat)
      case atStart => exact ⟨0, Nat.zero_le _, rfl, HST.out.1, HST.out.2⟩
      case round =>
        clear HM
        obtain ⟨k, hk, rfl, hpre, M⟩ := hrel
        have HPRE := show Hid _ from hpre
        have hle : c + 1 + szEs (e.kids.take k) ≤ 15 := by unfold scanPre at hpre; simp at hpre; exact hpre.2
        clear hpre
        by_cases hlt : k < e.kids.length
        · have hncb : ¬ Fr φ' [.box cb [.int .i64 (c + 1 + szEs (e.kids.take k) : Nat)], .box w.heap.size [.slice a1 nv c1, .slice a2 na c2, v3], .box (w.heap.size + 1) [.int .i64 e.kind, .int .i64 e.value, .slice ak e.kids.length ck], .dat (fun w φ => KidsV w φ (.slice ak e.kids.length ck) e.kids)] cb := fun h => h.2 _ List.mem_cons_self rfl
          obtain ⟨a', c', he, -, -, -, hcell⟩ := (M.d 3 rfl).open
          cases he
          obtain ⟨b, off, kv, hbo, hbk, hf, g0, g1, g2, hkk⟩ := hcell k hlt
          cases hbo
          obtain ⟨ka, kc, rfl, -, -, -, -⟩ := hkk.open
          have bz : Below wr.heap.size wr (wr.alloc (.cells #[.int .i64 e.kids[k].kind, .int .i64 e.kids[k].value, .slice ka e.kids[k].kids.length kc] 58)) := by go_grown
          have HE := show Hid _ from KidsV.nice _ _ _ _ _ _ (Agr.below bz) hkk
          have HNCB := show Hid _ from hncb
          have x0 := M.c 1 0 rfl rfl
          have x1 := M.c 1 1 rfl rfl
          have x2 := M.c 1 2 rfl rfl
          have s1 : w.heap.size < wr.heap.size := M.lt (r := .box w.heap.size [.slice a1 nv c1, .slice a2 na c2, v3]) (List.mem_cons_of_mem _ List.mem_cons_self) rfl
          have HM := show Hid _ from M.box [.int .i64 e.kids[k].kind, .int .i64 e.kids[k].value, .slice ka e.kids[k].kids.length kc] 58
          have HP := show Hid _ from scanPre_succ nv na (d := d) (c := c + 1) hlt
          have HX := show Hid (scanB nv na d (c + 1 + szEs (e.kids.take k)) e.kids[k] = false → scanB nv na (d + 1) c e = false) from fun h => HSC.out.trans (scanPre_end hlt h)
          have HT := show Hid _ from szEs_take1 hlt
          clear hcell hncb bz hkk M
          go_wp2_with fail
          refine (ih (deep + 1) (by omega) (by omega) e.kids[k] _ _ (c + 1 + szEs (e.kids.take k)) cb _ ⟨_, rfl, HE.out⟩ HNCB.out (HM.out.blk 0 rfl) hle).mono ?_
          rintro x w2 ⟨rfl, r1, ⟨u, r2⟩, kp⟩
          obtain ⟨q, hq⟩ : ∃ q, q = scanB nv na d (c + 1 + szEs (e.kids.take k)) e.kids[k] := ⟨_, rfl⟩
          rw [← hq] at r1 ⊢
          have HQ2 := show Hid _ from hq
          clear hq x0 x1 x2 g0 g1 g2
          cases q
          · have M2 := HM.out.callB 0 rfl kp r2
            have HF := show Hid _ from HX.out HQ2.out.symm
            clear r1 r2 kp
            go_wp2_with fail
            go_ret
            exact ⟨ret_bool (by rw [HF.out]), fun h => absurd (h.symm.trans HF.out) (by simp), ⟨_, M2.blk 0 rfl⟩, M2.kept⟩
          · have M2 := (HM.out.callB 0 rfl kp (r1 rfl)).take 4
            have HM2 := show Hid _ from M2
            clear r1 r2 kp M2
            go_wp2_with fail
            refine ⟨⟨k + 1, by omega, by go_num, by rw [HP.out, HPRE.out, ← HQ2.out]; rfl, ?_⟩, by simp [intOf]; omega⟩
            rw [HT.out, show c + 1 + (szEs (e.kids.take k) + (1 + szE e.kids[k])) = c + 1 + szEs (e.kids.take k) + 1 + szE e.kids[k] by omega]
            exact HM2.out
        · have hkn : k = e.kids.length := by omega
          subst hkn
          have HM := show Hid _ from M
          have HS : Hid (scanB nv na (d + 1) c e = true) := HSC.out.trans HPRE.out
          clear M
          go_wp2_with fail
          go_ret
          refine ⟨ret_bool (by rw [HS.out]), fun _ => ?_, ⟨_, HM.out.blk 0 rfl⟩, HM.out.kept⟩
          have := HM.out.blk 0 rfl
          rw [List.take_of_length_le (Nat.le_refl _)] at this
          rw [szE_kids]
          exact this
    have k2' : (e.kind == 2) = false := by simp [k2]
    by_cases k3 : e.kind = 3
    · have qq1 : (e.kind == 3) = true := by simp [k3]
      have qq2 := k2'
      have HRD : Hid (e.kind = 3) := k3
      have hhi : (na : Int) - 1 = limit nv na e.kind - 1 := by rw [k3]; simp [limit]
      clear k1 k2 k3
      have HNB := show Hid (nodeB nv na e = (decide (0 ≤ e.value) && decide (e.value ≤ (na : Int) - 1))) from by
        unfold Hid nodeB; rw [decide_eq_true HQ.out.2, limit_high hhi]; rfl
      clear hhi
      go_wp2_with fail
      refine (impl_within e.value 0 _ _).mono ?_
      rintro x w1 ⟨rfl, rfl⟩
      have HNB2 := show Hid (nodeB nv na e = (decide (0 ≤ e.value) && decide (e.value ≤ (na : Int) - 1))) from HNB.out
      clear HNB
      obtain ⟨qn, hqn⟩ : ∃ qn, qn = (decide (0 ≤ e.value) && decide (e.value ≤ (na : Int) - 1)) := ⟨_, rfl⟩
      rw [← hqn]
      have HN := show Hid (nodeB nv na e = qn) from HNB2.out.trans hqn.symm
      clear hqn HNB2
      cases qn
      · have HF : Hid (scanB nv na (d + 1) c e = false) := scanB_noNode HN.out
        have M := HM.out
        clear HM
        go_wp2_with fail
        go_ret
        exact ⟨ret_bool (by rw [HF.out]), fun h => absurd (h.symm.trans HF.out) (by simp), ⟨_, M.blk 0 rfl⟩, M.kept⟩
      have hl1 : e.kids.length = 1 := by have := HQ.out.2; rw [HRD.out] at this; simp [arity] at this; omega
      have hpos : 0 < (e.kids.length : Int) := by omega
      obtain ⟨a', c', he, -, -, -, hcell⟩ := (HM.out.d 3 rfl).open
      have e1 : ak = a' := by cases he; rfl
      have e2 : ck = c' := by cases he; rfl
      subst e1 e2
      obtain ⟨b, off, kv, rfl, hbk, hf, g0, g1, g2, hkk⟩ := hcell 0 (by omega)
      simp only [Nat.zero_mul, Nat.add_zero] at g0 g1 g2
      have HR := show Hid _ from readB_get HRD.out (by omega)
      clear hcell hkk
      go_wp2_with fail
      refine (impl_isPlain _ _ _ _).mono ?_
      rintro x w2 ⟨rfl, b2⟩
      replace HM := show Hid _ from HM.out.call b2
      obtain ⟨qr, hqr⟩ : ∃ qr, qr = (decide ((e.kids[0]'(by omega)).kind = 1) || decide ((e.kids[0]'(by omega)).kind = 2)) := ⟨_, rfl⟩
      rw [← hqr]
      have HRR := show Hid (readB e = qr) from HR.out.trans hqr.symm
      clear hqr b2 HR g0 g1 g2
      cases qr
      · have HF : Hid (scanB nv na (d + 1) c e = false) := scanB_noRead HRR.out
        have M := HM.out
        clear HM
        go_wp2_with fail
        go_ret
        exact ⟨ret_bool (by rw [HF.out]), fun h => absurd (h.symm.trans HF.out) (by simp), ⟨_, M.blk 0 rfl⟩, M.kept⟩
      clear y0 y1 y2 y3 y4
      have y4 := HM.out.c 2 2 rfl rfl
      have HSC : Hid (scanB nv na (d + 1) c e = scanPre nv na d (c + 1) e.kids e.kids.length) := scanB_node HN.out HRR.out
      go_wp2_with fail
      clear y4
      have HST : Hid (scanPre nv na d (c + 1) e.kids 0 = true ∧ Mem φ' (fun b => ¬ b = cb) w w2 [.box cb [.int .i64 (c + 1 + szEs (e.kids.take 0) : Nat)], .box w.heap.size [.slice a1 nv c1, .slice a2 na c2, v3], .box (w.heap.size + 1) [.int .i64 e.kind, .int .i64 e.value, .slice (some ⟨b, off, none⟩) e.kids.length ck], .dat (fun w φ => KidsV w φ (.slice (some ⟨b, off, none⟩) e.kids.length ck) e.kids)]) := by
        refine ⟨?_, ?_⟩
        · have := HQ.out.1
          simp [scanPre, szEs]; omega
        · rw [show ((c + 1 + szEs (e.kids.take 0) : Nat) : Int) = (c : Int) + 1 by simp [szEs]]
          exact HM.out
      go_loopw [71] (fun i wr => ∃ k : Nat, k ≤ e.kids.length ∧ i = .int .i64 k ∧ scanPre nv na d (c + 1) e.kids k = true ∧ Mem φ' (fun b => ¬ b = cb) w wr [.box cb [.int .i64 (c + 1 + szEs (e.kids.take k) : Nat)], .box w.heap.size [.slice a1 nv c1, .slice a2 na c2, v3], .box (w.heap.size + 1) [.int .i64 e.kind, .int .i64 e.value, .slice (some ⟨b, off, none⟩) e.kids.length ck], .dat (fun w φ => KidsV w φ (.slice (some ⟨b, off, none⟩) e.kids.length ck) e.kids)]) (fun i _ => e.kids.length - (intOf i).toNat)
      case atStart => exact ⟨0, Nat.zero_le _, rfl, HST.out.1, HST.out.2⟩
      case round =>
        clear HM
        obtain ⟨k, hk, rfl, hpre, M⟩ := hrel
        have HPRE := show Hid _ from hpre
        have hle : c + 1 + szEs (e.kids.take k) ≤ 15 := by unfold scanPre at hpre; simp at hpre; exact hpre.2
        clear hpre
        by_cases hlt : k < e.kids.length
        · have hncb : ¬ Fr φ' [.box cb [.int .i64 (c + 1 + szEs (e.kids.take k) : Nat)], .box w.heap.size [.slice a1 nv c1, .slice a2 na c2, v3], .box (w.heap.size + 1) [.int .i64 e.kind, .int .i64 e.value, .slice (some ⟨b, off, none⟩) e.kids.length ck], .dat (fun w φ => KidsV w φ (.slice (some ⟨b, off, none⟩) e.kids.length ck) e.kids)] cb := fun h => h.2 _ List.mem_cons_self rfl
          obtain ⟨a', c', he, -, -, -, hcell⟩ := (M.d 3 rfl).open
          cases he
          obtain ⟨b, off, kv, hbo, hbk, hf, g0, g1, g2, hkk⟩ := hcell k hlt
          cases hbo
          obtain ⟨ka, kc, rfl, -, -, -, -⟩ := hkk.open
          have bz : Below wr.heap.size wr (wr.alloc (.cells #[.int .i64 e.kids[k].kind, .int .i64 e.kids[k].value, .slice ka e.kids[k].kids.length kc] 58)) := by go_grown
          have HE := show Hid _ from KidsV.nice _ _ _ _ _ _ (Agr.below bz) hkk
          have HNCB := show Hid _ from hncb
          have x0 := M.c 1 0 rfl rfl
          have x1 := M.c 1 1 rfl rfl
          have x2 := M.c 1 2 rfl rfl
          have s1 : w.heap.size < wr.heap.size := M.lt (r := .box w.heap.size [.slice a1 nv c1, .slice a2 na c2, v3]) (List.mem_cons_of_mem _ List.mem_cons_self) rfl
          have HM := show Hid _ from M.box [.int .i64 e.kids[k].kind, .int .i64 e.kids[k].value, .slice ka e.kids[k].kids.length kc] 58
          have HP := show Hid _ from scanPre_succ nv na (d := d) (c := c + 1) hlt
          have HX := show Hid (scanB nv na d (c + 1 + szEs (e.kids.take k)) e.kids[k] = false → scanB nv na (d + 1) c e = false) from fun h => HSC.out.trans (scanPre_end hlt h)
          have HT := show Hid _ from szEs_take1 hlt
          clear hcell hncb bz hkk M
          go_wp2_with fail
          refine (ih (deep + 1) (by omega) (by omega) e.kids[k] _ _ (c + 1 + szEs (e.kids.take k)) cb _ ⟨_, rfl, HE.out⟩ HNCB.out (HM.out.blk 0 rfl) hle).mono ?_
          rintro x w2 ⟨rfl, r1, ⟨u, r2⟩, kp⟩
          obtain ⟨q, hq⟩ : ∃ q, q = scanB nv na d (c + 1 + szEs (e.kids.take k)) e.kids[k] := ⟨_, rfl⟩
          rw [← hq] at r1 ⊢
          have HQ2 := show Hid _ from hq
          clear hq x0 x1 x2 g0 g1 g2
          cases q
          · have M2 := HM.out.callB 0 rfl kp r2
            have HF := show Hid _ from HX.out HQ2.out.symm
            clear r1 r2 kp
            go_wp2_with fail
            go_ret
            exact ⟨ret_bool (by rw [HF.out]), fun h => absurd (h.symm.trans HF.out) (by simp), ⟨_, M2.blk 0 rfl⟩, M2.kept⟩
          · have M2 := (HM.out.callB 0 rfl kp (r1 rfl)).take 4
            have HM2 := show Hid _ from M2
            clear r1 r2 kp M2
            go_wp2_with fail
            refine ⟨⟨k + 1, by omega, by go_num, by rw [HP.out, HPRE.out, ← HQ2.out]; rfl, ?_⟩, by simp [intOf]; omega⟩
            rw [HT.out, show c + 1 + (szEs (e.kids.take k) + (1 + szE e.kids[k])) = c + 1 + szEs (e.kids.take k) + 1 + szE e.kids[k] by omega]
            exact HM2.out
        · have hkn : k = e.kids.length := by omega
          subst hkn
          have HM := show Hid _ from M
          have HS : Hid (scanB nv na (d + 1) c e = true) := HSC.out.trans HPRE.out
          clear M
          go_wp2_with fail
          go_ret
          refine ⟨ret_bool (by rw [HS.out]), fun _ => ?_, ⟨_, HM.out.blk 0 rfl⟩, HM.out.kept⟩
          have := HM.out.blk 0 rfl
          rw [List.take_of_length_le (Nat.le_refl _)] at this
          rw [szE_kids]
          exact this
    have qq1 : (e.kind == 3) = false := by simp [k3]
    have qq2 := qq1
    have HRD : Hid (readB e = true) := by unfold Hid readB; simp [k3]
    have hhi : (0 : Int) = limit nv na e.kind - 1 := by unfold limit; rw [if_neg k1, if_neg k2, if_neg k3]; rfl
    clear k1 k2 k3
    have HNB := show Hid (nodeB nv na e = (decide (0 ≤ e.value) && decide (e.value ≤ 0))) from by
      unfold Hid nodeB; rw [decide_eq_true HQ.out.2, limit_high hhi]; rfl
    clear hhi
    go_wp2_with fail
    refine (impl_within e.value 0 _ _).mono ?_
    rintro x w1 ⟨rfl, rfl⟩
    have HNB2 := show Hid (nodeB nv na e = (decide (0 ≤ e.value) && decide (e.value ≤ 0))) from HNB.out
    clear HNB
    obtain ⟨qn, hqn⟩ : ∃ qn, qn = (decide (0 ≤ e.value) && decide (e.value ≤ 0)) := ⟨_, rfl⟩
    rw [← hqn]
    have HN := show Hid (nodeB nv na e = qn) from HNB2.out.trans hqn.symm
    clear hqn HNB2
    cases qn
    · have HF : Hid (scanB nv na (d + 1) c e = false) := scanB_noNode HN.out
      have M := HM.out
      clear HM
      go_wp2_with fail
      go_ret
      exact ⟨ret_bool (by rw [HF.out]), fun h => absurd (h.symm.trans HF.out) (by simp), ⟨_, M.blk 0 rfl⟩, M.kept⟩
    have HSC : Hid (scanB nv na (d + 1) c e = scanPre nv na d (c + 1) e.kids e.kids.length) := scanB_node HN.out HRD.out
    go_wp2_with fail
    clear y0 y1 y2 y3 y4
    have HST : Hid (scanPre nv na d (c + 1) e.kids 0 = true ∧ Mem φ' (fun b => ¬ b = cb) w W1 [.box cb [.int .i64 (c + 1 + szEs (e.kids.take 0) : Nat)], .box w.heap.size [.slice a1 nv c1, .slice a2 na c2, v3], .box (w.heap.size + 1) [.int .i64 e.kind, .int .i64 e.value, .slice ak e.kids.length ck], .dat (fun w φ => KidsV w φ (.slice ak e.kids.length ck) e.kids)]) := by
      refine ⟨?_, ?_⟩
      · have := HQ.out.1
        simp [scanPre, szEs]; omega
      · rw [show ((c + 1 + szEs (e.kids.take 0) : Nat) : Int) = (c : Int) + 1 by simp [szEs]]
        exact HM.out
    go_loopw [71] (fun i wr => ∃ k : Nat, k ≤ e.kids.length ∧ i = .int .i64 k ∧ scanPre nv na d (c + 1) e.kids k = true ∧ Mem φ' (fun b => ¬ b = cb) w wr [.box cb [.int .i64 (c + 1 + szEs (e.kids.take k) : Nat)], .box w.heap.size [.slice a1 nv c1, .slice a2 na c2, v3], .box (w.heap.size + 1) [.int .i64 e.kind, .int .i64 e.value, .slice ak e.kids.length ck], .dat (fun w φ => KidsV w φ (.slice ak e.kids.length ck) e.kids)]) (fun i _ => e.kids.length - (intOf i).toNat)
    case atStart => exact ⟨0, Nat.zero_le _, rfl, HST.out.1, HST.out.2⟩
    case round =>
      clear HM
      obtain ⟨k, hk, rfl, hpre, M⟩ := hrel
      have HPRE := show Hid _ from hpre
      have hle : c + 1 + szEs (e.kids.take k) ≤ 15 := by unfold scanPre at hpre; simp at hpre; exact hpre.2
      clear hpre
      by_cases hlt : k < e.kids.length
      · have hncb : ¬ Fr φ' [.box cb [.int .i64 (c + 1 + szEs (e.kids.take k) : Nat)], .box w.heap.size [.slice a1 nv c1, .slice a2 na c2, v3], .box (w.heap.size + 1) [.int .i64 e.kind, .int .i64 e.value, .slice ak e.kids.length ck], .dat (fun w φ => KidsV w φ (.slice ak e.kids.length ck) e.kids)] cb := fun h => h.2 _ List.mem_cons_self rfl
        obtain ⟨a', c', he, -, -, -, hcell⟩ := (M.d 3 rfl).open
        cases he
        obtain ⟨b, off, kv, hbo, hbk, hf, g0, g1, g2, hkk⟩ := hcell k hlt
        cases hbo
        obtain ⟨ka, kc, rfl, -, -, -, -⟩ := hkk.open
        have bz : Below wr.heap.size wr (wr.alloc (.cells #[.int .i64 e.kids[k].kind, .int .i64 e.kids[k].value, .slice ka e.kids[k].kids.length kc] 58)) := by go_grown
        have HE := show Hid _ from KidsV.nice _ _ _ _ _ _ (Agr.below bz) hkk
        have HNCB := show Hid _ from hncb
        have x0 := M.c 1 0 rfl rfl
        have x1 := M.c 1 1 rfl rfl
        have x2 := M.c 1 2 rfl rfl
        have s1 : w.heap.size < wr.heap.size := M.lt (r := .box w.heap.size [.slice a1 nv c1, .slice a2 na c2, v3]) (List.mem_cons_of_mem _ List.mem_cons_self) rfl
        have HM := show Hid _ from M.box [.int .i64 e.kids[k].kind, .int .i64 e.kids[k].value, .slice ka e.kids[k].kids.length kc] 58
        have HP := show Hid _ from scanPre_succ nv na (d := d) (c := c + 1) hlt
        have HX := show Hid (scanB nv na d (c + 1 + szEs (e.kids.take k)) e.kids[k] = false → scanB nv na (d + 1) c e = false) from fun h => HSC.out.trans (scanPre_end hlt h)
        have HT := show Hid _ from szEs_take1 hlt
        clear hcell hncb bz hkk M
        go_wp2_with fail
        refine (ih (deep + 1) (by omega) (by omega) e.kids[k] _ _ (c + 1 + szEs (e.kids.take k)) cb _ ⟨_, rfl, HE.out⟩ HNCB.out (HM.out.blk 0 rfl) hle).mono ?_
        rintro x w2 ⟨rfl, r1, ⟨u, r2⟩, kp⟩
        obtain ⟨q, hq⟩ : ∃ q, q = scanB nv na d (c + 1 + szEs (e.kids.take k)) e.kids[k] := ⟨_, rfl⟩
        rw [← hq] at r1 ⊢
        have HQ2 := show Hid _ from hq
        clear hq x0 x1 x2 g0 g1 g2
        cases q
        · have M2 := HM.out.callB 0 rfl kp r2
          have HF := show Hid _ from HX.out HQ2.out.symm
          clear r1 r2 kp
          go_wp2_with fail
          go_ret
          exact ⟨ret_bool (by rw [HF.out]), fun h => absurd (h.symm.trans HF.out) (by simp), ⟨_, M2.blk 0 rfl⟩, M2.kept⟩
        · have M2 := (HM.out.callB 0 rfl kp (r1 rfl)).take 4
          have HM2 := show Hid _ from M2
          clear r1 r2 kp M2
          go_wp2_with fail
          refine ⟨⟨k + 1, by omega, by go_num, by rw [HP.out, HPRE.out, ← HQ2.out]; rfl, ?_⟩, by simp [intOf]; omega⟩
          rw [HT.out, show c + 1 + (szEs (e.kids.take k) + (1 + szE e.kids[k])) = c + 1 + szEs (e.kids.take k) + 1 + szE e.kids[k] by omega]
          exact HM2.out
      · have hkn : k = e.kids.length := by omega
        subst hkn
        have HM := show Hid _ from M
        have HS : Hid (scanB nv na (d + 1) c e = true) := HSC.out.trans HPRE.out
        clear M
        go_wp2_with fail
        go_ret
        refine ⟨ret_bool (by rw [HS.out]), fun _ => ?_, ⟨_, HM.out.blk 0 rfl⟩, HM.out.kept⟩
        have := HM.out.blk 0 rfl
        rw [List.take_of_length_le (Nat.le_refl _)] at this
        rw [szE_kids]
        exact this


theorem scan_right (nv na : Nat) (e : LExpr) : scanB nv na 5 0 e = rightB nv na e := by
  have h : (0 + 1 + szE e ≤ 15) = (1 + szE e ≤ 15) := by rw [Nat.zero_add]
  unfold scanB rightB
  simp only [h]

set_option maxHeartbeats 1000000 in
theorem impl_expr (a1 a2 : Option Addr) (nv c1 na c2 : Nat) (v3 : Value) (h1 : nv ≤ 9223372036854775807) (h2 : na ≤ 9223372036854775807) (e : LExpr) (φ : Nat → Prop) (v : Value) (w : World) (h : ExprV w φ v e) :
    Calls Try.prog 145 #[.agg #[.slice a1 nv c1, .slice a2 na c2, v3], v] w fun x w' => x = .returned (.bool (rightB nv na e)) ∧ Below w.heap.size w w' := by
  obtain ⟨kv, rfl, hk⟩ := h
  obtain ⟨W, hW, M⟩ : ∃ W, W = ((w.alloc (.cells #[.slice a1 nv c1, .slice a2 na c2, v3] 31)).alloc (.cells #[.int .i64 e.kind, .int .i64 e.value, kv] 58)).alloc (.cells #[.int .i64 0] 3) ∧ Mem (fun _ => True) (fun _ => True) w W [.box w.heap.size [.slice a1 nv c1, .slice a2 na c2, v3], .box (w.heap.size + 1) [.int .i64 e.kind, .int .i64 e.value, kv], .box (w.heap.size + 1 + 1) [.int .i64 0]] :=
    ⟨_, rfl, (((Mem.start fun _ _ => trivial).box _ _).box' _ _ (by simp)).box' _ _ (by simp)⟩
  have hb := M.below fun _ _ => trivial
  have HK := show Hid _ from KidsV.nice _ _ _ _ φ (fun b => φ b ∧ b < w.heap.size) ⟨hb.size, fun b hl hf => ⟨⟨hf, hl⟩, hb.block b hl⟩⟩ hk
  clear hb hk
  have x0 := M.c 0 0 rfl rfl
  have x1 := M.c 0 1 rfl rfl
  have x2 := M.c 0 2 rfl rfl
  have y0 := M.c 1 0 rfl rfl
  have y1 := M.c 1 1 rfl rfl
  have y2 := M.c 1 2 rfl rfl
  have HM := show Hid _ from M
  rw [hW] at x0 x1 x2 y0 y1 y2
  clear M
  go_enter Try.func145, Try.ntmps145
  go_wp2_with fail
  rw [← hW]
  clear hW x0 x1 x2 y0 y1 y2
  refine (impl_scan a1 a2 nv c1 na c2 v3 h1 h2 5 1 (by omega) (by omega) e _ _ 0 _ _ ⟨kv, rfl, HK.out⟩ (fun h => by have := h.2; omega) (HM.out.blk 2 rfl) (by omega)).mono ?_
  rintro x w1 ⟨rfl, -, ⟨u, r2⟩, kp⟩
  rw [scan_right]
  have M := HM.out.callB 2 rfl kp r2
  have HB := show Hid _ from M.below fun _ _ => trivial
  clear kp r2 M
  go_wp2_with fail
  go_ret
  exact ⟨rfl, HB.out⟩

end Go.Proofs.Ytimmlkmpbmbgdaa
