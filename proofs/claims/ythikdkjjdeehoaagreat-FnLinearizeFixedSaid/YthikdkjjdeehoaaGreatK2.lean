/-
  Texts of this claim, part 2: what the functions on the way do, and plain laws. Conditions: as each statement says.
-/
import Derived.Deep.LoopGhost
import Derived.IntWalk
import Derived.Test.YthikdkjjdeehoaaGreatK1
set_option maxRecDepth 100000
set_option maxHeartbeats 16000000
open Bool renaming and_eq_true → b86, not_eq_true' → b95
open List renaming all_eq_true → b93, eq_nil_of_length_eq_zero → ca0, getD_eq_getElem?_getD → b91, getElem?_append_left → ca9, getElem?_append_right → cc6, getElem?_eq_getElem → b90, getElem?_eq_none → cb5, getElem?_eq_some_iff → b98, getElem_mem → cb0, length_append → b88, length_cons → b87, map_cons → cb9, mem_append → ca2, mem_cons → cb7, mem_cons_of_mem → ca8, mem_cons_self → ca1, mem_of_getElem? → cb4, range → cb2, replicate → cb3, take_of_length_le → ca3
open Nat renaming le_refl → b99, le_trans → ca7, lt_or_ge → cc0, mul_le_mul_right → cc2, succ_mul → cb8, zero_add → cc3, zero_le → cc1
open Option renaming isSome_iff_exists → cc4, map_eq_some_iff → b92
open True renaming intro → b94

namespace Go.Proofs.YthikdkjjdeehoaaGreat
set_option linter.unusedVariables false
set_option linter.unusedSimpArgs false
open Go Go.RowKit
section
variable {P : Program} {ι : Type} {φ ψ : Nat → Prop} {w0 w w' : World} {F : ι → Rs} {ρ : Nat → Value} {S : Nat → It}
theorem m5.eat {L L' : ι → Rs} (M : m5 φ ψ w0 w L) (K : ι → Prop) (i : ι) (ho : ∀ j, j ≠ i → ¬ K j → L' j = L j) (hK : ∀ j, j ≠ i → K j → L' j = Rs.none) (hi : K i ∨ ∀ b, ¬ (L i).blk b)
  (hk : B8 (fun b => ¬ ∃ j, K j ∧ (L j).blk b) w w') (h : (L' i).holds w' (FrF φ L')) (hg : ∀ g, (L' i).blk g → (∃ j, K j ∧ (L j).blk g) ∨ w.heap.size ≤ g) : m5 φ ψ w0 w' L' := by
 have old : ∀ j b, j ≠ i → (L' j).blk b → ¬ K j ∧ (L j).blk b := fun j b hj hb => by
  by_cases e : K j
  ·rw [hK j hj e] at hb; exact hb.elim
  ·rw [ho j hj e] at hb; exact ⟨e, hb⟩
 have hfr : ∀ b, b < w.heap.size → FrF φ L b → FrF φ L' b := fun b hb hf => ⟨hf.1, fun j hj => by
  by_cases e : j = i
  ·subst e
   rcases hg b hj with ⟨k, _, h2⟩ | h2
   ·exact hf.2 k h2
   ·omega
  ·exact hf.2 j (old j b e hj).2⟩
 refine ⟨⟨hk.os.trans M.kept.os, hk.tape.trans M.kept.tape, hk.output.trans M.kept.output, ca7 M.size hk.size, fun b hb hp => (hk.block b (Nat.lt_of_lt_of_le hb M.size) ?_).trans (M.kept.block b hb hp)⟩, M.fresh, fun j => ?_, fun j k g hjk hj hk' => ?_, fun j b hj => ?_, fun j b hj => ?_⟩
 ·rintro ⟨j, _, hj⟩
  rcases M.ge j b hj with h' | h'
  ·omega
  ·exact h' hp
 ·by_cases e : j = i
  ·subst e; exact h
  ·by_cases e2 : K j
   ·rw [hK j e e2]; exact Rs.none_holds _ _
   ·rw [ho j e e2]
    refine Rs.keep (M.holds j) ⟨hk.size, fun b hb hf => ⟨hfr b hb hf, hk.block b hb ?_⟩⟩ fun g hgx => hk.block g (M.lt hgx) ?_
    ·rintro ⟨k, _, h2⟩; exact hf.2 k h2
    ·rintro ⟨k, h1, h2⟩
     exact M.dis j k g (fun h => e2 (h ▸ h1)) hgx h2
 ·by_cases e : j = i
  ·subst e
   obtain ⟨n2, h2⟩ := old k g (fun h => hjk h.symm) hk'
   rcases hg g hj with ⟨q, h3, h4⟩ | h3
   ·exact M.dis q k g (fun h => n2 (h ▸ h3)) h4 h2
   ·have := M.lt h2; omega
  ·obtain ⟨n1, h1⟩ := old j g e hj
   by_cases e' : k = i
   ·subst e'
    rcases hg g hk' with ⟨q, h3, h4⟩ | h3
    ·exact M.dis j q g (fun h => n1 (h ▸ h3)) h1 h4
    ·have := M.lt h1; omega
   ·exact M.dis j k g hjk h1 (old k g e' hk').2
 ·by_cases e : j = i
  ·subst e
   rcases hg b hj with ⟨k, _, h2⟩ | h2
   ·exact M.ge k b h2
   ·exact .inl (ca7 M.size h2)
  ·exact M.ge j b (old j b e hj).2
 ·by_cases e : j = i
  ·subst e
   rcases hg b hj with ⟨k, _, h2⟩ | h2
   ·exact M.ph k b h2
   ·exact M.fresh b (ca7 M.size h2)
  ·exact M.ph j b (old j b e hj).2
def Bk (S : Nat → It) (ρ : Nat → Value) (ids : List Nat) (b : Nat) : Prop := ∃ j ∈ ids, ((S j).res ρ j).blk b
theorem aw5 (S : Nat → It) (j : Nat) : ∀ (ids : List Nat), o7 S (ids.map fun i => (i, It.dead)) j = if j ∈ ids then It.dead else S j
 | [] => rfl
 | a :: r => by
  simp only [cb9, o7, cb7]
  rw [aw5 S j r]
  by_cases e : j = a
  ·simp [e]
  ·simp [e]
theorem m5.graft (M : m5 φ ψ w0 w (p7 F ρ S)) {id : Nat} {ids : List Nat} {d : D} {v : Value} {T : Nat → Prop} (hS : S id = .none) (hid : id ∉ ids) (hi : Inv S ρ [id]) (hk : B8 (fun b => ¬ Bk S ρ ids b) w w') (hT : E3 w' T d v) (hg : ∀ b, T b → Bk S ρ ids b ∨ w.heap.size ≤ b) :
  ∃ ρ', C0 [id] ρ ρ' ∧ m5 φ ψ w0 w' (p7 F ρ' (o7 S ((id, .tree d) :: ids.map fun j => (j, .dead)))) ∧ v = E7 (ρ' id) := by
 obtain ⟨x, hx1, hx2⟩ := aK4 v (fun b => T b ∧ b < w'.heap.size) w'.heap.size fun b h => h.2
 have ha : C0 [id] ρ (fun j => if j = id then x else ρ j) := fun j hj => by
  have : j ≠ id := by simpa using hj
  simp [this]
 refine ⟨_, ha, ?_, by simp [hx1]⟩
 refine M.eat (fun k => ∃ j ∈ ids, k = .inr j) (.inr id) (fun k hk1 hk2 => ?_) (fun k hk1 hk2 => ?_) (.inr fun b hb => by simp only [p7, hS, It.res] at hb; exact hb) ?_ ?_ fun g hg' => ?_
 ·cases k with
  | inl i => rfl
  | inr j =>
   have h1 : j ≠ id := fun e => hk1 (by rw [e])
   have h2 : j ∉ ids := fun e => hk2 ⟨j, e, rfl⟩
   simp only [p7, o7, if_neg h1]
   rw [aw5, if_neg h2]
   exact hi _ ha j
 ·obtain ⟨j, hj, rfl⟩ := hk2
  have h1 : j ≠ id := fun e => hk1 (by rw [e])
  simp only [p7, o7, if_neg h1]
  rw [aw5, if_pos hj]; rfl
 ·refine ⟨hk.os, hk.tape, hk.output, hk.size, fun b hb hn => hk.block b hb fun ⟨j, h1, h2⟩ => hn ⟨.inr j, ⟨j, h1, rfl⟩, h2⟩⟩
 ·simp only [p7, o7, if_true, It.res]
  have e : H8 x = fun b => T b ∧ b < w'.heap.size := funext fun b => propext (hx2 b)
  rw [hx1, e]
  exact ⟨fun _ _ h hs => h.same hs, hT.cut, fun b hb => hb.2⟩
 ·simp only [p7, o7, if_true, It.res] at hg'
  have h1 := (hx2 g).1 hg'
  rcases hg g h1.1 with ⟨j, h2, h3⟩ | h2
  ·exact .inl ⟨.inr j, ⟨j, h2, rfl⟩, h3⟩
  ·exact .inr h2
def aq1 (S : Nat → It) : AV → Option (List b5 × List Nat)
 | .tref id => match S id with
  | .tree (.exprs l) => some (l, [id])
  | _ => none
 | .v (.slice none 0 0) => some ([], [])
 | _ => none
def aw7 (S : Nat → It) : AV → Option (List b6 × List Nat)
 | .tref id => match S id with
  | .tree (.stmts l) => some (l, [id])
  | _ => none
 | .v (.slice none 0 0) => some ([], [])
 | _ => none
def a35 (S : Nat → It) : AV → Option (List Int × List Nat)
 | .ref id => match S id with
  | .row e (.ints l) => if natEq e 3 then some (l, [id]) else none
  | _ => none
 | .v (.slice none 0 0) => some ([], [])
 | _ => none
def bx6 (S : Nat → It) (k : Nat) (l : List AV) : Option (D × List Nat) :=
 match k, l with
 | 9, [.v (.int .i64 a), .v (.int .i64 b), x] => (aq1 S x).map fun r => (.exprs [⟨a, b, r.1⟩], r.2)
 | 10, [.v (.int .i64 a), .v (.int .i64 b), .v (.int .i64 c), .v (.int .i64 d), x, .v (.int .i64 e), .v (.int .i64 f), y, .v (.int .i64 g), z, u] =>
  match aq1 S x, aq1 S y, aw7 S z, aw7 S u with
  | some x, some y, some z, some u => some (.stmts [⟨a, b, ⟨c, d, x.1⟩, ⟨e, f, y.1⟩, g, z.1, u.1⟩], x.2 ++ (y.2 ++ (z.2 ++ u.2)))
  | _, _, _, _ => none
 | 7, [x] => (a35 S x).map fun r => (.rows [r.1], r.2)
 | _, _ => none
theorem bA3 (w : World) (T : Nat → Prop) : G0 w (.slice none 0 0) [] T := ⟨[], fun _ => False, World.ownsRow_nil _ _ _ _, (fun g hg => by cases hg), fun _ h => h.elim, rfl⟩
theorem br4 (w : World) (T : Nat → Prop) : H9 w (.slice none 0 0) [] T := ⟨[], fun _ => False, World.ownsRow_nil _ _ _ _, (fun g hg => by cases hg), fun _ h => h.elim, rfl⟩
theorem ax8 (M : m5 φ ψ w0 w (p7 F ρ S)) {x : AV} {l : List b5} {ids : List Nat} (h : aq1 S x = some (l, ids)) : G0 w (x.val ρ) l (Bk S ρ ids) := by
 unfold aq1 at h
 split at h <;> first | cases h | skip
 ·rename_i id
  split at h <;> first | cases h | skip
  rename_i hS
  have h1 := (M.treeAt (id := id) (d := .exprs l) (by rw [hS]; rfl)).1
  exact (E3.kids.1 h1).mono fun b hb => ⟨id, by simp, by rw [hS]; exact hb⟩
 ·exact bA3 _ _
theorem aO9 (M : m5 φ ψ w0 w (p7 F ρ S)) {x : AV} {l : List b6} {ids : List Nat} (h : aw7 S x = some (l, ids)) : H9 w (x.val ρ) l (Bk S ρ ids) := by
 unfold aw7 at h
 split at h <;> first | cases h | skip
 ·rename_i id
  split at h <;> first | cases h | skip
  rename_i hS
  have h1 := (M.treeAt (id := id) (d := .stmts l) (by rw [hS]; rfl)).1
  exact (E3.block.1 h1).mono fun b hb => ⟨id, by simp, by rw [hS]; exact hb⟩
 ·exact br4 _ _
theorem bH4 {φ : Nat → Prop} {l : List Int} {xs : List Value} (hl : xs.length = l.length) (h : RW w φ (.ints l) xs) : xs = ints l := by
 apply List.ext_getElem?
 intro j
 by_cases hj : j < l.length
 ·obtain ⟨u, h1, h2⟩ := h j hj 0 _ rfl
  simp only [D.sz, Nat.mul_one, Nat.add_zero] at h1
  rw [h1, show u = _ from h2]
  simp [ints, hj]
 ·rw [cb5 (by omega), cb5 (by simp [ints]; omega)]
theorem bA9 (M : m5 φ ψ w0 w (p7 F ρ S)) {x : AV} {l : List Int} {ids : List Nat} (h : a35 S x = some (l, ids)) : w.ownsRow 0 3 1 (x.val ρ) l.length (ints l) ∧ ∀ g, (x.val ρ).ownBlock = some g → Bk S ρ ids g := by
 unfold a35 at h
 split at h <;> first | cases h | skip
 ·rename_i id
  split at h <;> first | cases h | skip
  rename_i e l' hS
  split at h <;> first | cases h | skip
  rename_i he
  have he' : e = 3 := by simpa [natEq] using he
  subst he'
  obtain ⟨xs, h1, h2⟩ := M.rowAt hS
  have h3 : xs.length = l.length := by have := h1.1; simpa [D.len, D.sz] using this
  rw [bH4 h3 h2] at h1
  exact ⟨h1, fun g hg => ⟨id, by simp, by rw [hS]; exact hg⟩⟩
 ·exact ⟨World.ownsRow_nil _ _ _ _, fun g hg => by cases hg⟩
theorem ay8 (M : m5 φ ψ w0 w (p7 F ρ S)) {a b : List Nat} (h : ∀ x ∈ a, x ∉ b) {g : Nat} (h1 : Bk S ρ a g) : ¬ Bk S ρ b g := by
 rintro ⟨j, hj, hb⟩
 obtain ⟨i, hi, ha⟩ := h1
 exact M.dis (.inr i) (.inr j) g (fun e => h i hi (by cases e; exact hj)) ha hb
theorem bH9 (M : m5 φ ψ w0 w (p7 F ρ S)) {k : Nat} {l : List AV} {d : D} {ids : List Nat} (h : bx6 S k l = some (d, ids)) (hn : ids.Nodup) : d.len = 1 ∧ d.sz = l.length ∧ N7 w d (Bk S ρ ids) (AV.vals ρ l) := by
 unfold bx6 at h
 split at h <;> first | cases h | skip
 ·rename_i a b x
  obtain ⟨r, h1, h2⟩ := b92.1 h
  cases h2
  refine ⟨rfl, rfl, ?_⟩
  simp only [N7]
  exact ⟨_, [], Bk S ρ r.2, fun _ => False, (List.append_nil _).symm, fun b hb => ⟨hb, fun h => h⟩, fun b hb => hb.elim, (C8.iff _ _ _).2 ⟨_, rfl, ax8 M h1⟩, rfl⟩
 ·rename_i a b c d x e f y g z u
  split at h <;> first | cases h | skip
  rename_i rx ry rz ru hx hy hz hu
  refine ⟨rfl, rfl, ?_⟩
  simp only [List.nodup_append, ca2] at hn
  obtain ⟨-, ⟨-, ⟨-, -, n3⟩, n2⟩, n1⟩ := hn
  have d1 : ∀ q ∈ rx.2, q ∉ ry.2 := fun q h1 h2 => n1 q h1 q (.inl h2) rfl
  have d2 : ∀ q ∈ rx.2, q ∉ rz.2 := fun q h1 h2 => n1 q h1 q (.inr (.inl h2)) rfl
  have d3 : ∀ q ∈ rx.2, q ∉ ru.2 := fun q h1 h2 => n1 q h1 q (.inr (.inr h2)) rfl
  have d4 : ∀ q ∈ ry.2, q ∉ rz.2 := fun q h1 h2 => n2 q h1 q (.inl h2) rfl
  have d5 : ∀ q ∈ ry.2, q ∉ ru.2 := fun q h1 h2 => n2 q h1 q (.inr h2) rfl
  have d6 : ∀ q ∈ rz.2, q ∉ ru.2 := fun q h1 h2 => n3 q h1 q h2 rfl
  have up : ∀ (s : List Nat), (∀ q ∈ s, q ∈ rx.2 ++ (ry.2 ++ (rz.2 ++ ru.2))) → ∀ b, Bk S ρ s b → Bk S ρ (rx.2 ++ (ry.2 ++ (rz.2 ++ ru.2))) b := fun s hs b ⟨j, h1, h2⟩ => ⟨j, hs j h1, h2⟩
  simp only [N7]
  refine ⟨_, [], Bk S ρ (rx.2 ++ (ry.2 ++ (rz.2 ++ ru.2))), fun _ => False, (List.append_nil _).symm, fun b hb => ⟨hb, fun h => h⟩, fun b hb => hb.elim, (E4.iff _ _ _).2 ⟨_, _, _, _, Bk S ρ rx.2, Bk S ρ ry.2, Bk S ρ rz.2, Bk S ρ ru.2, rfl, ⟨fun b hb => ⟨up _ (fun q hq => by simp [hq]) b hb, ay8 M d1 hb, ay8 M d2 hb, ay8 M d3 hb⟩, fun b hb => ⟨up _ (fun q hq => by simp [hq]) b hb, ay8 M d4 hb, ay8 M d5 hb⟩, fun b hb => ⟨up _ (fun q hq => by simp [hq]) b hb, ay8 M d6 hb⟩, fun b hb => up _ (fun q hq => by simp [hq]) b hb⟩, ax8 M hx, ax8 M hy, aO9 M hz, aO9 M hu⟩, rfl⟩
 ·rename_i x
  obtain ⟨r, h1, h2⟩ := b92.1 h
  cases h2
  obtain ⟨k1, k2⟩ := bA9 M h1
  refine ⟨rfl, rfl, ?_⟩
  simp only [N7]
  exact ⟨_, [], fun _ => False, rfl, k1, fun g hg => ⟨k2 g hg, fun h => h⟩, fun b hb => hb.elim, rfl⟩
def aw6 (d : D) (el : TypeId) : Bool := match am7 d with
 | some e => natEq e el
 | none => false
theorem U7 {d : D} {el : TypeId} (h : aw6 d el = true) : am7 d = some el := by
 unfold aw6 at h
 split at h
 ·rename_i e he; rw [he, show e = el by simpa [natEq] using h]
 ·cases h
def ab5 (P : Program) (dk : TypeId → Nat) (e : Operand → Option AV) (S : Nat → It) (id : Nat) (t : TypeId) (len : Nat) (parts : List (Nat × Operand)) : Option Tr :=
 match V4 P t with
 | none => none
 | some el =>
  match T6 P el, J1 P el with
  | some n, some z =>
   if 0 < n && z.cells.size = n && len = 1 && parts.length = 1 && n ≤ 16777216 then
    match ac7 e S n 0 parts with
    | some [c] => match bx6 S (dk el) c with
     | some (d, ids) => if nodupB ids && aw6 d el then some ⟨(id, .tree d) :: ids.map fun j => (j, .dead), [id], .tref id, []⟩ else none
     | none => none
    | _ => none
   else none
  | _, _ => none
where nodupB : List Nat → Bool
 | [] => true
 | x :: r => !(r.any (natEq x)) && nodupB r
theorem bb4 {l : List Nat} (h : ab5.nodupB l = true) : l.Nodup := by
 induction l with
 | nil => simp
 | cons x r ih =>
  simp only [ab5.nodupB, b86, b95] at h
  refine List.nodup_cons.2 ⟨fun hm => ?_, ih h.2⟩
  have : r.any (natEq x) = true := List.any_eq_true.2 ⟨x, hm, by simp [natEq]⟩
  rw [this] at h; cases h.1
theorem br2 (M : m5 φ ψ w0 w (p7 F ρ S)) {dk : TypeId → Nat} {o : Oper} {e : Operand → Option AV} {g : Operand → Value} {t : TypeId} {len : Nat} {parts : Array (Nat × Operand)} (hop : o.op = .buildSlice t len parts) (hg : ∀ p ∈ parts.toList, ∀ v, e p.2 = some v → g p.2 = v.val ρ) {id : Nat} {r : Tr} (h : ab5 P dk e S id t len parts.toList = some r) (hmk : ∀ j ∈ r.made, S j = .none) (hi : Inv S ρ r.made) :
  K4 P o g w (I9 φ ψ w0 F ρ S r) := by
 unfold ab5 at h
 split at h <;> first | cases h | skip
 rename_i el hel
 split at h <;> first | cases h | skip
 rename_i n z h1 h2
 split at h
 case isFalse => cases h
 rename_i hc
 simp only [b86, decide_eq_true_eq] at hc
 obtain ⟨⟨⟨⟨hn, hz⟩, hlen⟩, hpl⟩, hbig⟩ := hc
 split at h <;> first | cases h | skip
 rename_i c hl
 split at h <;> first | cases h | skip
 rename_i d ids h4
 split at h
 case isFalse => cases h
 rename_i hcc
 simp only [b86] at hcc
 cases h
 subst hlen
 obtain ⟨k1, k2⟩ := ap2 hl
 obtain ⟨m1, m2, m3⟩ := bH9 M h4 (bb4 hcc.1)
 have hte := U7 hcc.2
 have hsz : d.sz = n := by rw [m2]; exact k2 c (by simp)
 have hS : S id = .none := hmk id (by simp)
 obtain ⟨ie, hie, hie2⟩ := b92.1 h1
 have hiz : ie.zero = some z := by
  unfold J1 at h2; rw [hie] at h2; exact h2
 have hu := U3 hel
 have hvl : (AV.vals ρ c).length = 1 * n := by rw [AV.vals_length, k2 c (by simp), Nat.one_mul]
 have hrun : (Instr.buildSlice t 1 (parts.map fun p => (p.1, g p.2))).run P w = .ok (.slice (some ⟨w.heap.size, 0, none⟩) 1 1) (w.alloc (.cells (AV.vals ρ c).toArray el)) := by
  refine run_buildSlice w t el 1 _ _ ie z hu hie hiz (by omega) (by rw [hie2]; omega) ?_
  have hf := ai0 M parts.toList 0 [c] [] (((Array.range (1 * ie.size)).map (z.cells[· % z.cells.size]!)).toList) hl hg (by simp) (by simp [hie2, hpl])
  rw [hie2] at hf ⊢
  simp only [List.nil_append, Array.toArray_toList, List.flatten_cons, List.flatten_nil, List.append_nil] at hf
  simpa using hf
 have hown := (ak6 w (g := w.heap.size) (AV.vals ρ c).toArray 1 n el rfl (by simpa using hvl) (by omega)).1
 have hb : Below w.heap.size w (w.alloc (.cells (AV.vals ρ c).toArray el)) := (Below.refl _ _).alloc (b99 _) _
 have hbk : ∀ j ∈ ids, ∀ b, ((S j).res ρ j).blk b → b < w.heap.size := fun j _ b hb => M.lt (i := .inr j) hb
 obtain ⟨ρ', q1, q2, q3⟩ := M.graft (id := id) (ids := ids) (d := d) (v := .slice (some ⟨w.heap.size, 0, none⟩) 1 1) (T := fun b => Bk S ρ ids b ∨ b = w.heap.size) hS (fun hm => by
   have : ∀ (k : Nat) (l : List AV) (r : D × List Nat), bx6 S k l = some r → ∀ j ∈ r.2, S j ≠ .none := by
    intro k l r h j hj
    have hE : ∀ {x : AV} {q : List b5 × List Nat}, aq1 S x = some q → ∀ j ∈ q.2, S j ≠ .none := by
     intro x q h j hj
     unfold aq1 at h
     split at h <;> first | cases h | skip
     ·split at h <;> first | cases h | skip
      rename_i hS; simp at hj; subst hj; rw [hS]; intro h; cases h
     ·cases hj
    have hT : ∀ {x : AV} {q : List b6 × List Nat}, aw7 S x = some q → ∀ j ∈ q.2, S j ≠ .none := by
     intro x q h j hj
     unfold aw7 at h
     split at h <;> first | cases h | skip
     ·split at h <;> first | cases h | skip
      rename_i hS; simp at hj; subst hj; rw [hS]; intro h; cases h
     ·cases hj
    have hI : ∀ {x : AV} {q : List Int × List Nat}, a35 S x = some q → ∀ j ∈ q.2, S j ≠ .none := by
     intro x q h j hj
     unfold a35 at h
     split at h <;> first | cases h | skip
     ·split at h <;> first | cases h | skip
      split at h <;> first | cases h | skip
      rename_i hS _; simp at hj; subst hj; rw [hS]; intro h; cases h
     ·cases hj
    unfold bx6 at h
    split at h <;> first | cases h | skip
    ·obtain ⟨q, h1, h2⟩ := b92.1 h
     cases h2; exact hE h1 j hj
    ·split at h <;> first | cases h | skip
     rename_i hx hy hz hu
     simp only [ca2] at hj
     rcases hj with hj | hj | hj | hj
     ·exact hE hx j hj
     ·exact hE hy j hj
     ·exact hT hz j hj
     ·exact hT hu j hj
    ·obtain ⟨q, h1, h2⟩ := b92.1 h
     cases h2; exact hI h1 j hj
   exact this _ _ _ h4 id hm hS) hi (B8.any hb)
  ⟨el, _, Bk S ρ ids, hte, by rw [m1, hsz]; exact aa9 hown (cc1 _), fun g hg => by
   cases hg
   exact ⟨.inr rfl, fun ⟨j, h1, h2⟩ => Nat.lt_irrefl _ (hbk j h1 _ h2)⟩, fun b hb => .inl hb, by
   simpa using m3.same (w' := w.alloc (.cells (AV.vals ρ c).toArray el)) fun b _ hlt => hb.block b hlt⟩
  (fun b hb => hb.imp (fun h => h) fun h => by omega)
 have hrun2 : (execOp g o).run P w = .ok (.value (.slice (some ⟨w.heap.size, 0, none⟩) 1 1)) (w.alloc (.cells (AV.vals ρ c).toArray el)) := by
  simp only [execOp, hop, Sem.run_bind]
  rw [show (parts.map fun (i, x) => (i, g x)) = parts.map fun p => (p.1, g p.2) from rfl, hrun]
  rfl
 exact .inl ⟨_, _, hrun2, ρ', q1, q2, by simp only [AV.val]; exact q3⟩
def ay7 (P : Program) (dk : TypeId → Nat) (id : Nat) (t : TypeId) (len : Nat) (parts : List (Nat × Operand)) : Option Tr :=
 match V4 P t with
 | none => none
 | some el =>
  match T6 P el, J1 P el, D.nil (dk el) with
  | some n, some z, some d =>
   if 0 < n && z.cells.size = n && d.sz = n && natEq len 0 && natEq parts.length 0 && aw6 d el && decide (9 ≤ dk el) then some ⟨[(id, .tree d)], [id], .tref id, []⟩ else none
  | _, _, _ => none
theorem bG2 {k : Nat} {d : D} (h : D.nil k = some d) (h9 : 9 ≤ k) (w : World) (T : Nat → Prop) : N7 w d T [] := by
 unfold D.nil at h
 split at h <;> first | omega | skip
 ·cases h; rfl
 ·cases h; rfl
 ·cases h
theorem br3 (M : m5 φ ψ w0 w (p7 F ρ S)) {dk : TypeId → Nat} {o : Oper} {g : Operand → Value} {t : TypeId} {len : Nat} {parts : Array (Nat × Operand)} (hop : o.op = .buildSlice t len parts) {id : Nat} {r : Tr} (h : ay7 P dk id t len parts.toList = some r) (hmk : ∀ j ∈ r.made, S j = .none) (hi : Inv S ρ r.made) :
  K4 P o g w (I9 φ ψ w0 F ρ S r) := by
 unfold ay7 at h
 split at h <;> first | cases h | skip
 rename_i el hel
 split at h <;> first | cases h | skip
 rename_i n z d h1 h2 h3
 split at h
 case isFalse => cases h
 rename_i hc
 simp only [b86, decide_eq_true_eq, natEq, beq_iff_eq] at hc
 obtain ⟨⟨⟨⟨⟨⟨hn, hz⟩, hsz⟩, hlen⟩, hpl⟩, ht⟩, h9⟩ := hc
 cases h
 subst hlen
 have hp0 : parts = #[] := by
  apply Array.ext'
  exact ca0 hpl
 subst hp0
 have hte := U7 ht
 have hd0 := D.nil_len h3
 have hS : S id = .none := hmk id (by simp)
 obtain ⟨ie, hie, hie2⟩ := b92.1 h1
 have hiz : ie.zero = some z := by
  unfold J1 at h2; rw [hie] at h2; exact h2
 have hu := U3 hel
 have hrun : (Instr.buildSlice t 0 (#[] : Array (Nat × Value))).run P w = .ok (.slice (some ⟨w.heap.size, 0, none⟩) 0 0) (w.alloc (.cells #[] el)) := by
  have hr0 : Array.range 0 = #[] := rfl
  simp [Instr.buildSlice, run_underlying hu, sizeOf, typeInfo, hie, Instr.fill, newRow, hr0]
 have hown := (ak6 w (g := w.heap.size) (#[] : Array Value) 0 n el rfl (by simp) (by omega)).1
 have hb : Below w.heap.size w (w.alloc (.cells #[] el)) := (Below.refl _ _).alloc (b99 _) _
 obtain ⟨ρ', q1, q2, q3⟩ := M.graft (id := id) (ids := []) (d := d) (v := .slice (some ⟨w.heap.size, 0, none⟩) 0 0) (T := fun b => b = w.heap.size) hS (by simp) hi (B8.any hb)
  ⟨el, [], fun _ => False, hte, by rw [hd0, hsz]; exact aa9 hown (cc1 _), fun g hg => by
   cases hg
   exact ⟨rfl, fun h => h⟩, fun b hb => hb.elim, bG2 h3 h9 _ _⟩
  (fun b hb => .inr (by omega))
 have hrun2 : (execOp g o).run P w = .ok (.value (.slice (some ⟨w.heap.size, 0, none⟩) 0 0)) (w.alloc (.cells #[] el)) := by
  simp only [execOp, hop, Sem.run_bind, List.map_toArray, List.map_nil, hrun]
  rfl
 exact .inl ⟨_, _, hrun2, ρ', q1, q2, by simp only [AV.val]; exact q3⟩
def aY8 (P : Program) (S : Nat → It) (id : Nat) (t t' : TypeId) (s x : AV) : Option Tr :=
 if t = t' then
  match V4 P t, x with
  | some el, .tref b =>
   match S b, ak2 P el, T6 P el, J1 P el with
   | .tree d2, some by_, some n, some z =>
    if 0 < n && z.cells.size = n && d2.sz = n && aw6 d2 el then
     match s with
     | .tref a => if natEq a b then none else match S a with
      | .tree d1 => if aw6 d1 el then (d1.app d2).map fun d => ⟨(id, .tree d) :: [a, b].map fun j => (j, .dead), [id], .tref id, [d1.len + d2.len ≤ 9223372036854775807, (d1.len + d2.len) * by_ ≤ 140737488355328]⟩ else none
      | _ => none
     | .v (.slice none 0 0) => some ⟨(id, .tree d2) :: [b].map fun j => (j, .dead), [id], .tref id, [d2.len ≤ 9223372036854775807, d2.len * by_ ≤ 140737488355328]⟩
     | _ => none
    else none
   | _, _, _, _ => none
  | _, _ => none
 else none
theorem ba5 {v : Value} {n sz : Nat} {xs ys : List Value} (h : Z9 w v n sz xs) (k : Z9 w v n sz ys) : xs = ys := by
 obtain ⟨h0, a, cap, rfl, _, _, h1⟩ := h
 obtain ⟨k0, a', cap', he, _, _, k1⟩ := k
 cases he
 apply List.ext_getElem?
 intro j
 by_cases hj : j < n * sz
 ·have hn : 0 < n := Nat.pos_of_ne_zero fun h => by subst h; simp at hj
  obtain ⟨b, off, rfl, _, h2⟩ := h1 hn
  obtain ⟨b', off', he, _, k2⟩ := k1 hn
  cases he
  have e1 := h2 j _ (b90 (by omega))
  have e2 := k2 j _ (b90 (by omega))
  rw [e1] at e2
  rw [b90 (by omega), b90 (by omega)]; exact e2
 ·rw [cb5 (by omega), cb5 (by omega)]
theorem N7.app {d1 d2 d : D} {S T S' : Nat → Prop} {xs ys : List Value} (h : d1.app d2 = some d) (h1 : N7 w d1 S xs) (h2 : N7 w d2 T ys) (h3 : ∀ x, S x → S' x ∧ ¬ T x) (h4 : ∀ x, T x → S' x) : N7 w d S' (xs ++ ys) := by
 cases d1 <;> cases d2 <;> simp only [D.app] at h <;> first | cases h | skip
 all_goals simp only [N7] at h1 h2 ⊢
 ·exact h1.app h2 h3 h4
 ·exact o8.app h1 h2 h3 h4
 ·exact o3.app h1 h2 h3 h4
theorem bm8 {d1 d2 d : D} (h : d1.app d2 = some d) : am7 d = am7 d1 := by
 cases d1 <;> cases d2 <;> simp only [D.app] at h <;> first | cases h | skip
 all_goals rfl
theorem bM2 (M : m5 φ ψ w0 w (p7 F ρ S)) {o : Oper} {g : Operand → Value} {t t' : TypeId} {s x : Operand} (hop : o.op = .call { callee := .builtin .append, args := #[s, x], argTypes := #[t, t'] }) {sa xa : AV} (hs : g s = sa.val ρ) (hx : g x = xa.val ρ) {id : Nat} {r : Tr} (h : aY8 P S id t t' sa xa = some r) (ho : t8 r.obs) (hmk : ∀ j ∈ r.made, S j = .none) (hi : Inv S ρ r.made) :
  K4 P o g w (I9 φ ψ w0 F ρ S r) := by
 unfold aY8 at h
 split at h
 case isFalse => cases h
 rename_i htt
 subst htt
 split at h <;> first | cases h | skip
 rename_i el b hel
 split at h <;> first | cases h | skip
 rename_i d2 by_ n z hSb h2 h3 h4
 split at h
 case isFalse => cases h
 rename_i hc
 simp only [b86, decide_eq_true_eq] at hc
 obtain ⟨⟨⟨hn, hz⟩, hd2⟩, ht2⟩ := hc
 have hu := U3 hel
 obtain ⟨ie, hie, hie2⟩ := b92.1 h3
 have hiz : ie.zero = some z := by unfold J1 at h4; rw [hie] at h4; exact h4
 have hib : ie.bytes = by_ := by
  unfold ak2 at h2; rw [hie] at h2; exact Option.some.inj h2
 have hinfo : (P.info? el).map (fun i => (i.zero, i.size, i.bytes)) = some (some z, n, by_) := by rw [hie]; simp [hiz, hie2, hib]
 obtain ⟨hTb, hltb⟩ := M.treeAt (id := b) (d := d2) (by rw [hSb]; rfl)
 have hrd := E3.read (φ := fun _ => True) hTb fun _ _ => trivial
 obtain ⟨e2, news, S2, f0, f1, f2, f3, f4⟩ := hTb
 rw [U7 ht2] at f0; cases f0
 have k1 := ai1 f1
 have h1c : ∀ u ∈ news, u.oneCell' = true := by
  obtain ⟨xs', r1, r2⟩ := hrd.split
  rw [ba5 k1 r1.row]
  exact a16 r1.1 r2
 rw [hd2] at k1
 have hexec : ∀ v w', (Builtin.append_ #[t, t] o.type #[sa.val ρ, AV.val ρ (.tref b)]).run P w = .ok v w' → (execOp g o).run P w = .ok (.value v) w' := by
  intro v w' hr
  simp only [execOp, hop, resolve, invoke, builtin, Sem.run_bind, Sem.run_pure, Result.andThen_ok, List.map_toArray, cb9, List.map_nil, hs, hx, hr]
 have hbk : ∀ c, H8 (ρ b) c → ((S b).res ρ b).blk c := fun c hc => by rw [hSb]; exact hc
 split at h
 ·rename_i a
  split at h
  case isTrue => cases h
  rename_i hab
  have hab' : a ≠ b := by simpa [natEq] using hab
  split at h <;> first | cases h | skip
  rename_i d1 hSa
  split at h
  case isFalse => cases h
  rename_i ht1
  obtain ⟨d, hd, hr⟩ := b92.1 h
  subst hr
  simp only [t8] at ho
  obtain ⟨q1, q2, q3, q4⟩ := D.app_ok hd
  obtain ⟨hTa, hlta⟩ := M.treeAt (id := a) (d := d1) (by rw [hSa]; rfl)
  obtain ⟨e1, xs, S1, g0, g1, g2, g3, g4⟩ := hTa
  rw [U7 ht1] at g0; cases g0
  have hak : ∀ c, H8 (ρ a) c → ((S a).res ρ a).blk c := fun c hc => by rw [hSa]; exact hc
  have hdis : ∀ c, H8 (ρ a) c → ¬ H8 (ρ b) c := fun c h1 h2 => M.dis (.inr a) (.inr b) c (fun e => hab' (by cases e; rfl)) (hak c h1) (hbk c h2)
  have hsz : d1.sz = n := by omega
  rw [hsz] at g1
  obtain ⟨a', k', w', hrun, r2, r3, r4, r5⟩ := as8 (P := P) (lo := 0) (ty := o.type) hu hinfo hz hn g1 k1 h1c ho.1 ho.2.1 (cc1 _)
  have hkeep : ∀ c, c < w.heap.size → (E7 (ρ a)).ownBlock ≠ some c → w'.heap[c]? = w.heap[c]? := fun c hc hne => r4.block c hc fun h => hne h.symm
  obtain ⟨ρ', p1, p2, p3⟩ := M.graft (id := id) (ids := [a, b]) (d := d) (v := .slice a' (d1.len + d2.len) k') (T := fun c => H8 (ρ a) c ∨ H8 (ρ b) c ∨ (w.heap.size ≤ c ∧ (Value.slice a' (d1.len + d2.len) k').ownBlock = some c)) (hmk id (by simp))
   (fun hm => by
    have h0 := hmk id (by simp)
    simp only [cb7, List.not_mem_nil, or_false] at hm
    rcases hm with rfl | rfl
    ·rw [hSa] at h0; cases h0
    ·rw [hSb] at h0; cases h0) hi
   ⟨r4.os, r4.tape, r4.output, r4.size, fun c hc hne => hkeep c hc fun he => hne ⟨a, by simp, hak c (g2 c he).1⟩⟩
   ⟨el, xs ++ news, fun c => S1 c ∨ S2 c, by rw [bm8 hd, U7 ht1], by rw [q2, hsz, q1]; exact r2, fun c hc => by
    rcases r5 c hc with h | h
    ·exact ⟨.inl (g2 c h).1, fun hh => hh.elim (g2 c h).2 fun h2 => hdis c (g2 c h).1 (f3 c h2)⟩
    ·exact ⟨.inr (.inr ⟨h, hc⟩), fun hh => hh.elim (fun h2 => by have := hlta c (g3 c h2); omega) fun h2 => by have := hltb c (f3 c h2); omega⟩,
    fun c hc => hc.imp (g3 c) fun h => .inl (f3 c h), by
    refine N7.app hd (g4.same fun c hc hlt => hkeep c hlt fun he => (g2 c he).2 hc) (f4.same fun c hc hlt => hkeep c hlt fun he => hdis c (g2 c he).1 (f3 c hc)) (fun c hc => ⟨.inl hc, fun h2 => hdis c (g3 c hc) (f3 c h2)⟩) fun c hc => .inr hc⟩
   (fun c hc => by
    rcases hc with h | h | h
    ·exact .inl ⟨a, by simp, hak c h⟩
    ·exact .inl ⟨b, by simp, hbk c h⟩
    ·exact .inr h.1)
  exact .inl ⟨_, _, hexec _ _ hrun, ρ', p1, p2, p3⟩
 ·cases h
  simp only [t8] at ho
  obtain ⟨a', k', w', hrun, r2, r3, r4, r5⟩ := as8 (P := P) (lo := w.heap.size) (ty := o.type) hu hinfo hz hn (World.ownsRow_nil _ _ _ _) k1 h1c (by omega) (by rw [cc3]; exact ho.2.1) (b99 _)
  rw [cc3, List.nil_append] at r2
  obtain ⟨ρ', p1, p2, p3⟩ := M.graft (id := id) (ids := [b]) (d := d2) (v := .slice a' (0 + d2.len) k') (w' := w') (T := fun c => H8 (ρ b) c ∨ (w.heap.size ≤ c ∧ (Value.slice a' (0 + d2.len) k').ownBlock = some c)) (hmk id (by simp))
   (fun hm => by
    have h0 := hmk id (by simp)
    simp only [cb7, List.not_mem_nil, or_false] at hm
    subst hm
    rw [hSb] at h0; cases h0) hi (B8.any r3)
   ⟨el, news, S2, U7 ht2, by rw [hd2, cc3]; exact aa9 r2 (cc1 _), fun c hc => by
    rcases r5 c hc with h | h
    ·cases h
    ·exact ⟨.inr ⟨h, hc⟩, fun h2 => by have := hltb c (f3 c h2); omega⟩, fun c hc => .inl (f3 c hc), f4.same fun c _ hlt => r3.block c hlt⟩
   (fun c hc => hc.imp (fun h => ⟨b, by simp, hbk c h⟩) fun h => h.1)
  exact .inl ⟨_, _, hexec _ _ hrun, ρ', p1, p2, p3⟩
 ·cases h
theorem a01 (S : Nat → It) (l2 : List (Nat × It)) : ∀ (l1 : List (Nat × It)) (j : Nat), o7 (o7 S l2) l1 j = o7 S (l1 ++ l2) j
 | [], _ => rfl
 | (k, x) :: r, j => by
  simp only [o7, List.cons_append]
  rw [a01 S l2 r j]
theorem m5.rowDat (M : m5 φ ψ w0 w (p7 F ρ S)) {a : Nat} {el : TypeId} {d : D} (hS : S a = .row el d) : m5 φ ψ w0 w (p7 F ρ (o7 S [(a, .dat d)])) := by
 obtain ⟨xs, h1, h2⟩ := M.rowAt hS
 have e0 : o7 S [(a, .dat d)] a = .dat d := by simp [o7]
 have e1 : ∀ j, j ≠ a → o7 S [(a, .dat d)] j = S j := fun j h => by simp [o7, h]
 generalize o7 S [(a, .dat d)] = S' at e0 e1
 have hoth : ∀ k : ι ⊕ Nat, k ≠ .inr a → p7 F ρ S' k = p7 F ρ S k := fun k hk => by
  cases k with
  | inl q => rfl
  | inr j =>
   have : j ≠ a := fun e => hk (by rw [e])
   simp only [p7]; rw [e1 j this]
 have hno : ∀ g, ¬ (p7 F ρ S' (.inr a)).blk g := fun g hg => by
  simp only [p7] at hg
  rw [e0] at hg; exact hg
 refine M.put (.inr a) hoth (B8.refl _ _) ?_ fun g hg => (hno g hg).elim
 show (((S' a).res ρ a)).holds w _
 rw [e0]
 refine ⟨RD.nice _ _, ?_⟩
 have hfr : ∀ b, FrF φ (p7 F ρ S) b → FrF φ (p7 F ρ S') b := fun b hb => ⟨hb.1, fun k hk => by
  by_cases e : k = .inr a
  ·subst e; exact hno b hk
  ·rw [hoth k e] at hk; exact hb.2 k hk⟩
 refine RD.make (C1 h1 fun g hg => ?_) (RW.nice _ _ _ _ _ _ (Agr.mono fun b _ hb => hfr b hb) h2)
 have ho : (p7 F ρ S (.inr a)).blk g := by simp only [p7]; rw [hS]; exact hg
 refine ⟨M.ph _ _ ho, fun k hk => ?_⟩
 by_cases e : k = .inr a
 ·subst e; exact hno g hk
 ·rw [hoth k e] at hk
  exact M.dis _ _ g (fun h => e h.symm) ho hk
def ay1 (P : Program) (S : Nat → It) (id : Nat) (t : TypeId) (x : AV) (lo hi : Option AV) : Option Tr :=
 match x with
 | .ref a => match S a with
  | .row _ d => (aY4 P (o7 S [(a, .dat d)]) id t x lo hi).map fun r => ⟨r.new ++ [(a, .dat d)], r.made, r.res, r.obs⟩
  | _ => none
 | _ => none
theorem bq1 (M : m5 φ ψ w0 w (p7 F ρ S)) {o : Oper} {g : Operand → Value} {t : TypeId} {x : Operand} {lo hi : Option Operand} {e : Operand → Option AV} (hop : o.op = .slice t x lo hi none) {xa : AV} (hx : g x = xa.val ρ) {la ha : Option AV} (hlo : lo.map g = la.map (AV.val ρ)) (hhi : hi.map g = ha.map (AV.val ρ)) {id : Nat} {r : Tr} (h : ay1 P S id t xa la ha = some r) (ho : t8 r.obs) (hmk : ∀ j ∈ r.made, S j = .none) (hin : Inv S ρ r.made) :
  K4 P o g w (I9 φ ψ w0 F ρ S r) := by
 unfold ay1 at h
 split at h <;> first | cases h | skip
 rename_i a
 split at h <;> first | cases h | skip
 rename_i el d hS
 obtain ⟨r', h1, h2⟩ := b92.1 h
 subst h2
 have ha : ∀ j ∈ r'.made, j ≠ a := fun j hj e => by
  have := hmk j hj
  rw [e, hS] at this; cases this
 have hin' : Inv (o7 S [(a, .dat d)]) ρ r'.made := fun ρ' hag j => by
  simp only [o7]
  split
  ·rename_i e
   subst e
   have := hin ρ' hag j
   refine It.res_congr _ (fun i hi => by cases hi) (.inr (.inr (hag j fun hm => ha j hm rfl)))
  ·exact hin ρ' hag j
 have D1 := bD4 (e := e) (M.rowDat hS) hop hx hlo hhi h1 ho (fun j hj => by
  simp only [o7]
  rw [if_neg (ha j hj)]
  exact hmk j hj) hin'
 refine D1.mono fun v w' ⟨ρ', q1, q2, q3⟩ => ⟨ρ', q1, ?_, q3⟩
 have e2 : o7 S (r'.new ++ [(a, .dat d)]) = o7 (o7 S [(a, .dat d)]) r'.new := funext fun j => (a01 S _ _ j).symm
 simp only
 rw [e2]; exact q2
def al4 (P : Program) (S : Nat → It) (id : Nat) (t : TypeId) (x : AV) (lo hi : Option AV) : Option Tr := match aY4 P S id t x lo hi with
 | some r => some r
 | none => ay1 P S id t x lo hi
theorem aC9 (M : m5 φ ψ w0 w (p7 F ρ S)) {o : Oper} {g : Operand → Value} {t : TypeId} {x : Operand} {lo hi : Option Operand} {e : Operand → Option AV} (hop : o.op = .slice t x lo hi none) {xa : AV} (hx : g x = xa.val ρ) {la ha : Option AV} (hlo : lo.map g = la.map (AV.val ρ)) (hhi : hi.map g = ha.map (AV.val ρ)) {id : Nat} {r : Tr} (h : al4 P S id t xa la ha = some r) (ho : t8 r.obs) (hmk : ∀ j ∈ r.made, S j = .none) (hin : Inv S ρ r.made) :
  K4 P o g w (I9 φ ψ w0 F ρ S r) := by
 unfold al4 at h
 split at h
 ·rename_i r' h1
  cases h
  exact bD4 (e := e) M hop hx hlo hhi h1 ho hmk hin
 ·exact bq1 (e := e) M hop hx hlo hhi h ho hmk hin
end
section
variable {P : Program} {ι : Type} {φ ψ : Nat → Prop} {w0 w w' : World} {F : ι → Rs} {ρ : Nat → Value} {S : Nat → It}
theorem bs1 {φ : Nat → Prop} {k n : Nat} {d : D} {z : Value} (h : a78 k n = some (d, z)) : d.len = n ∧ d.sz = 1 ∧ z.cells = #[z] ∧ RW w φ d (cb3 n z) := by
 have key : ∀ (d : D) (z : Value), d.len = n → d.sz = 1 → (∀ i, i < n → ∃ x, d.elem i = [x] ∧ XH w φ x z) → RW w φ d (cb3 n z) := by
  intro d z h1 h2 h3 i hi j x hx
  obtain ⟨y, hy, hz⟩ := h3 i (by omega)
  rw [hy] at hx
  cases j with
  | zero => simp at hx; subst hx; exact ⟨z, by rw [h1] at hi; rw [h2, Nat.mul_one, Nat.add_zero, List.getElem?_replicate, if_pos hi], hz⟩
  | succ j => simp at hx
 unfold a78 at h
 split at h <;> first | cases h | skip
 ·exact ⟨by simp [D.len], rfl, rfl, key _ _ (by simp [D.len]) rfl fun i hi => ⟨_, rfl, by simp [XH, hi]⟩⟩
 ·exact ⟨by simp [D.len], rfl, rfl, key _ _ (by simp [D.len]) rfl fun i hi => ⟨_, rfl, by simp [XH, hi]⟩⟩
 ·exact ⟨by simp [D.len], rfl, rfl, key _ _ (by simp [D.len]) rfl fun i hi => ⟨_, rfl, by simp [XH, hi]⟩⟩
 ·exact ⟨by simp [D.len], rfl, rfl, key _ _ (by simp [D.len]) rfl fun i hi => ⟨_, rfl, by simp only [XH, b91, List.getElem?_replicate, hi, if_true, Option.getD_some]; exact z9.nil _ _ _⟩⟩
 ·exact ⟨by simp [D.len], rfl, rfl, key _ _ (by simp [D.len]) rfl fun i hi => ⟨_, rfl, by simp only [XH, b91, List.getElem?_replicate, hi, if_true, Option.getD_some]; exact z9.nil _ _ _⟩⟩
theorem bI3 (M : m5 φ ψ w0 w (p7 F ρ S)) {dk : TypeId → Nat} {o : Oper} {g : Operand → Value} {t : TypeId} {l c : Operand} (hop : o.op = .makeSlice t l c) {la ca : AV} (hl : g l = la.val ρ) (hc : g c = ca.val ρ) {id : Nat} {r : Tr} (h : aW4 P dk id t la ca = some r) (ho : t8 r.obs) (hmk : ∀ j ∈ r.made, S j = .none) (hi : Inv S ρ r.made) :
  K4 P o g w (I9 φ ψ w0 F ρ S r) := by
 unfold aW4 at h
 split at h
 case h_2 => cases h
 rename_i n m el hel
 split at h
 case h_2 => cases h
 rename_i d z by_ sz z' h1 h2 h3 h4
 split at h
 case isFalse => cases h
 rename_i hsz
 cases h
 simp only [t8] at ho
 obtain ⟨hm, hn, hb, hbig, hzz, -⟩ := ho
 subst hm; subst hzz; subst hsz
 obtain ⟨k1, k2, k3, k4⟩ := bs1 (w := w) (φ := FrF φ (p7 F ρ S)) h1
 obtain ⟨ie, hie, hie2⟩ := b92.1 h3
 have hiz : ie.zero = some z' := by unfold J1 at h4; rw [hie] at h4; exact h4
 have hib : ie.bytes = by_ := by
  unfold ak2 at h2; rw [hie] at h2; exact Option.some.inj h2
 have hinfo : (P.info? el).map (fun i => (i.zero, i.size, i.bytes)) = some (some z', 1, by_) := by rw [hie]; simp [hiz, hie2, hib]
 have hb' : by_ * m.toNat ≤ 281474976710656 := by
  have : ((by_ * m.toNat : Nat) : Int) = by_ * m := by rw [Int.natCast_mul, Int.toNat_of_nonneg hn]
  omega
 have hrun := by7 (P := P) (U3 hel) hinfo (by rw [k3]; rfl) (by omega) m.toNat hb' (by omega) w
 rw [Int.toNat_of_nonneg hn] at hrun
 have hown := (bx2 w z'.cells.toList m.toNat 1 el (by rw [k3]; rfl) (by omega)).1
 rw [k3, az1, ← k1, ← k2] at hown
 obtain ⟨ρ', q1, q2, q3⟩ := M.newRow (id := id) (e := el) (d := d) ((Below.refl _ _).alloc (b99 _) _) (hmk id (by simp)) hi hown (by rw [k1]; exact k4)
 have hrun2 : (execOp g o).run P w = .ok (.value (.slice (some ⟨w.heap.size, 0, none⟩) m.toNat m.toNat)) (w.alloc (.cells (D3 z'.cells.toList m.toNat).toArray el)) := by
  simp only [execOp, hop, Sem.run_bind, hl, hc, AV.val, hrun]
  rfl
 rw [k3, az1, ← k1] at hrun2
 exact .inl ⟨_, _, hrun2, ρ', q1, q2, q3⟩
end
def AV.agN : AV → AV
 | .v (.agg l) => .agg (l.toList.map .v)
 | x => x
theorem AV.val_agN (ρ : Nat → Value) (x : AV) : x.agN.val ρ = x.val ρ := by
 cases x <;> try rfl
 rename_i v
 cases v <;> try rfl
 simp only [AV.agN, AV.val, Y1, Array.toArray_toList]
def evN (e : Operand → Option AV) (x : Operand) : Option AV := (e x).map AV.agN
def ai3 (P : Program) (dk : TypeId → Nat) (e : Operand → Option AV) (S : Nat → It) (id : Nat) : Op → Option Tr
 | .load t x => (e x).bind fun a => aW6 P S id t a
 | .store t x y => match e x, e y with
  | some a, some v => aa5 P S t v a
  | _, _ => none
 | .alloc t => match J1 P t with
  | some z => if z.cells.toList.all (·.oneCell') then some ⟨[(id, .box (z.cells.toList.map .v))], [id], .ptr id 0, []⟩ else none
  | none => none
 | .box _ x => (e x).bind fun v => bb6 S id v
 | .buildSlice t len parts => match ay7 P dk id t len parts.toList with
  | some r => some r
  | none => match ab5 P dk e S id t len parts.toList with
   | some r => some r
   | none => match av3 P dk e S id t len parts.toList with
    | some r => some r
    | none => av3 P dk (evN e) S id t len parts.toList
 | .makeSlice t l c => match e l, e c with
  | some a, some b => aW4 P dk id t a b
  | _, _ => none
 | .slice t x lo hi none => match e x, lo.map e, hi.map e with
  | some a, none, none => al4 P S id t a none none
  | some a, some (some l), none => al4 P S id t a (some l) none
  | some a, none, some (some h) => al4 P S id t a none (some h)
  | some a, some (some l), some (some h) => al4 P S id t a (some l) (some h)
  | _, _, _ => none
 | .call { callee := .builtin .append, args, argTypes } =>
  match args.toList, argTypes.toList with
  | [s, x], [t, t'] => match e s, e x with
   | some a, some b => match be9 P dk S id t t' a b with
    | some r => some r
    | none => aY8 P S id t t' a b
   | _, _ => none
  | _, _ => none
 | _ => none
def as5 (P : Program) (dk : TypeId → Nat) (e : Operand → Option AV) (S : Nat → It) (id : Nat) (op : Op) : Option Tr :=
 match Y4 P e S op with
 | some r => some ⟨[], [], r.1, r.2⟩
 | none => ai3 P dk e S id op
section
variable {P : Program} {ι : Type} {φ ψ : Nat → Prop} {w0 w w' : World} {F : ι → Rs} {ρ : Nat → Value} {S : Nat → It}
theorem bI2 (M : m5 φ ψ w0 w (p7 F ρ S)) {o : Oper} {g : Operand → Value} {t : TypeId} {cs : List AV} {v : Value} (hop : (execOp g o).run P w = .ok (.value (.pointer (some ⟨w.heap.size, 0, none⟩))) (w.alloc (.cells v.cells t))) (hv : v.cells = (AV.vals ρ cs).toArray) {id : Nat} (hn : id ∉ AV.idsL cs) (hS : S id = .none) (hi : Inv S ρ [id]) :
  K4 P o g w (I9 φ ψ w0 F ρ S ⟨[(id, .box cs)], [id], .ptr id 0, []⟩) := by
 have ha : C0 [id] ρ (fun j => if j = id then .pointer (some ⟨w.heap.size, 0, none⟩) else ρ j) := fun j hj => by
  have : j ≠ id := by simpa using hj
  simp [this]
 refine .inl ⟨_, _, hop, _, ha, M.one id _ [id] hi ha (B8.any ((Below.refl _ _).alloc (b99 _) _)) (fun g hg => ?_) ?_, ?_⟩
 ·simp only [It.res, if_true, T3] at hg
  exact .inr (by rw [show g = w.heap.size from hg]; exact b99 _)
 ·simp only [It.res, if_true, T3, Rs.holds]
  have e : AV.vals (fun j => if j = id then .pointer (some ⟨w.heap.size, 0, none⟩) else ρ j) cs = AV.vals ρ cs := AV.vals_congr _ fun k hk => by
   have : k ≠ id := fun e => hn (e ▸ hk)
   simp [this]
  rw [e, hv]
  exact Blk.new _ _ _
 ·simp [AV.val, T3]
theorem bc6 (l : List Value) : AV.idsL (l.map .v) = [] := by
 induction l with
 | nil => rfl
 | cons a r ih => simp [AV.idsL, AV.ids, ih]
theorem bu3 (M : m5 φ ψ w0 w (p7 F ρ S)) {dk : TypeId → Nat} {o : Oper} {e : Operand → Option AV} {g : Operand → Value} (hg : ∀ x ∈ o.op.operands, ∀ v, e x = some v → g x = v.val ρ) {id : Nat} {r : Tr} (h : as5 P dk e S id o.op = some r) (ho : t8 r.obs) (hmk : ∀ j ∈ r.made, S j = .none) (hi : Inv S ρ r.made) :
  K4 P o g w (I9 φ ψ w0 F ρ S r) := by
 unfold as5 at h
 split at h
 ·rename_i q hq
  cases h
  exact .inl ⟨_, _, bH6 M hg (r := q.1) (obs := q.2) hq ho, ρ, C0.refl _ _, M, rfl⟩
 rename_i hnone
 clear hnone
 cases hop : o.op <;> rw [hop] at h hg <;> simp only [ai3] at h <;> first | cases h | skip
 case load t x =>
  obtain ⟨a, h1, h2⟩ := Option.bind_eq_some_iff.1 h
  exact bI6 M hop (hg x (by simp [Op.operands]) _ h1) h2 ho hmk hi
 case store t x y =>
  split at h
  case h_2 => cases h
  rename_i a v h1 h2
  exact bt8 M hop (hg x (by simp [Op.operands]) _ h1) (hg y (by simp [Op.operands]) _ h2) h ho
 case alloc t =>
  split at h
  case h_2 => cases h
  rename_i z hz
  split at h
  case isFalse => cases h
  cases h
  have hrun : (execOp g o).run P w = .ok (.value (.pointer (some ⟨w.heap.size, 0, none⟩))) (w.alloc (.cells z.cells t)) := by
   simp [execOp, hop, Instr.alloc, bn6 hz, newVar, newRow]
  exact bI2 M hrun (by rw [Y1]) (by rw [bc6]; simp) (hmk id (by simp)) hi
 case box t x =>
  obtain ⟨a, h1, h2⟩ := Option.bind_eq_some_iff.1 h
  have hx := hg x (by simp [Op.operands]) _ h1
  have hrun : (execOp g o).run P w = .ok (.value (.pointer (some ⟨w.heap.size, 0, none⟩))) (w.alloc (.cells (a.val ρ).cells t)) := by
   simp [execOp, hop, Instr.box, newVar, newRow, hx]
  exact bS9 M hrun rfl h2 hmk hi
 case buildSlice t len parts =>
  split at h
  ·rename_i r' h'
   cases h
   exact br3 M hop h' hmk hi
  split at h
  ·rename_i r' h'
   cases h
   exact br2 M hop (fun p hp v hv => hg p.2 (by simp [Op.operands]; exact ⟨p.1, by simpa using hp⟩) v hv) h' hmk hi
  split at h
  ·rename_i r' h'
   cases h
   exact a71 M hop (fun p hp v hv => hg p.2 (by simp [Op.operands]; exact ⟨p.1, by simpa using hp⟩) v hv) h' ho hmk hi
  ·refine a71 M hop (e := evN e) (fun p hp v hv => ?_) h ho hmk hi
   obtain ⟨y, h1, rfl⟩ := b92.1 hv
   rw [AV.val_agN]
   exact hg p.2 (by simp [Op.operands]; exact ⟨p.1, by simpa using hp⟩) y h1
 case makeSlice t l c =>
  split at h
  case h_2 => cases h
  rename_i a b h1 h2
  exact bI3 M hop (hg l (by simp [Op.operands]) _ h1) (hg c (by simp [Op.operands]) _ h2) h ho hmk hi
 case slice t x lo hi' mx =>
  cases mx with
  | some mx => simp only [ai3] at h; cases h
  | none =>
  simp only [ai3] at h
  split at h <;> first | cases h | skip
  ·rename_i a h1 h2 h3
   have : lo = none := by cases lo <;> simp at h2 ⊢
   subst this
   have : hi' = none := by cases hi' <;> simp at h3 ⊢
   subst this
   exact aC9 M (e := e) hop (hg x (by simp [Op.operands]) _ h1) rfl rfl h ho hmk hi
  ·rename_i a l h1 h2 h3
   obtain ⟨lo', rfl, hlo⟩ := b92.1 h2
   have : hi' = none := by cases hi' <;> simp at h3 ⊢
   subst this
   exact aC9 M (e := e) hop (hg x (by simp [Op.operands]) _ h1) (by simp [hg lo' (by simp [Op.operands]) _ hlo]) rfl h ho hmk hi
  ·rename_i a l h1 h2 h3
   obtain ⟨hi'', rfl, hhi⟩ := b92.1 h3
   have : lo = none := by cases lo <;> simp at h2 ⊢
   subst this
   exact aC9 M (e := e) hop (hg x (by simp [Op.operands]) _ h1) rfl (by simp [hg hi'' (by simp [Op.operands]) _ hhi]) h ho hmk hi
  ·rename_i a l hh h1 h2 h3
   obtain ⟨lo', rfl, hlo⟩ := b92.1 h2
   obtain ⟨hi'', rfl, hhi⟩ := b92.1 h3
   exact aC9 M (e := e) hop (hg x (by simp [Op.operands]) _ h1) (by simp [hg lo' (by simp [Op.operands]) _ hlo]) (by simp [hg hi'' (by simp [Op.operands]) _ hhi]) h ho hmk hi
 case call c =>
  obtain ⟨callee, args, argTypes⟩ := c
  cases callee <;> (try simp only [ai3] at h) <;> first | cases h | skip
  rename_i b
  cases b <;> (try simp only [ai3] at h) <;> first | cases h | skip
  split at h <;> first | cases h | skip
  rename_i s x t t' hx ht
  have hx' : args = #[s, x] := by apply Array.ext'; simpa using hx
  have ht' : argTypes = #[t, t'] := by apply Array.ext'; simpa using ht
  subst hx'; subst ht'
  split at h
  case h_2 => cases h
  rename_i a b h1 h2
  split at h
  ·rename_i r' h'
   cases h
   exact app_ok M hop (hg s (by simp [Op.operands, Call.operands]) _ h1) (hg x (by simp [Op.operands, Call.operands]) _ h2) h' ho hmk hi
  ·exact bM2 M hop (hg s (by simp [Op.operands, Call.operands]) _ h1) (hg x (by simp [Op.operands, Call.operands]) _ h2) h ho hmk hi
end
structure k6 where
 f : FuncId
 args : List AV
 pre : List It
 post : List It
 res : AV
def k6.ok (P : Program) (c : k6) : Prop := ∀ (ι : Type) (φ ψ : Nat → Prop) (w0 w : World) (F : ι → Rs) (ρ : Nat → Value), m5 φ ψ w0 w (p7 F ρ (s0 c.pre)) →
 Calls P c.f (AV.vals ρ c.args).toArray w fun x w' => ∃ ρ', (∀ i, i < c.pre.length → ρ' i = ρ i) ∧ x = .returned (c.res.val ρ') ∧ m5 φ ψ w0 w' (p7 F ρ' (s0 c.post))
def aC8 (P : Program) (f : FuncId) : Bool :=
 match P.funcs[f]? with
 | some fn => fn.body.isSome && !(fn.name == "runtime.NumGoroutine")
 | none => false
theorem aQ5 {P : Program} {f : FuncId} (h : aC8 P f = true) (args : Array Value) (w : World) : (callFunc f args).run P w = .ok (.enter f args) w := by
 unfold aC8 at h
 cases hf : P.funcs[f]? with
 | none => rw [hf] at h; cases h
 | some fn =>
  rw [hf] at h
  simp only [b86, b95] at h
  cases hb : fn.body with
  | none => rw [hb] at h; cases h.1
  | some c => exact aQ6 hf h.2 hb args w
def memN (j : Nat) : List Nat → Bool
 | [] => false
 | x :: r => natEq j x || memN j r
def nodupB : List Nat → Bool
 | [] => true
 | x :: r => !memN x r && nodupB r
theorem s7 {j : Nat} {l : List Nat} : memN j l = true ↔ j ∈ l := by
 induction l with
 | nil => simp [memN]
 | cons x r ih => simp [memN, natEq, ih]
theorem ap3 {l : List Nat} (h : nodupB l = true) : l.Nodup := by
 induction l with
 | nil => simp
 | cons x r ih =>
  simp only [nodupB, b86, b95] at h
  refine List.nodup_cons.2 ⟨fun hm => ?_, ih h.2⟩
  rw [s7.2 hm] at h; cases h.1
def W2 (n : Nat) (l : List Nat) : Bool := l.all fun j => decide (j < n)
theorem D0 {n : Nat} {l : List Nat} (h : W2 n l = true) : ∀ j ∈ l, j < n := fun j hj => by simpa using b93.1 h j hj
def af5 : List Nat → List It → List (Nat × It)
 | a :: r, x :: s => (a, x) :: af5 r s
 | _, _ => []
def nth (σ : List Nat) (i : Nat) : Nat := σ.getD i 0
def av4 : List Nat → List It → List It → List (Nat × It)
 | a :: r, p :: q, x :: s => match p, x with
  | .dat _, .dat _ => av4 r q s
  | .row _ _, .kept (some _) _ => av4 r q s
  | .tree _, .kept none _ => av4 r q s
  | _, _ => (a, x.unK) :: av4 r q s
 | a :: r, [], x :: s => (a, x.unK) :: av4 r [] s
 | _, _, _ => []
def ay0 : List It → List It → List It
 | p :: q, x :: s => match p, x with
  | .dat d, .dat _ => .dat d :: ay0 q s
  | .row e d, .kept (some _) _ => .row e d :: ay0 q s
  | .tree d, .kept none _ => .tree d :: ay0 q s
  | _, _ => ay0 q s
 | _, _ => []
def ax9 : List It → List It → List It
 | p :: q, x :: s => match p, x with
  | .dat _, .dat e => .dat e :: ax9 q s
  | .row _ _, .kept (some e) d => .row e d :: ax9 q s
  | .tree _, .kept none d => .tree d :: ax9 q s
  | _, _ => ax9 q s
 | _, _ => []
def aJ5 : It → It → Bool
 | .dat _, .dat _ => true
 | .row _ _, .kept (some _) _ => true
 | .tree _, .kept none _ => true
 | _, _ => false
theorem bm5 (a : Nat) (r : List Nat) (p : It) (q : List It) (x : It) (s : List It) : av4 (a :: r) (p :: q) (x :: s) = if aJ5 p x then av4 r q s else (a, x.unK) :: av4 r q s := by
 cases p <;> cases x <;> first | rfl | (rename_i e d; cases e <;> rfl) | (rename_i d e; cases e <;> rfl) | (rename_i e d f g; cases f <;> rfl) | (rename_i d f g; cases f <;> rfl)
theorem bp9 (p : It) (q : List It) (x : It) (s : List It) : ay0 (p :: q) (x :: s) = if aJ5 p x then p :: ay0 q s else ay0 q s := by
 cases p <;> cases x <;> first | rfl | (rename_i e d; cases e <;> rfl) | (rename_i d e; cases e <;> rfl) | (rename_i e d f g; cases f <;> rfl) | (rename_i d f g; cases f <;> rfl)
theorem bp8 (p : It) (q : List It) (x : It) (s : List It) : ax9 (p :: q) (x :: s) = if aJ5 p x then x.unK :: ax9 q s else ax9 q s := by
 cases p <;> cases x <;> first | rfl | (rename_i e d; cases e <;> rfl) | (rename_i d e; cases e <;> rfl) | (rename_i e d f g; cases f <;> rfl) | (rename_i d f g; cases f <;> rfl)
theorem aX7 : ∀ {P X : List It} {i : Nat} {p x : It}, ay0 P X = ax9 P X → P[i]? = some p → X[i]? = some x → aJ5 p x = true → p = x.unK
 | [], _, _, _, _, _, h, _, _ => by simp at h
 | _ :: _, [], _, _, _, _, _, h, _ => by simp at h
 | p :: q, x :: s, i, p1, x1, h, h1, h2, hk => by
  rw [bp9, bp8] at h
  cases i with
  | zero =>
   simp at h1 h2
   subst h1 h2
   rw [if_pos hk, if_pos hk] at h
   exact (List.cons.inj h).1
  | succ i =>
   refine aX7 (P := q) (X := s) (i := i) ?_ (by simpa using h1) (by simpa using h2) hk
   split at h
   ·exact (List.cons.inj h).2
   ·exact h
theorem bV0 {P X : List It} {i : Nat} {d e : D} (h : ay0 P X = ax9 P X) (h1 : P[i]? = some (.dat d)) (h2 : X[i]? = some (.dat e)) : d = e := by
 have := aX7 h h1 h2 rfl
 simpa [It.unK] using this
theorem aw3 {S : Nat → It} : ∀ {σ : List Nat} {P X : List It}, σ.Nodup → (∀ (i j : Nat) (p x : It), σ[i]? = some j → P[i]? = some p → X[i]? = some x → aJ5 p x = true → S j = x.unK) → ∀ j, o7 S (av4 σ P X) j = o7 S (af5 σ (X.map It.unK)) j
 | [], _, _, _, _, j => by simp [av4, af5]
 | a :: r, P, [], _, _, j => by cases P <;> simp [av4, af5]
 | a :: r, [], x :: s, hn, h, j => by
  simp only [av4, af5, o7, cb9]
  rw [aw3 (List.nodup_cons.1 hn).2 (fun i j d e _ h2 _ => by simp at h2) j]
 | a :: r, p :: q, x :: s, hn, h, j => by
  have ih := aw3 (S := S) (P := q) (X := s) (List.nodup_cons.1 hn).2 (fun i j d e h1 h2 h3 h4 => h (i + 1) j d e (by simpa using h1) (by simpa using h2) (by simpa using h3) h4) j
  rw [bm5]
  simp only [af5, cb9]
  split
  ·rename_i hk
   rw [ih]
   simp only [o7]
   split
   ·rename_i hj
    subst hj
    rw [as2 fun hm => (List.nodup_cons.1 hn).1 (by
     have : ∀ {σ : List Nat} {L : List It} {j : Nat}, j ∈ (af5 σ L).map (·.1) → j ∈ σ := fun {σ} => by
      induction σ with
      | nil => intro L j h; simp [af5] at h
      | cons a r ih => intro L j h; cases L with
       | nil => simp [af5] at h
       | cons y s => simp only [af5, cb9, cb7] at h ⊢; exact h.imp id ih
     exact this hm)]
    exact h 0 j p x rfl rfl rfl hk
   ·rfl
  ·simp only [o7]
   rw [ih]
def bl8 : AV → Option (Nat × List AV × List AV)
 | .fn f l => some (f, [], l)
 | .bm f l => some (f, l, [])
 | _ => none
def aD0 (P : Program) (e : Operand → Option AV) (S : Nat → It) (id : Nat) (c : k6) (τ : List Nat) : Op → Option Tr
 | .call { callee := .value fo, args, .. } =>
  match (e fo).bind bl8, args.toList.mapM e with
  | some (f, _, _), some xs =>
   if natEq f c.f && aC8 P f && natEq τ.length c.pre.length && decide (c.pre.length ≤ c.post.length) && nodupB (τ ++ List.range' id (c.post.length - c.pre.length)) && c.post.all (fun x => W2 c.post.length x.ids) && W2 c.post.length c.res.ids then
    some ⟨av4 (τ ++ List.range' id (c.post.length - c.pre.length)) c.pre (c.post.map (It.ren (nth (τ ++ List.range' id (c.post.length - c.pre.length))))),
     List.range' id (c.post.length - c.pre.length), c.res.ren (nth (τ ++ List.range' id (c.post.length - c.pre.length))),
     []⟩
   else none
  | _, _ => none
 | _ => none
def aD1 (e : Operand → Option AV) (S : Nat → It) (id : Nat) (c : k6) (τ : List Nat) : Op → List (List AV × List It) × List (List AV × List It)
 | .call { callee := .value fo, args, .. } =>
  match (e fo).bind bl8, args.toList.mapM e with
  | some (_, fst, caps), some xs => ([(fst ++ (xs ++ caps), τ.map S ++ ay0 c.pre c.post)], [(AV.renL (nth (τ ++ List.range' id (c.post.length - c.pre.length))) c.args, c.pre.map (It.ren (nth (τ ++ List.range' id (c.post.length - c.pre.length)))) ++ ax9 c.pre c.post)])
  | _, _ => ([], [])
 | _ => ([], [])
section
variable {P : Program} {ι : Type} {φ ψ : Nat → Prop} {w0 w w' : World} {F : ι → Rs} {ρ : Nat → Value} {S : Nat → It}
theorem a00 {S : Nat → It} : ∀ {σ : List Nat} {L : List It} {i j : Nat} {x : It}, σ.Nodup → σ[i]? = some j → L[i]? = some x → o7 S (af5 σ L) j = x
 | [], _, _, _, _, _, h, _ => by simp at h
 | a :: r, [], _, _, _, _, _, h => by simp at h
 | a :: r, y :: s, 0, j, x, _, h1, h2 => by
  simp at h1 h2
  subst h1 h2
  simp [af5, o7]
 | a :: r, y :: s, i + 1, j, x, hn, h1, h2 => by
  have h1' : r[i]? = some j := by simpa using h1
  have hne : j ≠ a := fun e => (List.nodup_cons.1 hn).1 (e ▸ cb4 h1')
  simp only [af5, o7, if_neg hne]
  exact a00 (List.nodup_cons.1 hn).2 h1' (by simpa using h2)
theorem aZ0 : ∀ {σ : List Nat} {L : List It} {j : Nat}, j ∈ (af5 σ L).map (·.1) → j ∈ σ
 | [], _, _, h => by simp [af5] at h
 | a :: r, [], _, h => by simp [af5] at h
 | a :: r, y :: s, j, h => by
  simp only [af5, cb9, cb7] at h ⊢
  exact h.imp id aZ0
theorem G3 {σ : List Nat} {i j : Nat} (h : σ[i]? = some j) : nth σ i = j := by simp [nth, b91, h]
theorem ap8 {σ : List Nat} (hn : σ.Nodup) {i j : Nat} (h : σ[i]? = some j) : σ.idxOf j = i := by
 have hl := (b98.1 h).1
 have hm := cb4 h
 have h1 : σ[σ.idxOf j]? = some j := by
  have := List.idxOf_lt_length_of_mem hm
  rw [b90 this, List.getElem_idxOf]
 exact (List.getElem?_inj (List.idxOf_lt_length_of_mem hm) hn).1 (h1.trans h.symm)
theorem k6.okPost {c : k6} (hc : c.ok P) (post : List It) (h : ∀ (ρ : Nat → Value) (i : Nat), (s0 post i).res ρ i = (s0 c.post i).res ρ i) : k6.ok P ⟨c.f, c.args, c.pre, post, c.res⟩ := by
 intro ι φ ψ w0 w F ρ M
 refine (hc ι φ ψ w0 w F ρ M).mono ?_
 rintro x w' ⟨ρ', h1, h2, M2⟩
 refine ⟨ρ', h1, h2, ?_⟩
 have e : p7 F ρ' (s0 post) = p7 F ρ' (s0 c.post) := by
  funext k
  cases k with
  | inl i => rfl
  | inr j => exact h ρ' j
 simp only
 rw [e]; exact M2
theorem bI5 {f : It → It} (hf : f .none = .none) (l : List It) (i : Nat) : s0 (l.map f) i = f (s0 l i) := by
 simp only [s0, b91, List.getElem?_map]
 cases l[i]? with
 | none => exact hf.symm
 | some x => rfl
theorem bq2 (M : m5 φ ψ w0 w (p7 F ρ S)) {o : Oper} {e : Operand → Option AV} {g : Operand → Value} {fo : Operand} {args : Array Operand} {argTypes : Array TypeId} (hop : o.op = .call { callee := .value fo, args := args, argTypes := argTypes })
  (hg : ∀ x ∈ (Op.call { callee := .value fo, args := args, argTypes := argTypes }).operands, ∀ v, e x = some v → g x = v.val ρ) {c : k6} (hc : c.ok P) {fst caps xs : List AV} (hf : (e fo).bind bl8 = some (c.f, fst, caps)) (has : args.toList.mapM e = some xs) {τ σ : List Nat} {id m : Nat} (hm0 : m = c.post.length - c.pre.length) (hσ : τ ++ List.range' id m = σ)
  (hent : aC8 P c.f = true) (hτ : τ.length = c.pre.length) (hle : c.pre.length ≤ c.post.length) (hn : σ.Nodup) (hpost : c.post.all (fun x => W2 c.post.length x.ids) = true) (hres : W2 c.post.length c.res.ids = true) (hargs : fst ++ (xs ++ caps) = AV.renL (nth σ) c.args) (hSpre : ∀ i j, i < c.pre.length → σ[i]? = some j → S j = ((s0 c.pre) i).ren (nth σ))
  (L : List (Nat × It)) (hzip : o7 S L = o7 S (af5 σ (c.post.map (It.ren (nth σ))))) (hi : Inv S ρ (List.range' id m)) : K4 P o g w (I9 φ ψ w0 F ρ S ⟨L, List.range' id m, c.res.ren (nth σ), []⟩) := by
 subst hm0
 have hσl : σ.length = c.post.length := by rw [← hσ, b88, List.length_range']; omega
 have hmade : ∀ i, c.pre.length ≤ i → ∀ j, σ[i]? = some j → j ∈ List.range' id (c.post.length - c.pre.length) := fun i hi' j hj => by
  rw [← hσ, cc6 (by omega)] at hj
  exact cb4 hj
 let F' : ι ⊕ Nat → Rs := fun k => match k with | .inl i => F i | .inr j => if memN j σ then Rs.none else (S j).res ρ j
 have M1 : m5 φ ψ w0 w (p7 F' (fun i => ρ (nth σ i)) (s0 c.pre)) := by
  refine M.map (fun k : (ι ⊕ Nat) ⊕ Nat => (match k with | .inl (.inl i) => some (.inl i) | .inl (.inr j) => if memN j σ then none else some (.inr j) | .inr i => if i < c.pre.length then some (.inr (nth σ i)) else none : Option (ι ⊕ Nat))) ?_ ?_
  ·intro k k' x h1 h2
   match k, k' with
   | .inl (.inl i), .inl (.inl i') => simp at h1 h2; subst h1; simpa using h2.symm
   | .inl (.inl i), .inl (.inr j') => simp at h1; subst h1; simp at h2
   | .inl (.inl i), .inr j' => simp at h1; subst h1; simp at h2
   | .inl (.inr j), .inl (.inl i') => simp at h2; subst h2; simp at h1
   | .inr j, .inl (.inl i') => simp at h2; subst h2; simp at h1
   | .inl (.inr j), .inl (.inr j') =>
    simp at h1 h2
    rw [← h1.2] at h2
    rw [Sum.inr.inj h2.2]
   | .inl (.inr j), .inr i' =>
    simp at h1 h2
    rw [← h1.2] at h2
    have hj := Sum.inr.inj h2.2
    have hlt : i' < σ.length := by omega
    have : memN j σ = true := s7.2 (by rw [← hj, G3 (b90 hlt)]; exact cb0 hlt)
    rw [this] at h1; cases h1.1
   | .inr i, .inl (.inr j') =>
    simp at h1 h2
    rw [← h1.2] at h2
    have hj := Sum.inr.inj h2.2
    have hlt : i < σ.length := by omega
    have : memN j' σ = true := s7.2 (by rw [hj, G3 (b90 hlt)]; exact cb0 hlt)
    rw [this] at h2; cases h2.1
   | .inr i, .inr i' =>
    simp at h1 h2
    rw [← h1.2] at h2
    have hj := Sum.inr.inj h2.2
    have hlt : i < σ.length := by omega
    have hlt' : i' < σ.length := by omega
    rw [G3 (b90 hlt), G3 (b90 hlt')] at hj
    have := (List.getElem?_inj hlt hn).1 ((b90 hlt).trans (by rw [← hj]; exact (b90 hlt').symm))
    rw [this]
  ·intro k
   match k with
   | .inl (.inl i) => exact .inl ⟨.inl i, rfl, rfl⟩
   | .inl (.inr j) =>
    cases hm : memN j σ
    ·exact .inl ⟨.inr j, by simp [hm], by simp [p7, F', hm]⟩
    ·exact .inr (by simp [p7, F', hm])
   | .inr i =>
    by_cases hlt : i < c.pre.length
    ·refine .inl ⟨.inr (nth σ i), by simp [hlt], ?_⟩
     have hlt' : i < σ.length := by omega
     have h1 := hSpre i _ hlt (b90 hlt')
     simp only [p7]
     rw [G3 (b90 hlt'), h1, ← It.res_ren, G3 (b90 hlt')]
    ·refine .inr ?_
     simp only [p7, s0, b91, cb5 (Nat.le_of_not_lt hlt)]
     rfl
 have hcalls := hc _ φ ψ w0 w F' (fun i => ρ (nth σ i)) M1
 obtain ⟨av, hav, hcal⟩ := Option.bind_eq_some_iff.1 hf
 have hgf := hg fo (by simp [Op.operands, Call.operands]) _ hav
 have hga := ak8 (ρ := ρ) (g := g) (fun x hx v hv => hg x (by simp [Op.operands, Call.operands]; exact .inr (by simpa using hx)) v hv) has
 have hrun : (execOp g o).run P w = .ok (.enter c.f (AV.vals (fun i => ρ (nth σ i)) c.args).toArray) w := by
  have e1 : (AV.vals ρ fst).toArray ++ args.map g ++ (AV.vals ρ caps).toArray = (AV.vals (fun i => ρ (nth σ i)) c.args).toArray := by
   rw [← AV.vals_ren (ρ := ρ) (σ := nth σ) c.args, ← hargs, AV.vals_append, AV.vals_append, ← hga]
   apply Array.ext'; simp
  simp only [execOp, hop, resolve, Deferred.ofValue, Sem.run_bind, Sem.run_pure, Result.andThen_ok]
  rw [hgf]
  cases av <;> simp only [bl8, Option.some.injEq, Prod.mk.injEq, reduceCtorEq] at hcal
  ·obtain ⟨rfl, rfl, rfl⟩ := hcal
   simp only [AV.val, Sem.run_pure, Result.andThen_ok, invoke]
   simp only [AV.vals] at e1
   rw [e1]
   exact aQ5 hent _ _
  ·obtain ⟨rfl, rfl, rfl⟩ := hcal
   simp only [AV.val, Sem.run_pure, Result.andThen_ok, invoke]
   simp only [AV.vals] at e1
   rw [e1]
   exact aQ5 hent _ _
 refine .inr (.inr ⟨_, _, _, hrun, hcalls.mono ?_⟩)
 rintro x w' ⟨ρ', h1, rfl, M2⟩
 refine ⟨_, rfl, fun j => if memN j σ then ρ' (σ.idxOf j) else ρ j, ?_, ?_, ?_⟩
 ·intro j hj
  show (if memN j σ then ρ' (σ.idxOf j) else ρ j) = ρ j
  cases hm : memN j σ
  ·rfl
  ·obtain ⟨i, hi'⟩ := List.mem_iff_getElem?.1 (s7.1 hm)
   have hlt : i < c.pre.length := by
    rcases cc0 i c.pre.length with h | h
    ·exact h
    ·exact absurd (hmade i h j hi') hj
   simp only [if_true]
   rw [ap8 hn hi', h1 i hlt, G3 hi']
 ·have hag : ∀ j, j ∉ List.range' id (c.post.length - c.pre.length) → (fun j => if memN j σ then ρ' (σ.idxOf j) else ρ j) j = ρ j := by
   intro j hj
   show (if memN j σ then ρ' (σ.idxOf j) else ρ j) = ρ j
   cases hm : memN j σ
   ·rfl
   ·obtain ⟨i, hi'⟩ := List.mem_iff_getElem?.1 (s7.1 hm)
    have hlt : i < c.pre.length := by
     rcases cc0 i c.pre.length with h | h
     ·exact h
     ·exact absurd (hmade i h j hi') hj
    simp only [if_true]
    rw [ap8 hn hi', h1 i hlt, G3 hi']
  have hρσ : ∀ i, i < c.post.length → (fun j => if memN j σ then ρ' (σ.idxOf j) else ρ j) (nth σ i) = ρ' i := by
   intro i hlt
   have hi' := b90 (show i < σ.length by omega)
   show (if memN (nth σ i) σ then ρ' (σ.idxOf (nth σ i)) else ρ (nth σ i)) = ρ' i
   rw [G3 hi', s7.2 (cb0 _), if_pos rfl, ap8 hn hi']
  rw [hzip]
  refine M2.map (fun k : ι ⊕ Nat => (match k with | .inl i => some (.inl (.inl i)) | .inr j => if memN j σ then some (.inr (σ.idxOf j)) else some (.inl (.inr j)) : Option ((ι ⊕ Nat) ⊕ Nat))) ?_ ?_
  ·intro k k' x h2 h3
   match k, k' with
   | .inl i, .inl i' => simp at h2 h3; rw [← h2] at h3; simpa using h3.symm
   | .inl i, .inr j => simp at h2; subst h2; simp at h3; split at h3 <;> simp at h3
   | .inr j, .inl i => simp at h3; subst h3; simp at h2; split at h2 <;> simp at h2
   | .inr j, .inr j' =>
    simp only at h2 h3
    cases hm : memN j σ <;> cases hm' : memN j' σ <;> rw [hm] at h2 <;> rw [hm'] at h3 <;> simp at h2 h3 <;> subst h2 <;> simp at h3
    ·rw [h3]
    ·obtain ⟨i, hi1⟩ := List.mem_iff_getElem?.1 (s7.1 hm)
     obtain ⟨i', hi2⟩ := List.mem_iff_getElem?.1 (s7.1 hm')
     rw [ap8 hn hi1, ap8 hn hi2] at h3
     subst h3
     rw [hi1] at hi2; cases hi2; rfl
  ·intro k
   match k with
   | .inl i => exact .inl ⟨_, rfl, rfl⟩
   | .inr j =>
    cases hm : memN j σ
    ·refine .inl ⟨.inl (.inr j), by simp [hm], ?_⟩
     simp only [p7, F', hm]
     rw [as2 fun hh => by have := s7.2 (aZ0 hh); rw [hm] at this; cases this]
     exact hi _ hag j
    ·obtain ⟨i, hi'⟩ := List.mem_iff_getElem?.1 (s7.1 hm)
     have hlt : i < c.post.length := by have := (b98.1 hi').1; omega
     refine .inl ⟨.inr (σ.idxOf j), by simp [hm], ?_⟩
     rw [ap8 hn hi']
     have hx : (c.post.map (It.ren (nth σ)))[i]? = some ((c.post[i]).ren (nth σ)) := by simp [hlt]
     simp only [p7]
     rw [a00 hn hi' hx]
     conv => lhs; rw [← G3 hi']
     rw [It.res_ren]
     have hl : s0 c.post i = c.post[i] := by simp [s0, b91, hlt]
     rw [hl]
     exact It.res_congr _ (fun q hq => hρσ q (D0 (b93.1 hpost _ (cb0 hlt)) q hq)) (.inr (.inr (hρσ i hlt)))
 ·rw [AV.val_ren]
  refine (AV.val_congr _ fun q hq => ?_).symm
  have hlt := D0 hres q hq
  have hi' := b90 (show q < σ.length by omega)
  show (if memN (nth σ q) σ then ρ' (σ.idxOf (nth σ q)) else ρ (nth σ q)) = ρ' q
  rw [G3 hi', s7.2 (cb0 _), if_pos rfl, ap8 hn hi']
theorem bK9 (M : m5 φ ψ w0 w (p7 F ρ S)) {o : Oper} {e : Operand → Option AV} {g : Operand → Value} (hg : ∀ x ∈ o.op.operands, ∀ v, e x = some v → g x = v.val ρ) {c : k6} (hc : c.ok P) {τ : List Nat} {id : Nat} {r : Tr} (h : aD0 P e S id c τ o.op = some r) (ho : (aD1 e S id c τ o.op).1 = (aD1 e S id c τ o.op).2) (hmk : ∀ j ∈ r.made, S j = .none) (hi : Inv S ρ r.made) :
  K4 P o g w (I9 φ ψ w0 F ρ S r) := by
 cases hop : o.op <;> rw [hop] at h hg ho <;> simp only [aD0] at h <;> first | cases h | skip
 rename_i cl
 obtain ⟨callee, args, argTypes⟩ := cl
 cases callee <;> (try simp only [aD0] at h) <;> first | cases h | skip
 rename_i fo
 split at h
 case h_2 => cases h
 rename_i f fst caps xs hf has
 split at h
 case isFalse => cases h
 rename_i hcond
 cases h
 simp only [aD1, hf, has, List.cons.injEq, Prod.mk.injEq, and_true] at ho
 generalize hσ : τ ++ List.range' id (c.post.length - c.pre.length) = σ at *
 simp only [b86, decide_eq_true_eq, natEq, beq_iff_eq] at hcond
 obtain ⟨⟨⟨⟨⟨⟨rfl, hent⟩, hτ⟩, hle⟩, hnd⟩, hpost⟩, hres⟩ := hcond
 have hn := ap3 hnd
 obtain ⟨hargs, hpre⟩ := ho
 obtain ⟨hpre, hsame⟩ := List.append_inj hpre (by simp [hτ])
 have hσl : σ.length = c.post.length := by rw [← hσ, b88, List.length_range']; omega
 have hστ : ∀ i, i < c.pre.length → σ[i]? = τ[i]? := fun i hi' => by rw [← hσ, ca9 (by omega)]
 have hmade : ∀ i, c.pre.length ≤ i → ∀ j, σ[i]? = some j → j ∈ List.range' id (c.post.length - c.pre.length) := fun i hi' j hj => by
  rw [← hσ, cc6 (by omega)] at hj
  exact cb4 hj
 have hSpre : ∀ i j, i < c.pre.length → σ[i]? = some j → S j = ((s0 c.pre) i).ren (nth σ) := fun i j hi' hj => by
  have h1 : (τ.map S)[i]? = (c.pre.map (It.ren (nth σ)))[i]? := by rw [hpre]
  rw [List.getElem?_map, List.getElem?_map, ← hστ i hi', hj] at h1
  simp only [s0, b91]
  rw [b90 hi'] at h1 ⊢
  simpa using h1
 have hc1 : k6.ok P ⟨c.f, c.args, c.pre, c.post.map It.unK, c.res⟩ := k6.okPost hc _ fun ρ i => by rw [bI5 rfl, It.res_unK]
 have hll : (c.post.map It.unK).length = c.post.length := List.length_map It.unK
 refine bq2 M hop hg hc1 hf has (by simp only; rw [hll]) hσ hent hτ (by simp only; omega) hn ?_ (by simp only; rw [hll]; exact hres) hargs hSpre _ ?_ hi
 ·simp only
  rw [hll, List.all_map]
  refine b93.2 fun x hx => ?_
  simp only [Function.comp, It.ids_unK]
  exact b93.1 hpost x hx
 ·funext j
  rw [aw3 hn (fun i j p x h1 h2 h3 hk => ?_) j]
  ·simp only [List.map_map]
   congr 3
   funext x
   exact It.unK_ren _ x
  ·have hlt : i < c.pre.length := (b98.1 h2).1
   rw [hSpre i j hlt h1]
   rw [List.getElem?_map] at h3
   cases hx : c.post[i]? with
   | none => rw [hx] at h3; simp at h3
   | some y =>
    rw [hx] at h3
    simp at h3
    subst h3
    have hk2 : aJ5 p y = true := by
     cases p <;> cases y <;> first | exact hk | (simp [aJ5, It.ren] at hk; done)
    have := aX7 hsame h2 hx hk2
    rw [show s0 c.pre i = p by simp [s0, b91, h2], this, It.unK_ren]
end
def y8 : List (Nat × AV) → Nat → Option AV
 | [], _ => none
 | (k, x) :: r, t => if natEq t k then some x else y8 r t
abbrev rg (n : Nat) : List Nat := cb2 n
theorem dFf {p : Prop} [Decidable p] (h : decide p = false) : ¬ p := of_decide_eq_false h
theorem dTt {p : Prop} [Decidable p] (h : decide p = true) : p := of_decide_eq_true h
def us : List (Nat × Nat × Nat) → List (Nat × Nat)
 | [] => []
 | (a, b, k) :: r => ((cb2 (b + 1 - a)).map fun i => (a + i, k)) ++ us r
structure P7 where
 calls : List (Nat × k6 × List Nat)
 facts : List (Bool × Bool)
 uses : List (Nat × Nat)
def K5 : List (Nat × k6 × List Nat) → Nat → Option (k6 × List Nat)
 | [], _ => none
 | (k, x) :: r, i => if natEq i k then some x else K5 r i
def b22 : List (Nat × Nat) → Nat → Option Nat
 | [], _ => none
 | (k, x) :: r, i => if natEq i k then some x else b22 r i
def bk5 (H : P7) (i : Nat) : Option (Bool × Bool) := (b22 H.uses i).bind fun k => H.facts[k]?
def N9 : List (Bool × Bool) → Prop
 | [] => True
 | p :: r => p.1 = p.2 ∧ N9 r
theorem a52 : ∀ {l : List (Bool × Bool)} {k : Nat} {p : Bool × Bool}, N9 l → l[k]? = some p → p.1 = p.2
 | [], _, _, _, h => by simp at h
 | q :: r, 0, p, hf, h => by simp at h; subst h; exact hf.1
 | q :: r, k + 1, p, hf, h => a52 hf.2 (by simpa using h)
theorem a42 {H : P7} (hF : N9 H.facts) {i : Nat} {p : Bool × Bool} (h : bk5 H i = some p) : p.1 = p.2 := by
 obtain ⟨k, _, h2⟩ := Option.bind_eq_some_iff.1 h
 exact a52 hF h2
def opT (op : Op) : List Nat := op.operands.toList.filterMap fun | .tmp t => some t | _ => none
def rtm (tm : Nat → Option AV) (l : List Nat) : Nat → Option AV := fun t => if memN t l then tm t else none
def rS (S : Nat → It) (l : List Nat) : Nat → It := fun j => if memN j l then S j else .none
def S8 (tm : Nat → Option AV) (l : List Nat) : List Nat := (l.filterMap tm).flatMap AV.ids
def tch (tm : Nat → Option AV) (op : Op) : List Nat := match op with
 | .move _ => []
 | .store _ x _ => match ev (rtm tm (opT op)) x with
  | some (.ptr b _) => [b]
  | _ => S8 tm (opT op)
 | _ => S8 tm (opT op)
def wk (tm : Nat → Option AV) (op : Op) : List Nat := match op with
 | .store _ x _ => match ev (rtm tm (opT op)) x with
  | some (.ptr _ _) => S8 tm (opT op)
  | _ => []
 | _ => []
def aV4 (d : Option (Bool × Bool)) (e : Operand → Option AV) : Op → Option Tr
 | .pick c a b =>
  match d, e c with
  | some d, some (.v (.bool _)) => (e (if d.2 then a else b)).map fun r => ⟨[], [], r, []⟩
  | _, _ => none
 | _ => none
def aV5 (d : Option (Bool × Bool)) (e : Operand → Option AV) : Op → List (List AV × List It) × List (List AV × List It)
 | .pick c _ _ =>
  match d, e c with
  | some d, some x => ([([x], [])], [([.v (.bool d.1)], [])])
  | _, _ => ([], [])
 | _ => ([], [])
def aI1 (P : Program) (dk : TypeId → Nat) (H : P7) (tm : Nat → Option AV) (S : Nat → It) (id i : Nat) (op : Op) : Option Tr :=
 match K5 H.calls i with
 | some (c, τ) => aD0 P (ev (rtm tm (opT op))) (rS S (tch tm op ++ τ)) id c τ op
 | none =>
  match aV4 (bk5 H (i + 1000)) (ev (rtm tm (opT op))) op with
  | some r => some r
  | none => as5 P dk (ev (rtm tm (opT op))) (rS S (tch tm op ++ wk tm op)) id op
def bb2 (H : P7) (tm : Nat → Option AV) (S : Nat → It) (id i : Nat) (op : Op) : List (List AV × List It) × List (List AV × List It) :=
 match K5 H.calls i with
 | some (c, τ) => aD1 (ev (rtm tm (opT op))) (rS S (tch tm op ++ τ)) id c τ op
 | none => aV5 (bk5 H (i + 1000)) (ev (rtm tm (opT op))) op
def aG0 (ops : List Oper) (H : P7) (tm : Nat → Option AV) (i : Nat) (o : Oper) : Option (Bool × List AV × List AV) :=
 match o.guard with
 | none => some (true, [], [])
 | some (j, want) =>
  match (ops[j]?).bind (·.dst) with
  | none => none
  | some t =>
   match tm t with
   | some (.v (.bool b)) => (bk5 H i).map fun d => (d.2 == want, [.v (.bool b)], [.v (.bool d.1)])
   | some (.v (.tuple _)) => some (false, [], [])
   | _ => none
def knd : It → Nat
 | .box _ => 1
 | .dat _ => 2
 | .row _ _ => 2
 | .tree _ => 3
 | _ => 0
theorem b06 (x : It) : itB x = natEq (knd x) 1 := by cases x <;> rfl
theorem bO9 (x : It) : (itD x).isSome = natEq (knd x) 2 := by cases x <;> rfl
theorem b05 (x : It) : (itT x).isSome = natEq (knd x) 3 := by cases x <;> rfl
section
variable {S S' : Nat → It}
mutual
theorem Q1 : ∀ {x : AV}, (∀ j ∈ x.ids, knd (S j) = knd (S' j)) → okc S x = okc S' x
 | .v _, _ => rfl
 | .ptr b _, h => by simp only [okc, b06]; rw [h b (by simp [AV.ids])]
 | .ea b _ _ _, h => by simp only [okc, bO9]; rw [h b (by simp [AV.ids])]
 | .ref b, h => by simp only [okc, bO9]; rw [h b (by simp [AV.ids])]
 | .fn _ l, h => by simp only [okc]; exact at4 fun j hj => h j (by simpa [AV.ids] using hj)
 | .bm _ l, h => by simp only [okc]; exact K7 fun j hj => h j (by simpa [AV.ids] using hj)
 | .tref b, h => by simp only [okc, b05]; rw [h b (by simp [AV.ids])]
 | .agg _, _ => rfl
 | .tup _, _ => rfl
theorem at4 : ∀ {l : List AV}, (∀ j ∈ AV.idsL l, knd (S j) = knd (S' j)) → aI2 S l = aI2 S' l
 | [], _ => rfl
 | x :: r, h => by
  simp only [aI2]
  rw [Q1 (x := x) fun j hj => h j (by simp [AV.idsL, hj]), at4 (l := r) fun j hj => h j (by simp [AV.idsL, hj])]
theorem K7 : ∀ {l : List AV}, (∀ j ∈ AV.idsL l, knd (S j) = knd (S' j)) → W0 S l = W0 S' l
 | [], _ => rfl
 | .agg c :: r, h => by
  simp only [W0]
  rw [at4 (l := c) fun j hj => h j (by simp [AV.idsL, AV.ids, hj]), K7 (l := r) fun j hj => h j (by simp [AV.idsL, hj])]
 | .v x :: r, h => by
  simp only [W0]
  rw [Q1 (x := .v x) fun j hj => h j (by simp [AV.idsL, hj]), K7 (l := r) fun j hj => h j (by simp [AV.idsL, hj])]
 | .ptr x y :: r, h => by
  simp only [W0]
  rw [Q1 (x := .ptr x y) fun j hj => h j (by simp [AV.idsL, hj]), K7 (l := r) fun j hj => h j (by simp [AV.idsL, hj])]
 | .ea x y z u :: r, h => by
  simp only [W0]
  rw [Q1 (x := .ea x y z u) fun j hj => h j (by simp [AV.idsL, hj]), K7 (l := r) fun j hj => h j (by simp [AV.idsL, hj])]
 | .ref x :: r, h => by
  simp only [W0]
  rw [Q1 (x := .ref x) fun j hj => h j (by simp [AV.idsL, hj]), K7 (l := r) fun j hj => h j (by simp [AV.idsL, hj])]
 | .fn x y :: r, h => by
  simp only [W0]
  rw [Q1 (x := .fn x y) fun j hj => h j (by simp [AV.idsL, hj]), K7 (l := r) fun j hj => h j (by simp [AV.idsL, hj])]
 | .bm x y :: r, h => by
  simp only [W0]
  rw [Q1 (x := .bm x y) fun j hj => h j (by simp [AV.idsL, hj]), K7 (l := r) fun j hj => h j (by simp [AV.idsL, hj])]
 | .tref x :: r, h => by
  simp only [W0]
  rw [Q1 (x := .tref x) fun j hj => h j (by simp [AV.idsL, hj]), K7 (l := r) fun j hj => h j (by simp [AV.idsL, hj])]
 | .tup x :: r, h => by
  simp only [W0]
  rw [Q1 (x := .tup x) fun j hj => h j (by simp [AV.idsL, hj]), K7 (l := r) fun j hj => h j (by simp [AV.idsL, hj])]
end
theorem bx7 {x : AV} (h : ∀ j ∈ x.ids, knd (S j) = knd (S' j)) : aA6 S x = aA6 S' x := by
 cases x <;> simp only [aA6]
 case agg l => exact at4 fun j hj => h j (by simpa [AV.ids] using hj)
 all_goals exact Q1 h
theorem bm9 {tm : Nat → Option AV} {l : List Nat} {t : Nat} {y : AV} (ht : t ∈ l) (hy : tm t = some y) {j : Nat} (hj : j ∈ y.ids) : j ∈ S8 tm l := List.mem_flatMap.2 ⟨y, List.mem_filterMap.2 ⟨t, ht, hy⟩, hj⟩
theorem bu2 {P : Program} {dk : TypeId → Nat} {tm : Nat → Option AV} {op : Op} {id : Nat} (hs : ∀ j ∈ tch tm op, S' j = S j) (hk : ∀ j ∈ wk tm op, knd (S' j) = knd (S j)) : as5 P dk (ev (rtm tm (opT op))) (rS S' (tch tm op ++ wk tm op)) id op = as5 P dk (ev (rtm tm (opT op))) (rS S (tch tm op ++ wk tm op)) id op := by
 have plain : wk tm op = [] → as5 P dk (ev (rtm tm (opT op))) (rS S' (tch tm op ++ wk tm op)) id op = as5 P dk (ev (rtm tm (opT op))) (rS S (tch tm op ++ wk tm op)) id op := fun e => by
  rw [e, List.append_nil]
  have : rS S' (tch tm op) = rS S (tch tm op) := by
   funext j
   unfold rS
   split
   ·rename_i hm; exact hs j (s7.1 hm)
   ·rfl
  rw [this]
 cases op with
 | store t x y =>
  cases hx : ev (rtm tm (opT (.store t x y))) x with
  | none => exact plain (by simp only [wk, hx])
  | some v =>
   cases v with
   | ptr b off =>
    cases hy : ev (rtm tm (opT (.store t x y))) y with
    | none => simp only [as5, ai3, hx, hy, Y4]
    | some u =>
     have e1 : tch tm (.store t x y) = [b] := by simp only [tch, hx]
     have e2 : wk tm (.store t x y) = S8 tm (opT (.store t x y)) := by simp only [wk, hx]
     rw [e1] at hs ⊢
     rw [e2] at hk ⊢
     have e3 : rS S' ([b] ++ S8 tm (opT (.store t x y))) b = rS S ([b] ++ S8 tm (opT (.store t x y))) b := by
      unfold rS
      split
      ·exact hs b (by simp)
      ·rfl
     have hyi : ∀ j ∈ u.ids, j ∈ S8 tm (opT (.store t x y)) := fun j hj => by
      cases y with
      | tmp s =>
       simp only [ev, rtm] at hy
       split at hy
       ·rename_i hm; exact bm9 (s7.1 hm) hy hj
       ·cases hy
      | const c => cases hy; simp [AV.ids, AV.idsL] at hj
      | global g => cases hy <;> simp [AV.ids, AV.idsL] at hj
      | func f => cases hy <;> simp [AV.ids, AV.idsL] at hj
     have e4 : aA6 (rS S' ([b] ++ S8 tm (opT (.store t x y)))) u = aA6 (rS S ([b] ++ S8 tm (opT (.store t x y)))) u := bx7 fun j hj => by
      unfold rS
      split
      ·rename_i hm
       rcases ca2.1 (s7.1 hm) with h | h
       ·rw [hs j h]
       ·exact hk j h
      ·rfl
     simp only [as5, Y4, ai3, hx, hy, aa5, e3, e4]
   | _ => exact plain (by simp only [wk, hx])
 | _ => exact plain rfl
end
section
variable {P : Program} {ι : Type} {φ ψ : Nat → Prop} {w0 w w' : World} {F : ι → Rs} {ρ : Nat → Value} {S : Nat → It}
theorem ao5 {S S' : Nat → It} {j : Nat} (h : S j = S' j) : ∀ (l : List (Nat × It)), o7 S l j = o7 S' l j
 | [] => h
 | (k, x) :: r => by simp only [o7]; split; rfl; exact ao5 h r
theorem K4.frame {o : Oper} {g : Operand → Value} {t : Tr} (l : List Nat) (M : m5 φ ψ w0 w (p7 F ρ S)) (hi : Inv S ρ t.made) (hmk : ∀ j ∈ t.made, S j = .none) (hnew : ∀ j ∈ t.new.map (·.1), j ∈ l ∨ S j = .none)
  (h : ∀ {κ : Type} (F' : κ → Rs), m5 φ ψ w0 w (p7 F' ρ (rS S l)) → Inv (rS S l) ρ t.made → (∀ j ∈ t.made, rS S l j = .none) → K4 P o g w (I9 φ ψ w0 F' ρ (rS S l) t)) : K4 P o g w (I9 φ ψ w0 F ρ S t) := by
 let F' : ι ⊕ Nat → Rs := fun k => match k with | .inl i => F i | .inr j => if memN j l then Rs.none else (S j).res ρ j
 have M1 : m5 φ ψ w0 w (p7 F' ρ (rS S l)) := by
  refine M.map (fun k : (ι ⊕ Nat) ⊕ Nat => (match k with | .inl (.inl i) => some (.inl i) | .inl (.inr j) => if memN j l then none else some (.inr j) | .inr j => if memN j l then some (.inr j) else none : Option (ι ⊕ Nat))) ?_ ?_
  ·intro k k' x h1 h2
   match k, k' with
   | .inl (.inl i), .inl (.inl i') => simp at h1 h2; subst h1; simpa using h2.symm
   | .inl (.inl i), .inl (.inr j') => simp at h1; subst h1; simp at h2
   | .inl (.inl i), .inr j' => simp at h1; subst h1; simp at h2
   | .inl (.inr j), .inl (.inl i') => simp at h2; subst h2; simp at h1
   | .inr j, .inl (.inl i') => simp at h2; subst h2; simp at h1
   | .inl (.inr j), .inl (.inr j') => simp at h1 h2; rw [← h1.2] at h2; rw [Sum.inr.inj h2.2]
   | .inl (.inr j), .inr j' =>
    simp at h1 h2
    rw [← h1.2] at h2
    have := Sum.inr.inj h2.2
    subst this
    rw [h1.1] at h2; cases h2.1
   | .inr j, .inl (.inr j') =>
    simp at h1 h2
    rw [← h1.2] at h2
    have := Sum.inr.inj h2.2
    subst this
    rw [h1.1] at h2; cases h2.1
   | .inr j, .inr j' => simp at h1 h2; rw [← h1.2] at h2; rw [Sum.inr.inj h2.2]
  ·intro k
   match k with
   | .inl (.inl i) => exact .inl ⟨.inl i, rfl, rfl⟩
   | .inl (.inr j) =>
    cases hm : memN j l
    ·exact .inl ⟨.inr j, by simp [hm], by simp [p7, F', hm]⟩
    ·exact .inr (by simp [p7, F', hm])
   | .inr j =>
    cases hm : memN j l
    ·exact .inr (by simp [p7, rS, hm, It.res])
    ·exact .inl ⟨.inr j, by simp [hm], by simp [p7, rS, hm]⟩
 have hi1 : Inv (rS S l) ρ t.made := fun ρ' ha j => by
  unfold rS
  split
  ·exact hi ρ' ha j
  ·rfl
 refine (h F' M1 hi1 fun j hj => by unfold rS; split; exact hmk j hj; rfl).mono ?_
 rintro v w' ⟨ρ', ha, M2, rfl⟩
 refine ⟨ρ', ha, ?_, rfl⟩
 refine M2.map (fun k : ι ⊕ Nat => (match k with | .inl i => some (.inl (.inl i)) | .inr j => if memN j l || memN j (t.new.map (·.1)) then some (.inr j) else some (.inl (.inr j)) : Option ((ι ⊕ Nat) ⊕ Nat))) ?_ ?_
 ·intro k k' x h1 h2
  match k, k' with
  | .inl i, .inl i' => simp at h1 h2; rw [← h1] at h2; simpa using h2.symm
  | .inl i, .inr j => simp only at h1 h2; cases h1; split at h2 <;> simp at h2
  | .inr j, .inl i => simp only at h1 h2; cases h2; split at h1 <;> simp at h1
  | .inr j, .inr j' =>
   simp only at h1 h2
   split at h1 <;> split at h2 <;> simp at h1 h2 <;> subst h1 <;> simp at h2 <;> rw [h2]
 ·intro k
  match k with
  | .inl i => exact .inl ⟨_, rfl, rfl⟩
  | .inr j =>
   cases hc : (memN j l || memN j (t.new.map (·.1)))
   ·refine .inl ⟨.inl (.inr j), by simp only [hc]; rfl, ?_⟩
    simp only [Bool.or_eq_false_iff] at hc
    simp only [p7, F', hc.1]
    rw [as2 fun hh => by rw [s7.2 hh] at hc; cases hc.2]
    exact hi ρ' ha j
   ·refine .inl ⟨.inr j, by simp only [hc, if_true], ?_⟩
    simp only [p7]
    cases hm : memN j l
    ·rw [hm] at hc
     simp only [Bool.false_or] at hc
     rcases hnew j (s7.1 hc) with h1 | h1
     ·rw [s7.2 h1] at hm; cases hm
     ·rw [ao5 (S := rS S l) (S' := S) (by unfold rS; rw [hm, h1]; rfl)]
    ·rw [ao5 (S := rS S l) (S' := S) (by unfold rS; rw [hm]; rfl)]
theorem bd2 {tm : Nat → Option AV} {l : List Nat} {a : Act} {x : Operand} {v : AV} (ht : ∀ t y, t ∈ l → tm t = some y → a.tmps[t]? = some (y.val ρ)) (h : ev (rtm tm l) x = some v) : a.eval x = v.val ρ := by
 cases x with
 | tmp t =>
  simp only [ev, rtm] at h
  split at h
  ·rename_i hm
   have := ht t v (s7.1 hm) h
   simp [Act.eval, Array.getD_eq_getD_getElem?, this]
  ·cases h
 | const c => cases h; rfl
 | global g => cases h; rfl
 | func f => cases h; rfl
theorem bH7 (M : m5 φ ψ w0 w (p7 F ρ S)) {o : Oper} {e : Operand → Option AV} {g : Operand → Value} (hg : ∀ x, ∀ v, e x = some v → g x = v.val ρ) {d : Option (Bool × Bool)} {r : Tr} (h : aV4 d e o.op = some r) (hd : ∀ p, d = some p → p.1 = p.2) (he : (aV5 d e o.op).1 = (aV5 d e o.op).2) : K4 P o g w (I9 φ ψ w0 F ρ S r) := by
 cases hop : o.op <;> rw [hop] at h he <;> simp only [aV4] at h <;> first | cases h | skip
 rename_i c a b
 split at h
 case h_2 => cases h
 rename_i d' x hx
 obtain ⟨v, h1, h2⟩ := b92.1 h
 subst h2
 simp only [aV5, hx, List.cons.injEq, Prod.mk.injEq, and_true, AV.v.injEq, Value.bool.injEq] at he
 have hc := hg c _ hx
 have hv := hg _ _ h1
 have hx2 : x = d'.2 := he.trans (hd d' rfl)
 refine .inl ⟨v.val ρ, w, ?_, ρ, C0.refl _ _, M, rfl⟩
 simp only [execOp, hop, hc, AV.val, hx2]
 cases hdd : d'.2 <;> rw [hdd] at hv <;> simp [asBool] at hv ⊢ <;> exact hv
def b00 (l : List Nat) (made : List Nat) (t : Tr) : Bool := t.new.all fun p => memN p.1 l || memN p.1 made
theorem a27 (M : m5 φ ψ w0 w (p7 F ρ S)) {dk : TypeId → Nat} {H : P7} (hH : ∀ i c τ, K5 H.calls i = some (c, τ) → c.ok P) (hF : N9 H.facts) {tm : Nat → Option AV} {a : Act} {o : Oper} (ht : ∀ t y, t ∈ opT o.op → tm t = some y → a.tmps[t]? = some (y.val ρ)) {id i : Nat} {r : Tr} (h : aI1 P dk H tm S id i o.op = some r) (ho : t8 r.obs) (he : (bb2 H tm S id i o.op).1 = (bb2 H tm S id i o.op).2) (hmk : ∀ j ∈ r.made, S j = .none) (hi : Inv S ρ r.made)
  (hnew : ∀ j ∈ r.new.map (·.1), j ∈ tch tm o.op ++ (match K5 H.calls i with | some (_, τ) => τ | none => []) ∨ j ∈ r.made) :
  K4 P o a.eval w (I9 φ ψ w0 F ρ S r) := by
 unfold aI1 at h
 unfold bb2 at he
 split at h
 ·rename_i c τ hcl
  rw [hcl] at hnew he
  refine K4.frame (tch tm o.op ++ τ) M hi hmk (fun j hj => (hnew j hj).imp (fun h => h) (hmk j)) fun F' M' hi' hmk' => ?_
  exact bK9 M' (e := ev (rtm tm (opT o.op))) (fun x _ v hv => bd2 ht hv) (hH i c τ hcl) h he hmk' hi'
 ·rename_i hcl
  rw [hcl] at hnew he
  refine K4.frame (tch tm o.op ++ wk tm o.op) M hi hmk (fun j hj => (hnew j hj).imp (fun h => List.mem_append_left _ (by simpa using h)) (hmk j)) fun F' M' hi' hmk' => ?_
  split at h
  ·rename_i q hq
   cases h
   exact bH7 M' (e := ev (rtm tm (opT o.op))) (fun x v hv => bd2 ht hv) hq (fun p hp => a42 hF hp) he
  ·exact bu3 M' (e := ev (rtm tm (opT o.op))) (fun x _ v hv => bd2 ht hv) h ho hmk' hi'
theorem as1 {ops : List Oper} {H : P7} (hF : N9 H.facts) {tm : Nat → Option AV} {i : Nat} {o : Oper} {a : Act} {b : Bool} {l r : List AV} (h : aG0 ops H tm i o = some (b, l, r)) (ho : l = r)
  (ht : ∀ t y, (∃ j wnt, o.guard = some (j, wnt) ∧ (ops[j]?).bind (·.dst) = some t) → tm t = some y → a.tmps[t]? = some (y.val ρ)) : Region.wanted o (yielded ops.toArray a.tmps) = b := by
 unfold aG0 at h
 unfold Region.wanted
 cases hg : o.guard with
 | none => rw [hg] at h; cases h; rfl
 | some q =>
  obtain ⟨j, want⟩ := q
  rw [hg] at h
  simp only at h ⊢
  split at h
  case h_1 => cases h
  rename_i t hd
  have hy : ∀ y, tm t = some y → a.tmps[t]? = some (y.val ρ) := fun y hy => ht t y ⟨j, want, hg, hd⟩ hy
  unfold yielded
  rw [show ((ops.toArray[j]?).bind (·.dst)).bind (a.tmps[·]?) = a.tmps[t]? by simp only [List.getElem?_toArray, hd]; rfl]
  split at h
  ·rename_i x b' hb
   rw [hy _ hb]
   obtain ⟨d, h1, h2⟩ := b92.1 h
   cases h2
   simp only [List.cons.injEq, AV.v.injEq, Value.bool.injEq, and_true] at ho
   simp only [AV.val]
   rw [ho, a42 hF h1]
   rfl
  ·rename_i x b' hb
   rw [hy _ hb]
   cases h
   rfl
  ·cases h
end
structure Ac where
 dst : Option Nat
 t : Tr
 want : Bool
 rt : List Nat
 ri : List Nat
 eqs : List (List AV × List It) × List (List AV × List It)
 eqw : List AV × List AV
 rk : List Nat
def bS8 : Tr := ⟨[], [], .v undef, []⟩
def ba8 (dst : Option Nat) (x : AV) (tm : List (Nat × AV)) : List (Nat × AV) :=
 match dst with
 | some d => (d, x) :: tm
 | none => tm
def aM4 (dst : Option Nat) (x : AV) (tm : Nat → Option AV) : Nat → Option AV := fun t => if dst = some t then some x else tm t
def bC8 (N : Nat) (dst : Option Nat) : Bool := match dst with | some d => decide (d < N) | none => true
def a49 (n : Nat) (t : Tr) : Bool :=
 t.new.all (fun p => decide (p.1 < n + 8) && W2 (n + 8) p.2.ids) && t.made.all (fun j => decide (n ≤ j) && decide (j < n + 8)) && W2 (n + 8) t.res.ids
def aX8 (ops : List Oper) (o : Oper) : List Nat :=
 match o.guard with
 | some (j, _) => ((ops[j]?).bind (·.dst)).toList
 | none => []
def bl7 (H : P7) (i : Nat) : List Nat := match K5 H.calls i with
 | some (_, τ) => τ
 | none => []
def opA (P : Program) (dk : TypeId → Nat) (N : Nat) (ops : List Oper) (H : P7) (i : Nat) (o : Oper) (tm : Nat → Option AV) (S : Nat → It) (n : Nat) : Option (Ac × List Prop) :=
 if bC8 N o.dst then
  match aG0 ops H tm i o with
  | none => none
  | some (false, l, r) => some (⟨o.dst, bS8, false, aX8 ops o, [], ([], []), (l, r), []⟩, [])
  | some (true, l, r) =>
   match aI1 P dk H tm S n i o.op with
   | none => none
   | some t =>
    if a49 n t && b00 (tch tm o.op ++ bl7 H i) t.made t then some (⟨o.dst, t, true, opT o.op ++ aX8 ops o, tch tm o.op ++ bl7 H i, bb2 H tm S n i o.op, (l, r), wk tm o.op⟩, t.obs) else none
 else none
structure RS where
 acts : List Ac
 obs : List Prop
 tm : List (Nat × AV)
 S : Nat → It
def T9 (P : Program) (dk : TypeId → Nat) (N : Nat) (ops : List Oper) (H : P7) : List Oper → Nat → List (Nat × AV) → (Nat → It) → Nat → Option RS
 | [], _, tm, S, _ => some ⟨[], [], tm, S⟩
 | o :: r, i, tm, S, n =>
  match opA P dk N ops H i o (y8 tm) S n with
  | none => none
  | some (a, ob) =>
   match T9 P dk N ops H r (i + 1) (ba8 a.dst a.t.res tm) (o7 S a.t.new) (n + 8) with
   | none => none
   | some s => some ⟨a :: s.acts, ob ++ s.obs, s.tm, s.S⟩
section
variable {P : Program} {ι : Type} {φ ψ : Nat → Prop} {w0 w w' : World} {F : ι → Rs} {ρ : Nat → Value} {S : Nat → It} {N m n : Nat} {ρ0 : Nat → Value}
structure Inn (φ ψ : Nat → Prop) (w0 : World) (F : ι → Rs) (N m : Nat) (ρ0 : Nat → Value) (n : Nat) (ρ : Nat → Value) (tm : Nat → Option AV) (S : Nat → It) (a : Act) (w : World) : Prop where
 size : a.tmps.size = N
 defs : a.defers = []
 tmv : ∀ t x, tm t = some x → a.tmps[t]? = some (x.val ρ)
 tmi : ∀ t x, tm t = some x → ∀ id ∈ x.ids, id < n
 bd : ∀ j, (∀ id ∈ (S j).ids, id < n) ∧ (n ≤ j → S j = .none)
 mem : m5 φ ψ w0 w (p7 F ρ S)
 le : m ≤ n
 old : ∀ i, i < m → ρ i = ρ0 i
theorem Inn.inv {tm : Nat → Option AV} {a : Act} (I : Inn φ ψ w0 F N m ρ0 n ρ tm S a w) {mk : List Nat} (h : ∀ j ∈ mk, n ≤ j) : Inv S ρ mk := fun ρ' ha j => by
 have hlt : ∀ id, id < n → ρ' id = ρ id := fun id hid => ha id fun hm => by have := h id hm; omega
 refine It.res_congr _ (fun id hid => hlt id ((I.bd j).1 id hid)) ?_
 rcases cc0 j n with hj | hj
 ·exact .inr (.inr (hlt j hj))
 ·exact .inl ((I.bd j).2 hj)
theorem aP7 {dst : Option Nat} {x : AV} {tm : List (Nat × AV)} : y8 (ba8 dst x tm) = aM4 dst x (y8 tm) := by
 funext t
 cases dst with
 | none => simp [ba8, aM4]
 | some d =>
  simp only [ba8, y8, aM4, natEq]
  by_cases h : t = d
  ·subst h; simp
  ·simp [h, Ne.symm h]
theorem ae0 {t : Tr} (h : a49 n t = true) : (∀ p ∈ t.new, p.1 < n + 8 ∧ ∀ id ∈ p.2.ids, id < n + 8) ∧ (∀ j ∈ t.made, n ≤ j ∧ j < n + 8) ∧ ∀ id ∈ t.res.ids, id < n + 8 := by
 simp only [a49, b86] at h
 refine ⟨fun p hp => ?_, fun j hj => ?_, D0 h.2⟩
 ·have := b93.1 h.1.1 p hp
  simp only [b86, decide_eq_true_eq] at this
  exact ⟨this.1, D0 this.2⟩
 ·have := b93.1 h.1.2 j hj
  simpa using this
theorem bF9 {l : List (Nat × It)} {m : Nat} (hS : ∀ j, (∀ id ∈ (S j).ids, id < m) ∧ (m ≤ j → S j = .none)) (h : ∀ p ∈ l, p.1 < m ∧ ∀ id ∈ p.2.ids, id < m) : ∀ j, (∀ id ∈ (o7 S l j).ids, id < m) ∧ (m ≤ j → o7 S l j = .none) := by
 induction l with
 | nil => exact hS
 | cons p r ih =>
  obtain ⟨k, x⟩ := p
  intro j
  have hp := h (k, x) ca1
  simp only at hp
  simp only [o7]
  by_cases e : j = k
  ·rw [if_pos e]
   exact ⟨hp.2, fun hm => by omega⟩
  ·rw [if_neg e]
   exact ih (fun p hp => h p (ca8 _ hp)) j
theorem a20 (a : Act) (dst : Option Nat) (v : Value) : (a.put dst v).tmps.size = a.tmps.size := by cases dst <;> simp [Act.put]
theorem a21 (a : Act) (dst : Option Nat) (v : Value) : (a.put dst v).defers = a.defers := by cases dst <;> simp [Act.put]
theorem bw8 {a : Act} {dst : Option Nat} {v : Value} {t : Nat} (h : bC8 a.tmps.size dst = true) : (a.put dst v).tmps[t]? = if dst = some t then some v else a.tmps[t]? := by
 cases dst with
 | none => simp [Act.put]
 | some d =>
  have hd : d < a.tmps.size := by simpa [bC8] using h
  simp only [Act.put, Option.some.injEq]
  rw [Array.getElem?_setIfInBounds]
  by_cases e : d = t
  ·subst e; simp [hd]
  ·simp [e]
theorem Inn.next {tm : Nat → Option AV} {a : Act} (I : Inn φ ψ w0 F N m ρ0 n ρ tm S a w) {t : Tr} {dst : Option Nat} (hd : bC8 N dst = true) (hf : a49 n t = true) {ρ' : Nat → Value} (ha : C0 t.made ρ ρ') (M : m5 φ ψ w0 w' (p7 F ρ' (o7 S t.new))) :
  Inn φ ψ w0 F N m ρ0 (n + 8) ρ' (aM4 dst t.res tm) (o7 S t.new) (a.put dst (t.res.val ρ')) w' := by
 obtain ⟨h1, h2, h3⟩ := ae0 hf
 have hlt : ∀ id, id < n → ρ' id = ρ id := fun id hid => ha id fun hm => by have := (h2 id hm).1; omega
 refine ⟨(a20 _ _ _).trans I.size, (a21 _ _ _).trans I.defs, fun s x hx => ?_, fun s x hx => ?_, bF9 (fun j => ⟨fun id hid => by have := (I.bd j).1 id hid; omega, fun hj => (I.bd j).2 (by omega)⟩) h1, M, by have := I.le; omega, fun i hi => (hlt i (by have := I.le; omega)).trans (I.old i hi)⟩
 ·rw [bw8 (by rw [I.size]; exact hd)]
  simp only [aM4] at hx
  split
  ·rename_i e; rw [if_pos e] at hx; cases hx; rfl
  ·rename_i e
   rw [if_neg e] at hx
   rw [I.tmv s x hx, AV.val_congr x fun id hid => hlt id (I.tmi s x hx id hid)]
 ·simp only [aM4] at hx
  split at hx
  ·cases hx; exact h3
  ·intro id hid; have := I.tmi s x hx id hid; omega
theorem bS2 {dk : TypeId → Nat} {H : P7} (hH : ∀ i c τ, K5 H.calls i = some (c, τ) → c.ok P) (hF : N9 H.facts) {ops : List Oper} {i : Nat} {o : Oper} {tm : Nat → Option AV} {a : Act} (I : Inn φ ψ w0 F N m ρ0 n ρ tm S a w) {ac : Ac} {obs : List Prop} (h : opA P dk N ops H i o tm S n = some (ac, obs)) (ho : t8 obs) (he : ac.eqs.1 = ac.eqs.2) (hw' : ac.eqw.1 = ac.eqw.2)
  {Q : Exit → Act → World → Prop} {rest : List Oper} (hk : ∀ ρ' w', C0 ac.t.made ρ ρ' → m5 φ ψ w0 w' (p7 F ρ' (o7 S ac.t.new)) → wpList P ops.toArray Q rest (a.put o.dst (ac.t.res.val ρ')) w') : wpList P ops.toArray Q (o :: rest) a w := by
 unfold opA at h
 split at h
 case isFalse => cases h
 rename_i hd
 split at h
 case h_1 => cases h
 ·rename_i l r hw
  cases h
  refine bh8 (as1 (ρ := ρ) hF hw hw' fun t y _ hy => I.tmv t y hy) ?_
  exact hk ρ w (C0.refl _ _) (by simpa [bS8, o7] using I.mem)
 ·rename_i l r hw
  split at h
  case h_1 => cases h
  rename_i t ht
  split at h
  case isFalse => cases h
  rename_i hf
  cases h
  simp only [b86] at hf
  obtain ⟨h1, h2, h3⟩ := ae0 hf.1
  refine K4.wp (as1 (ρ := ρ) hF hw hw' fun t y _ hy => I.tmv t y hy) ?_
  refine (a27 I.mem hH hF (fun t y _ hy => I.tmv t y hy) ht ho he (fun j hj => (I.bd j).2 (h2 j hj).1) (I.inv fun j hj => (h2 j hj).1) (fun j hj => ?_)).mono ?_
  ·obtain ⟨p, hp, rfl⟩ := List.mem_map.1 hj
   have := b93.1 hf.2 p hp
   simp only [Bool.or_eq_true] at this
   exact this.imp s7.1 s7.1
  ·rintro v w' ⟨ρ', p1, p2, rfl⟩
   exact hk ρ' w' p1 p2
theorem aW0 {dk : TypeId → Nat} {H : P7} {ops : List Oper} {i : Nat} {o : Oper} {tm : Nat → Option AV} {ac : Ac} {obs : List Prop} (h : opA P dk N ops H i o tm S n = some (ac, obs)) : ac.dst = o.dst ∧ bC8 N o.dst = true ∧ a49 n ac.t = true := by
 unfold opA at h
 split at h
 case isFalse => cases h
 rename_i hd
 split at h
 case h_1 => cases h
 ·cases h; exact ⟨rfl, hd, rfl⟩
 ·split at h
  case h_1 => cases h
  split at h
  case isFalse => cases h
  rename_i hf
  cases h
  simp only [b86] at hf
  exact ⟨rfl, hd, hf.1⟩
theorem bi1 {dk : TypeId → Nat} {H : P7} (hH : ∀ i c τ, K5 H.calls i = some (c, τ) → c.ok P) (hF : N9 H.facts) {ops : List Oper} {Q : Exit → Act → World → Prop} : ∀ (l : List Oper) (i n : Nat) {tm : List (Nat × AV)} {S : Nat → It} {ρ : Nat → Value} {a : Act} {w : World} {r : RS}, Inn φ ψ w0 F N m ρ0 n ρ (y8 tm) S a w → T9 P dk N ops H l i tm S n = some r → t8 r.obs → r.acts.map (·.eqs.1) = r.acts.map (·.eqs.2) → r.acts.map (·.eqw.1) = r.acts.map (·.eqw.2) →
  (∀ ρ' a' w' n', Inn φ ψ w0 F N m ρ0 n' ρ' (y8 r.tm) r.S a' w' → Q .normal a' w') → wpList P ops.toArray Q l a w
 | [], i, n, tm, S, ρ, a, w, r, I, h, _, _, _, hk => by cases h; exact hk _ _ _ _ I
 | o :: l, i, n, tm, S, ρ, a, w, r, I, h, ho, he, hw', hk => by
  simp only [T9] at h
  split at h
  case h_1 => cases h
  rename_i ac ob h1
  split at h
  case h_1 => cases h
  rename_i s h2
  cases h
  simp only [t8.append] at ho
  simp only [cb9, List.cons.injEq] at he hw'
  obtain ⟨q1, q2, q3⟩ := aW0 h1
  refine bS2 hH hF I h1 ho.1 he.1 hw'.1 fun ρ' w' ha M => ?_
  have I' : Inn φ ψ w0 F N m ρ0 (n + 8) ρ' (y8 (ba8 ac.dst ac.t.res tm)) (o7 S ac.t.new) (a.put o.dst (ac.t.res.val ρ')) w' := by
   rw [aP7, q1]
   exact I.next q2 q3 ha M
  exact bi1 hH hF l (i + 1) (n + 8) I' h2 ho.2 he.2 hw'.2 hk
end
section
variable {P : Program}
structure ab6 (wr w : World) (S : Nat → Prop) : Prop where
 below : Below wr.heap.size wr w
 box : ∀ b, S b → wr.heap.size ≤ b ∧ b < w.heap.size
theorem ab6.start (w : World) : ab6 w w.drew fun _ => False := ⟨(Below.refl _ _).drew, fun _ h => h.elim⟩
theorem ab6.call {wr w w' : World} {S : Nat → Prop} (h : ab6 wr w S) (b : Below w.heap.size w w') : ab6 wr w' S := ⟨h.below.trans (b.mono h.below.size), fun c hc => ⟨(h.box c hc).1, Nat.lt_of_lt_of_le (h.box c hc).2 b.size⟩⟩
theorem ab6.new {wr w w' : World} {S : Nat → Prop} (h : ab6 wr w S) (b : Below w.heap.size w w') (hs : w.heap.size < w'.heap.size) : ab6 wr w' fun c => S c ∨ c = w.heap.size :=
 ⟨h.below.trans (b.mono h.below.size), fun c hc => by
  rcases hc with hc | rfl
  ·exact ⟨(h.box c hc).1, Nat.lt_of_lt_of_le (h.box c hc).2 b.size⟩
  ·exact ⟨h.below.size, hs⟩⟩
def RF (φ S : Nat → Prop) (b : Nat) : Prop := φ b ∧ ¬ S b
theorem ab6.fresh {wr w : World} {S φ : Nat → Prop} (h : ab6 wr w S) (hf : ∀ b, wr.heap.size ≤ b → φ b) : ∀ b, w.heap.size ≤ b → RF φ S b := fun b hb => ⟨hf b (ca7 h.below.size hb), fun hs => by have := (h.box b hs).2; omega⟩
theorem ab6.old {wr w : World} {S φ : Nat → Prop} (h : ab6 wr w S) {R : World → (Nat → Prop) → Prop} (hn : ae7 R) (hr : R wr φ) : R w (RF φ S) :=
 hn _ _ _ _ ⟨h.below.size, fun b hb hf => ⟨⟨hf, fun hs => by have := (h.box b hs).1; omega⟩, h.below.block b hb⟩⟩ hr
end
theorem A9.region {φ ψ : Nat → Prop} {w0 wr w : World} {L : List X5} {S : Nat → Prop} (M : A9 φ ψ w0 wr L) (hg : ab6 wr w S) {g : Nat} {cs : List Value} (hb : Blk w g cs) (hs : S g) : A9 φ ψ w0 w (L ++ [.box g cs]) :=
 M.add hg.below _ hb fun g' h => by cases h; exact (hg.box _ hs).1
theorem RF.app {φ S : Nat → Prop} {L : List X5} {b : Nat} (h : RF (Fr φ L) S b) (X : List X5) (hX : ∀ r ∈ X, ∀ g, r.blk g → S g) : Fr φ (L ++ X) b :=
 ⟨h.1.1, fun r hr he => by
  rcases ca2.1 hr with hr | hr
  ·exact h.1.2 r hr he
  ·exact h.2 (hX r hr b he)⟩
section
variable {P : Program}
def aj8 (ops : Array Oper) : Bool := (cb2 ops.size).all fun j => (ops[j]?).any fun o => o.after.all fun e => !Region.binds .any e || decide (e.on < j)
theorem aL4 {ops : Array Oper} (hb : aj8 ops = true) {k : Nat} {o : Oper} (hk : k < ops.size) (ho : ops[k]? = some o) {e : Edge} (he : e ∈ o.after) (hbi : Region.binds .any e = true) : e.on < k := by
 have h1 := b93.1 hb k (List.mem_range.2 hk)
 rw [ho] at h1
 simp only [Option.any_some] at h1
 have h2 := Array.all_eq_true'.1 h1 e he
 rw [hbi] at h2
 simpa using h2
theorem a08 {ops : Array Oper} (hb : aj8 ops = true) {listed : Array Bool} (hsz : listed.size = ops.size) : ∀ k, k < ops.size → listed.getD k true = false → Region.ready .any ops listed ≠ [] := by
 intro k
 induction k using Nat.strongRecOn with
 | _ k ih =>
  intro hk hl hn
  by_cases hall : ∃ j, j < k ∧ listed.getD j true = false
  ·obtain ⟨j, hj, hlj⟩ := hall
   exact ih j hj (by omega) hlj hn
  ·have hok : ops[k]? = some ops[k] := Array.getElem?_eq_getElem hk
   have : k ∈ Region.ready .any ops listed := by
    refine mem_ready.2 ⟨hl, ops[k], hok, fun e he hbi => ?_⟩
    have h2 := aL4 hb hk hok he hbi
    cases h3 : listed.getD e.on true
    ·exact absurd ⟨e.on, h2, h3⟩ hall
    ·have : e.on < listed.size := by omega
     simp [this] at h3 ⊢
     exact h3
   rw [hn] at this
   cases this
theorem bk6 {a : Array Bool} {j : Nat} (h : j < a.size) : a.getD j true = a.getD j false := by simp [h]
end
def pf {β : Type} (wr : Ac → Option β) : List Ac → Nat → (Nat → Bool) → β → β
 | [], _, _, v => v
 | a :: r, k, B, v => pf wr r (k + 1) B (match wr a with | some x => if B k then x else v | none => v)
theorem Q8 {β : Type} {wr : Ac → Option β} {B B' : Nat → Bool} : ∀ {az : List Ac} {k : Nat} {v : β}, (∀ j a, az[j]? = some a → (wr a).isSome = true → B (k + j) = B' (k + j)) → pf wr az k B v = pf wr az k B' v
 | [], _, _, _ => rfl
 | a :: r, k, v, h => by
  simp only [pf]
  have h0 := h 0 a rfl
  have hr : ∀ j b, r[j]? = some b → (wr b).isSome = true → B (k + 1 + j) = B' (k + 1 + j) := fun j b hb hw => by
   have := h (j + 1) b (by simpa using hb) hw
   rw [show k + (j + 1) = k + 1 + j by omega] at this; exact this
  cases hw : wr a with
  | none => exact Q8 hr
  | some x =>
   rw [hw] at h0
   simp only [Nat.add_zero, Option.isSome_some, forall_const] at h0
   rw [h0]
   exact Q8 hr
theorem Y5 {β : Type} {wr : Ac → Option β} {B : Nat → Bool} : ∀ {az : List Ac} {k : Nat} {v : β}, (∀ j a, az[j]? = some a → (wr a).isSome = true → B (k + j) = false) → pf wr az k B v = v
 | [], _, _, _ => rfl
 | a :: r, k, v, h => by
  simp only [pf]
  have h0 := h 0 a rfl
  have hr : ∀ j b, r[j]? = some b → (wr b).isSome = true → B (k + 1 + j) = false := fun j b hb hw => by
   have := h (j + 1) b (by simpa using hb) hw
   rw [show k + (j + 1) = k + 1 + j by omega] at this; exact this
  rw [Y5 hr]
  cases hw : wr a with
  | none => rfl
  | some x =>
   rw [hw] at h0
   simp only [Nat.add_zero, Option.isSome_some, forall_const] at h0
   simp [h0]
theorem aV6 {β : Type} {wr : Ac → Option β} {B : Nat → Bool} : ∀ {az : List Ac} {k i : Nat} {v x : β} {a : Ac}, az[i]? = some a → wr a = some x → B (k + i) = true → (∀ j b, i < j → az[j]? = some b → (wr b).isSome = true → B (k + j) = false) → pf wr az k B v = x
 | [], _, _, _, _, _, h, _, _, _ => by simp at h
 | b :: r, k, 0, v, x, a, h, hw, hB, hn => by
  simp at h; subst h
  simp only [pf, hw]
  rw [Nat.add_zero] at hB
  rw [hB, if_pos rfl]
  refine Y5 fun j c hc hs => ?_
  have := hn (j + 1) c (by omega) (by simpa using hc) hs
  rw [show k + (j + 1) = k + 1 + j by omega] at this; exact this
 | b :: r, k, i + 1, v, x, a, h, hw, hB, hn => by
  simp only [pf]
  refine aV6 (i := i) (by simpa using h) hw (by rw [show k + 1 + i = k + (i + 1) by omega]; exact hB) fun j c hj hc hs => ?_
  have := hn (j + 1) c (by omega) (by simpa using hc) hs
  rw [show k + (j + 1) = k + 1 + j by omega] at this; exact this
theorem at1 {β : Type} {wr : Ac → Option β} {B : Nat → Bool} (p : β → Prop) : ∀ {az : List Ac} {k : Nat} {v : β}, p v → (∀ j a x, az[j]? = some a → B (k + j) = true → wr a = some x → p x) → p (pf wr az k B v)
 | [], _, _, h, _ => h
 | a :: r, k, v, h, hs => by
  simp only [pf]
  refine at1 p ?_ fun j b x hb hB hw => hs (j + 1) b x (by simpa using hb) (by rw [show k + (j + 1) = k + 1 + j by omega]; exact hB) hw
  cases hw : wr a with
  | none => exact h
  | some x =>
   simp only
   split
   ·rename_i hB; exact hs 0 a x rfl (by simpa using hB) hw
   ·exact h
def aK1 : List (Nat × It) → Nat → Option It
 | [], _ => none
 | (k, x) :: r, i => if i = k then some x else aK1 r i
theorem aw4 (S : Nat → It) (i : Nat) : ∀ (l : List (Nat × It)), o7 S l i = match aK1 l i with | some x => x | none => S i
 | [] => rfl
 | (k, x) :: r => by simp only [o7, aK1]; split; rfl; exact aw4 S i r
theorem P3 {l : List (Nat × It)} {i : Nat} {x : It} (h : aK1 l i = some x) : (i, x) ∈ l := by
 induction l with
 | nil => cases h
 | cons p r ih =>
  obtain ⟨k, y⟩ := p
  simp only [aK1] at h
  split at h
  ·rename_i e; cases h; rw [e]; exact ca1
  ·exact ca8 _ (ih h)
def wrT (t : Nat) (a : Ac) : Option (Option AV) := if a.dst = some t then some (some a.t.res) else none
def wrS (i : Nat) (a : Ac) : Option It := aK1 a.t.new i
def tmD (az : List Ac) (B : Nat → Bool) (tm : Nat → Option AV) : Nat → Option AV := fun t => pf (wrT t) az 0 B (tm t)
def sD (az : List Ac) (B : Nat → Bool) (S : Nat → It) : Nat → It := fun i => pf (wrS i) az 0 B (S i)
def bef (ms : List Nat) (j i : Nat) : Bool := (nth ms i).testBit j
def bb8 (ms : List Nat) (o : Oper) : Nat := o.after.foldl (fun s e => if Region.binds .any e then s ||| (2 ^ e.on ||| nth ms e.on) else s) 0
def aW3 (ms : List Nat) (l : List Oper) : Bool := (cb2 l.length).all fun i => match l[i]? with | some o => natEq (nth ms i) (bb8 ms o) | none => false
def af0 (a b : Ac) : Bool :=
 (match b.dst with | some t => memN t a.rt || (match a.dst with | some s => natEq s t | none => false) | none => false) ||
 b.t.new.any (fun p => memN p.1 a.ri || a.t.new.any fun q => natEq q.1 p.1)
def bS0 (ms : List Nat) (az : List Ac) : Bool :=
 (cb2 az.length).all fun i => (cb2 az.length).all fun j =>
  match az[i]?, az[j]? with
  | some a, some b => natEq i j || !af0 a b || (if decide (j < i) then bef ms j i else bef ms i j)
  | _, _ => false
def bJ1 (S : Nat → It) (az : List Ac) (j : Nat) : Nat := match az.findSome? (wrS j) with
 | some x => knd x
 | none => knd (S j)
def bt1 (ms : List Nat) (S : Nat → It) (az : List Ac) : Bool :=
 (cb2 az.length).all fun i =>
  match az[i]? with
  | some a => a.rk.all fun j => az.all (fun b => match wrS j b with | some x => natEq (knd x) (bJ1 S az j) | none => true) && (natEq (knd (S j)) (bJ1 S az j) || (cb2 i).any fun k => bef ms k i && match az[k]? with | some b => (wrS j b).isSome | none => false)
  | none => true
theorem bi3 {β : Type} {wr : Ac → Option β} {B : Nat → Bool} (p : β → Prop) : ∀ {az : List Ac} {k : Nat} {v : β}, (∀ (j : Nat) (a : Ac) (x : β), az[j]? = some a → wr a = some x → p x) → (p v ∨ ∃ (j : Nat) (a : Ac), az[j]? = some a ∧ (wr a).isSome = true ∧ B (k + j) = true) → p (pf wr az k B v)
 | [], _, _, _, h => by rcases h with h | ⟨j, a, h, _⟩; exact h; simp at h
 | a :: r, k, v, hs, h => by
  simp only [pf]
  refine bi3 p (fun j b x hb => hs (j + 1) b x (by simpa using hb)) ?_
  rcases h with h | ⟨j, b, h1, h2, h3⟩
  ·left
   cases hw : wr a with
   | none => exact h
   | some x =>
    simp only
    split
    ·exact hs 0 a x rfl hw
    ·exact h
  ·cases j with
   | zero =>
    left
    simp at h1; subst h1
    obtain ⟨x, hx⟩ := cc4.1 h2
    rw [hx]
    rw [Nat.add_zero] at h3
    simp only [h3, if_true]
    exact hs 0 _ x rfl hx
   | succ j =>
    right
    exact ⟨j, b, by simpa using h1, h2, by rw [show k + 1 + j = k + (j + 1) by omega]; exact h3⟩
theorem bg9 {ms : List Nat} {S : Nat → It} {az : List Ac} (h : bt1 ms S az = true) {i : Nat} {a : Ac} (ha : az[i]? = some a) {j : Nat} (hj : j ∈ a.rk) {B : Nat → Bool} (hB : ∀ k, k < i → bef ms k i = true → B k = true) : knd (pf (wrS j) az 0 B (S j)) = bJ1 S az j := by
 have hi := (b98.1 ha).1
 have h1 := b93.1 h i (List.mem_range.2 hi)
 rw [ha] at h1
 have h2 := b93.1 h1 j hj
 simp only [b86, Bool.or_eq_true] at h2
 refine bi3 (fun x => knd x = bJ1 S az j) (fun q b x hb hx => ?_) ?_
 ·have := b93.1 h2.1 b (cb4 hb)
  rw [hx] at this
  simpa [natEq] using this
 ·rcases h2.2 with h3 | h3
  ·left; simpa [natEq] using h3
  ·right
   obtain ⟨k, hk, h4⟩ := List.any_eq_true.1 h3
   rw [List.mem_range] at hk
   simp only [b86] at h4
   cases hb : az[k]? with
   | none => rw [hb] at h4; cases h4.2
   | some b =>
    rw [hb] at h4
    exact ⟨k, b, hb, h4.2, by rw [cc3]; exact hB k hk h4.1⟩
def by6 (ms : List Nat) (n0 : Nat) (az : List Ac) : Bool :=
 (cb2 az.length).all fun i =>
  match az[i]? with
  | some a => (a.t.res.ids ++ a.t.new.map (·.1) ++ a.t.new.flatMap (fun p => p.2.ids)).all fun id => decide (id < n0) || natEq ((id - n0) / 8) i || bef ms ((id - n0) / 8) i
  | none => false
section
variable {P : Program} {ι : Type} {φ ψ : Nat → Prop} {w0 w w' : World} {F : ι → Rs} {ρ : Nat → Value} {S : Nat → It} {N n : Nat}
theorem aq0 {α β : Type} {f g : α → Option β} : ∀ {l : List α}, (∀ x ∈ l, f x = g x) → l.filterMap f = l.filterMap g
 | [], _ => rfl
 | a :: r, h => by rw [List.filterMap_cons, List.filterMap_cons, h a ca1, aq0 fun x hx => h x (ca8 _ hx)]
theorem az6 {ops : List Oper} {H : P7} {tm tm' : Nat → Option AV} {i : Nat} {o : Oper} (h : ∀ t ∈ aX8 ops o, tm' t = tm t) : aG0 ops H tm' i o = aG0 ops H tm i o := by
 unfold aG0
 unfold aX8 at h
 cases hg : o.guard with
 | none => rfl
 | some q =>
  obtain ⟨j, want⟩ := q
  rw [hg] at h
  simp only at h ⊢
  cases hd : (ops[j]?).bind (·.dst) with
  | none => rfl
  | some t =>
   rw [hd] at h
   simp only at h ⊢
   rw [h t (by simp)]
theorem bo0 {dk : TypeId → Nat} {H : P7} {ops : List Oper} {i : Nat} {o : Oper} {tm tm' : Nat → Option AV} {S S' : Nat → It} {ac : Ac} {ob : List Prop} (h : opA P dk N ops H i o tm S n = some (ac, ob)) (ht : ∀ t ∈ ac.rt, tm' t = tm t) (hs : ∀ j ∈ ac.ri, S' j = S j) (hk : ∀ j ∈ ac.rk, knd (S' j) = knd (S j)) : opA P dk N ops H i o tm' S' n = some (ac, ob) := by
 unfold opA at h ⊢
 split at h
 case isFalse => cases h
 rename_i hd
 rw [if_pos hd]
 cases hw : aG0 ops H tm i o with
 | none => rw [hw] at h; cases h
 | some q =>
  obtain ⟨b, lq, rq⟩ := q
  rw [hw] at h
  cases b
  ·simp only at h
   cases h
   rw [az6 (tm := tm) ht, hw]
  ·simp only at h
   cases hr : aI1 P dk H tm S n i o.op with
   | none => rw [hr] at h; cases h
   | some t =>
    rw [hr] at h
    simp only at h
    split at h
    case isFalse => cases h
    rename_i hf
    cases h
    simp only at ht hs hk
    rw [az6 (tm := tm) fun t ht' => ht t (List.mem_append_right _ ht'), hw]
    have e1 : rtm tm' (opT o.op) = rtm tm (opT o.op) := by
     funext t
     unfold rtm
     split
     ·rename_i hm; exact ht t (List.mem_append_left _ (s7.1 hm))
     ·rfl
    have e2 : tch tm' o.op = tch tm o.op := by
     have e9 : S8 tm' (opT o.op) = S8 tm (opT o.op) := by
      unfold S8
      congr 1
      exact aq0 fun t ht' => ht t (List.mem_append_left _ ht')
     cases ho' : o.op <;> simp only [tch] <;> rw [← ho'] <;> first | rw [e1, e9] | exact e9
    have e8 : wk tm' o.op = wk tm o.op := by
     have e9 : S8 tm' (opT o.op) = S8 tm (opT o.op) := by
      unfold S8
      congr 1
      exact aq0 fun t ht' => ht t (List.mem_append_left _ ht')
     cases ho' : o.op <;> simp only [wk] <;> rw [← ho', e1, e9]
    have e3 : aI1 P dk H tm' S' n i o.op = aI1 P dk H tm S n i o.op := by
     unfold aI1
     cases hc : K5 H.calls i with
     | none =>
      simp only
      rw [e1, e2, e8, bu2 (fun j hj => hs j (List.mem_append_left _ hj)) hk]
     | some q =>
      obtain ⟨c, τ⟩ := q
      simp only
      rw [e1, e2]
      congr 1
      funext j
      unfold rS
      split
      ·rename_i hm
       refine hs j ?_
       unfold bl7
       rw [hc]; exact s7.1 hm
      ·rfl
    have e4 : bb2 H tm' S' n i o.op = bb2 H tm S n i o.op := by
     unfold bb2
     cases hc : K5 H.calls i with
     | none => simp only; rw [e1]
     | some q =>
      obtain ⟨c, τ⟩ := q
      simp only
      rw [e1, e2]
      congr 1
      funext j
      unfold rS
      split
      ·rename_i hm
       refine hs j ?_
       unfold bl7
       rw [hc]; exact s7.1 hm
      ·rfl
    rw [e3, hr, e4]
    simp only
    rw [e2, e8, if_pos hf]
theorem bH8 {dk : TypeId → Nat} {H : P7} (hH : ∀ i c τ, K5 H.calls i = some (c, τ) → c.ok P) (hF : N9 H.facts) {ops : List Oper} {i : Nat} {o : Oper} {tm : Nat → Option AV} {a : Act} (hv : ∀ t x, tm t = some x → a.tmps[t]? = some (x.val ρ)) (M : m5 φ ψ w0 w (p7 F ρ S)) {ac : Ac} {obs : List Prop} (h : opA P dk N ops H i o tm S n = some (ac, obs)) (ho : t8 obs) (he : ac.eqs.1 = ac.eqs.2) (hw' : ac.eqw.1 = ac.eqw.2)
  (hmk : ∀ j ∈ ac.t.made, S j = .none) (hi : Inv S ρ ac.t.made)
  {Q : Exit → Act → World → Prop} {rest : List Oper} (hk : ∀ ρ' w', C0 ac.t.made ρ ρ' → m5 φ ψ w0 w' (p7 F ρ' (o7 S ac.t.new)) → wpList P ops.toArray Q rest (a.put o.dst (ac.t.res.val ρ')) w') : wpList P ops.toArray Q (o :: rest) a w := by
 unfold opA at h
 split at h
 case isFalse => cases h
 rename_i hd
 split at h
 case h_1 => cases h
 ·rename_i l r hw
  cases h
  refine bh8 (as1 (ρ := ρ) hF hw hw' fun t y _ hy => hv t y hy) ?_
  exact hk ρ w (C0.refl _ _) (by simpa [bS8, o7] using M)
 ·rename_i l r hw
  split at h
  case h_1 => cases h
  rename_i t ht
  split at h
  case isFalse => cases h
  rename_i hf
  cases h
  simp only [b86] at hf
  refine K4.wp (as1 (ρ := ρ) hF hw hw' fun t y _ hy => hv t y hy) ?_
  refine (a27 M hH hF (fun t y _ hy => hv t y hy) ht ho he hmk hi (fun j hj => ?_)).mono ?_
  ·obtain ⟨p, hp, rfl⟩ := List.mem_map.1 hj
   have := b93.1 hf.2 p hp
   simp only [Bool.or_eq_true] at this
   exact this.imp s7.1 s7.1
  ·rintro v w' ⟨ρ', p1, p2, rfl⟩
   exact hk ρ' w' p1 p2
theorem bi2 {dk : TypeId → Nat} {H : P7} {ops : List Oper} : ∀ (l : List Oper) (i n : Nat) {tm : List (Nat × AV)} {S : Nat → It} {r : RS}, T9 P dk N ops H l i tm S n = some r → t8 r.obs →
  r.acts.length = l.length ∧ (∀ t, y8 r.tm t = pf (wrT t) r.acts i (fun _ => true) (y8 tm t)) ∧ (∀ j, r.S j = pf (wrS j) r.acts i (fun _ => true) (S j)) ∧
  ∀ k o, l[k]? = some o → ∃ ac ob, r.acts[k]? = some ac ∧ t8 ob ∧ opA P dk N ops H (i + k) o (fun t => pf (wrT t) r.acts i (fun j => decide (j < i + k)) (y8 tm t)) (fun j => pf (wrS j) r.acts i (fun q => decide (q < i + k)) (S j)) (n + 8 * k) = some (ac, ob)
 | [], i, n, tm, S, r, h, _ => by cases h; exact ⟨rfl, fun _ => rfl, fun _ => rfl, fun k o h => by simp at h⟩
 | o :: l, i, n, tm, S, r, h, ho => by
  simp only [T9] at h
  split at h
  case h_1 => cases h
  rename_i ac ob h1
  split at h
  case h_1 => cases h
  rename_i s h2
  cases h
  simp only [t8.append] at ho
  obtain ⟨k1, k2, k3, k4⟩ := bi2 l (i + 1) (n + 8) h2 ho.2
  have eT : ∀ t, y8 (ba8 ac.dst ac.t.res tm) t = match wrT t ac with | some x => x | none => y8 tm t := fun t => by
   rw [aP7]
   simp only [aM4, wrT]
   split <;> rfl
  have eS : ∀ j, o7 S ac.t.new j = match wrS j ac with | some x => x | none => S j := fun j => aw4 S j _
  refine ⟨by simp [k1], fun t => ?_, fun j => ?_, fun k o' hk => ?_⟩
  ·rw [k2 t, eT]; simp only [pf]; cases wrT t ac <;> rfl
  ·rw [k3 j, eS]; simp only [pf]; cases wrS j ac <;> rfl
  ·cases k with
   | zero =>
    simp at hk; subst hk
    refine ⟨ac, ob, rfl, ho.1, ?_⟩
    have e1 : (fun t => pf (wrT t) (ac :: s.acts) i (fun j => decide (j < i + 0)) (y8 tm t)) = y8 tm := by
     funext t; exact Y5 fun j a _ _ => by simp
    have e2 : (fun j => pf (wrS j) (ac :: s.acts) i (fun q => decide (q < i + 0)) (S j)) = S := by
     funext j; exact Y5 fun j a _ _ => by simp
    rw [e1, e2]; exact h1
   | succ k =>
    obtain ⟨ac', ob', m1, m2, m3⟩ := k4 k o' (by simpa using hk)
    refine ⟨ac', ob', by simpa using m1, m2, ?_⟩
    have hi : decide (i < i + (k + 1)) = true := by simp
    have e1 : (fun t => pf (wrT t) (ac :: s.acts) i (fun j => decide (j < i + (k + 1))) (y8 tm t)) = fun t => pf (wrT t) s.acts (i + 1) (fun j => decide (j < i + 1 + k)) (y8 (ba8 ac.dst ac.t.res tm) t) := by
     funext t
     rw [eT]
     simp only [pf, hi, if_true]
     rw [show i + (k + 1) = i + 1 + k by omega]
     cases wrT t ac <;> rfl
    have e2 : (fun j => pf (wrS j) (ac :: s.acts) i (fun q => decide (q < i + (k + 1))) (S j)) = fun j => pf (wrS j) s.acts (i + 1) (fun q => decide (q < i + 1 + k)) (o7 S ac.t.new j) := by
     funext j
     rw [eS]
     simp only [pf, hi, if_true]
     rw [show i + (k + 1) = i + 1 + k by omega]
     cases wrS j ac <;> rfl
    rw [e1, e2, show i + (k + 1) = i + 1 + k by omega, show n + 8 * (k + 1) = n + 8 + 8 * k by omega]
    exact m3
def bF6 (l : List Oper) (B : Nat → Bool) : Prop := ∀ j o, l[j]? = some o → B j = true → ∀ e ∈ o.after, Region.binds .any e = true → B e.on = true
theorem aI4 {ms : List Nat} {o : Oper} {j : Nat} (h : (bb8 ms o).testBit j = true) : ∃ e ∈ o.after, Region.binds .any e = true ∧ (e.on = j ∨ bef ms j e.on = true) := by
 unfold bb8 at h
 rw [← Array.foldl_toList] at h
 have key : ∀ (es : List Edge) (s : Nat), (es.foldl (fun s e => if Region.binds .any e then s ||| (2 ^ e.on ||| nth ms e.on) else s) s).testBit j = true → s.testBit j = true ∨ ∃ e ∈ es, Region.binds .any e = true ∧ (e.on = j ∨ bef ms j e.on = true) := by
  intro es
  induction es with
  | nil => intro s h; exact .inl h
  | cons e r ih =>
   intro s h
   simp only [List.foldl_cons] at h
   rcases ih _ h with h1 | ⟨e', he', h2⟩
   ·split at h1
    ·rename_i hb
     simp only [Nat.testBit_or, Bool.or_eq_true, Nat.testBit_two_pow, decide_eq_true_eq] at h1
     rcases h1 with h1 | h1 | h1
     ·exact .inl h1
     ·exact .inr ⟨e, ca1, hb, .inl h1⟩
     ·exact .inr ⟨e, ca1, hb, .inr h1⟩
    ·exact .inl h1
   ·exact .inr ⟨e', ca8 _ he', h2⟩
 rcases key _ _ h with h1 | ⟨e, he, h2⟩
 ·simp at h1
 ·exact ⟨e, by simpa using he, h2⟩
theorem aL3 {ms : List Nat} {l : List Oper} (hm : aW3 ms l = true) (hb : aj8 l.toArray = true) {B : Nat → Bool} (hc : bF6 l B) : ∀ i, i < l.length → B i = true → ∀ j, bef ms j i = true → B j = true := by
 intro i
 induction i using Nat.strongRecOn with
 | _ i ih =>
  intro hi hB j hj
  have h1 := b93.1 hm i (List.mem_range.2 hi)
  rw [b90 hi] at h1
  simp only [natEq, beq_iff_eq] at h1
  unfold bef at hj
  rw [h1] at hj
  obtain ⟨e, he, h2, h3⟩ := aI4 hj
  have h4 := hc i _ (b90 hi) hB e he h2
  have h5 := aL4 hb (show i < l.toArray.size by simpa using hi) (show l.toArray[i]? = some l[i] by simp [hi]) he h2
  rcases h3 with rfl | h3
  ·exact h4
  ·exact ih e.on h5 (by omega) h4 j h3
theorem br6 {ms : List Nat} {l : List Oper} (hm : aW3 ms l = true) (hb : aj8 l.toArray = true) {B : Nat → Bool} (hc : bF6 l B) {i : Nat} {o : Oper} (ho : l[i]? = some o) (hr : ∀ e ∈ o.after, Region.binds .any e = true → B e.on = true) {j : Nat} (hj : bef ms j i = true) : B j = true := by
 have hi := (b98.1 ho).1
 have h1 := b93.1 hm i (List.mem_range.2 hi)
 rw [ho] at h1
 simp only [natEq, beq_iff_eq] at h1
 unfold bef at hj
 rw [h1] at hj
 obtain ⟨e, he, h2, h3⟩ := aI4 hj
 have h5 := aL4 hb (show i < l.toArray.size by simpa using hi) (show l.toArray[i]? = some o by simpa using ho) he h2
 rcases h3 with rfl | h3
 ·exact hr e he h2
 ·exact aL3 hm hb hc e.on (by omega) (hr e he h2) j h3
end
section
variable {P : Program} {ι : Type} {φ ψ : Nat → Prop} {w0 w w' : World} {F : ι → Rs} {ρ : Nat → Value} {S : Nat → It} {N m n : Nat} {ρ0 : Nat → Value}
theorem a89 {l : List Oper} {Q : Exit → Act → World → Prop} (I : Array Bool → Act → World → Prop) (hb : aj8 l.toArray = true)
  (step : ∀ listed a w, I listed a w → ∀ i o, l[i]? = some o → listed.getD i true = false → (∀ e ∈ o.after, Region.binds .any e = true → listed.getD e.on false = true) →
   ∀ Q' : Exit → Act → World → Prop, (∀ a w, I (listed.setIfInBounds i true) a w → Q' .normal a w) → wpList P l.toArray Q' [o] a w)
  (done : ∀ listed a w, I listed a w → (∀ j, j < l.length → listed.getD j true = true) → Q .normal a w) :
  ∀ (fuel : Nat) (listed : Array Bool) (a : Act) (w : World), listed.size = l.toArray.size → listed.toList.count false = fuel → I listed a w → wpAny P .any l.toArray Q fuel listed a w := by
 have hfin : ∀ (listed : Array Bool) (a : Act) (w : World), listed.size = l.toArray.size → Region.ready .any l.toArray listed = [] → I listed a w → Q .normal a w := by
  intro listed a w hsz hr hI
  refine done listed a w hI fun j hj => ?_
  cases hl : listed.getD j true
  ·exact absurd hr (a08 hb hsz j (by simpa using hj) hl)
  ·rfl
 intro fuel
 induction fuel with
 | zero =>
  intro listed a w hsz hc hI
  have hr : Region.ready .any l.toArray listed = [] := by
   rw [List.eq_nil_iff_forall_not_mem]
   intro j hj
   have := au6 (mem_ready.1 hj).1
   omega
  exact ⟨hr, hfin listed a w hsz hr hI⟩
 | succ f ih =>
  intro listed a w hsz hc hI
  refine ⟨fun hr => hfin listed a w hsz hr hI, fun i hi => ?_⟩
  obtain ⟨h1, o, ho, h2⟩ := mem_ready.1 hi
  have ho' : l[i]? = some o := by simpa using ho
  have hcl := au6 h1
  have hs := step listed a w hI i o ho' h1 h2 (fun e a w => e = .normal ∧ I (listed.setIfInBounds i true) a w) fun a w h => ⟨rfl, h⟩
  unfold wpOp
  rw [ho]
  simp only
  unfold wpList at hs
  split
  ·rename_i hw
   rw [if_pos hw] at hs
   rcases hs with hs | ⟨_, a, w, he, _⟩
   ·exact .inl (bm6 (fun _ _ _ h => h.1) (Oper.wp_mono (fun a' w' h => ih _ a' w' (by simpa using hsz) (by omega) h.2) hs))
   ·cases he
  ·rename_i hw
   rw [if_neg hw] at hs
   exact ih _ _ _ (by simpa using hsz) (by omega) hs.2
theorem aF9 {id : Nat} {l : List Oper} {Q : Exit → Act → World → Prop} {a : Act} {w : World} (I : Array Bool → Act → World → Prop) (hm : P.follows .mixedOrders = true) (hb : aj8 l.toArray = true)
  (h0 : I (Array.replicate l.length false) a w.drew)
  (step : ∀ listed a w, I listed a w → ∀ i o, l[i]? = some o → listed.getD i true = false → (∀ e ∈ o.after, Region.binds .any e = true → listed.getD e.on false = true) →
   ∀ Q' : Exit → Act → World → Prop, (∀ a w, I (listed.setIfInBounds i true) a w → Q' .normal a w) → wpList P l.toArray Q' [o] a w)
  (done : ∀ listed a w, I listed a w → (∀ j, j < l.length → listed.getD j true = true) → Q .normal a w) : (Code.region id l.toArray true).wp P Q a w :=
 wp_region_any hm (a89 I hb step done _ _ _ _ (by simp) (by simp) (by simpa using h0))
def RI (φ ψ : Nat → Prop) (w0 : World) (F : ι → Rs) (N m : Nat) (ρ0 : Nat → Value) (l : List Oper) (az : List Ac) (tm : Nat → Option AV) (S : Nat → It) (listed : Array Bool) (a : Act) (w : World) : Prop :=
 listed.size = l.length ∧ bF6 l (fun j => listed.getD j false) ∧ ∃ ρ, (∀ i, i < m → ρ i = ρ0 i) ∧ a.tmps.size = N ∧ a.defers = [] ∧ (∀ t x, tmD az (fun j => listed.getD j false) tm t = some x → a.tmps[t]? = some (x.val ρ)) ∧ m5 φ ψ w0 w (p7 F ρ (sD az (fun j => listed.getD j false) S))
theorem bb1 {ms : List Nat} {az : List Ac} (h : bS0 ms az = true) {i j : Nat} {a b : Ac} (ha : az[i]? = some a) (hb : az[j]? = some b) (hij : i ≠ j) (hm : af0 a b = true) : (j < i → bef ms j i = true) ∧ (i < j → bef ms i j = true) := by
 have hi := (b98.1 ha).1
 have hj := (b98.1 hb).1
 have h1 := b93.1 (b93.1 h i (List.mem_range.2 hi)) j (List.mem_range.2 hj)
 rw [ha, hb] at h1
 have hne : natEq i j = false := by simp [natEq, hij]
 simp only [hne, hm, Bool.not_true, Bool.false_or] at h1
 constructor
 ·intro hlt; rw [if_pos (by simpa using hlt)] at h1; exact h1
 ·intro hlt; rw [if_neg (by simp; omega)] at h1; exact h1
theorem bj1 {ms : List Nat} {n0 : Nat} {az : List Ac} (h : by6 ms n0 az = true) {i : Nat} {a : Ac} (ha : az[i]? = some a) : ∀ id, (id ∈ a.t.res.ids ∨ id ∈ a.t.new.map (·.1) ∨ ∃ p ∈ a.t.new, id ∈ p.2.ids) → id < n0 ∨ (id - n0) / 8 = i ∨ bef ms ((id - n0) / 8) i = true := by
 intro id hid
 have hi := (b98.1 ha).1
 have h1 := b93.1 h i (List.mem_range.2 hi)
 rw [ha] at h1
 have h2 := b93.1 h1 id (by
  rcases hid with h | h | ⟨p, hp, h⟩
  ·exact List.mem_append_left _ (List.mem_append_left _ h)
  ·exact List.mem_append_left _ (List.mem_append_right _ h)
  ·exact List.mem_append_right _ (List.mem_flatMap.2 ⟨p, hp, h⟩))
 simp only [Bool.or_eq_true, decide_eq_true_eq, natEq, beq_iff_eq] at h2
 rcases h2 with (h2 | h2) | h2
 ·exact .inl h2
 ·exact .inr (.inl h2)
 ·exact .inr (.inr h2)
theorem aT1 {dk : TypeId → Nat} {H : P7} (hH : ∀ i c τ, K5 H.calls i = some (c, τ) → c.ok P) (hF : N9 H.facts) {l : List Oper} {id : Nat} {Q : Exit → Act → World → Prop} {tm : List (Nat × AV)} {a : Act} {wr : World} (I0 : Inn φ ψ w0 F N m ρ0 n ρ (y8 tm) S a wr) {r : RS} (hrun : T9 P dk N l H l 0 tm S n = some r) (ho : t8 r.obs) (heq : r.acts.map (·.eqs.1) = r.acts.map (·.eqs.2)) (hew : r.acts.map (·.eqw.1) = r.acts.map (·.eqw.2))
  (ms : List Nat) (hm : P.follows .mixedOrders = true) (hb : aj8 l.toArray = true) (hms : aW3 ms l = true) (hord : bS0 ms r.acts = true) (hment : by6 ms n r.acts = true) (hweak : bt1 ms S r.acts = true)
  (done : ∀ ρ' a' w' n', Inn φ ψ w0 F N m ρ0 n' ρ' (y8 r.tm) r.S a' w' → Q .normal a' w') : (Code.region id l.toArray true).wp P Q a wr := by
 obtain ⟨hlen, hfT, hfS, hat⟩ := bi2 l 0 n hrun ho
 have hmt : ∀ (i : Nat) ac, r.acts[i]? = some ac → ∀ t b, b.dst = some t → t ∈ ac.rt → af0 ac b = true := fun i ac _ t b hb ht => by
  simp [af0, hb, s7.2 ht]
 have hmd : ∀ ac b t, ac.dst = some t → b.dst = some t → af0 ac b = true := fun ac b t h1 h2 => by
  simp [af0, h1, h2, natEq]
 have hms' : ∀ (ac b : Ac) (j : Nat), j ∈ ac.ri → j ∈ b.t.new.map (·.1) → af0 ac b = true := fun ac b j h1 h2 => by
  obtain ⟨p, hp, rfl⟩ := List.mem_map.1 h2
  unfold af0
  have : b.t.new.any (fun p => memN p.1 ac.ri || ac.t.new.any fun q => natEq q.1 p.1) = true := List.any_eq_true.2 ⟨p, hp, by simp [s7.2 h1]⟩
  rw [this]; simp
 have hmn : ∀ (ac b : Ac) (j : Nat), j ∈ ac.t.new.map (·.1) → j ∈ b.t.new.map (·.1) → af0 ac b = true := fun ac b j h1 h2 => by
  obtain ⟨p, hp, rfl⟩ := List.mem_map.1 h2
  obtain ⟨q, hq, e⟩ := List.mem_map.1 h1
  unfold af0
  have : b.t.new.any (fun p => memN p.1 ac.ri || ac.t.new.any fun q => natEq q.1 p.1) = true := List.any_eq_true.2 ⟨p, hp, by
   have : ac.t.new.any (fun q => natEq q.1 p.1) = true := List.any_eq_true.2 ⟨q, hq, by simp [natEq, e]⟩
   rw [this]; simp⟩
  rw [this]; simp
 refine aF9 (RI φ ψ w0 F N m ρ0 l r.acts (y8 tm) S) hm hb ?_ ?_ ?_
 ·refine ⟨by simp, fun j o _ hj => ?_, ρ, I0.old, I0.size, I0.defs, fun t x hx => ?_, ?_⟩
  ·have hj' : (Array.replicate l.length false).getD j false = true := hj
   rw [getD_replicate_false] at hj'; cases hj'
  ·refine I0.tmv t x ?_
   rw [← hx]
   exact (Y5 fun j b _ _ => getD_replicate_false _ _).symm
  ·have e : sD r.acts (fun j => (Array.replicate l.length false).getD j false) S = S := by
    funext j; exact Y5 fun j b _ _ => getD_replicate_false _ _
   rw [e]; exact I0.mem.drew
 ·rintro listed a w ⟨hsz, hdn, ρ, hold, hN, hdf, hv, M⟩ i o hoi hun hdep Q' hQ
  generalize hB : (fun j => listed.getD j false) = B at *
  have hBj : ∀ j, B j = listed.getD j false := fun j => by rw [← hB]
  have hil := (b98.1 hoi).1
  have hBi : B i = false := by
   rw [hBj, ← bk6 (by omega)]; exact hun
  obtain ⟨ac, ob, hac, hob, hop⟩ := hat i o hoi
  simp only [cc3] at hop
  have heqi : ac.eqs.1 = ac.eqs.2 := by
   have := congrArg (·[i]?) heq
   simpa [hac] using this
  have hewi : ac.eqw.1 = ac.eqw.2 := by
   have := congrArg (·[i]?) hew
   simpa [hac] using this
  obtain ⟨hdst, hdN, hfine⟩ := aW0 hop
  obtain ⟨hf1, hf2, hf3⟩ := ae0 hfine
  have hdep' : ∀ e ∈ o.after, Region.binds .any e = true → B e.on = true := fun e he hbi => by rw [hBj]; exact hdep e he hbi
  have ahead : ∀ j, bef ms j i = true → B j = true := fun j hj => br6 hms hb hdn hoi hdep' hj
  have behind : ∀ j, j < l.length → bef ms i j = true → B j = false := fun j hjl hj => by
   cases h : B j
   ·rfl
   ·have := aL3 hms hb hdn j hjl h i hj
    rw [hBi] at this; cases this
  have hagree : ∀ (j : Nat) b, r.acts[j]? = some b → af0 ac b = true → B j = decide (j < i) := fun j b hj hmm => by
   have hjl : j < l.length := by have := (b98.1 hj).1; omega
   rcases Nat.lt_trichotomy j i with h | h | h
   ·rw [ahead j ((bb1 hord hac hj (by omega) hmm).1 h)]; simp [h]
   ·subst h; rw [hBi]; simp
   ·rw [behind j hjl ((bb1 hord hac hj (by omega) hmm).2 h)]
    have : ¬ j < i := by omega
    simp [this]
  have hop2 := bo0 hop (tm' := tmD r.acts B (y8 tm)) (S' := sD r.acts B S) (fun t ht => Q8 fun j b hj hw => by
    rw [cc3]
    refine hagree j b hj (hmt i ac hac t b ?_ ht)
    unfold wrT at hw
    split at hw
    ·assumption
    ·cases hw)
   (fun q hq => Q8 fun j b hj hw => by
    rw [cc3]
    obtain ⟨x, hx⟩ := cc4.1 hw
    exact hagree j b hj (hms' ac b q hq (List.mem_map.2 ⟨_, P3 hx, rfl⟩)))
   (fun q hq => by
    show knd (pf (wrS q) r.acts 0 B (S q)) = _
    rw [bg9 hweak hac hq fun k _ hk => ahead k hk, bg9 hweak hac hq fun k hk _ => by simpa using hk])
  have hrange : ∀ id, n + 8 * i ≤ id → id < n + 8 * i + 8 → (id - n) / 8 = i := fun id h1 h2 => by omega
  have hmk : ∀ j ∈ ac.t.made, sD r.acts B S j = .none := fun j hj => by
   obtain ⟨g1, g2⟩ := hf2 j hj
   have e : sD r.acts B S j = S j := Y5 fun k b hk hw => by
    rw [cc3]
    obtain ⟨x, hx⟩ := cc4.1 hw
    have hkl : k < l.length := by have := (b98.1 hk).1; omega
    rcases bj1 hment hk j (.inr (.inl (List.mem_map.2 ⟨_, P3 hx, rfl⟩))) with h | h | h
    ·omega
    ·rw [hrange j g1 g2] at h; subst h; exact hBi
    ·rw [hrange j g1 g2] at h; exact behind k hkl h
   rw [e]; exact (I0.bd j).2 (by omega)
  have hnot : ∀ (k : Nat) b, r.acts[k]? = some b → B k = true → ∀ id, (id ∈ b.t.res.ids ∨ id ∈ b.t.new.map (·.1) ∨ ∃ p ∈ b.t.new, id ∈ p.2.ids) → id ∉ ac.t.made := fun k b hk hBk id hid hm => by
   obtain ⟨g1, g2⟩ := hf2 id hm
   have hkl : k < l.length := by have := (b98.1 hk).1; omega
   rcases bj1 hment hk id hid with h | h | h
   ·omega
   ·rw [hrange id g1 g2] at h; subst h; rw [hBi] at hBk; cases hBk
   ·rw [hrange id g1 g2] at h; rw [behind k hkl h] at hBk; cases hBk
  have hitem : ∀ j, ∀ id ∈ (sD r.acts B S j).ids, id ∉ ac.t.made := fun j => by
   refine at1 (fun x : It => ∀ id ∈ x.ids, id ∉ ac.t.made) (fun id hid hm => ?_) fun k b x hk hBk hw id hid => ?_
   ·have := (I0.bd j).1 id hid; have := (hf2 id hm).1; omega
   ·rw [cc3] at hBk
    exact hnot k b hk hBk id (.inr (.inr ⟨_, P3 hw, hid⟩))
  have htm : ∀ t x, tmD r.acts B (y8 tm) t = some x → ∀ id ∈ x.ids, id ∉ ac.t.made := fun t => by
   refine at1 (fun y : Option AV => ∀ x, y = some x → ∀ id ∈ x.ids, id ∉ ac.t.made) (fun x hx id hid hm => ?_) fun k b y hk hBk hw x hx id hid => ?_
   ·have := I0.tmi t x hx id hid; have := (hf2 id hm).1; omega
   ·rw [cc3] at hBk
    unfold wrT at hw
    split at hw
    ·cases hw; cases hx
     exact hnot k b hk hBk id (.inl hid)
    ·cases hw
  have hinv : Inv (sD r.acts B S) ρ ac.t.made := fun ρ' ha j => by
   refine It.res_congr _ (fun id hid => ha id (hitem j id hid)) ?_
   by_cases hj : j ∈ ac.t.made
   ·exact .inl (hmk j hj)
   ·exact .inr (.inr (ha j hj))
  refine bH8 hH hF hv M hop2 hob heqi hewi hmk hinv fun ρ' w' ha M' => ?_
  refine hQ _ _ ?_
  have hB' : ∀ j, (listed.setIfInBounds i true).getD j false = if j = i then true else B j := fun j => by
   by_cases e : j = i
   ·subst e
    have : j < listed.size := by omega
    simp [this]
   ·rw [if_neg e, getD_set_ne false (fun h => e h.symm), hBj]
  have hBe : (fun j => (listed.setIfInBounds i true).getD j false) = fun j => if j = i then true else B j := funext hB'
  have later : ∀ (j : Nat) b, i < j → r.acts[j]? = some b → af0 ac b = true → (if j = i then true else B j) = false := fun j b hij hj hmm => by
   have hjl : j < l.length := by have := (b98.1 hj).1; omega
   rw [if_neg (by omega)]
   exact behind j hjl ((bb1 hord hac hj (by omega) hmm).2 hij)
  have eT : tmD r.acts (fun j => if j = i then true else B j) (y8 tm) = aM4 ac.dst ac.t.res (tmD r.acts B (y8 tm)) := by
   funext t
   simp only [aM4]
   by_cases e : ac.dst = some t
   ·rw [if_pos e]
    refine aV6 (i := i) hac (by simp [wrT, e]) (by simp) fun j b hij hj hw => ?_
    rw [cc3]
    refine later j b hij hj (hmd ac b t e ?_)
    unfold wrT at hw
    split at hw
    ·assumption
    ·cases hw
   ·rw [if_neg e]
    refine Q8 fun j b hj hw => ?_
    have : j ≠ i := fun h => by
     subst h
     rw [hac] at hj; cases hj
     simp [wrT, e] at hw
    simp [this]
  have eS : sD r.acts (fun j => if j = i then true else B j) S = o7 (sD r.acts B S) ac.t.new := by
   funext q
   rw [aw4]
   cases hx : aK1 ac.t.new q with
   | some x =>
    refine aV6 (i := i) hac hx (by simp) fun j b hij hj hw => ?_
    rw [cc3]
    obtain ⟨y, hy⟩ := cc4.1 hw
    exact later j b hij hj (hmn ac b q (List.mem_map.2 ⟨_, P3 hx, rfl⟩) (List.mem_map.2 ⟨_, P3 hy, rfl⟩))
   | none =>
    refine Q8 fun j b hj hw => ?_
    have : j ≠ i := fun h => by
     subst h
     rw [hac] at hj; cases hj
     unfold wrS at hw
     rw [hx] at hw; cases hw
    simp [this]
  refine ⟨by simpa using hsz, ?_, ρ', fun j hj => (ha j fun hm => by have := (hf2 j hm).1; have := I0.le; omega).trans (hold j hj), (a20 _ _ _).trans hN, (a21 _ _ _).trans hdf, ?_, ?_⟩
  ·rw [hBe]
   intro j oj hj hBj' e he hbi
   show (if e.on = i then true else B e.on) = true
   by_cases e1 : e.on = i
   ·simp [e1]
   ·rw [if_neg e1]
    by_cases e2 : j = i
    ·subst e2
     rw [hoi] at hj; cases hj
     exact hdep' e he hbi
    ·simp only [if_neg e2] at hBj'
     exact hdn j oj hj hBj' e he hbi
  ·rw [hBe, eT, hdst]
   intro t x hx
   rw [bw8 (by rw [hN]; exact hdN)]
   simp only [aM4] at hx
   split
   ·rename_i e; rw [if_pos e] at hx; cases hx; rfl
   ·rename_i e
    rw [if_neg e] at hx
    rw [hv t x hx, AV.val_congr x fun id hid => ha id (htm t x hx id hid)]
  ·rw [hBe, eS]; exact M'
 ·rintro listed a w ⟨hsz, hdn, ρ, hold, hN, hdf, hv, M⟩ hall
  have hall' : ∀ j, j < l.length → listed.getD j false = true := fun j hj => by rw [← bk6 (by omega)]; exact hall j hj
  have eT : tmD r.acts (fun j => listed.getD j false) (y8 tm) = y8 r.tm := by
   funext t
   rw [hfT t]
   refine Q8 fun j b hj _ => ?_
   rw [cc3]
   exact hall' j (by have := (b98.1 hj).1; omega)
  have eS : sD r.acts (fun j => listed.getD j false) S = r.S := by
   funext q
   rw [hfS q]
   refine Q8 fun j b hj _ => ?_
   rw [cc3]
   exact hall' j (by have := (b98.1 hj).1; omega)
  have hids : ∀ (k : Nat) b, r.acts[k]? = some b → ∀ id, (id ∈ b.t.res.ids ∨ id ∈ b.t.new.map (·.1) ∨ ∃ p ∈ b.t.new, id ∈ p.2.ids) → id < n + 8 * l.length := fun k b hk id hid => by
   have hkl : k < l.length := by have := (b98.1 hk).1; omega
   obtain ⟨o, ho'⟩ : ∃ o, l[k]? = some o := ⟨_, b90 hkl⟩
   obtain ⟨ac, ob, hac, _, hop⟩ := hat k o ho'
   rw [hk] at hac; cases hac
   obtain ⟨_, _, hfine⟩ := aW0 hop
   obtain ⟨hf1, hf2, hf3⟩ := ae0 hfine
   rcases hid with h | h | ⟨p, hp, h⟩
   ·have := hf3 id h; omega
   ·obtain ⟨p, hp, rfl⟩ := List.mem_map.1 h
    have := (hf1 p hp).1; omega
   ·have := (hf1 p hp).2 id h; omega
  refine done ρ a w (n + 8 * l.length) ⟨hN, hdf, by rw [← eT]; exact hv, fun t x hx => ?_, fun j => ?_, by rw [← eS]; exact M, by have := I0.le; omega, hold⟩
  ·rw [hfT t] at hx
   revert x
   refine at1 (fun y : Option AV => ∀ x, y = some x → ∀ id ∈ x.ids, id < n + 8 * l.length) (fun x hx id hid => ?_) fun k b y hk _ hw x hx id hid => ?_
   ·have := I0.tmi t x hx id hid; omega
   ·unfold wrT at hw
    split at hw
    ·cases hw; cases hx
     exact hids k b hk id (.inl hid)
    ·cases hw
  ·refine ⟨?_, fun hj => ?_⟩
   ·rw [hfS j]
    refine at1 (fun x : It => ∀ id ∈ x.ids, id < n + 8 * l.length) (fun id hid => ?_) fun k b x hk _ hw id hid => ?_
    ·have := (I0.bd j).1 id hid; omega
    ·exact hids k b hk id (.inr (.inr ⟨_, P3 hw, hid⟩))
   ·rw [hfS j, Y5 fun k b hk hw => ?_]
    ·exact (I0.bd j).2 (by omega)
    ·obtain ⟨x, hx⟩ := cc4.1 hw
     have := hids k b hk j (.inr (.inl (List.mem_map.2 ⟨_, P3 hx, rfl⟩)))
     omega
end
def s5 {ι : Type} (φ ψ : Nat → Prop) (w0 : World) (F : ι → Rs) (N m : Nat) (ρ0 ρ : Nat → Value) (S : List It) (tm : List (Nat × AV)) (a : Act) (w : World) : Prop := Inn φ ψ w0 F N m ρ0 S.length ρ (y8 tm) (s0 S) a w
def wfB (S : List It) (tm : List (Nat × AV)) : Bool := S.all (fun x => W2 S.length x.ids) && tm.all (fun p => W2 S.length p.2.ids)
def bP0 (m : Nat) (js : List Nat) : Bool := (cb2 m).all fun i => natEq (nth js i) i && decide (i < js.length)
def ah4 (m : Nat) (js : List Nat) (S : List It) (tm : List (Nat × AV)) : Bool := nodupB js && natEq js.length S.length && wfB S tm && bP0 m js
section
variable {P : Program} {ι : Type} {φ ψ : Nat → Prop} {w0 w w' : World} {F : ι → Rs} {ρ ρ0 : Nat → Value} {N m n : Nat} {S : List It} {tm : List (Nat × AV)} {a : Act} {Q : Exit → Act → World → Prop}
theorem aI7 : ∀ {tm : List (Nat × AV)} {t : Nat} {x : AV}, y8 tm t = some x → (t, x) ∈ tm
 | [], _, _, h => by cases h
 | (k, y) :: r, t, x, h => by
  simp only [y8, natEq, beq_iff_eq] at h
  split at h
  ·rename_i e; subst e; cases h; exact ca1
  ·exact ca8 _ (aI7 h)
theorem ad1 {l : List It} {i : Nat} (h : i < l.length) : s0 l i = l[i] := by simp [s0, b91, h]
theorem w9 {l : List It} {i : Nat} (h : l.length ≤ i) : s0 l i = .none := by simp [s0, b91, h]
theorem bN7 {S : List It} {tm : List (Nat × AV)} (h : wfB S tm = true) : (∀ j, (∀ id ∈ (s0 S j).ids, id < S.length) ∧ (S.length ≤ j → s0 S j = .none)) ∧ ∀ t x, y8 tm t = some x → ∀ id ∈ x.ids, id < S.length := by
 simp only [wfB, b86] at h
 refine ⟨fun j => ⟨fun id hid => ?_, fun hj => w9 hj⟩, fun t x hx id hid => ?_⟩
 ·rcases cc0 j S.length with hj | hj
  ·rw [ad1 hj] at hid
   exact D0 (b93.1 h.1 _ (cb0 hj)) id hid
  ·rw [w9 hj] at hid; cases hid
 ·exact D0 (b93.1 h.2 _ (aI7 hx)) id hid
theorem Inn.sel {tf : Nat → Option AV} {Sf : Nat → It} (I : Inn φ ψ w0 F N m ρ0 n ρ tf Sf a w) (js : List Nat) (S1 : List It) (tm1 : List (Nat × AV)) (hb : ah4 m js S1 tm1 = true) (hS : js.map Sf = S1.map (It.ren (nth js))) (ht : (tm1.map (·.1)).map tf = tm1.map fun p => some (p.2.ren (nth js))) :
  s5 φ ψ w0 F N m ρ0 (fun i => ρ (nth js i)) S1 tm1 a w := by
 simp only [ah4, b86, natEq, beq_iff_eq] at hb
 obtain ⟨⟨⟨hnd, hl⟩, hwf⟩, hkeep⟩ := hb
 have hn := ap3 hnd
 obtain ⟨b1, b2⟩ := bN7 hwf
 have hk : ∀ i, i < m → nth js i = i ∧ i < js.length := fun i hi => by
  have := b93.1 hkeep i (List.mem_range.2 hi)
  simpa [natEq] using this
 refine ⟨I.size, I.defs, fun t x hx => ?_, b2, b1, ?_, ?_, fun i hi => ?_⟩
 ·obtain ⟨i, hi⟩ := List.mem_iff_getElem?.1 (aI7 hx)
  have h1 := congrArg (·[i]?) ht
  simp only [List.getElem?_map, hi, Option.map_some] at h1
  rw [I.tmv t _ (Option.some.inj h1), AV.val_ren]
 ·refine I.mem.map (fun k : ι ⊕ Nat => (match k with | .inl i => some (.inl i) | .inr i => if i < js.length then some (.inr (nth js i)) else none : Option (ι ⊕ Nat))) ?_ ?_
  ·intro k k' x h1 h2
   match k, k' with
   | .inl i, .inl i' => simp at h1 h2; rw [← h1] at h2; simpa using h2.symm
   | .inl i, .inr j => simp only at h1 h2; cases h1; split at h2 <;> simp at h2
   | .inr j, .inl i => simp only at h1 h2; cases h2; split at h1 <;> simp at h1
   | .inr j, .inr j' =>
    simp at h1 h2
    obtain ⟨f1, f2⟩ := h1
    obtain ⟨g1, g2⟩ := h2
    rw [← f2] at g2
    have hj := Sum.inr.inj g2
    have e1 := b90 f1
    have e2 := b90 g1
    rw [G3 e2, G3 e1] at hj
    have := (List.getElem?_inj f1 hn).1 (e1.trans (by rw [← hj]; exact e2.symm))
    rw [this]
  ·intro k
   match k with
   | .inl i => exact .inl ⟨_, rfl, rfl⟩
   | .inr i =>
    by_cases hlt : i < js.length
    ·refine .inl ⟨.inr (nth js i), by simp [hlt], ?_⟩
     have h1 := congrArg (·[i]?) hS
     have hlt' : i < S1.length := by omega
     simp only [List.getElem?_map, b90 hlt, b90 hlt', Option.map_some, Option.some.injEq] at h1
     simp only [p7]
     rw [ad1 hlt', G3 (b90 hlt), h1, ← It.res_ren, G3 (b90 hlt)]
    ·refine .inr ?_
     simp only [p7]
     rw [w9 (by omega)]
     rfl
 ·rcases cc0 S1.length m with h | h
  ·have := (hk S1.length h).2; omega
  ·exact h
 ·rw [(hk i hi).1]; exact I.old i hi
def a25 (o : Option RS) (js ts : List Nat) : Option (List Prop × List It × List (Option AV) × List (List (List AV × List It)) × List (List AV)) := o.map fun r => (r.obs, js.map r.S, ts.map (y8 r.tm), r.acts.map (·.eqs.1), r.acts.map (·.eqw.1))
def bb0 (o : Option RS) (obs : List Prop) (js : List Nat) (S : List It) (tm : List (Nat × AV)) : Option (List Prop × List It × List (Option AV) × List (List (List AV × List It)) × List (List AV)) := o.map fun r => (obs, S.map (It.ren (nth js)), tm.map (fun p => some (p.2.ren (nth js))), r.acts.map (·.eqs.2), r.acts.map (·.eqw.2))
def bl0 (l : List Oper) (ms : List Nat) (n : Nat) (S : Nat → It) (o : Option RS) : Bool := aW3 ms l && aj8 l.toArray && match o with
 | some r => bS0 ms r.acts && by6 ms n r.acts && bt1 ms S r.acts
 | none => false
theorem bR7 {dk : TypeId → Nat} {l : List Oper} {id : Nat} (G : s5 φ ψ w0 F N m ρ0 ρ S tm a w) (H : P7) (hH : ∀ i c τ, K5 H.calls i = some (c, τ) → c.ok P) (hF : N9 H.facts) (js : List Nat) (S1 : List It) (tm1 : List (Nat × AV)) (obs : List Prop)
  (hs : ((T9 P dk N l H l 0 tm (s0 S) S.length).isSome && ah4 m js S1 tm1) = true)
  (hc : a25 (T9 P dk N l H l 0 tm (s0 S) S.length) js (tm1.map (·.1)) = bb0 (T9 P dk N l H l 0 tm (s0 S) S.length) obs js S1 tm1)
  (ho : t8 obs) (k : ∀ ρ' a' w', s5 φ ψ w0 F N m ρ0 ρ' S1 tm1 a' w' → Q .normal a' w') : (Code.region id l.toArray false).wp P Q a w := by
 simp only [b86] at hs
 obtain ⟨r, hr⟩ := cc4.1 hs.1
 rw [hr] at hc
 simp only [a25, bb0, Option.map_some, Option.some.injEq, Prod.mk.injEq] at hc
 obtain ⟨h1, h2, h3, h4, h5⟩ := hc
 refine wp_region_lit (bi1 hH hF l 0 S.length G hr (by rw [h1]; exact ho) h4 h5 fun ρ' a' w' n' I => ?_)
 exact k _ a' w' (I.sel js S1 tm1 hs.2 h2 h3)
theorem bH3 {dk : TypeId → Nat} {l : List Oper} {id : Nat} (G : s5 φ ψ w0 F N m ρ0 ρ S tm a w) (H : P7) (hH : ∀ i c τ, K5 H.calls i = some (c, τ) → c.ok P) (hF : N9 H.facts) (ms : List Nat) (js : List Nat) (S1 : List It) (tm1 : List (Nat × AV)) (obs : List Prop) (hm : P.follows .mixedOrders = true)
  (hs : (bl0 l ms S.length (s0 S) (T9 P dk N l H l 0 tm (s0 S) S.length) && ah4 m js S1 tm1) = true)
  (hc : a25 (T9 P dk N l H l 0 tm (s0 S) S.length) js (tm1.map (·.1)) = bb0 (T9 P dk N l H l 0 tm (s0 S) S.length) obs js S1 tm1)
  (ho : t8 obs) (k : ∀ ρ' a' w', s5 φ ψ w0 F N m ρ0 ρ' S1 tm1 a' w' → Q .normal a' w') : (Code.region id l.toArray true).wp P Q a w := by
 simp only [b86, bl0] at hs
 obtain ⟨⟨⟨q1, q2⟩, q3⟩, q4⟩ := hs
 cases hr : T9 P dk N l H l 0 tm (s0 S) S.length with
 | none => rw [hr] at q3; cases q3
 | some r =>
  rw [hr] at q3 hc
  simp only [b86] at q3
  simp only [a25, bb0, Option.map_some, Option.some.injEq, Prod.mk.injEq] at hc
  obtain ⟨h1, h2, h3, h4, h5⟩ := hc
  refine aT1 hH hF G hr (by rw [h1]; exact ho) h4 h5 ms hm q2 q1 q3.1.1 q3.1.2 q3.2 fun ρ' a' w' n' I => ?_
  exact k _ a' w' (I.sel js S1 tm1 q4 h2 h3)
theorem rs1 {dk : TypeId → Nat} {l : List Oper} {id : Nat} (G : s5 φ ψ w0 F N m ρ0 ρ S tm a w) (H : P7) (hH : ∀ i c τ, K5 H.calls i = some (c, τ) → c.ok P) (hF : N9 H.facts) (js : List Nat) (S1 : List It) (tm1 : List (Nat × AV)) (obs : List Prop)
  (ho : t8 obs) (k : ∀ ρ' a' w', s5 φ ψ w0 F N m ρ0 ρ' S1 tm1 a' w' → Q .normal a' w')
  (hs : ((T9 P dk N l H l 0 tm (s0 S) S.length).isSome && ah4 m js S1 tm1) = true := by kernel_rfl)
  (hc : a25 (T9 P dk N l H l 0 tm (s0 S) S.length) js (tm1.map (·.1)) = bb0 (T9 P dk N l H l 0 tm (s0 S) S.length) obs js S1 tm1 := by kernel_rfl) : (Code.region id l.toArray false).wp P Q a w := bR7 G H hH hF js S1 tm1 obs hs hc ho k
theorem rd1 {dk : TypeId → Nat} {l : List Oper} {id : Nat} (G : s5 φ ψ w0 F N m ρ0 ρ S tm a w) (H : P7) (hH : ∀ i c τ, K5 H.calls i = some (c, τ) → c.ok P) (hF : N9 H.facts) (ms : List Nat) (js : List Nat) (S1 : List It) (tm1 : List (Nat × AV)) (obs : List Prop)
  (ho : t8 obs) (k : ∀ ρ' a' w', s5 φ ψ w0 F N m ρ0 ρ' S1 tm1 a' w' → Q .normal a' w') (hm : P.follows .mixedOrders = true := by kernel_rfl)
  (hs : (bl0 l ms S.length (s0 S) (T9 P dk N l H l 0 tm (s0 S) S.length) && ah4 m js S1 tm1) = true := by kernel_rfl)
  (hc : a25 (T9 P dk N l H l 0 tm (s0 S) S.length) js (tm1.map (·.1)) = bb0 (T9 P dk N l H l 0 tm (s0 S) S.length) obs js S1 tm1 := by kernel_rfl) : (Code.region id l.toArray true).wp P Q a w := bH3 G H hH hF ms js S1 tm1 obs hm hs hc ho k
theorem al6 : ∀ i c τ, K5 [] i = some (c, τ) → k6.ok P c := fun i c τ h => by cases h
theorem aK6 {i0 : Nat} {c0 : k6} {τ0 : List Nat} {r : List (Nat × k6 × List Nat)} (h0 : c0.ok P) (hr : ∀ i c τ, K5 r i = some (c, τ) → k6.ok P c) : ∀ i c τ, K5 ((i0, c0, τ0) :: r) i = some (c, τ) → k6.ok P c := fun i c τ h => by
 simp only [K5] at h
 split at h
 ·cases h; exact h0
 ·exact hr i c τ h
theorem s5.sel (G : s5 φ ψ w0 F N m ρ0 ρ S tm a w) (js : List Nat) (S1 : List It) (tm1 : List (Nat × AV)) (hb : ah4 m js S1 tm1 = true) (hS : js.map (s0 S) = S1.map (It.ren (nth js))) (ht : (tm1.map (·.1)).map (y8 tm) = tm1.map fun p => some (p.2.ren (nth js))) : ∃ ρ', s5 φ ψ w0 F N m ρ0 ρ' S1 tm1 a w := ⟨_, Inn.sel G js S1 tm1 hb hS ht⟩
theorem s5.as (G : s5 φ ψ w0 F N m ρ0 ρ S tm a w) (S1 : List It) (tm1 : List (Nat × AV)) (hS : S = S1) (ht : tm = tm1) : s5 φ ψ w0 F N m ρ0 ρ S1 tm1 a w := by subst hS; subst ht; exact G
theorem s5.at (G : s5 φ ψ w0 F N m ρ0 ρ S tm a w) (S1 : List It) (tm1 : List (Nat × AV)) (hS : S = S1 := by kernel_rfl) (ht : tm = tm1 := by kernel_rfl) : s5 φ ψ w0 F N m ρ0 ρ S1 tm1 a w := G.as S1 tm1 hS ht
theorem ak3 {c : Nat} {x y : Code} (G : s5 φ ψ w0 F N m ρ0 ρ S tm a w) (b : Bool) (hc : y8 tm c = some (.v (.bool b))) (ht : b = true → x.wp P Q a w) (hf : b = false → y.wp P Q a w) : (Code.cond (.tmp c) x y).wp P Q a w := by
 have h := G.tmv c _ hc
 refine wp_cond_split (t := b) ?_ ht hf
 simp [Act.eval, Array.getD_eq_getD_getElem?, h, AV.val]
theorem bw0 {c : Nat} {x y : Code} (G : s5 φ ψ w0 F N m ρ0 ρ S tm a w) (b : Bool) (hc : y8 tm c = some (.v (.bool b))) (hb : b = true) (h : x.wp P Q a w) : (Code.cond (.tmp c) x y).wp P Q a w := ak3 G b hc (fun _ => h) fun hf => by rw [hb] at hf; cases hf
theorem bw1 {c : Nat} {x y : Code} (G : s5 φ ψ w0 F N m ρ0 ρ S tm a w) (b : Bool) (hc : y8 tm c = some (.v (.bool b))) (hb : b = false) (h : y.wp P Q a w) : (Code.cond (.tmp c) x y).wp P Q a w := ak3 G b hc (fun ht => by rw [hb] at ht; cases ht) fun _ => h
def ba6 (P : Program) (tm : Nat → Option AV) (S : Nat → It) : List ResultVar → Option (List AV)
 | [] => some []
 | .tmp t :: r =>
  match tm t, ba6 P tm S r with
  | some x, some l => some (x :: l)
  | _, _ => none
 | .cell t ty :: r =>
  match tm t, ba6 P tm S r with
  | some (.ptr b off), some l =>
   match S b with
   | .box cs => (br8 P ty ((cs.drop off).take (aG2 P ty))).map fun x => x :: l
   | _ => none
  | _, _ => none
def a19 (P : Program) (fn : Func) (tm : List (Nat × AV)) (S : List It) : Option AV :=
 match ba6 P (y8 tm) (s0 S) fn.results.toList with
 | some [x] => some x
 | some l => some (.tup l)
 | none => none
theorem bF3 {cs : List AV} {ty : TypeId} {b off : Nat} {x : AV} (hB : Blk w b (AV.vals ρ cs)) (h : br8 P ty ((cs.drop off).take (aG2 P ty)) = some x) : (loadVar ty ⟨b, off, none⟩).run P w = .ok (x.val ρ) w :=
 ay9 h ⟨b, off, none⟩ fun j u hj => by
  rw [AV.vals_take, AV.vals_drop] at hj
  have hadd : (⟨b, off, none⟩ : Addr).add j = ⟨b, off + j, none⟩ := by unfold Addr.add; split <;> simp_all
  rw [hadd, hB.cell]
  rw [List.getElem?_take] at hj
  split at hj
  ·rw [List.getElem?_drop] at hj; exact hj
  ·cases hj
theorem aV3 (G : s5 φ ψ w0 F N m ρ0 ρ S tm a w) : ∀ {rs : List ResultVar} {l : List AV}, ba6 P (y8 tm) (s0 S) rs = some l →
  (rs.mapM (fun r => (match r with | .tmp t => pure (a.tmps.getD t undef) | .cell b t => do loadVar t (← asAddr (a.tmps.getD b undef)) : Sem Value))).run P w = .ok (AV.vals ρ l) w
 | [], l, h => by cases h; simp [AV.vals]
 | .tmp t :: r, l, h => by
  simp only [ba6] at h
  split at h
  case h_2 => cases h
  rename_i x l' h1 h2
  cases h
  have ht := G.tmv t x h1
  have ih := aV3 G h2
  have e : (pure (a.tmps.getD t undef) : Sem Value).run P w = .ok (x.val ρ) w := by simp [Array.getD_eq_getD_getElem?, ht]
  rw [List.mapM_cons, Sem.run_bind, e, Result.andThen_ok, Sem.run_bind, ih]
  rfl
 | .cell t ty :: r, l, h => by
  simp only [ba6] at h
  split at h
  case h_2 => cases h
  rename_i b off l' h1 h2
  split at h
  case h_2 => cases h
  rename_i cs hS
  obtain ⟨x, h3, h4⟩ := b92.1 h
  subst h4
  have ht := G.tmv t _ h1
  have ih := aV3 G h2
  have hl := bF3 (P := P) (G.mem.boxAt hS) h3
  have e : (do loadVar ty (← asAddr (a.tmps.getD t undef)) : Sem Value).run P w = .ok (x.val ρ) w := by
   rw [show a.tmps.getD t undef = .pointer (some ⟨T3 (ρ b), off, none⟩) by simp [Array.getD_eq_getD_getElem?, ht, AV.val]]
   simp [asAddr, hl]
  rw [List.mapM_cons, Sem.run_bind, e, Result.andThen_ok, Sem.run_bind, ih]
  rfl
theorem bR8 {fn : Func} {R : Ending → World → Prop} {v : AV} (G : s5 φ ψ w0 F N m ρ0 ρ S tm a w) (h : a19 P fn tm S = some v) (hR : R (.returned (v.val ρ)) w) : bodyPost P fn R .ret a w := by
 refine ⟨G.defs, v.val ρ, ?_, hR⟩
 unfold a19 at h
 cases hl : ba6 P (y8 tm) (s0 S) fn.results.toList with
 | none => rw [hl] at h; cases h
 | some l =>
  rw [hl] at h
  have := aV3 G hl
  unfold results
  rw [Sem.run_bind, Array.mapM_eq_mapM_toList, Sem.run_map]
  erw [this]
  simp only [Result.andThen_ok, Sem.run_pure]
  match l, h with
  | [], h => cases h; rfl
  | [x], h => cases h; rfl
  | x :: y :: r, h => cases h; rfl
def aL7 (i : Nat) : List AV → List (Nat × AV)
 | [] => []
 | x :: r => (i, x) :: aL7 (i + 1) r
theorem a74 (ρ : Nat → Value) : ∀ {l : List AV} {i t : Nat} {x : AV}, y8 (aL7 i l) t = some x → i ≤ t ∧ (AV.vals ρ l)[t - i]? = some (x.val ρ)
 | [], _, _, _, h => by cases h
 | y :: r, i, t, x, h => by
  simp only [aL7, y8, natEq, beq_iff_eq] at h
  split at h
  ·rename_i e; subst e; cases h; exact ⟨b99 _, by simp [AV.vals]⟩
  ·obtain ⟨h1, h2⟩ := a74 ρ h
   refine ⟨by omega, ?_⟩
   rw [show t - i = (t - (i + 1)) + 1 by omega]
   simpa [AV.vals] using h2
def a77 (φ ψ : Nat → Prop) (w0 : World) (F : ι → Rs) (ρ0 : Nat → Value) (c : k6) (x : Ending) (w' : World) : Prop := ∃ ρ', (∀ i, i < c.pre.length → ρ' i = ρ0 i) ∧ x = .returned (c.res.val ρ') ∧ m5 φ ψ w0 w' (p7 F ρ' (s0 c.post))
theorem bv9 {c : k6} {fn : Func} {code : Code} (N : Nat) (hf : P.funcs[c.f]? = some fn) (hb : fn.body = some code) (hN : fn.ntmps = N) (hw : (wfB c.pre (aL7 0 c.args) && decide (c.args.length ≤ N)) = true)
  (k : ∀ {ι : Type} (φ ψ : Nat → Prop) (w0 w : World) (F : ι → Rs) (ρ0 ρ : Nat → Value) (a : Act), s5 φ ψ w0 F N c.pre.length ρ0 ρ c.pre (aL7 0 c.args) a w → code.wp P (bodyPost P fn (a77 φ ψ w0 F ρ0 c)) a w) : c.ok P := by
 intro ι φ ψ w0 w F ρ M
 simp only [b86, decide_eq_true_eq] at hw
 obtain ⟨b1, b2⟩ := bN7 hw.1
 refine calls_of_wp hf hb (k φ ψ w0 w F ρ ρ _ ⟨?_, rfl, fun t x hx => ?_, b2, b1, M, b99 _, fun _ _ => rfl⟩)
 ·simp [AV.vals_length, hN]; omega
 ·obtain ⟨_, h1⟩ := a74 ρ hx
  rw [Nat.sub_zero] at h1
  have hlt := (b98.1 h1).1
  rw [Array.getElem?_append_left (by simpa using hlt)]
  simpa using h1
theorem aH9 {fn : Func} {c : k6} {v : AV} (G : s5 φ ψ w0 F N c.pre.length ρ0 ρ S tm a w) (js : List Nat) (h : a19 P fn tm S = some v) (hb : ah4 c.pre.length js c.post [] = true) (hS : js.map (s0 S) = c.post.map (It.ren (nth js))) (hv : v = c.res.ren (nth js)) : bodyPost P fn (a77 φ ψ w0 F ρ0 c) .ret a w := by
 have G1 := Inn.sel G js c.post [] hb hS rfl
 refine bR8 G h ⟨fun i => ρ (nth js i), G1.old, ?_, G1.mem⟩
 rw [hv, AV.val_ren]
theorem b7 {K : Act → World → Prop} (h : K a w) : Exit.then K Q .normal a w := h
theorem o5 {K : Act → World → Prop} {id : Nat} (h : Q (.exit id) a w) : Exit.then K Q (.exit id) a w := h
theorem l7 {K : Act → World → Prop} (h : Q .ret a w) : Exit.then K Q .ret a w := h
theorem m6 {id : Nat} (h : Q .normal a w) : Exit.inBlock id Q .normal a w := h
theorem A0 {id : Nat} (h : Q .ret a w) : Exit.inBlock id Q .ret a w := h
theorem n9 {id : Nat} (h : Q .normal a w) : Exit.inBlock id Q (.exit id) a w := by simp only [Exit.inBlock, if_true]; exact h
theorem bM1 {id id' : Nat} (hne : natEq id' id = false) (h : Q (.exit id') a w) : Exit.inBlock id Q (.exit id') a w := by
 simp only [Exit.inBlock]
 rw [if_neg (by simpa [natEq] using hne)]; exact h
theorem w64 {x : Int} (h1 : -9223372036854775808 ≤ x) (h2 : x ≤ 9223372036854775807) : IntKind.i64.wrap x = x := IntWalk.i64_in x ⟨h1, h2⟩
theorem rT {c : Nat} {x y : Code} (G : s5 φ ψ w0 F N m ρ0 ρ S tm a w) (b : Bool) (hb : b = true) (h : x.wp P Q a w) (hc : y8 tm c = some (.v (.bool b)) := by kernel_rfl) : (Code.cond (.tmp c) x y).wp P Q a w := bw0 G b hc hb h
theorem rF {c : Nat} {x y : Code} (G : s5 φ ψ w0 F N m ρ0 ρ S tm a w) (b : Bool) (hb : b = false) (h : y.wp P Q a w) (hc : y8 tm c = some (.v (.bool b)) := by kernel_rfl) : (Code.cond (.tmp c) x y).wp P Q a w := bw1 G b hc hb h
theorem o9 {κ : Type} {c : Code} (pre : κ → Prop) (μ : κ → Nat) (Sk : κ → List It) (Tk : κ → List (Nat × AV)) (k0 : κ) (hp : pre k0) (G : s5 φ ψ w0 F N m ρ0 ρ (Sk k0) (Tk k0) a w)
  (round : ∀ k ρ a w, pre k → s5 φ ψ w0 F N m ρ0 ρ (Sk k) (Tk k) a w → c.wp P (Exit.then (fun a' w' => ∃ k' ρ', pre k' ∧ μ k' < μ k ∧ s5 φ ψ w0 F N m ρ0 ρ' (Sk k') (Tk k') a' w') Q) a w) : (Code.loop c).wp P Q a w := by
 refine wp_loop_ghost (fun n a w => ∃ k ρ, μ k = n ∧ pre k ∧ s5 φ ψ w0 F N m ρ0 ρ (Sk k) (Tk k) a w) (μ k0) ⟨k0, ρ, rfl, hp, G⟩ ?_
 rintro n a w ⟨k, ρ, rfl, hk, Gk⟩
 refine wp_mono (round k ρ a w hk Gk) ?_
 intro e a' w' hq
 cases e with
 | normal =>
  obtain ⟨k', ρ', h1, h2, h3⟩ := hq
  exact ⟨μ k', h2, k', ρ', rfl, h1, h3⟩
 | _ => exact hq
theorem bH2 {κ : Type} {pre : κ → Prop} {μ : κ → Nat} {Sk : κ → List It} {Tk : κ → List (Nat × AV)} {k : κ} (G : s5 φ ψ w0 F N m ρ0 ρ S tm a w) (k' : κ) (hp : pre k') (hμ : μ k' < μ k) (js : List Nat) (S1 : List It) (tm1 : List (Nat × AV)) (hs1 : Sk k' = S1) (ht1 : Tk k' = tm1)
  (hb : ah4 m js S1 tm1 = true) (hS : js.map (s0 S) = S1.map (It.ren (nth js))) (ht : (tm1.map (·.1)).map (y8 tm) = tm1.map fun p => some (p.2.ren (nth js))) :
  ∃ k' ρ', pre k' ∧ μ k' < μ k ∧ s5 φ ψ w0 F N m ρ0 ρ' (Sk k') (Tk k') a w := by
 subst hs1; subst ht1
 exact ⟨k', _, hp, hμ, Inn.sel G js _ _ hb hS ht⟩
theorem s5.len (G : s5 φ ψ w0 F N m ρ0 ρ S tm a w) (i : Nat) {d : D} (h : itD (s0 S i) = some d) : d.len ≤ 9223372036854775807 := by
 obtain ⟨_, cap, _, h1, h2, _⟩ := G.mem.sliceAt h
 unfold maxLen at h2; omega
end
end Go.Proofs.YthikdkjjdeehoaaGreat

namespace Go.Proofs.YthikdkjjdeehoaaGreat
set_option linter.unusedVariables false
set_option linter.unusedSimpArgs false
def m9 (k : Int) : Int := if k = 1 ∨ k = 2 then 0 else if k = 3 then 1 else if 4 ≤ k ∧ k ≤ 10 then 2 else if k = 11 then 3 else -1
def I6 (nv na : Nat) (k : Int) : Int := if k = 1 then 256 else if k = 2 then nv else if k = 3 then na else 1
def atomB (e : b5) : Bool := decide (e.kind = 1) || decide (e.kind = 2)
def y7 (nv na : Nat) (e : b5) : Bool := decide ((e.kids.length : Int) = m9 e.kind) && decide (0 ≤ e.value) && decide (e.value < I6 nv na e.kind)
def M9 (e : b5) : Bool := decide (e.kind ≠ 3) || (match e.kids with | k :: _ => atomB k | [] => false)
def f5 (nv na : Nat) : Nat → b5 → Bool
 | 0, _ => false
 | d + 1, e => y7 nv na e && e.kids.all (f5 nv na d) && M9 e
def l6 (nv na : Nat) (e : b5) : Bool := f5 nv na 5 e && decide (1 + v7 e ≤ 15)
theorem A3 (e : b5) : v7 e = n8 e.kids := by cases e; rfl
def w6 (nv na : Nat) (d c : Nat) (e : b5) : Bool := f5 nv na d e && decide (c + 1 + v7 e ≤ 15)
def v8 (nv na : Nat) (d c : Nat) (ks : List b5) (k : Nat) : Bool := (ks.take k).all (f5 nv na d) && decide (c + n8 (ks.take k) ≤ 15)
theorem aO8 {ks : List b5} {k : Nat} (h : k < ks.length) : n8 (ks.take (k + 1)) = n8 (ks.take k) + (1 + v7 ks[k]) := by
 rw [F8 _ _ h, L6]
 simp [n8]
theorem T7 (ks : List b5) (k : Nat) : n8 (ks.take k) ≤ n8 ks := by
 have := L6 (ks.take k) (ks.drop k)
 rw [List.take_append_drop] at this
 omega
theorem T8 (nv na : Nat) {d c : Nat} {ks : List b5} {k : Nat} (h : k < ks.length) : v8 nv na d c ks (k + 1) = (v8 nv na d c ks k && w6 nv na d (c + n8 (ks.take k)) ks[k]) := by
 unfold v8 w6
 rw [aO8 h, F8 _ _ h, List.all_append]
 simp only [List.all_cons, List.all_nil, Bool.and_true]
 rw [Bool.eq_iff_iff]
 simp only [b86, decide_eq_true_eq]
 constructor
 ·rintro ⟨⟨h1, h2⟩, h3⟩; exact ⟨⟨h1, by omega⟩, h2, by omega⟩
 ·rintro ⟨⟨h1, _⟩, h3, h4⟩; exact ⟨⟨h1, h3⟩, by omega⟩
theorem aU8 (nv na : Nat) {d c : Nat} {ks : List b5} {k : Nat} (h : k < ks.length) (hs : w6 nv na d (c + n8 (ks.take k)) ks[k] = false) : (ks.all (f5 nv na d) && decide (c + n8 ks ≤ 15)) = false := by
 rw [Bool.eq_false_iff]
 intro ht
 simp only [b86, decide_eq_true_eq, b93] at ht
 have h1 := ht.1 _ (cb0 h)
 have h2 := T7 ks (k + 1)
 rw [aO8 h] at h2
 unfold w6 at hs
 rw [h1] at hs
 simp at hs
 omega
def noneB (e : b5) : Bool := decide (e.kind = 0) && decide (e.value = 0) && decide (e.kids.length = 0)
def z6 (s : b6) : Bool :=
 if (s.kind = 3 ∨ s.kind = 4) then
  decide (s.target = 0) && (if s.kind = 4 then decide (s.els.length = 0) && decide (1 ≤ s.count) && decide (s.count ≤ 3) && noneB s.index && noneB s.value
   else decide (s.count = 0) && noneB s.index)
 else decide (s.body.length = 0) && decide (s.els.length = 0) && decide (s.count = 0) && (decide (s.kind = 2) || noneB s.index)
def f6 (nv na : Nat) : Nat → b6 → Bool
  | 0, _ => false
  | d + 1, s => z6 s &&
    (if s.kind = 1 ∨ s.kind = 5 then decide (0 ≤ s.target) && decide (s.target < nv) && l6 nv na s.value
     else if s.kind = 2 then decide (0 ≤ s.target) && decide (s.target < na) && l6 nv na s.index && atomB s.index && l6 nv na s.value
     else if s.kind = 3 then l6 nv na s.value && s.body.all (f6 nv na d) && s.els.all (f6 nv na d)
     else if s.kind = 4 then s.body.all (f6 nv na d)
     else false)
def ae6 (nv na : Nat) (d : Nat) (ss : List b6) : Bool := ss.all (f6 nv na d)
mutual
def nS : b6 → Nat
 | ⟨_, _, _, _, _, b, e⟩ => 1 + L8 b + L8 e
def L8 : List b6 → Nat
 | [] => 0
 | s :: r => nS s + L8 r
end
def m0 (p : d7) : Bool := F4 p.vars p.arrays && ae6 p.vars.length p.arrays.length 5 p.body && decide (L8 p.body ≤ 60)
end Go.Proofs.YthikdkjjdeehoaaGreat

namespace Go.Proofs.YthikdkjjdeehoaaGreat
set_option linter.unusedVariables false
set_option linter.unusedSimpArgs false
open Go Go.RowKit
def dkP (t : TypeId) : Nat :=
 if natEq t 3 then 1 else
 if natEq t 4 then 2 else
 if natEq t 5 then 3 else
 if natEq t 9 then 4 else
if natEq t 86 then 5 else
 if natEq t 23 then 7 else
if natEq t 57 then 8 else
if natEq t 104 then 9 else
if natEq t 106 then 10 else
 0
abbrev eA (e : b5) (r : Nat) : AV := .agg [.v (.int .i64 e.kind), .v (.int .i64 e.value), .ref r]
abbrev eS (e : b5) : List It := [.dat (.exprs e.kids)]
abbrev sA (s : b6) (r : Nat) : AV := .agg [.v (.int .i64 s.kind), .v (.int .i64 s.target), .v (.int .i64 s.index.kind), .v (.int .i64 s.index.value), .ref r, .v (.int .i64 s.value.kind), .v (.int .i64 s.value.value), .ref (r + 1), .v (.int .i64 s.count), .ref (r + 2), .ref (r + 3)]
abbrev sS (s : b6) : List It := [.dat (.exprs s.index.kids), .dat (.exprs s.value.kids), .dat (.stmts s.body), .dat (.stmts s.els)]
abbrev pA (r : Nat) : AV := .agg [.ref r, .ref (r + 1), .ref (r + 2)]
abbrev pS (p : d7) : List It := [.dat (.ints p.vars), .dat (.ints p.arrays), .dat (.stmts p.body)]
abbrev iA (n : Int) : AV := .v (.int .i64 n)
abbrev bA (b : Bool) : AV := .v (.bool b)
abbrev F6 (f : FuncId) (args : List AV) (S : List It) (res : AV) : k6 := ⟨f, args, S, S, res⟩
abbrev dI (l : List Int) : It := .dat (.ints l)
abbrev dY (l : List UInt8) : It := .dat (.bytes l)
abbrev dE (l : List b5) : It := .dat (.exprs l)
abbrev dT (l : List b6) : It := .dat (.stmts l)
abbrev eL (e : b5) (r : Nat) : List AV := [.v (.int .i64 e.kind), .v (.int .i64 e.value), .ref r]
abbrev sL (s : b6) (r : Nat) : List AV := [.v (.int .i64 s.kind), .v (.int .i64 s.target), .v (.int .i64 s.index.kind), .v (.int .i64 s.index.value), .ref r, .v (.int .i64 s.value.kind), .v (.int .i64 s.value.value), .ref (r + 1), .v (.int .i64 s.count), .ref (r + 2), .ref (r + 3)]
abbrev pL (r : Nat) : List AV := [.ref r, .ref (r + 1), .ref (r + 2)]
section
variable {P : Program} {ι : Type} {φ ψ : Nat → Prop} {w0 w w' : World} {F : ι → Rs} {ρ ρ0 : Nat → Value} {N m n : Nat} {S : List It} {tm : List (Nat × AV)} {a : Act} {Q : Exit → Act → World → Prop}
end
theorem b5.eta (e : b5) : (⟨e.kind, e.value, e.kids⟩ : b5) = e := by cases e; rfl
theorem b6.eta (s : b6) : (⟨s.kind, s.target, s.index, s.value, s.count, s.body, s.els⟩ : b6) = s := by cases s; rfl
section
variable {ι : Type} {P : Program} {φ ψ : Nat → Prop} {w0 w : World} {F : ι → Rs} {N m : Nat} {ρ0 ρ : Nat → Value} {S : List It} {tm : List (Nat × AV)} {a : Act}
theorem F2 {fn : Func} {c : k6} (G : s5 φ ψ w0 F N c.pre.length ρ0 ρ S tm a w) (js : List Nat) (hS : js.map (s0 S) = c.post.map (It.ren (nth js)) := by kernel_rfl) (h : a19 P fn tm S = some (c.res.ren (nth js)) := by kernel_rfl) (hb : ah4 c.pre.length js c.post [] = true := by kernel_rfl) : bodyPost P fn (a77 φ ψ w0 F ρ0 c) .ret a w := aH9 G js h hb hS rfl
theorem ax1 {fn : Func} {c : k6} (G : s5 φ ψ w0 F N c.pre.length ρ0 ρ S tm a w) (js : List Nat) (hS : js.map (s0 S) = c.post.map (It.ren (nth js)) := by kernel_rfl) (h : a19 P fn tm S = some (c.res.ren (nth js)) := by kernel_rfl) (hb : ah4 c.pre.length js c.post [] = true := by kernel_rfl) : bodyPost P fn (a77 φ ψ w0 F ρ0 c) .normal a w := aH9 G js h hb hS rfl
theorem X7 {fn : Func} {c : k6} (v : AV) (G : s5 φ ψ w0 F N c.pre.length ρ0 ρ S tm a w) (js : List Nat) (hv : v = c.res.ren (nth js)) (hS : js.map (s0 S) = c.post.map (It.ren (nth js)) := by kernel_rfl) (h : a19 P fn tm S = some v := by kernel_rfl) (hb : ah4 c.pre.length js c.post [] = true := by kernel_rfl) : bodyPost P fn (a77 φ ψ w0 F ρ0 c) .ret a w := aH9 G js h hb hS hv
theorem M8 {κ : Type} {pre : κ → Prop} {μ : κ → Nat} {Sk : κ → List It} {Tk : κ → List (Nat × AV)} {k : κ} (G : s5 φ ψ w0 F N m ρ0 ρ S tm a w) (k' : κ) (hp : pre k') (hμ : μ k' < μ k) (js : List Nat) (hS : js.map (s0 S) = (Sk k').map (It.ren (nth js)) := by kernel_rfl) (ht : ((Tk k').map (·.1)).map (y8 tm) = (Tk k').map (fun p => some (p.2.ren (nth js))) := by kernel_rfl) (hb : ah4 m js (Sk k') (Tk k') = true := by kernel_rfl) : ∃ k' ρ', pre k' ∧ μ k' < μ k ∧ s5 φ ψ w0 F N m ρ0 ρ' (Sk k') (Tk k') a w := bH2 G k' hp hμ js _ _ rfl rfl hb hS ht
theorem B5 {fn : Func} {f : FuncId} {args : List AV} {pre post : List It} {x : Bool} (y : Bool) (G : s5 φ ψ w0 F N pre.length ρ0 ρ S tm a w) (js : List Nat) (e : x = y) (hS : js.map (s0 S) = post.map (It.ren (nth js)) := by kernel_rfl) (h : a19 P fn tm S = some (bA y) := by kernel_rfl) (hb : ah4 pre.length js post [] = true := by kernel_rfl) : bodyPost P fn (a77 φ ψ w0 F ρ0 ⟨f, args, pre, post, bA x⟩) .ret a w := aH9 (c := ⟨f, args, pre, post, bA x⟩) G js h hb hS (by rw [e]; rfl)
theorem J9 {fn : Func} {f : FuncId} {args : List AV} {pre post : List It} {x : Int} (y : Int) (G : s5 φ ψ w0 F N pre.length ρ0 ρ S tm a w) (js : List Nat) (e : x = y) (hS : js.map (s0 S) = post.map (It.ren (nth js)) := by kernel_rfl) (h : a19 P fn tm S = some (iA y) := by kernel_rfl) (hb : ah4 pre.length js post [] = true := by kernel_rfl) : bodyPost P fn (a77 φ ψ w0 F ρ0 ⟨f, args, pre, post, iA x⟩) .ret a w := aH9 (c := ⟨f, args, pre, post, iA x⟩) G js h hb hS (by rw [e]; rfl)
end
abbrev wO (x : Int) : Prop := IntKind.i64.wrap x = x
theorem oW {x : Int} (h : -9223372036854775808 ≤ x ∧ x ≤ 9223372036854775807) : wO x := w64 h.1 h.2
theorem o1 {x : Int} (h : -9223372036854775808 ≤ x ∧ x ≤ 9223372036854775807) : t8 [wO x] := ⟨oW h, b94⟩
theorem o2 {x y : Int} (h : (-9223372036854775808 ≤ x ∧ x ≤ 9223372036854775807) ∧ -9223372036854775808 ≤ y ∧ y ≤ 9223372036854775807) : t8 [wO x, wO y] := ⟨oW h.1, oW h.2, b94⟩
theorem o4 {x y z u : Int} (h : (-9223372036854775808 ≤ x ∧ x ≤ 9223372036854775807) ∧ (-9223372036854775808 ≤ y ∧ y ≤ 9223372036854775807) ∧ (-9223372036854775808 ≤ z ∧ z ≤ 9223372036854775807) ∧ -9223372036854775808 ≤ u ∧ u ≤ 9223372036854775807) : t8 [wO x, wO y, wO z, wO u] := ⟨oW h.1, oW h.2.1, oW h.2.2.1, oW h.2.2.2, b94⟩
abbrev aP (n b : Nat) (r : List Prop) : List Prop := (n ≤ 9223372036854775807) :: (n * b ≤ 140737488355328) :: r
theorem aK {n b : Nat} {r : List Prop} (h : n ≤ 100000000000) (k : t8 r) (hb : b ≤ 1000 := by decide) : t8 (aP n b r) := ⟨by omega, ca7 (Nat.mul_le_mul h hb) (by decide), k⟩
abbrev iX (x : Int) (n l : Nat) (r : List Prop) : List Prop := (0 ≤ x) :: (x < (l : Int)) :: (n < l) :: r
theorem iK {x : Int} {n l : Nat} {r : List Prop} (h : 0 ≤ x ∧ x < (l : Int) ∧ n < l) (k : t8 r) : t8 (iX x n l r) := ⟨h.1, h.2.1, h.2.2, k⟩
abbrev mR (js : List Nat) (l : List It) : List It := List.map (It.ren (nth js)) l
theorem fz : N9 [] := b94
theorem fc {a b : Bool} {r : List (Bool × Bool)} (h : a = b) (k : N9 r) : N9 ((a, b) :: r) := ⟨h, k⟩
abbrev m8 (e : b5) : b5 := b5.mk e.kind e.value e.kids
abbrev qzS (s : b6) : b6 := b6.mk s.kind s.target (b5.mk s.index.kind s.index.value s.index.kids) (b5.mk s.value.kind s.value.value s.value.kids) s.count s.body s.els
def kL (P : Program) (N m : Nat) (l : List Oper) (H : P7) (tm : List (Nat × AV)) (S : List It) (js : List Nat) (S1 : List It) (t1 : List (Nat × AV)) := ((T9 P dkP N l H l 0 tm (s0 S) S.length).isSome && ah4 m js S1 t1, a25 (T9 P dkP N l H l 0 tm (s0 S) S.length) js (t1.map (·.1)))
def kR (P : Program) (N : Nat) (l : List Oper) (H : P7) (tm : List (Nat × AV)) (S : List It) (o : List Prop) (js : List Nat) (S1 : List It) (t1 : List (Nat × AV)) := (true, bb0 (T9 P dkP N l H l 0 tm (s0 S) S.length) o js S1 t1)
def kM (P : Program) (N m : Nat) (l : List Oper) (H : P7) (ms : List Nat) (tm : List (Nat × AV)) (S : List It) (js : List Nat) (S1 : List It) (t1 : List (Nat × AV)) := (bl0 l ms S.length (s0 S) (T9 P dkP N l H l 0 tm (s0 S) S.length) && ah4 m js S1 t1, a25 (T9 P dkP N l H l 0 tm (s0 S) S.length) js (t1.map (·.1)))
theorem A2 {P : Program} {c : k6} {fn : Func} {code : Code} (N : Nat) (hf : P.funcs[c.f]? = some fn) (S : List It) (tm : List (Nat × AV)) (k : ∀ {ι : Type} {φ ψ : Nat → Prop} {w0 w : World} {F : ι → Rs} {ρ0 ρ : Nat → Value} {a : Act}, s5 φ ψ w0 F N c.pre.length ρ0 ρ S tm a w → code.wp P (bodyPost P fn (a77 φ ψ w0 F ρ0 c)) a w) (hb : fn.body = some code := by rfl) (hN : (fn.ntmps, c.pre, aL7 0 c.args) = (N, S, tm) := by kernel_rfl) (hw : (wfB c.pre (aL7 0 c.args) && decide (c.args.length ≤ N)) = true := by kernel_rfl) : c.ok P := by
 simp only [Prod.mk.injEq] at hN
 obtain ⟨h1, h2, h3⟩ := hN
 exact bv9 N hf hb h1 hw fun φ ψ w0 w F ρ0 ρ a G => k (ρ := ρ) (G.as S tm h2 h3)
def aT (x y : List (Nat × AV)) : List (Nat × AV) := x ++ y.filter fun p => !(x.any fun q => natEq q.1 p.1)
def HH (P : Program) (H : P7) : Prop := (∀ i c τ, K5 H.calls i = some (c, τ) → c.ok P) ∧ N9 H.facts
theorem d9 {P : Program} : HH P ⟨[], [], []⟩ := ⟨al6, b94⟩
theorem s6 {P : Program} {c : k6} (i : Nat) (σ : List Nat) (h : c.ok P) : HH P ⟨[(i, c, σ)], [], []⟩ := ⟨aK6 h al6, b94⟩
theorem O2 {P : Program} {f : List (Bool × Bool)} (h : N9 f) (u : List (Nat × Nat)) : HH P ⟨[], f, u⟩ := ⟨al6, h⟩
def Cs (P : Program) (r : List (Nat × k6 × List Nat)) : Prop := ∀ i c τ, K5 r i = some (c, τ) → c.ok P
theorem t5 {P : Program} : Cs P [] := al6
theorem l8 {P : Program} {c : k6} {r : List (Nat × k6 × List Nat)} (i : Nat) (σ : List Nat) (h : c.ok P) (k : Cs P r) : Cs P ((i, c, σ) :: r) := aK6 h k
theorem t6 {P : Program} {r : List (Nat × k6 × List Nat)} {f : List (Bool × Bool)} (h : Cs P r) (h' : N9 f) (u : List (Nat × Nat)) : HH P ⟨r, f, u⟩ := ⟨h, h'⟩
section
variable {ι : Type} {P : Program} {φ ψ : Nat → Prop} {w0 w : World} {F : ι → Rs} {N m : Nat} {ρ0 ρ : Nat → Value} {S : List It} {tm : List (Nat × AV)} {a : Act} {l : List Oper} {id : Nat} {Q : Exit → Act → World → Prop} {H : P7}
theorem O1 (G : s5 φ ψ w0 F N m ρ0 ρ S tm a w) (hh : HH P H) (js : List Nat) (S1 : List It) (t1 : List (Nat × AV)) (o : List Prop) (ho : t8 o) (k : ∀ {ρ' a' w'}, s5 φ ψ w0 F N m ρ0 ρ' S1 t1 a' w' → Q .normal a' w') (h : kL P N m l H tm S js S1 t1 = kR P N l H tm S o js S1 t1 := by kernel_rfl) : (Code.region id l.toArray false).wp P Q a w := rs1 (dk := dkP) G H hh.1 hh.2 js S1 t1 o ho (fun _ _ _ => k) (congrArg Prod.fst h) (congrArg Prod.snd h)
theorem k8 (G : s5 φ ψ w0 F N m ρ0 ρ S tm a w) (hh : HH P H) (js : List Nat) (S1 : List It) (t1 : List (Nat × AV)) (k : ∀ {ρ' a' w'}, s5 φ ψ w0 F N m ρ0 ρ' S1 t1 a' w' → Q .normal a' w') (h : kL P N m l H tm S js S1 t1 = kR P N l H tm S [] js S1 t1 := by kernel_rfl) : (Code.region id l.toArray false).wp P Q a w := O1 G hh js S1 t1 [] b94 k h
theorem rB1 (G : s5 φ ψ w0 F N m ρ0 ρ S tm a w) (hh : HH P H) (t1 : List (Nat × AV)) (o : List Prop) (ho : t8 o) (k : ∀ {ρ' a' w'}, s5 φ ψ w0 F N m ρ0 ρ' S t1 a' w' → Q .normal a' w') (h : kL P N m l H tm S (cb2 S.length) S t1 = kR P N l H tm S o (cb2 S.length) S t1 := by kernel_rfl) : (Code.region id l.toArray false).wp P Q a w := rs1 (dk := dkP) G H hh.1 hh.2 (cb2 S.length) S t1 o ho (fun _ _ _ => k) (congrArg Prod.fst h) (congrArg Prod.snd h)
theorem C9 (G : s5 φ ψ w0 F N m ρ0 ρ S tm a w) (hh : HH P H) (t1 : List (Nat × AV)) (k : ∀ {ρ' a' w'}, s5 φ ψ w0 F N m ρ0 ρ' S t1 a' w' → Q .normal a' w') (h : kL P N m l H tm S (cb2 S.length) S t1 = kR P N l H tm S [] (cb2 S.length) S t1 := by kernel_rfl) : (Code.region id l.toArray false).wp P Q a w := rB1 G hh t1 [] b94 k h
theorem E2 (G : s5 φ ψ w0 F N m ρ0 ρ S tm a w) (hh : HH P H) (t1 : List (Nat × AV)) (o : List Prop) (ho : t8 o) (k : ∀ {ρ' a' w'}, s5 φ ψ w0 F N m ρ0 ρ' S (aT t1 tm) a' w' → Q .normal a' w') (h : kL P N m l H tm S (cb2 S.length) S (aT t1 tm) = kR P N l H tm S o (cb2 S.length) S (aT t1 tm) := by kernel_rfl) : (Code.region id l.toArray false).wp P Q a w := rs1 (dk := dkP) G H hh.1 hh.2 (cb2 S.length) S (aT t1 tm) o ho (fun _ _ _ => k) (congrArg Prod.fst h) (congrArg Prod.snd h)
theorem l5 (G : s5 φ ψ w0 F N m ρ0 ρ S tm a w) (hh : HH P H) (t1 : List (Nat × AV)) (k : ∀ {ρ' a' w'}, s5 φ ψ w0 F N m ρ0 ρ' S (aT t1 tm) a' w' → Q .normal a' w') (h : kL P N m l H tm S (cb2 S.length) S (aT t1 tm) = kR P N l H tm S [] (cb2 S.length) S (aT t1 tm) := by kernel_rfl) : (Code.region id l.toArray false).wp P Q a w := E2 G hh t1 [] b94 k h
theorem G2 (G : s5 φ ψ w0 F N m ρ0 ρ S tm a w) (hh : HH P H) (ms : List Nat) (js : List Nat) (S1 : List It) (t1 : List (Nat × AV)) (o : List Prop) (ho : t8 o) (k : ∀ {ρ' a' w'}, s5 φ ψ w0 F N m ρ0 ρ' S1 t1 a' w' → Q .normal a' w') (hm : P.follows .mixedOrders = true := by kernel_rfl) (h : kM P N m l H ms tm S js S1 t1 = kR P N l H tm S o js S1 t1 := by kernel_rfl) : (Code.region id l.toArray true).wp P Q a w := rd1 (dk := dkP) G H hh.1 hh.2 ms js S1 t1 o ho (fun _ _ _ => k) hm (congrArg Prod.fst h) (congrArg Prod.snd h)
theorem P1 (G : s5 φ ψ w0 F N m ρ0 ρ S tm a w) (hh : HH P H) (ms : List Nat) (js : List Nat) (S1 : List It) (t1 : List (Nat × AV)) (k : ∀ {ρ' a' w'}, s5 φ ψ w0 F N m ρ0 ρ' S1 t1 a' w' → Q .normal a' w') (hm : P.follows .mixedOrders = true := by kernel_rfl) (h : kM P N m l H ms tm S js S1 t1 = kR P N l H tm S [] js S1 t1 := by kernel_rfl) : (Code.region id l.toArray true).wp P Q a w := G2 G hh ms js S1 t1 [] b94 k hm h
theorem bn9 (G : s5 φ ψ w0 F N m ρ0 ρ S tm a w) (hh : HH P H) (ms : List Nat) (t1 : List (Nat × AV)) (o : List Prop) (ho : t8 o) (k : ∀ {ρ' a' w'}, s5 φ ψ w0 F N m ρ0 ρ' S t1 a' w' → Q .normal a' w') (hm : P.follows .mixedOrders = true := by kernel_rfl) (h : kM P N m l H ms tm S (cb2 S.length) S t1 = kR P N l H tm S o (cb2 S.length) S t1 := by kernel_rfl) : (Code.region id l.toArray true).wp P Q a w := rd1 (dk := dkP) G H hh.1 hh.2 ms (cb2 S.length) S t1 o ho (fun _ _ _ => k) hm (congrArg Prod.fst h) (congrArg Prod.snd h)
theorem bZ1 (G : s5 φ ψ w0 F N m ρ0 ρ S tm a w) (hh : HH P H) (ms : List Nat) (t1 : List (Nat × AV)) (k : ∀ {ρ' a' w'}, s5 φ ψ w0 F N m ρ0 ρ' S t1 a' w' → Q .normal a' w') (hm : P.follows .mixedOrders = true := by kernel_rfl) (h : kM P N m l H ms tm S (cb2 S.length) S t1 = kR P N l H tm S [] (cb2 S.length) S t1 := by kernel_rfl) : (Code.region id l.toArray true).wp P Q a w := bn9 G hh ms t1 [] b94 k hm h
theorem ah9 (G : s5 φ ψ w0 F N m ρ0 ρ S tm a w) (hh : HH P H) (ms : List Nat) (t1 : List (Nat × AV)) (o : List Prop) (ho : t8 o) (k : ∀ {ρ' a' w'}, s5 φ ψ w0 F N m ρ0 ρ' S (aT t1 tm) a' w' → Q .normal a' w') (hm : P.follows .mixedOrders = true := by kernel_rfl) (h : kM P N m l H ms tm S (cb2 S.length) S (aT t1 tm) = kR P N l H tm S o (cb2 S.length) S (aT t1 tm) := by kernel_rfl) : (Code.region id l.toArray true).wp P Q a w := rd1 (dk := dkP) G H hh.1 hh.2 ms (cb2 S.length) S (aT t1 tm) o ho (fun _ _ _ => k) hm (congrArg Prod.fst h) (congrArg Prod.snd h)
theorem bn8 (G : s5 φ ψ w0 F N m ρ0 ρ S tm a w) (hh : HH P H) (ms : List Nat) (t1 : List (Nat × AV)) (k : ∀ {ρ' a' w'}, s5 φ ψ w0 F N m ρ0 ρ' S (aT t1 tm) a' w' → Q .normal a' w') (hm : P.follows .mixedOrders = true := by kernel_rfl) (h : kM P N m l H ms tm S (cb2 S.length) S (aT t1 tm) = kR P N l H tm S [] (cb2 S.length) S (aT t1 tm) := by kernel_rfl) : (Code.region id l.toArray true).wp P Q a w := ah9 G hh ms t1 [] b94 k hm h
variable {c : Nat} {x y : Code}
theorem rcB {b : Bool} (G : s5 φ ψ w0 F N m ρ0 ρ S tm a w) (f : b = false → y.wp P Q a w) (t : b = true → x.wp P Q a w) (h : y8 tm c = some (.v (.bool b)) := by rfl) : (Code.cond (.tmp c) x y).wp P Q a w := ak3 G b h t f
theorem P9 {α : Type} [BEq α] [LawfulBEq α] {u v : α} (G : s5 φ ψ w0 F N m ρ0 ρ S tm a w) (f : (u == v) = false → u ≠ v → y.wp P Q a w) (t : (u == v) = true → u = v → x.wp P Q a w) (h : y8 tm c = some (.v (.bool (u == v))) := by rfl) : (Code.cond (.tmp c) x y).wp P Q a w := ak3 G _ h (fun q => t q (eq_of_beq q)) fun q => f q (ne_of_beq_false q)
theorem rcN {α : Type} [BEq α] [LawfulBEq α] {u v : α} (G : s5 φ ψ w0 F N m ρ0 ρ S tm a w) (f : (u != v) = false → u = v → y.wp P Q a w) (t : (u != v) = true → u ≠ v → x.wp P Q a w) (h : y8 tm c = some (.v (.bool (u != v))) := by rfl) : (Code.cond (.tmp c) x y).wp P Q a w := ak3 G _ h (fun q => t q (bne_iff_ne.1 q)) fun q => f q (bne_eq_false_iff_eq.1 q)
theorem O0 {p : Prop} [Decidable p] (G : s5 φ ψ w0 F N m ρ0 ρ S tm a w) (f : decide p = false → ¬ p → y.wp P Q a w) (t : decide p = true → p → x.wp P Q a w) (h : y8 tm c = some (.v (.bool (decide p))) := by rfl) : (Code.cond (.tmp c) x y).wp P Q a w := ak3 G _ h (fun q => t q (dTt q)) fun q => f q (dFf q)
end
theorem R6 (l : Int) (w : World) : Calls Tryz.prog 192 #[.int .i64 l] w fun e w' => e = .returned (.bool (d8 l)) ∧ w = w' := by
 go_enter Tryz.func192, Tryz.ntmps192
 go_wp2
 all_goals go_ret
 all_goals exact ⟨f7 (by simp [d8]; try omega), rfl⟩
theorem aT9 (v1 v2 v3 : Value) (vars arrays : List Int) (w : World) (h1 : Z9 w v1 vars.length 1 (ints vars)) (h2 : Z9 w v2 arrays.length 1 (ints arrays)) :
  Calls Tryz.prog 129 #[.agg #[v1, v2, v3]] w fun e w' => e = .returned (.bool (F4 vars arrays)) ∧ Below w.heap.size w w' := by
 have B0 : Below w.heap.size w (w.alloc (.cells #[v1, v2, v3] 26)) := by go_grown
 obtain ⟨a1, c1, rfl, -, hm1, -, hc1⟩ := (h1.below B0).open1
 obtain ⟨a2, c2, rfl, -, hm2, -, hc2⟩ := (h2.below B0).open1
 have HT : Hid (F4 vars arrays = (vars.all d8 && arrays.all d8 && decide (1 ≤ vars.length) && decide (vars.length ≤ 12) && decide (arrays.length ≤ 2))) := rfl
 clear h1 h2
 go_enter Tryz.func129, Tryz.ntmps129
 go_wp2_with fail
 go_loop [3] (fun i => ∃ k : Nat, k ≤ vars.length ∧ i = .int .i64 k ∧ (vars.take k).all d8 = true) (fun i => vars.length - (intOf i).toNat)
 case atStart => exact ⟨0, cc1 _, rfl, rfl⟩
 case round =>
  obtain ⟨k, hk, rfl, ha⟩ := hrel
  have HA := show Hid _ from ha
  clear ha
  by_cases hlt : k < vars.length
  ·obtain ⟨b1, o1, rfl, hb1, hx⟩ := hc1 k hlt
   rw [aJ6 _ _ hlt] at hx
   have HS := show Hid _ from an4 d8 vars k hlt
   clear hc1 hc2
   cases hl : d8 vars[k]
   all_goals
    have HL := show Hid _ from hl
    clear hl
    go_wp2_with fail
    refine (R6 _ _).mono ?_
    rintro e w1 ⟨rfl, rfl⟩
    rw [HL.out]
    go_wp2_with fail
   ·go_ret
    exact ⟨f7 (by rw [HT.out, bi9 hlt HL.out]; rfl), B0⟩
   ·go_round
    case rel => exact ⟨k + 1, by omega, by go_num, by rw [HS.out, HA.out, HL.out]; rfl⟩
    case measure => simp [intOf]; omega
  ·have HA' := show Hid (vars.all d8 = true) from by have := HA.out; rwa [ca3 (by omega)] at this
   clear HA hc1
   go_wp2_with fail
   go_loop [4] (fun i => ∃ k : Nat, k ≤ arrays.length ∧ i = .int .i64 k ∧ (arrays.take k).all d8 = true) (fun i => arrays.length - (intOf i).toNat)
   case atStart => exact ⟨0, cc1 _, rfl, rfl⟩
   case round =>
    obtain ⟨j, hj, rfl, ha⟩ := hrel
    have HB := show Hid _ from ha
    clear ha
    by_cases hlj : j < arrays.length
    ·obtain ⟨b1, o1, rfl, hb1, hx⟩ := hc2 j hlj
     rw [aJ6 _ _ hlj] at hx
     have HS := show Hid _ from an4 d8 arrays j hlj
     clear hc2
     cases hl : d8 arrays[j]
     all_goals
      have HL := show Hid _ from hl
      clear hl
      go_wp2_with fail
      refine (R6 _ _).mono ?_
      rintro e w1 ⟨rfl, rfl⟩
      rw [HL.out]
      go_wp2_with fail
     ·go_ret
      exact ⟨f7 (by rw [HT.out, bi9 hlj HL.out]; simp), B0⟩
     ·go_round
      case rel => exact ⟨j + 1, by omega, by go_num, by rw [HS.out, HB.out, HL.out]; rfl⟩
      case measure => simp [intOf]; omega
    ·have HB' := show Hid (arrays.all d8 = true) from by have := HB.out; rwa [ca3 (by omega)] at this
     clear HB hc2
     go_wp2_with fail
     all_goals go_ret
     all_goals refine ⟨f7 ?_, B0⟩
     all_goals rw [HT.out, HA'.out, HB'.out]
     all_goals rw [Bool.eq_iff_iff]
     all_goals simp
     all_goals omega
theorem aU1 (k : Int) (w : World) : Calls Tryz.prog 261 #[.int .i64 k] w fun e w' => e = .returned (.int .i64 (m9 k)) ∧ w = w' := by
 go_enter Tryz.func261, Tryz.ntmps261
 go_wp2
 all_goals
  go_ret
  exact ⟨U0 (by unfold m9; (repeat' split) <;> simp_all <;> omega), rfl⟩
theorem az7 (k n : Int) (kv : Value) (w : World) : Calls Tryz.prog 234 #[.agg #[.int .i64 k, .int .i64 n, kv]] w fun e w' => e = .returned (.bool (decide (k = 1) || decide (k = 2))) ∧ Below w.heap.size w w' := by
 by_cases h1 : k = 1
 ·have p1 : (k == 1) = true := by simp [h1]
  have Q := show Hid _ from h1
  clear h1
  go_enter Tryz.func234, Tryz.ntmps234
  go_wp2
  go_ret
  exact ⟨f7 (by simp [Q.out]), by go_grown⟩
 ·have p1 : (k == 1) = false := by simp [h1]
  have Q := show Hid _ from h1
  clear h1
  by_cases h2 : k = 2
  ·have p2 : (k == 2) = true := by simp [h2]
   have Q2 := show Hid _ from h2
   clear h2
   go_enter Tryz.func234, Tryz.ntmps234
   go_wp2
   go_ret
   exact ⟨f7 (by simp [Q2.out]), by go_grown⟩
  ·have p2 : (k == 2) = false := by simp [h2]
   have Q2 := show Hid _ from h2
   clear h2
   go_enter Tryz.func234, Tryz.ntmps234
   go_wp2
   go_ret
   exact ⟨f7 (by rw [decide_eq_false Q.out, decide_eq_false Q2.out]; rfl), by go_grown⟩
theorem aT8 (a1 a2 : Option Addr) (nv c1 na c2 : Nat) (v3 : Value) (k : Int) (w : World) (h1 : nv ≤ 9223372036854775807) (h2 : na ≤ 9223372036854775807) :
  Calls Tryz.prog 262 #[.agg #[.slice a1 nv c1, .slice a2 na c2, v3], .int .i64 k] w fun e w' => e = .returned (.int .i64 (I6 nv na k)) ∧ Below w.heap.size w w' := by
 go_enter Tryz.func262, Tryz.ntmps262
 go_wp2
 all_goals
  go_ret
  exact ⟨U0 (by unfold I6; (repeat' split) <;> simp_all), by go_grown⟩
theorem aP6 {e : b5} (h3 : e.kind = 3) (hl : 0 < e.kids.length) : M9 e = (decide (e.kids[0].kind = 1) || decide (e.kids[0].kind = 2)) := by
 rcases e with ⟨k, n, ks⟩
 cases ks with
 | nil => simp [b5.kids] at hl
 | cons a r =>
  have h3' : k = 3 := h3
  subst h3'
  simp only [M9, b5.kids, List.getElem_cons_zero, atomB]
  rw [decide_eq_false (by simp [b5.kind])]
  rfl
theorem aT6 (a1 a2 : Option Addr) (nv c1 na c2 : Nat) (v3 : Value) (h1 : nv ≤ 9223372036854775807) (h2 : na ≤ 9223372036854775807) : ∀ d : Nat, d ≤ 5 → ∀ (e : b5) (φ : Nat → Prop) (v : Value) (w : World), ab7 w φ v e →
  Calls Tryz.prog 252 #[.agg #[.slice a1 nv c1, .slice a2 na c2, v3], v, .int .i64 d] w fun x w' => x = .returned (.bool (f5 nv na d e)) ∧ Below w.heap.size w w' := by
 intro d
 induction d with
 | zero =>
  intro _ e φ v w h
  obtain ⟨kv, rfl, hk⟩ := h
  have HS : Hid (f5 nv na 0 e = false) := rfl
  obtain ⟨W, hW, M⟩ : ∃ W, W = (w.alloc (.cells #[.slice a1 nv c1, .slice a2 na c2, v3] 26)).alloc (.cells #[.int .i64 e.kind, .int .i64 e.value, kv] 104) ∧ A9 (fun _ => True) (fun _ => True) w W [.box w.heap.size [.slice a1 nv c1, .slice a2 na c2, v3], .box (w.heap.size + 1) [.int .i64 e.kind, .int .i64 e.value, kv]] :=
   ⟨_, rfl, ((A9.start fun _ _ => trivial).box _ _).box' _ _ (by simp)⟩
  have HB := show Hid _ from M.below fun _ _ => trivial
  clear hk M
  go_enter Tryz.func252, Tryz.ntmps252
  go_wp2_with fail
  rw [← hW]
  clear hW
  refine s8 (by kernel_rfl) (by kernel_rfl) ?_
  repeat (any_goals (first | go_big_quiet_step (((fail))) | quiet_step (((fail)))))
  refine wpQuiet_nil ?_
  rintro _ ⟨X, rfl⟩
  go_wp2_with fail
  go_ret
  exact ⟨f7 HS.out.symm, HB.out.trans ((v9 W X).mono HB.out.size)⟩
 | succ d ih =>
  intro hd5 e φ v w h
  obtain ⟨kv, rfl, hk⟩ := h
  obtain ⟨ak, ck, rfl, -, hn, -, hc⟩ := hk.open
  have hd0 : (d : Int) ≤ 5 := by omega
  have p0 : decide ((d : Int) + 1 < 1) = false := by simp; omega
  have HS : Hid (f5 nv na (d + 1) e = (y7 nv na e && e.kids.all (f5 nv na d) && M9 e)) := rfl
  obtain ⟨W, hW, M⟩ : ∃ W, W = (w.alloc (.cells #[.slice a1 nv c1, .slice a2 na c2, v3] 26)).alloc (.cells #[.int .i64 e.kind, .int .i64 e.value, .slice ak e.kids.length ck] 104) ∧ A9 (fun _ => True) (fun _ => True) w W [.box w.heap.size [.slice a1 nv c1, .slice a2 na c2, v3], .box (w.heap.size + 1) [.int .i64 e.kind, .int .i64 e.value, .slice ak e.kids.length ck]] :=
   ⟨_, rfl, ((A9.start fun _ _ => trivial).box _ _).box' _ _ (by simp)⟩
  have HB := show Hid _ from M.below fun _ _ => trivial
  have HA : Hid (∀ X, Calls Tryz.prog 261 #[.int .i64 e.kind] (W.ext X) fun x w'' => x = .returned (.int .i64 (m9 e.kind)) ∧ ∃ Y, w'' = W.ext Y) := fun X =>
   Calls.ext_of' ((aU1 e.kind _).mono fun x w' h => ⟨h.1, h.2 ▸ Below.refl _ _⟩)
  have HL : Hid (∀ X, Calls Tryz.prog 262 #[.agg #[.slice a1 nv c1, .slice a2 na c2, v3], .int .i64 e.kind] (W.ext X) fun x w'' => x = .returned (.int .i64 (I6 nv na e.kind)) ∧ ∃ Y, w'' = W.ext Y) := fun X =>
   Calls.ext_of' (aT8 a1 a2 nv c1 na c2 v3 e.kind _ h1 h2)
  have HM := show Hid _ from M
  have HC := show Hid _ from hc
  have x0 := M.c 0 0 rfl rfl
  have x1 := M.c 0 1 rfl rfl
  have x2 := M.c 0 2 rfl rfl
  have y0 := M.c 1 0 rfl rfl
  have y1 := M.c 1 1 rfl rfl
  have y2 := M.c 1 2 rfl rfl
  have z0 := fun X => r6 x0 X
  have z1 := fun X => r6 x1 X
  have z2 := fun X => r6 x2 X
  have z3 := fun X => r6 y0 X
  have z4 := fun X => r6 y1 X
  have z5 := fun X => r6 y2 X
  clear hk M hc x0 x1 x2 y0 y1 y2
  by_cases q1 : (e.kids.length : Int) = m9 e.kind
  case neg =>
   have p1 : ((e.kids.length : Int) != m9 e.kind) = true := by simp [q1]
   have HN : Hid (y7 nv na e = false) := by unfold Hid y7; simp [q1]
   clear q1
   go_enter Tryz.func252, Tryz.ntmps252
   go_wp2_with fail
   rw [← hW]
   clear hW
   refine s8 (by kernel_rfl) (by kernel_rfl) ?_
   repeat (any_goals (first | go_big_quiet_step (((first | (go_at_call 261; exact HA.out _) | (go_at_call 262; exact HL.out _)))) | quiet_step (((first | (go_at_call 261; exact HA.out _) | (go_at_call 262; exact HL.out _))))))
   refine wpQuiet_nil ?_
   rintro _ ⟨X, rfl⟩
   go_wp2_with fail
   go_ret
   exact ⟨f7 (by rw [HS.out, HN.out]; rfl), HB.out.trans ((v9 W X).mono HB.out.size)⟩
  have p1 : ((e.kids.length : Int) != m9 e.kind) = false := by simp [q1]
  by_cases q2 : e.value < 0
  case pos =>
   have p2 : decide (e.value < 0) = true := by simp [q2]
   have HN : Hid (y7 nv na e = false) := by unfold Hid y7; simp; intro _ h; omega
   clear q1 q2
   go_enter Tryz.func252, Tryz.ntmps252
   go_wp2_with fail
   rw [← hW]
   clear hW
   refine s8 (by kernel_rfl) (by kernel_rfl) ?_
   repeat (any_goals (first | go_big_quiet_step (((first | (go_at_call 261; exact HA.out _) | (go_at_call 262; exact HL.out _)))) | quiet_step (((first | (go_at_call 261; exact HA.out _) | (go_at_call 262; exact HL.out _))))))
   refine wpQuiet_nil ?_
   rintro _ ⟨X, rfl⟩
   go_wp2_with fail
   go_ret
   exact ⟨f7 (by rw [HS.out, HN.out]; rfl), HB.out.trans ((v9 W X).mono HB.out.size)⟩
  have p2 : decide (e.value < 0) = false := by simp; omega
  by_cases q3 : I6 nv na e.kind ≤ e.value
  case pos =>
   have p3 : decide (I6 nv na e.kind ≤ e.value) = true := by simp [q3]
   have HN : Hid (y7 nv na e = false) := by unfold Hid y7; simp; intro _ h; omega
   clear q1 q2 q3
   go_enter Tryz.func252, Tryz.ntmps252
   go_wp2_with fail
   rw [← hW]
   clear hW
   refine s8 (by kernel_rfl) (by kernel_rfl) ?_
   repeat (any_goals (first | go_big_quiet_step (((first | (go_at_call 261; exact HA.out _) | (go_at_call 262; exact HL.out _)))) | quiet_step (((first | (go_at_call 261; exact HA.out _) | (go_at_call 262; exact HL.out _))))))
   refine wpQuiet_nil ?_
   rintro _ ⟨X, rfl⟩
   go_wp2_with fail
   go_ret
   exact ⟨f7 (by rw [HS.out, HN.out]; rfl), HB.out.trans ((v9 W X).mono HB.out.size)⟩
  have p3 : decide (I6 nv na e.kind ≤ e.value) = false := by simp; omega
  have HN : Hid (y7 nv na e = true) := by unfold Hid y7; simp; exact ⟨⟨q1, by omega⟩, by omega⟩
  have HQ := show Hid _ from q1
  clear q1 q2 q3
  go_enter Tryz.func252, Tryz.ntmps252
  go_wp2_with fail
  rw [← hW]
  clear hW
  refine s8 (by kernel_rfl) (by kernel_rfl) ?_
  repeat (any_goals (first | go_big_quiet_step (((first | (go_at_call 261; exact HA.out _) | (go_at_call 262; exact HL.out _)))) | quiet_step (((first | (go_at_call 261; exact HA.out _) | (go_at_call 262; exact HL.out _))))))
  refine wpQuiet_nil ?_
  rintro _ ⟨X, rfl⟩
  have M := HM.out.call (v9 W X)
  generalize W.ext X = W1 at *
  clear HA HL HM HB p1 p2 p3 z0 z1 z2 z3 z4 z5
  go_wp2_with fail
  go_loopw [7] (fun i wr => ∃ k : Nat, k ≤ e.kids.length ∧ i = .int .i64 k ∧ (e.kids.take k).all (f5 nv na d) = true ∧ A9 (fun _ => True) (fun _ => True) w wr [.box w.heap.size [.slice a1 nv c1, .slice a2 na c2, v3], .box (w.heap.size + 1) [.int .i64 e.kind, .int .i64 e.value, .slice ak e.kids.length ck]]) (fun i _ => e.kids.length - (intOf i).toNat)
  case atStart => exact ⟨0, cc1 _, rfl, rfl, M⟩
  case round =>
   clear M
   obtain ⟨k, hk, rfl, hall, M⟩ := hrel
   have HALL := show Hid _ from hall
   clear hall
   have hB := M.below fun _ _ => trivial
   have x0 := M.c 0 0 rfl rfl
   have x1 := M.c 0 1 rfl rfl
   have x2 := M.c 0 2 rfl rfl
   have y0 := M.c 1 0 rfl rfl
   have y2 := M.c 1 2 rfl rfl
   by_cases hlt : k < e.kids.length
   ·obtain ⟨b, off, kv, rfl, hbk, hf, c0, c1', c2', hkv⟩ := HC.out k hlt
    rw [← (aR3 hB).1 _ _ hbk] at c0 c1' c2'
    obtain ⟨q, hq⟩ : ∃ q, q = f5 nv na d e.kids[k] := ⟨_, rfl⟩
    have HC3 : Hid (∀ X, Calls Tryz.prog 252 #[.agg #[.slice a1 nv c1, .slice a2 na c2, v3], .agg #[.int .i64 e.kids[k].kind, .int .i64 e.kids[k].value, kv], .int .i64 d] (wr.ext X) fun x w'' => x = .returned (.bool q) ∧ ∃ Y, w'' = wr.ext Y) := fun X => by
     have bb := hB.trans ((v9 wr X).mono hB.size)
     rw [hq]
     exact Calls.ext_of' (ih (by omega) _ φ _ _ ⟨kv, rfl, s9.nice _ _ _ _ _ _ (Agr.below bb) hkv⟩)
    have HQQ := show Hid _ from hq
    have HM := show Hid _ from M
    have j0 := fun X => r6 c0 X
    have j1 := fun X => r6 c1' X
    have j2 := fun X => r6 c2' X
    have z0 := fun X => r6 x0 X
    have z1 := fun X => r6 x1 X
    have z2 := fun X => r6 x2 X
    have z5 := fun X => r6 y2 X
    have hlt' : (k : Int) < e.kids.length := by omega
    clear hkv hq c0 c1' c2' x0 x1 x2 y0 M hB
    cases q
    ·go_wp2_with fail
     refine s8 (by kernel_rfl) (by kernel_rfl) ?_
     repeat (any_goals (first | go_big_quiet_step (((go_at_call 252; exact HC3.out _))) | quiet_step (((go_at_call 252; exact HC3.out _)))))
     refine wpQuiet_nil ?_
     rintro _ ⟨X, rfl⟩
     go_wp2_with fail
     go_ret
     have M := HM.out.call (v9 wr X)
     refine ⟨f7 ?_, M.below fun _ _ => trivial⟩
     have h9 : e.kids.all (f5 nv na d) = false := List.all_eq_false.2 ⟨_, cb0 hlt, by rw [← HQQ.out]; simp⟩
     rw [HS.out, h9, Bool.and_false, Bool.false_and]
    ·go_wp2_with fail
     refine s8 (by kernel_rfl) (by kernel_rfl) ?_
     repeat (any_goals (first | go_big_quiet_step (((go_at_call 252; exact HC3.out _))) | quiet_step (((go_at_call 252; exact HC3.out _)))))
     refine wpQuiet_nil ?_
     rintro _ ⟨X, rfl⟩
     go_wp2_with fail
     refine ⟨⟨k + 1, by omega, by go_num, ?_, HM.out.call (v9 wr X)⟩, by simp [intOf]; omega⟩
     rw [F8 _ _ hlt, List.all_append, HALL.out]
     simp [← HQQ.out]
   ·have hkn : k = e.kids.length := by omega
    subst hkn
    have hall := HALL.out
    rw [ca3 (b99 _)] at hall
    have HAL := show Hid _ from hall
    have HB := show Hid _ from hB
    have HM := show Hid _ from M
    clear hall x0 x1 x2 M hB
    by_cases q4 : e.kind = 3
    ·have p4 : (e.kind != 3) = false := by simp [q4]
     have hl1 : e.kids.length = 1 := by have := HQ.out; rw [q4] at this; simp [m9] at this; omega
     have HL1 := show Hid _ from hl1
     have hpos : 0 < (e.kids.length : Int) := by omega
     obtain ⟨b, off, kv, rfl, hbk, hf, c0, c1', c2', hkv⟩ := HC.out 0 (by omega)
     rw [← (aR3 HB.out).1 _ _ hbk] at c0 c1' c2'
     simp only [Nat.zero_mul, Nat.add_zero] at c0 c1' c2'
     have HR := show Hid _ from aP6 q4 (by omega)
     clear hkv q4
     go_wp2_with fail
     refine (az7 _ _ _ _).mono ?_
     rintro x w2 ⟨rfl, b2⟩
     have B2 := show Hid _ from HB.out.trans (b2.mono HB.out.size)
     clear b2
     go_wp2_with fail
     go_ret
     exact ⟨f7 (by rw [HS.out, HN.out, HAL.out, HR.out]; rfl), B2.out⟩
    ·have p4 : (e.kind != 3) = true := by simp [q4]
     have HR : Hid (M9 e = true) := by unfold Hid M9; simp [q4]
     clear q4
     go_wp2_with fail
     go_ret
     exact ⟨f7 (by rw [HS.out, HN.out, HAL.out, HR.out]; rfl), HB.out⟩
theorem aL6 {nv na d : Nat} {e : b5} (h : f5 nv na (d + 1) e = true) : e.kids.length ≤ 3 ∧ ∀ x ∈ e.kids, f5 nv na d x = true := by
 simp only [f5, y7, b86, decide_eq_true_eq, b93] at h
 refine ⟨?_, h.1.2⟩
 have h1 := h.1.1.1.1
 have : m9 e.kind ≤ 3 := by unfold m9; (repeat' split) <;> omega
 omega
theorem a92 {ks : List b5} {B : Nat} (h : ∀ x ∈ ks, 1 + v7 x ≤ B) : n8 ks ≤ ks.length * B := by
 induction ks with
 | nil => simp [n8]
 | cons a r ih =>
  have h1 := h a ca1
  have h2 := ih fun x hx => h x (ca8 _ hx)
  simp only [n8, b87, cb8]; omega
theorem a09 (nv na : Nat) : ∀ (d : Nat) (e : b5), f5 nv na d e = true → 1 + v7 e ≤ 4 ^ d := by
 intro d
 induction d with
 | zero => intro e h; simp [f5] at h
 | succ d ih =>
  intro e h
  obtain ⟨h1, h2⟩ := aL6 h
  have h3 := a92 (ks := e.kids) fun x hx => ih x (h2 x hx)
  have h4 : e.kids.length * 4 ^ d ≤ 3 * 4 ^ d := cc2 _ h1
  have h5 : 0 < 4 ^ d := Nat.pos_of_ne_zero (by simp)
  rw [A3, Nat.pow_succ]
  omega
theorem aU0 (nv na : Nat) : ∀ d : Nat, d ≤ 5 → ∀ (e : b5) (φ : Nat → Prop) (v : Value) (w : World), ab7 w φ v e → f5 nv na d e = true →
  Calls Tryz.prog 253 #[v, .int .i64 d] w fun x w' => x = .returned (.int .i64 (1 + v7 e : Nat)) ∧ Below w.heap.size w w' := by
 intro d
 induction d with
 | zero => intro _ e φ v w _ hs; simp [f5] at hs
 | succ d ih =>
  intro hd5 e φ v w h hs
  obtain ⟨kv, rfl, hk⟩ := h
  obtain ⟨ak, ck, rfl, -, hn, -, hc⟩ := hk.open
  have hd0 : (d : Int) ≤ 5 := by omega
  have hd1 : decide (0 < (d : Int) + 1) = true := decide_eq_true (by omega)
  have hsz : n8 e.kids ≤ 1024 := by
   have h1 := a09 nv na (d + 1) e hs
   have h2 : 4 ^ (d + 1) ≤ 4 ^ 5 := Nat.pow_le_pow_right (by omega) hd5
   rw [A3] at h1; omega
  have HK := show Hid _ from (aL6 hs).2
  obtain ⟨W, hW, M⟩ : ∃ W, W = w.alloc (.cells #[.int .i64 e.kind, .int .i64 e.value, .slice ak e.kids.length ck] 104) ∧ A9 (fun _ => True) (fun _ => True) w W [.box w.heap.size [.int .i64 e.kind, .int .i64 e.value, .slice ak e.kids.length ck]] :=
   ⟨_, rfl, (A9.start fun _ _ => trivial).box _ _⟩
  have HC := show Hid _ from hc
  have HSZ := show Hid _ from A3 e
  clear hk hc hs
  go_enter Tryz.func253, Tryz.ntmps253
  go_wp2_with fail
  rw [← hW]
  clear hW
  go_loopw [5, 6] (fun q i wr => ∃ k : Nat, k ≤ e.kids.length ∧ i = .int .i64 k ∧ q = .int .i64 (1 + n8 (e.kids.take k) : Nat) ∧ A9 (fun _ => True) (fun _ => True) w wr [.box w.heap.size [.int .i64 e.kind, .int .i64 e.value, .slice ak e.kids.length ck]]) (fun _ i _ => e.kids.length - (intOf i).toNat)
  case atStart => exact ⟨0, cc1 _, rfl, rfl, M⟩
  case round =>
   clear M
   obtain ⟨k, hk, rfl, rfl, M⟩ := hrel
   have hB := M.below fun _ _ => trivial
   have y2 := M.c 0 2 rfl rfl
   have htl := T7 e.kids k
   obtain ⟨z, hz⟩ : ∃ z, z = n8 (e.kids.take k) := ⟨_, rfl⟩
   rw [← hz] at htl ⊢
   have HZ := show Hid _ from hz
   clear hz
   by_cases hlt : k < e.kids.length
   ·obtain ⟨b, off, kv, rfl, hbk, hf, c0, c1', c2', hkv⟩ := HC.out k hlt
    rw [← (aR3 hB).1 _ _ hbk] at c0 c1' c2'
    have HE := show Hid (ab7 wr φ (.agg #[.int .i64 e.kids[k].kind, .int .i64 e.kids[k].value, kv]) e.kids[k]) from ⟨kv, rfl, s9.nice _ _ _ _ _ _ (Agr.below hB) hkv⟩
    have HM := show Hid _ from M
    have hlt' : (k : Int) < e.kids.length := by omega
    have HT := show Hid _ from V5 hlt
    have htl1 := T7 e.kids (k + 1)
    rw [HT.out, ← HZ.out] at htl1
    clear hkv M hB
    go_wp2_with fail
    refine (ih (by omega) _ φ _ _ HE.out (HK.out _ (cb0 hlt))).mono ?_
    rintro x w2 ⟨rfl, b2⟩
    have HM2 := show Hid _ from HM.out.call b2
    clear b2 y2
    go_wp2_with fail
    exact ⟨⟨k + 1, by omega, by go_num, by rw [HT.out, ← HZ.out]; go_num, HM2.out⟩, by simp [intOf]; omega⟩
   ·have hkn : k = e.kids.length := by omega
    subst hkn
    have HB := show Hid _ from hB
    clear M hB
    go_wp2_with fail
    go_ret
    exact ⟨U0 (by rw [HZ.out, ca3 (b99 _), HSZ.out]), HB.out⟩
theorem J8 (a1 a2 : Option Addr) (nv c1 na c2 : Nat) (v3 : Value) (h1 : nv ≤ 9223372036854775807) (h2 : na ≤ 9223372036854775807) (e : b5) (φ : Nat → Prop) (v : Value) (w : World) (h : ab7 w φ v e) :
  Calls Tryz.prog 233 #[.agg #[.slice a1 nv c1, .slice a2 na c2, v3], v] w fun x w' => x = .returned (.bool (l6 nv na e)) ∧ Below w.heap.size w w' := by
 obtain ⟨kv, rfl, hk⟩ := h
 have HR : Hid (l6 nv na e = (f5 nv na 5 e && decide (1 + v7 e ≤ 15))) := rfl
 obtain ⟨W, hW, M⟩ : ∃ W, W = (w.alloc (.cells #[.slice a1 nv c1, .slice a2 na c2, v3] 26)).alloc (.cells #[.int .i64 e.kind, .int .i64 e.value, kv] 104) ∧ A9 (fun _ => True) (fun _ => True) w W [.box w.heap.size [.slice a1 nv c1, .slice a2 na c2, v3], .box (w.heap.size + 1) [.int .i64 e.kind, .int .i64 e.value, kv]] :=
  ⟨_, rfl, ((A9.start fun _ _ => trivial).box _ _).box' _ _ (by simp)⟩
 have HE := show Hid (∀ W', Below w.heap.size w W' → ab7 W' φ (.agg #[.int .i64 e.kind, .int .i64 e.value, kv]) e) from fun W' k => ⟨kv, rfl, s9.nice _ _ _ _ _ _ (Agr.below k) hk⟩
 clear hk
 have x0 := M.c 0 0 rfl rfl
 have x1 := M.c 0 1 rfl rfl
 have x2 := M.c 0 2 rfl rfl
 have y0 := M.c 1 0 rfl rfl
 have y1 := M.c 1 1 rfl rfl
 have y2 := M.c 1 2 rfl rfl
 rw [hW] at x0 x1 x2 y0 y1 y2
 go_enter Tryz.func233, Tryz.ntmps233
 go_wp2_with fail
 rw [← hW]
 clear hW x0 x1 x2 y0 y1 y2
 refine (aT6 a1 a2 nv c1 na c2 v3 h1 h2 5 (by omega) e φ _ _ (HE.out _ (M.below fun _ _ => trivial))).mono ?_
 rintro x w1 ⟨rfl, b1⟩
 replace M := M.call b1
 clear b1
 cases hs : f5 nv na 5 e
 ·have HB := show Hid _ from M.below fun _ _ => trivial
  have HS := show Hid _ from hs
  clear hs M
  go_wp2_with fail
  go_ret
  exact ⟨f7 (by rw [HR.out, HS.out]; rfl), HB.out⟩
 ·have HS := show Hid _ from hs
  have hsz := a09 nv na 5 e hs
  have y0 := M.c 1 0 rfl rfl
  have y1 := M.c 1 1 rfl rfl
  have y2 := M.c 1 2 rfl rfl
  have HM := show Hid _ from M
  clear hs M
  go_wp2_with fail
  refine (aU0 nv na 5 (by omega) e φ _ _ (HE.out _ (HM.out.below fun _ _ => trivial)) HS.out).mono ?_
  rintro x w2 ⟨rfl, b1⟩
  have HB := show Hid _ from (HM.out.call b1).below fun _ _ => trivial
  clear b1 y0 y1 y2
  go_wp2_with fail
  go_ret
  exact ⟨f7 (by rw [HR.out, HS.out, Bool.true_and]; exact decide_eq_decide.2 (by omega)), HB.out⟩
theorem A4 (n lo hi : Int) (w : World) : Calls Tryz.prog 101 #[.int .i64 n, .int .i64 lo, .int .i64 hi] w fun e w' => e = .returned (.bool (decide (lo ≤ n) && decide (n ≤ hi))) ∧ w = w' := by
 go_enter Tryz.func101, Tryz.ntmps101
 go_wp2
 all_goals go_ret
 all_goals exact ⟨f7 (by simp; try omega), rfl⟩
theorem af1 (l : Int) (w : World) : Calls Tryz.prog 105 #[.int .i64 l] w fun e w' => e = .returned (.bool (d8 l)) ∧ w = w' := by
 go_enter Tryz.func105, Tryz.ntmps105
 go_wp2_with fail
 refine (A4 l 0 3 _).mono ?_
 rintro e w1 ⟨rfl, rfl⟩
 go_wp2_with fail
 go_ret
 exact ⟨rfl, rfl⟩
theorem aA7 (l : Int) (w : World) : Calls Tryz.prog 222 #[.int .i64 l] w fun e w' => e = .returned (.bool (!d8 l)) ∧ w = w' := by
 go_enter Tryz.func222, Tryz.ntmps222
 go_wp2_with fail
 refine (af1 l _).mono ?_
 rintro e w1 ⟨rfl, rfl⟩
 go_wp2_with fail
 go_ret
 exact ⟨rfl, rfl⟩
theorem aM6 (p : Int → Bool) (f : FuncId) (v : Value) (xs : List Int) (w : World) (h : Z9 w v xs.length 1 (ints xs)) (he : ∀ args w, (callFunc f args).run Tryz.prog w = .ok (.enter f args) w)
  (hf : ∀ x w', Calls Tryz.prog f #[.int .i64 x] w' fun e w'' => e = .returned (.bool (p x)) ∧ w' = w'') :
  Calls Tryz.prog 245 #[v, .func (.func f) #[] #[]] w fun e w' => ∃ r : Int, e = .returned (.int .i64 r) ∧ decide (0 ≤ r) = xs.any p ∧ w = w' := by
 obtain ⟨a1, c1, rfl, -, hm1, -, hc1⟩ := h.open1
 have HF := show Hid _ from hf
 clear h hf
 go_enter Tryz.func245, Tryz.ntmps245
 go_wp2_with fail
 go_loop [5, 8] (fun _ i => ∃ k : Nat, k ≤ xs.length ∧ i = .int .i64 k ∧ (xs.take k).any p = false) (fun _ i => xs.length - (intOf i).toNat)
 case atStart => exact ⟨0, cc1 _, rfl, rfl⟩
 case round =>
  obtain ⟨k, hk, rfl, ha⟩ := hrel
  have HA := show Hid _ from ha
  clear ha
  by_cases hlt : k < xs.length
  ·obtain ⟨b1, o1, rfl, hb1, hx⟩ := hc1 k hlt
   rw [aJ6 _ _ hlt] at hx
   clear hc1
   cases hp : p xs[k]
   all_goals
    have HP := show Hid _ from hp
    clear hp
    go_wp2_with fail
    refine (HF.out xs[k] _).mono ?_
    rintro e w1 ⟨rfl, rfl⟩
    rw [HP.out]
    go_wp2_with fail
   ·go_round
    case rel => exact ⟨k + 1, by omega, by go_num, by rw [r9 _ _ hlt, List.any_append, HA.out]; simp [HP.out]⟩
    case measure => simp [intOf]; omega
   ·go_ret
    exact ⟨_, rfl, by rw [decide_eq_true (by omega)]; symm; rw [List.any_eq_true]; exact ⟨_, cb0 hlt, HP.out⟩, rfl⟩
  ·go_wp2_with fail
   go_ret
   refine ⟨_, rfl, ?_, rfl⟩
   have := HA.out
   rw [ca3 (by omega)] at this
   rw [this]; rfl
theorem ay2 (p : Int → Bool) (f : FuncId) (v : Value) (xs : List Int) (w : World) (h : Z9 w v xs.length 1 (ints xs)) (he : ∀ args w, (callFunc f args).run Tryz.prog w = .ok (.enter f args) w)
  (hf : ∀ x w', Calls Tryz.prog f #[.int .i64 x] w' fun e w'' => e = .returned (.bool (p x)) ∧ w' = w'') :
  Calls Tryz.prog 221 #[v, .func (.func f) #[] #[]] w fun e w' => e = .returned (.bool (xs.any p)) ∧ w = w' := by
 obtain ⟨a1, c1, rfl, -⟩ := h.open1
 have HF := show Hid _ from hf
 have HE := show Hid _ from he
 clear hf he
 go_enter Tryz.func221, Tryz.ntmps221
 go_wp2_with fail
 refine (aM6 p f _ xs _ h HE.out HF.out).mono ?_
 rintro e w1 ⟨r, rfl, hr, rfl⟩
 have HR := show Hid _ from hr
 clear hr
 go_wp2_with fail
 go_ret
 exact ⟨f7 HR.out, rfl⟩
theorem a75 (xs : List Int) : (!xs.any fun l => !d8 l) = xs.all d8 := by
 induction xs with
 | nil => rfl
 | cons x r ih => simp only [List.any_cons, List.all_cons, ← ih]; cases d8 x <;> simp
theorem W5 (v : Value) (xs : List Int) (w : World) (h : Z9 w v xs.length 1 (ints xs)) :
  Calls Tryz.prog 172 #[v] w fun e w' => e = .returned (.bool (xs.all d8)) ∧ w = w' := by
 obtain ⟨a1, c1, rfl, -⟩ := h.open1
 go_enter Tryz.func172, Tryz.ntmps172
 go_wp2_with fail
 refine (ay2 (fun l => !d8 l) 222 _ xs _ h (aQ6 Tryz.func222 (by kernel_rfl) rfl) (fun x w' => aA7 x w')).mono ?_
 rintro e w1 ⟨rfl, rfl⟩
 have HN := show Hid _ from a75 xs
 go_wp2_with fail
 go_ret
 exact ⟨f7 HN.out, rfl⟩
theorem aM8 (v1 v2 : Value) (vars arrays : List Int) (w : World) (h1 : Z9 w v1 vars.length 1 (ints vars)) (h2 : Z9 w v2 arrays.length 1 (ints arrays)) :
  Calls Tryz.prog 100 #[v1, v2] w fun e w' => e = .returned (.bool (F4 vars arrays)) ∧ w = w' := by
 obtain ⟨a1, c1, rfl, -, q1, -⟩ := h1.open1
 obtain ⟨a2, c2, rfl, -, q2, -⟩ := h2.open1
 have HT : Hid (F4 vars arrays = (vars.all d8 && arrays.all d8 && decide (1 ≤ vars.length) && decide (vars.length ≤ 12) && decide (arrays.length ≤ 2))) := rfl
 by_cases hn : (1 : Int) ≤ (vars.length : Int) ∧ (vars.length : Int) ≤ 12
 ·have hb : (decide ((1 : Int) ≤ vars.length) && decide ((vars.length : Int) ≤ 12)) = true := by simpa using hn
  have HB := show Hid _ from hb
  by_cases hm : (arrays.length : Int) ≤ 2
  ·cases hv : vars.all d8
   ·have HV := show Hid _ from hv
    clear hv hb hn
    go_enter Tryz.func100, Tryz.ntmps100
    go_wp2_with fail
    refine (A4 _ 1 12 _).mono ?_
    rintro e w1 ⟨rfl, rfl⟩
    rw [HB.out]
    go_wp2_with fail
    refine (W5 _ vars _ h1).mono ?_
    rintro e w1 ⟨rfl, rfl⟩
    rw [HV.out]
    go_wp2_with fail
    go_ret
    exact ⟨f7 (by rw [HT.out, HV.out]; rfl), rfl⟩
   ·have HV := show Hid _ from hv
    have hn' := show Hid _ from hn
    have hm' := show Hid _ from hm
    clear hv hb hn
    go_enter Tryz.func100, Tryz.ntmps100
    go_wp2_with fail
    refine (A4 _ 1 12 _).mono ?_
    rintro e w1 ⟨rfl, rfl⟩
    rw [HB.out]
    go_wp2_with fail
    refine (W5 _ vars _ h1).mono ?_
    rintro e w1 ⟨rfl, rfl⟩
    rw [HV.out]
    go_wp2_with fail
    refine (W5 _ arrays _ h2).mono ?_
    rintro e w1 ⟨rfl, rfl⟩
    go_wp2_with fail
    go_ret
    refine ⟨f7 ?_, rfl⟩
    have h3 := hn'.out
    have h4 := hm'.out
    rw [HT.out, HV.out, decide_eq_true (show 1 ≤ vars.length by omega), decide_eq_true (show vars.length ≤ 12 by omega), decide_eq_true (show arrays.length ≤ 2 by omega)]
    simp
  ·have hF : Hid (F4 vars arrays = false) := by unfold Hid; rw [HT.out, decide_eq_false (show ¬ arrays.length ≤ 2 by omega)]; simp
   clear hb hn
   go_enter Tryz.func100, Tryz.ntmps100
   go_wp2_with fail
   refine (A4 _ 1 12 _).mono ?_
   rintro e w1 ⟨rfl, rfl⟩
   rw [HB.out]
   go_wp2_with fail
   go_ret
   exact ⟨f7 hF.out.symm, rfl⟩
 ·have hb : (decide ((1 : Int) ≤ vars.length) && decide ((vars.length : Int) ≤ 12)) = false := by
   rw [Bool.eq_false_iff]; simp only [ne_eq, b86, decide_eq_true_eq]; exact hn
  have HB := show Hid _ from hb
  have hF : Hid (F4 vars arrays = false) := by
   unfold Hid; rw [HT.out]
   rcases Classical.not_and_iff_not_or_not.1 hn with h | h
   ·rw [decide_eq_false (show ¬ 1 ≤ vars.length by omega)]; simp
   ·rw [decide_eq_false (show ¬ vars.length ≤ 12 by omega)]; simp
  clear hb hn
  go_enter Tryz.func100, Tryz.ntmps100
  go_wp2_with fail
  refine (A4 _ 1 12 _).mono ?_
  rintro e w1 ⟨rfl, rfl⟩
  rw [HB.out]
  go_wp2_with fail
  go_ret
  exact ⟨f7 hF.out.symm, rfl⟩
theorem au0 (k n : Int) (kv : Value) (w : World) : Calls Tryz.prog 228 #[.agg #[.int .i64 k, .int .i64 n, kv]] w fun e w' => e = .returned (.bool (decide (k = 1) || decide (k = 2))) ∧ Below w.heap.size w w' := by
 by_cases h1 : k = 1
 ·have p1 : (k == 1) = true := by simp [h1]
  have Q := show Hid _ from h1
  clear h1
  go_enter Tryz.func228, Tryz.ntmps228
  go_wp2
  go_ret
  exact ⟨f7 (by simp [Q.out]), by go_grown⟩
 ·have p1 : (k == 1) = false := by simp [h1]
  have Q := show Hid _ from h1
  clear h1
  by_cases h2 : k = 2
  ·have p2 : (k == 2) = true := by simp [h2]
   have Q2 := show Hid _ from h2
   clear h2
   go_enter Tryz.func228, Tryz.ntmps228
   go_wp2
   go_ret
   exact ⟨f7 (by simp [Q2.out]), by go_grown⟩
  ·have p2 : (k == 2) = false := by simp [h2]
   have Q2 := show Hid _ from h2
   clear h2
   go_enter Tryz.func228, Tryz.ntmps228
   go_wp2
   go_ret
   exact ⟨f7 (by rw [decide_eq_false Q.out, decide_eq_false Q2.out]; rfl), by go_grown⟩
theorem aM7 (k : Int) (w : World) : Calls Tryz.prog 260 #[.int .i64 k] w fun e w' => e = .returned (.int .i64 (m9 k)) ∧ w = w' := by
 by_cases h1 : k = 1
 ·subst h1
  go_enter Tryz.func260, Tryz.ntmps260
  go_wp2_with fail
  go_ret
  exact ⟨U0 (by simp [m9]), rfl⟩
 by_cases h2 : k = 2
 ·subst h2
  go_enter Tryz.func260, Tryz.ntmps260
  go_wp2_with fail
  go_ret
  exact ⟨U0 (by simp [m9]), rfl⟩
 by_cases h3 : k = 3
 ·subst h3
  go_enter Tryz.func260, Tryz.ntmps260
  go_wp2_with fail
  go_ret
  exact ⟨U0 (by simp [m9]), rfl⟩
 have p1 : (k == 1) = false := by simp [h1]
 have p2 : (k == 2) = false := by simp [h2]
 have p3 : (k == 3) = false := by simp [h3]
 have H := show Hid _ from And.intro h1 (And.intro h2 h3)
 clear h1 h2 h3
 go_enter Tryz.func260, Tryz.ntmps260
 go_wp2_with fail
 refine (A4 k 4 10 _).mono ?_
 rintro x w1 ⟨rfl, rfl⟩
 by_cases h4 : 4 ≤ k ∧ k ≤ 10
 ·have p4 : (decide (4 ≤ k) && decide (k ≤ 10)) = true := by simp [h4]
  rw [p4]
  have H4 := show Hid _ from h4
  clear h4 p4
  go_wp2_with fail
  go_ret
  exact ⟨U0 (by have := H.out; have := H4.out; unfold m9; rw [if_neg (by omega), if_neg (by omega), if_pos (by omega)]), rfl⟩
 ·have p4 : (decide (4 ≤ k) && decide (k ≤ 10)) = false := by simp; omega
  rw [p4]
  have H4 := show Hid _ from h4
  clear h4 p4
  by_cases h5 : k = 11
  ·subst h5
   go_wp2_with fail
   go_ret
   exact ⟨U0 (by simp [m9]), rfl⟩
  ·have p5 : (k == 11) = false := by simp [h5]
   have H5 := show Hid _ from h5
   clear h5
   go_wp2_with fail
   go_ret
   exact ⟨U0 (by have := H.out; have := H4.out; have := H5.out; unfold m9; rw [if_neg (by omega), if_neg (by omega), if_neg (by omega), if_neg (by omega)]), rfl⟩
theorem ac6 {nv na d c : Nat} {e : b5} (h1 : y7 nv na e = true) (h2 : M9 e = true) : w6 nv na (d + 1) c e = v8 nv na d (c + 1) e.kids e.kids.length := by
 unfold w6 v8
 rw [ca3 (b99 _), f5, h1, h2, A3]
 simp
theorem Y3 {nv na d c k : Nat} {ks : List b5} (hk : k < ks.length) (hs : w6 nv na d (c + n8 (ks.take k)) ks[k] = false) : v8 nv na d c ks ks.length = false := by
 unfold v8
 rw [ca3 (b99 _)]
 exact aU8 nv na hk hs
theorem M7 {nv na d c : Nat} {e : b5} (h1 : y7 nv na e = false) : w6 nv na (d + 1) c e = false := by
 unfold w6; rw [f5, h1]; rfl
theorem aU9 {nv na d c : Nat} {e : b5} (h1 : M9 e = false) : w6 nv na (d + 1) c e = false := by
 unfold w6; rw [f5, h1]; simp
theorem ad2 {nv na : Nat} {k n h : Int} (hh : h = I6 nv na k - 1) : (decide (0 ≤ n) && decide (n ≤ h)) = (decide (0 ≤ n) && decide (n < I6 nv na k)) := by
 congr 1; exact decide_eq_decide.2 (by omega)
theorem bp2 (a1 a2 : Option Addr) (nv c1 na c2 : Nat) (v3 : Value) (h1 : nv ≤ 9223372036854775807) (h2 : na ≤ 9223372036854775807) : ∀ (d : Nat) (deep : Int), deep + d = 6 → 1 ≤ deep → ∀ (e : b5) (φ : Nat → Prop) (v : Value) (c cb : Nat) (w : World), ab7 w φ v e → ¬ φ cb → Blk w cb [.int .i64 c] → c ≤ 15 →
  Calls Tryz.prog 249 #[.agg #[.slice a1 nv c1, .slice a2 na c2, v3], v, .int .i64 deep, .pointer (some ⟨cb, 0, none⟩)] w fun x w' =>
   x = .returned (.bool (w6 nv na d c e)) ∧ (w6 nv na d c e = true → Blk w' cb [.int .i64 (c + 1 + v7 e : Nat)]) ∧ (∃ u, Blk w' cb [u]) ∧ B8 (fun b => ¬ b = cb) w w' := by
 intro d
 induction d with
 | zero =>
  intro deep hdp hd1 e φ v c cb w h hcb hblk hc
  obtain ⟨kv, rfl, hk⟩ := h
  have HF : Hid (w6 nv na 0 c e = false) := rfl
  obtain rfl : deep = 6 := by omega
  have hl := hblk.lt
  have x0 : w.cell? ⟨cb, 0, none⟩ = some (.int .i64 c) := (hblk.cell 0).trans rfl
  have f0 := hblk.free
  obtain ⟨W, hW, M⟩ : ∃ W, W = (((w.setCell ⟨cb, 0, none⟩ (.int .i64 ((c : Int) + 1))).alloc (.cells #[.slice a1 nv c1, .slice a2 na c2, v3] 26)).alloc (.cells #[.int .i64 e.kind, .int .i64 e.value, kv] 104)) ∧ A9 (fun _ => True) (fun b => ¬ b = cb) w W [.box cb [.int .i64 ((c : Int) + 1)]] :=
   ⟨_, rfl, (((A9.start fun _ _ => trivial).adopt (.box cb [.int .i64 c]) (fun _ ha => by cases ha) b94 hblk (fun _ ha => by cases ha) (fun g hg hn => by cases hg; exact hn rfl)).set 0 rfl 0 (.int .i64 ((c : Int) + 1))).call (by go_grown)⟩
  have y0 := M.c 0 0 rfl rfl
  have z0 := fun X => r6 y0 X
  clear hk y0 hblk
  by_cases q : (15 : Int) < (c : Int) + 1
  ·have p : decide ((15 : Int) < (c : Int) + 1) = true := by simp; omega
   clear q
   go_enter Tryz.func249, Tryz.ntmps249
   go_wp2_with fail
   rw [← hW]
   clear hW
   refine s8 (by kernel_rfl) (by kernel_rfl) ?_
   repeat (any_goals (first | go_big_quiet_step (((fail))) | quiet_step (((fail)))))
   refine wpQuiet_nil ?_
   rintro _ ⟨X, rfl⟩
   replace M := M.call (v9 W X)
   go_wp2_with fail
   go_ret
   exact ⟨f7 (by rw [HF.out]), fun h => absurd (h.symm.trans HF.out) (by simp), ⟨_, M.blk 0 rfl⟩, M.kept⟩
  ·have p : decide ((15 : Int) < (c : Int) + 1) = false := by simp; omega
   clear q
   go_enter Tryz.func249, Tryz.ntmps249
   go_wp2_with fail
   rw [← hW]
   clear hW
   refine s8 (by kernel_rfl) (by kernel_rfl) ?_
   repeat (any_goals (first | go_big_quiet_step (((fail))) | quiet_step (((fail)))))
   refine wpQuiet_nil ?_
   rintro _ ⟨X, rfl⟩
   replace M := M.call (v9 W X)
   go_wp2_with fail
   go_ret
   exact ⟨f7 (by rw [HF.out]), fun h => absurd (h.symm.trans HF.out) (by simp), ⟨_, M.blk 0 rfl⟩, M.kept⟩
 | succ d ih =>
  intro deep hdp hd1 e φ v c cb w h hcb hblk hc
  obtain ⟨kv, rfl, hk⟩ := h
  obtain ⟨ak, ck, rfl, -, hn, -, -⟩ := hk.open
  have hl := hblk.lt
  have hd5 : deep ≤ 5 := by omega
  obtain ⟨φ', hφ'⟩ : ∃ φ' : Nat → Prop, φ' = fun b => φ b ∨ w.heap.size ≤ b := ⟨_, rfl⟩
  have x0 : w.cell? ⟨cb, 0, none⟩ = some (.int .i64 c) := (hblk.cell 0).trans rfl
  have f0 := hblk.free
  obtain ⟨W, hW, M⟩ : ∃ W, W = (((w.setCell ⟨cb, 0, none⟩ (.int .i64 ((c : Int) + 1))).alloc (.cells #[.slice a1 nv c1, .slice a2 na c2, v3] 26)).alloc (.cells #[.int .i64 e.kind, .int .i64 e.value, .slice ak e.kids.length ck] 104)) ∧
    A9 φ' (fun b => ¬ b = cb) w W [.box cb [.int .i64 ((c : Int) + 1)], .box w.heap.size [.slice a1 nv c1, .slice a2 na c2, v3], .box (w.heap.size + 1) [.int .i64 e.kind, .int .i64 e.value, .slice ak e.kids.length ck], .dat (fun w φ => s9 w φ (.slice ak e.kids.length ck) e.kids)] := by
   refine ⟨_, rfl, (((((A9.start (by rw [hφ']; exact fun _ h => .inr h)).adopt (.box cb [.int .i64 c]) (fun _ ha => by cases ha) b94 hblk (fun _ ha => by cases ha) (fun g hg hn => by cases hg; exact hn rfl)).set 0 rfl 0 (.int .i64 ((c : Int) + 1))).box' _ _ (by simp)).box' _ _ (by simp)).dat (s9.nice _ _) (s9.nice _ _ _ _ _ _ ⟨by simp; omega, fun b hb hf => ⟨⟨by rw [hφ']; exact .inl hf, fun r hr he => ?_⟩, ?_⟩⟩ hk)⟩
   ·simp at hr
    rcases hr with rfl | rfl | rfl
    ·cases he; exact hcb hf
    ·cases he; omega
    ·cases he; omega
   ·have hbc : b ≠ cb := fun he => hcb (he ▸ hf)
    exact (((Below.refl w.heap.size (w.setCell ⟨cb, 0, none⟩ (.int .i64 ((c : Int) + 1)))).alloc (by simp) _ |>.alloc (by simp) _).block b (by simpa using hb)).trans (Below.heap_setCell _ _ _ _ hbc)
  clear hk hblk hφ'
  have y0 := M.c 0 0 rfl rfl
  have y1 := M.c 2 0 rfl rfl
  have y2 := M.c 2 2 rfl rfl
  have z0 := fun X => r6 y0 X
  have z1 := fun X => r6 y1 X
  have z2 := fun X => r6 y2 X
  have HA : Hid (∀ X, Calls Tryz.prog 260 #[.int .i64 e.kind] (W.ext X) fun x w'' => x = .returned (.int .i64 (m9 e.kind)) ∧ ∃ Y, w'' = W.ext Y) := fun X =>
   Calls.ext_of' ((aM7 e.kind _).mono fun x w' h => ⟨h.1, h.2 ▸ Below.refl _ _⟩)
  clear y0 y1 y2
  have p2 : decide ((5 : Int) < deep) = false := decide_eq_false (by omega)
  by_cases q1 : (15 : Int) < (c : Int) + 1
  ·have p1 : decide ((15 : Int) < (c : Int) + 1) = true := decide_eq_true q1
   have HF : Hid (w6 nv na (d + 1) c e = false) := by unfold Hid w6; rw [decide_eq_false (by omega), Bool.and_false]
   clear q1
   go_enter Tryz.func249, Tryz.ntmps249
   go_wp2_with fail
   rw [← hW]
   clear hW
   refine s8 (by kernel_rfl) (by kernel_rfl) ?_
   repeat (any_goals (first | go_big_quiet_step (((go_at_call 260; exact HA.out _))) | quiet_step (((go_at_call 260; exact HA.out _)))))
   refine wpQuiet_nil ?_
   rintro _ ⟨X, rfl⟩
   replace M := M.call (v9 W X)
   go_wp2_with fail
   go_ret
   exact ⟨f7 (by rw [HF.out]), fun h => absurd (h.symm.trans HF.out) (by simp), ⟨_, M.blk 0 rfl⟩, M.kept⟩
  have p1 : decide ((15 : Int) < (c : Int) + 1) = false := decide_eq_false q1
  by_cases q3 : (e.kids.length : Int) = m9 e.kind
  case neg =>
   have p3 : (m9 e.kind != (e.kids.length : Int)) = true := by simp; omega
   have HF : Hid (w6 nv na (d + 1) c e = false) := M7 (by unfold y7; rw [decide_eq_false q3]; rfl)
   clear q1 q3
   go_enter Tryz.func249, Tryz.ntmps249
   go_wp2_with fail
   rw [← hW]
   clear hW
   refine s8 (by kernel_rfl) (by kernel_rfl) ?_
   repeat (any_goals (first | go_big_quiet_step (((go_at_call 260; exact HA.out _))) | quiet_step (((go_at_call 260; exact HA.out _)))))
   refine wpQuiet_nil ?_
   rintro _ ⟨X, rfl⟩
   replace M := M.call (v9 W X)
   go_wp2_with fail
   go_ret
   exact ⟨f7 (by rw [HF.out]), fun h => absurd (h.symm.trans HF.out) (by simp), ⟨_, M.blk 0 rfl⟩, M.kept⟩
  have p3 : (m9 e.kind != (e.kids.length : Int)) = false := by simp; omega
  have HQ := show Hid _ from And.intro q1 q3
  clear q1 q3
  go_enter Tryz.func249, Tryz.ntmps249
  go_wp2_with fail
  rw [← hW]
  clear hW
  refine s8 (by kernel_rfl) (by kernel_rfl) ?_
  repeat (any_goals (first | go_big_quiet_step (((go_at_call 260; exact HA.out _))) | quiet_step (((go_at_call 260; exact HA.out _)))))
  refine wpQuiet_nil ?_
  rintro _ ⟨X, rfl⟩
  replace M := M.call (v9 W X)
  generalize W.ext X = W1 at *
  clear z0 z1 z2 HA p1 p2 p3 f0 x0
  have y0 := M.c 1 0 rfl rfl
  have y1 := M.c 1 1 rfl rfl
  have y2 := M.c 2 0 rfl rfl
  have y3 := M.c 2 1 rfl rfl
  have y4 := M.c 2 2 rfl rfl
  have HM := show Hid _ from M
  clear M
  by_cases k1 : e.kind = 1
  ·have qq1 : (e.kind == 1) = true := by simp [k1]
   have qq2 : (e.kind == 3) = false := by simp [k1]
   have HRD : Hid (M9 e = true) := by unfold Hid M9; simp [k1]
   have hhi : (255 : Int) = I6 nv na e.kind - 1 := by rw [k1]; simp [I6]
   clear k1
   have HNB := show Hid (y7 nv na e = (decide (0 ≤ e.value) && decide (e.value ≤ 255))) from by
    unfold Hid y7; rw [decide_eq_true HQ.out.2, ad2 hhi]; rfl
   clear hhi
   go_wp2_with fail
   refine (A4 e.value 0 _ _).mono ?_
   rintro x w1 ⟨rfl, rfl⟩
   have HNB2 := show Hid (y7 nv na e = (decide (0 ≤ e.value) && decide (e.value ≤ 255))) from HNB.out
   clear HNB
   obtain ⟨qn, hqn⟩ : ∃ qn, qn = (decide (0 ≤ e.value) && decide (e.value ≤ 255)) := ⟨_, rfl⟩
   rw [← hqn]
   have HN := show Hid (y7 nv na e = qn) from HNB2.out.trans hqn.symm
   clear hqn HNB2
   cases qn
   ·have HF : Hid (w6 nv na (d + 1) c e = false) := M7 HN.out
    have M := HM.out
    clear HM
    go_wp2_with fail
    go_ret
    exact ⟨f7 (by rw [HF.out]), fun h => absurd (h.symm.trans HF.out) (by simp), ⟨_, M.blk 0 rfl⟩, M.kept⟩
   have HSC : Hid (w6 nv na (d + 1) c e = v8 nv na d (c + 1) e.kids e.kids.length) := ac6 HN.out HRD.out
   go_wp2_with fail
   clear y0 y1 y2 y3 y4
   have HST : Hid (v8 nv na d (c + 1) e.kids 0 = true ∧ A9 φ' (fun b => ¬ b = cb) w W1 [.box cb [.int .i64 (c + 1 + n8 (e.kids.take 0) : Nat)], .box w.heap.size [.slice a1 nv c1, .slice a2 na c2, v3], .box (w.heap.size + 1) [.int .i64 e.kind, .int .i64 e.value, .slice ak e.kids.length ck], .dat (fun w φ => s9 w φ (.slice ak e.kids.length ck) e.kids)]) := by
    refine ⟨?_, ?_⟩
    ·have := HQ.out.1
     simp [v8, n8]; omega
    ·rw [show ((c + 1 + n8 (e.kids.take 0) : Nat) : Int) = (c : Int) + 1 by simp [n8]]
     exact HM.out
   go_loopw [71] (fun i wr => ∃ k : Nat, k ≤ e.kids.length ∧ i = .int .i64 k ∧ v8 nv na d (c + 1) e.kids k = true ∧ A9 φ' (fun b => ¬ b = cb) w wr [.box cb [.int .i64 (c + 1 + n8 (e.kids.take k) : Nat)], .box w.heap.size [.slice a1 nv c1, .slice a2 na c2, v3], .box (w.heap.size + 1) [.int .i64 e.kind, .int .i64 e.value, .slice ak e.kids.length ck], .dat (fun w φ => s9 w φ (.slice ak e.kids.length ck) e.kids)]) (fun i _ => e.kids.length - (intOf i).toNat)
   case atStart => exact ⟨0, cc1 _, rfl, HST.out.1, HST.out.2⟩
   case round =>
    clear HM
    obtain ⟨k, hk, rfl, hpre, M⟩ := hrel
    have HPRE := show Hid _ from hpre
    have hle : c + 1 + n8 (e.kids.take k) ≤ 15 := by unfold v8 at hpre; simp at hpre; exact hpre.2
    clear hpre
    by_cases hlt : k < e.kids.length
    ·have hncb : ¬ Fr φ' [.box cb [.int .i64 (c + 1 + n8 (e.kids.take k) : Nat)], .box w.heap.size [.slice a1 nv c1, .slice a2 na c2, v3], .box (w.heap.size + 1) [.int .i64 e.kind, .int .i64 e.value, .slice ak e.kids.length ck], .dat (fun w φ => s9 w φ (.slice ak e.kids.length ck) e.kids)] cb := fun h => h.2 _ ca1 rfl
     obtain ⟨a', c', he, -, -, -, hcell⟩ := (M.d 3 rfl).open
     cases he
     obtain ⟨b, off, kv, hbo, hbk, hf, g0, g1, g2, hkk⟩ := hcell k hlt
     cases hbo
     obtain ⟨ka, kc, rfl, -, -, -, -⟩ := hkk.open
     have bz : Below wr.heap.size wr (wr.alloc (.cells #[.int .i64 e.kids[k].kind, .int .i64 e.kids[k].value, .slice ka e.kids[k].kids.length kc] 104)) := by go_grown
     have HE := show Hid _ from s9.nice _ _ _ _ _ _ (Agr.below bz) hkk
     have HNCB := show Hid _ from hncb
     have x0 := M.c 1 0 rfl rfl
     have x1 := M.c 1 1 rfl rfl
     have x2 := M.c 1 2 rfl rfl
     have s1 : w.heap.size < wr.heap.size := M.lt (r := .box w.heap.size [.slice a1 nv c1, .slice a2 na c2, v3]) (ca8 _ ca1) rfl
     have HM := show Hid _ from M.box [.int .i64 e.kids[k].kind, .int .i64 e.kids[k].value, .slice ka e.kids[k].kids.length kc] 104
     have HP := show Hid _ from T8 nv na (d := d) (c := c + 1) hlt
     have HX := show Hid (w6 nv na d (c + 1 + n8 (e.kids.take k)) e.kids[k] = false → w6 nv na (d + 1) c e = false) from fun h => HSC.out.trans (Y3 hlt h)
     have HT := show Hid _ from V5 hlt
     clear hcell hncb bz hkk M
     go_wp2_with fail
     refine (ih (deep + 1) (by omega) (by omega) e.kids[k] _ _ (c + 1 + n8 (e.kids.take k)) cb _ ⟨_, rfl, HE.out⟩ HNCB.out (HM.out.blk 0 rfl) hle).mono ?_
     rintro x w2 ⟨rfl, r1, ⟨u, r2⟩, kp⟩
     obtain ⟨q, hq⟩ : ∃ q, q = w6 nv na d (c + 1 + n8 (e.kids.take k)) e.kids[k] := ⟨_, rfl⟩
     rw [← hq] at r1 ⊢
     have HQ2 := show Hid _ from hq
     clear hq x0 x1 x2 g0 g1 g2
     cases q
     ·have M2 := HM.out.callB 0 rfl kp r2
      have HF := show Hid _ from HX.out HQ2.out.symm
      clear r1 r2 kp
      go_wp2_with fail
      go_ret
      exact ⟨f7 (by rw [HF.out]), fun h => absurd (h.symm.trans HF.out) (by simp), ⟨_, M2.blk 0 rfl⟩, M2.kept⟩
     ·have M2 := (HM.out.callB 0 rfl kp (r1 rfl)).take 4
      have HM2 := show Hid _ from M2
      clear r1 r2 kp M2
      go_wp2_with fail
      refine ⟨⟨k + 1, by omega, by go_num, by rw [HP.out, HPRE.out, ← HQ2.out]; rfl, ?_⟩, by simp [intOf]; omega⟩
      rw [HT.out, show c + 1 + (n8 (e.kids.take k) + (1 + v7 e.kids[k])) = c + 1 + n8 (e.kids.take k) + 1 + v7 e.kids[k] by omega]
      exact HM2.out
    ·have hkn : k = e.kids.length := by omega
     subst hkn
     have HM := show Hid _ from M
     have HS : Hid (w6 nv na (d + 1) c e = true) := HSC.out.trans HPRE.out
     clear M
     go_wp2_with fail
     go_ret
     refine ⟨f7 (by rw [HS.out]), fun _ => ?_, ⟨_, HM.out.blk 0 rfl⟩, HM.out.kept⟩
     have := HM.out.blk 0 rfl
     rw [ca3 (b99 _)] at this
     rw [A3]
     exact this
  have k1' : (e.kind == 1) = false := by simp [k1]
  by_cases k2 : e.kind = 2
  ·have qq1 : (e.kind == 2) = true := by simp [k2]
   have qq2 : (e.kind == 3) = false := by simp [k2]
   have HRD : Hid (M9 e = true) := by unfold Hid M9; simp [k2]
   have hhi : (nv : Int) - 1 = I6 nv na e.kind - 1 := by rw [k2]; simp [I6]
   clear k1 k2
   have HNB := show Hid (y7 nv na e = (decide (0 ≤ e.value) && decide (e.value ≤ (nv : Int) - 1))) from by
    unfold Hid y7; rw [decide_eq_true HQ.out.2, ad2 hhi]; rfl
   clear hhi
   go_wp2_with fail
   refine (A4 e.value 0 _ _).mono ?_
   rintro x w1 ⟨rfl, rfl⟩
   have HNB2 := show Hid (y7 nv na e = (decide (0 ≤ e.value) && decide (e.value ≤ (nv : Int) - 1))) from HNB.out
   clear HNB
   obtain ⟨qn, hqn⟩ : ∃ qn, qn = (decide (0 ≤ e.value) && decide (e.value ≤ (nv : Int) - 1)) := ⟨_, rfl⟩
   rw [← hqn]
   have HN := show Hid (y7 nv na e = qn) from HNB2.out.trans hqn.symm
   clear hqn HNB2
   cases qn
   ·have HF : Hid (w6 nv na (d + 1) c e = false) := M7 HN.out
    have M := HM.out
    clear HM
    go_wp2_with fail
    go_ret
    exact ⟨f7 (by rw [HF.out]), fun h => absurd (h.symm.trans HF.out) (by simp), ⟨_, M.blk 0 rfl⟩, M.kept⟩
   have HSC : Hid (w6 nv na (d + 1) c e = v8 nv na d (c + 1) e.kids e.kids.length) := ac6 HN.out HRD.out
   go_wp2_with fail
   clear y0 y1 y2 y3 y4
   have HST : Hid (v8 nv na d (c + 1) e.kids 0 = true ∧ A9 φ' (fun b => ¬ b = cb) w W1 [.box cb [.int .i64 (c + 1 + n8 (e.kids.take 0) : Nat)], .box w.heap.size [.slice a1 nv c1, .slice a2 na c2, v3], .box (w.heap.size + 1) [.int .i64 e.kind, .int .i64 e.value, .slice ak e.kids.length ck], .dat (fun w φ => s9 w φ (.slice ak e.kids.length ck) e.kids)]) := by
    refine ⟨?_, ?_⟩
    ·have := HQ.out.1
     simp [v8, n8]; omega
    ·rw [show ((c + 1 + n8 (e.kids.take 0) : Nat) : Int) = (c : Int) + 1 by simp [n8]]
     exact HM.out
   go_loopw [71] (fun i wr => ∃ k : Nat, k ≤ e.kids.length ∧ i = .int .i64 k ∧ v8 nv na d (c + 1) e.kids k = true ∧ A9 φ' (fun b => ¬ b = cb) w wr [.box cb [.int .i64 (c + 1 + n8 (e.kids.take k) : Nat)], .box w.heap.size [.slice a1 nv c1, .slice a2 na c2, v3], .box (w.heap.size + 1) [.int .i64 e.kind, .int .i64 e.value, .slice ak e.kids.length ck], .dat (fun w φ => s9 w φ (.slice ak e.kids.length ck) e.kids)]) (fun i _ => e.kids.length - (intOf i).toNat)
   case atStart => exact ⟨0, cc1 _, rfl, HST.out.1, HST.out.2⟩
   case round =>
    clear HM
    obtain ⟨k, hk, rfl, hpre, M⟩ := hrel
    have HPRE := show Hid _ from hpre
    have hle : c + 1 + n8 (e.kids.take k) ≤ 15 := by unfold v8 at hpre; simp at hpre; exact hpre.2
    clear hpre
    by_cases hlt : k < e.kids.length
    ·have hncb : ¬ Fr φ' [.box cb [.int .i64 (c + 1 + n8 (e.kids.take k) : Nat)], .box w.heap.size [.slice a1 nv c1, .slice a2 na c2, v3], .box (w.heap.size + 1) [.int .i64 e.kind, .int .i64 e.value, .slice ak e.kids.length ck], .dat (fun w φ => s9 w φ (.slice ak e.kids.length ck) e.kids)] cb := fun h => h.2 _ ca1 rfl
     obtain ⟨a', c', he, -, -, -, hcell⟩ := (M.d 3 rfl).open
     cases he
     obtain ⟨b, off, kv, hbo, hbk, hf, g0, g1, g2, hkk⟩ := hcell k hlt
     cases hbo
     obtain ⟨ka, kc, rfl, -, -, -, -⟩ := hkk.open
     have bz : Below wr.heap.size wr (wr.alloc (.cells #[.int .i64 e.kids[k].kind, .int .i64 e.kids[k].value, .slice ka e.kids[k].kids.length kc] 104)) := by go_grown
     have HE := show Hid _ from s9.nice _ _ _ _ _ _ (Agr.below bz) hkk
     have HNCB := show Hid _ from hncb
     have x0 := M.c 1 0 rfl rfl
     have x1 := M.c 1 1 rfl rfl
     have x2 := M.c 1 2 rfl rfl
     have s1 : w.heap.size < wr.heap.size := M.lt (r := .box w.heap.size [.slice a1 nv c1, .slice a2 na c2, v3]) (ca8 _ ca1) rfl
     have HM := show Hid _ from M.box [.int .i64 e.kids[k].kind, .int .i64 e.kids[k].value, .slice ka e.kids[k].kids.length kc] 104
     have HP := show Hid _ from T8 nv na (d := d) (c := c + 1) hlt
     have HX := show Hid (w6 nv na d (c + 1 + n8 (e.kids.take k)) e.kids[k] = false → w6 nv na (d + 1) c e = false) from fun h => HSC.out.trans (Y3 hlt h)
     have HT := show Hid _ from V5 hlt
     clear hcell hncb bz hkk M
     go_wp2_with fail
     refine (ih (deep + 1) (by omega) (by omega) e.kids[k] _ _ (c + 1 + n8 (e.kids.take k)) cb _ ⟨_, rfl, HE.out⟩ HNCB.out (HM.out.blk 0 rfl) hle).mono ?_
     rintro x w2 ⟨rfl, r1, ⟨u, r2⟩, kp⟩
     obtain ⟨q, hq⟩ : ∃ q, q = w6 nv na d (c + 1 + n8 (e.kids.take k)) e.kids[k] := ⟨_, rfl⟩
     rw [← hq] at r1 ⊢
     have HQ2 := show Hid _ from hq
     clear hq x0 x1 x2 g0 g1 g2
     cases q
     ·have M2 := HM.out.callB 0 rfl kp r2
      have HF := show Hid _ from HX.out HQ2.out.symm
      clear r1 r2 kp
      go_wp2_with fail
      go_ret
      exact ⟨f7 (by rw [HF.out]), fun h => absurd (h.symm.trans HF.out) (by simp), ⟨_, M2.blk 0 rfl⟩, M2.kept⟩
     ·have M2 := (HM.out.callB 0 rfl kp (r1 rfl)).take 4
      have HM2 := show Hid _ from M2
      clear r1 r2 kp M2
      go_wp2_with fail
      refine ⟨⟨k + 1, by omega, by go_num, by rw [HP.out, HPRE.out, ← HQ2.out]; rfl, ?_⟩, by simp [intOf]; omega⟩
      rw [HT.out, show c + 1 + (n8 (e.kids.take k) + (1 + v7 e.kids[k])) = c + 1 + n8 (e.kids.take k) + 1 + v7 e.kids[k] by omega]
      exact HM2.out
    ·have hkn : k = e.kids.length := by omega
     subst hkn
     have HM := show Hid _ from M
     have HS : Hid (w6 nv na (d + 1) c e = true) := HSC.out.trans HPRE.out
     clear M
     go_wp2_with fail
     go_ret
     refine ⟨f7 (by rw [HS.out]), fun _ => ?_, ⟨_, HM.out.blk 0 rfl⟩, HM.out.kept⟩
     have := HM.out.blk 0 rfl
     rw [ca3 (b99 _)] at this
     rw [A3]
     exact this
  have k2' : (e.kind == 2) = false := by simp [k2]
  by_cases k3 : e.kind = 3
  ·have qq1 : (e.kind == 3) = true := by simp [k3]
   have qq2 := k2'
   have HRD : Hid (e.kind = 3) := k3
   have hhi : (na : Int) - 1 = I6 nv na e.kind - 1 := by rw [k3]; simp [I6]
   clear k1 k2 k3
   have HNB := show Hid (y7 nv na e = (decide (0 ≤ e.value) && decide (e.value ≤ (na : Int) - 1))) from by
    unfold Hid y7; rw [decide_eq_true HQ.out.2, ad2 hhi]; rfl
   clear hhi
   go_wp2_with fail
   refine (A4 e.value 0 _ _).mono ?_
   rintro x w1 ⟨rfl, rfl⟩
   have HNB2 := show Hid (y7 nv na e = (decide (0 ≤ e.value) && decide (e.value ≤ (na : Int) - 1))) from HNB.out
   clear HNB
   obtain ⟨qn, hqn⟩ : ∃ qn, qn = (decide (0 ≤ e.value) && decide (e.value ≤ (na : Int) - 1)) := ⟨_, rfl⟩
   rw [← hqn]
   have HN := show Hid (y7 nv na e = qn) from HNB2.out.trans hqn.symm
   clear hqn HNB2
   cases qn
   ·have HF : Hid (w6 nv na (d + 1) c e = false) := M7 HN.out
    have M := HM.out
    clear HM
    go_wp2_with fail
    go_ret
    exact ⟨f7 (by rw [HF.out]), fun h => absurd (h.symm.trans HF.out) (by simp), ⟨_, M.blk 0 rfl⟩, M.kept⟩
   have hl1 : e.kids.length = 1 := by have := HQ.out.2; rw [HRD.out] at this; simp [m9] at this; omega
   have hpos : 0 < (e.kids.length : Int) := by omega
   obtain ⟨a', c', he, -, -, -, hcell⟩ := (HM.out.d 3 rfl).open
   have e1 : ak = a' := by cases he; rfl
   have e2 : ck = c' := by cases he; rfl
   subst e1 e2
   obtain ⟨b, off, kv, rfl, hbk, hf, g0, g1, g2, hkk⟩ := hcell 0 (by omega)
   simp only [Nat.zero_mul, Nat.add_zero] at g0 g1 g2
   have HR := show Hid _ from aP6 HRD.out (by omega)
   clear hcell hkk
   go_wp2_with fail
   refine (au0 _ _ _ _).mono ?_
   rintro x w2 ⟨rfl, b2⟩
   replace HM := show Hid _ from HM.out.call b2
   obtain ⟨qr, hqr⟩ : ∃ qr, qr = (decide ((e.kids[0]'(by omega)).kind = 1) || decide ((e.kids[0]'(by omega)).kind = 2)) := ⟨_, rfl⟩
   rw [← hqr]
   have HRR := show Hid (M9 e = qr) from HR.out.trans hqr.symm
   clear hqr b2 HR g0 g1 g2
   cases qr
   ·have HF : Hid (w6 nv na (d + 1) c e = false) := aU9 HRR.out
    have M := HM.out
    clear HM
    go_wp2_with fail
    go_ret
    exact ⟨f7 (by rw [HF.out]), fun h => absurd (h.symm.trans HF.out) (by simp), ⟨_, M.blk 0 rfl⟩, M.kept⟩
   clear y0 y1 y2 y3 y4
   have y4 := HM.out.c 2 2 rfl rfl
   have HSC : Hid (w6 nv na (d + 1) c e = v8 nv na d (c + 1) e.kids e.kids.length) := ac6 HN.out HRR.out
   go_wp2_with fail
   clear y4
   have HST : Hid (v8 nv na d (c + 1) e.kids 0 = true ∧ A9 φ' (fun b => ¬ b = cb) w w2 [.box cb [.int .i64 (c + 1 + n8 (e.kids.take 0) : Nat)], .box w.heap.size [.slice a1 nv c1, .slice a2 na c2, v3], .box (w.heap.size + 1) [.int .i64 e.kind, .int .i64 e.value, .slice (some ⟨b, off, none⟩) e.kids.length ck], .dat (fun w φ => s9 w φ (.slice (some ⟨b, off, none⟩) e.kids.length ck) e.kids)]) := by
    refine ⟨?_, ?_⟩
    ·have := HQ.out.1
     simp [v8, n8]; omega
    ·rw [show ((c + 1 + n8 (e.kids.take 0) : Nat) : Int) = (c : Int) + 1 by simp [n8]]
     exact HM.out
   go_loopw [71] (fun i wr => ∃ k : Nat, k ≤ e.kids.length ∧ i = .int .i64 k ∧ v8 nv na d (c + 1) e.kids k = true ∧ A9 φ' (fun b => ¬ b = cb) w wr [.box cb [.int .i64 (c + 1 + n8 (e.kids.take k) : Nat)], .box w.heap.size [.slice a1 nv c1, .slice a2 na c2, v3], .box (w.heap.size + 1) [.int .i64 e.kind, .int .i64 e.value, .slice (some ⟨b, off, none⟩) e.kids.length ck], .dat (fun w φ => s9 w φ (.slice (some ⟨b, off, none⟩) e.kids.length ck) e.kids)]) (fun i _ => e.kids.length - (intOf i).toNat)
   case atStart => exact ⟨0, cc1 _, rfl, HST.out.1, HST.out.2⟩
   case round =>
    clear HM
    obtain ⟨k, hk, rfl, hpre, M⟩ := hrel
    have HPRE := show Hid _ from hpre
    have hle : c + 1 + n8 (e.kids.take k) ≤ 15 := by unfold v8 at hpre; simp at hpre; exact hpre.2
    clear hpre
    by_cases hlt : k < e.kids.length
    ·have hncb : ¬ Fr φ' [.box cb [.int .i64 (c + 1 + n8 (e.kids.take k) : Nat)], .box w.heap.size [.slice a1 nv c1, .slice a2 na c2, v3], .box (w.heap.size + 1) [.int .i64 e.kind, .int .i64 e.value, .slice (some ⟨b, off, none⟩) e.kids.length ck], .dat (fun w φ => s9 w φ (.slice (some ⟨b, off, none⟩) e.kids.length ck) e.kids)] cb := fun h => h.2 _ ca1 rfl
     obtain ⟨a', c', he, -, -, -, hcell⟩ := (M.d 3 rfl).open
     cases he
     obtain ⟨b, off, kv, hbo, hbk, hf, g0, g1, g2, hkk⟩ := hcell k hlt
     cases hbo
     obtain ⟨ka, kc, rfl, -, -, -, -⟩ := hkk.open
     have bz : Below wr.heap.size wr (wr.alloc (.cells #[.int .i64 e.kids[k].kind, .int .i64 e.kids[k].value, .slice ka e.kids[k].kids.length kc] 104)) := by go_grown
     have HE := show Hid _ from s9.nice _ _ _ _ _ _ (Agr.below bz) hkk
     have HNCB := show Hid _ from hncb
     have x0 := M.c 1 0 rfl rfl
     have x1 := M.c 1 1 rfl rfl
     have x2 := M.c 1 2 rfl rfl
     have s1 : w.heap.size < wr.heap.size := M.lt (r := .box w.heap.size [.slice a1 nv c1, .slice a2 na c2, v3]) (ca8 _ ca1) rfl
     have HM := show Hid _ from M.box [.int .i64 e.kids[k].kind, .int .i64 e.kids[k].value, .slice ka e.kids[k].kids.length kc] 104
     have HP := show Hid _ from T8 nv na (d := d) (c := c + 1) hlt
     have HX := show Hid (w6 nv na d (c + 1 + n8 (e.kids.take k)) e.kids[k] = false → w6 nv na (d + 1) c e = false) from fun h => HSC.out.trans (Y3 hlt h)
     have HT := show Hid _ from V5 hlt
     clear hcell hncb bz hkk M
     go_wp2_with fail
     refine (ih (deep + 1) (by omega) (by omega) e.kids[k] _ _ (c + 1 + n8 (e.kids.take k)) cb _ ⟨_, rfl, HE.out⟩ HNCB.out (HM.out.blk 0 rfl) hle).mono ?_
     rintro x w2 ⟨rfl, r1, ⟨u, r2⟩, kp⟩
     obtain ⟨q, hq⟩ : ∃ q, q = w6 nv na d (c + 1 + n8 (e.kids.take k)) e.kids[k] := ⟨_, rfl⟩
     rw [← hq] at r1 ⊢
     have HQ2 := show Hid _ from hq
     clear hq x0 x1 x2 g0 g1 g2
     cases q
     ·have M2 := HM.out.callB 0 rfl kp r2
      have HF := show Hid _ from HX.out HQ2.out.symm
      clear r1 r2 kp
      go_wp2_with fail
      go_ret
      exact ⟨f7 (by rw [HF.out]), fun h => absurd (h.symm.trans HF.out) (by simp), ⟨_, M2.blk 0 rfl⟩, M2.kept⟩
     ·have M2 := (HM.out.callB 0 rfl kp (r1 rfl)).take 4
      have HM2 := show Hid _ from M2
      clear r1 r2 kp M2
      go_wp2_with fail
      refine ⟨⟨k + 1, by omega, by go_num, by rw [HP.out, HPRE.out, ← HQ2.out]; rfl, ?_⟩, by simp [intOf]; omega⟩
      rw [HT.out, show c + 1 + (n8 (e.kids.take k) + (1 + v7 e.kids[k])) = c + 1 + n8 (e.kids.take k) + 1 + v7 e.kids[k] by omega]
      exact HM2.out
    ·have hkn : k = e.kids.length := by omega
     subst hkn
     have HM := show Hid _ from M
     have HS : Hid (w6 nv na (d + 1) c e = true) := HSC.out.trans HPRE.out
     clear M
     go_wp2_with fail
     go_ret
     refine ⟨f7 (by rw [HS.out]), fun _ => ?_, ⟨_, HM.out.blk 0 rfl⟩, HM.out.kept⟩
     have := HM.out.blk 0 rfl
     rw [ca3 (b99 _)] at this
     rw [A3]
     exact this
  have qq1 : (e.kind == 3) = false := by simp [k3]
  have qq2 := qq1
  have HRD : Hid (M9 e = true) := by unfold Hid M9; simp [k3]
  have hhi : (0 : Int) = I6 nv na e.kind - 1 := by unfold I6; rw [if_neg k1, if_neg k2, if_neg k3]; rfl
  clear k1 k2 k3
  have HNB := show Hid (y7 nv na e = (decide (0 ≤ e.value) && decide (e.value ≤ 0))) from by
   unfold Hid y7; rw [decide_eq_true HQ.out.2, ad2 hhi]; rfl
  clear hhi
  go_wp2_with fail
  refine (A4 e.value 0 _ _).mono ?_
  rintro x w1 ⟨rfl, rfl⟩
  have HNB2 := show Hid (y7 nv na e = (decide (0 ≤ e.value) && decide (e.value ≤ 0))) from HNB.out
  clear HNB
  obtain ⟨qn, hqn⟩ : ∃ qn, qn = (decide (0 ≤ e.value) && decide (e.value ≤ 0)) := ⟨_, rfl⟩
  rw [← hqn]
  have HN := show Hid (y7 nv na e = qn) from HNB2.out.trans hqn.symm
  clear hqn HNB2
  cases qn
  ·have HF : Hid (w6 nv na (d + 1) c e = false) := M7 HN.out
   have M := HM.out
   clear HM
   go_wp2_with fail
   go_ret
   exact ⟨f7 (by rw [HF.out]), fun h => absurd (h.symm.trans HF.out) (by simp), ⟨_, M.blk 0 rfl⟩, M.kept⟩
  have HSC : Hid (w6 nv na (d + 1) c e = v8 nv na d (c + 1) e.kids e.kids.length) := ac6 HN.out HRD.out
  go_wp2_with fail
  clear y0 y1 y2 y3 y4
  have HST : Hid (v8 nv na d (c + 1) e.kids 0 = true ∧ A9 φ' (fun b => ¬ b = cb) w W1 [.box cb [.int .i64 (c + 1 + n8 (e.kids.take 0) : Nat)], .box w.heap.size [.slice a1 nv c1, .slice a2 na c2, v3], .box (w.heap.size + 1) [.int .i64 e.kind, .int .i64 e.value, .slice ak e.kids.length ck], .dat (fun w φ => s9 w φ (.slice ak e.kids.length ck) e.kids)]) := by
   refine ⟨?_, ?_⟩
   ·have := HQ.out.1
    simp [v8, n8]; omega
   ·rw [show ((c + 1 + n8 (e.kids.take 0) : Nat) : Int) = (c : Int) + 1 by simp [n8]]
    exact HM.out
  go_loopw [71] (fun i wr => ∃ k : Nat, k ≤ e.kids.length ∧ i = .int .i64 k ∧ v8 nv na d (c + 1) e.kids k = true ∧ A9 φ' (fun b => ¬ b = cb) w wr [.box cb [.int .i64 (c + 1 + n8 (e.kids.take k) : Nat)], .box w.heap.size [.slice a1 nv c1, .slice a2 na c2, v3], .box (w.heap.size + 1) [.int .i64 e.kind, .int .i64 e.value, .slice ak e.kids.length ck], .dat (fun w φ => s9 w φ (.slice ak e.kids.length ck) e.kids)]) (fun i _ => e.kids.length - (intOf i).toNat)
  case atStart => exact ⟨0, cc1 _, rfl, HST.out.1, HST.out.2⟩
  case round =>
   clear HM
   obtain ⟨k, hk, rfl, hpre, M⟩ := hrel
   have HPRE := show Hid _ from hpre
   have hle : c + 1 + n8 (e.kids.take k) ≤ 15 := by unfold v8 at hpre; simp at hpre; exact hpre.2
   clear hpre
   by_cases hlt : k < e.kids.length
   ·have hncb : ¬ Fr φ' [.box cb [.int .i64 (c + 1 + n8 (e.kids.take k) : Nat)], .box w.heap.size [.slice a1 nv c1, .slice a2 na c2, v3], .box (w.heap.size + 1) [.int .i64 e.kind, .int .i64 e.value, .slice ak e.kids.length ck], .dat (fun w φ => s9 w φ (.slice ak e.kids.length ck) e.kids)] cb := fun h => h.2 _ ca1 rfl
    obtain ⟨a', c', he, -, -, -, hcell⟩ := (M.d 3 rfl).open
    cases he
    obtain ⟨b, off, kv, hbo, hbk, hf, g0, g1, g2, hkk⟩ := hcell k hlt
    cases hbo
    obtain ⟨ka, kc, rfl, -, -, -, -⟩ := hkk.open
    have bz : Below wr.heap.size wr (wr.alloc (.cells #[.int .i64 e.kids[k].kind, .int .i64 e.kids[k].value, .slice ka e.kids[k].kids.length kc] 104)) := by go_grown
    have HE := show Hid _ from s9.nice _ _ _ _ _ _ (Agr.below bz) hkk
    have HNCB := show Hid _ from hncb
    have x0 := M.c 1 0 rfl rfl
    have x1 := M.c 1 1 rfl rfl
    have x2 := M.c 1 2 rfl rfl
    have s1 : w.heap.size < wr.heap.size := M.lt (r := .box w.heap.size [.slice a1 nv c1, .slice a2 na c2, v3]) (ca8 _ ca1) rfl
    have HM := show Hid _ from M.box [.int .i64 e.kids[k].kind, .int .i64 e.kids[k].value, .slice ka e.kids[k].kids.length kc] 104
    have HP := show Hid _ from T8 nv na (d := d) (c := c + 1) hlt
    have HX := show Hid (w6 nv na d (c + 1 + n8 (e.kids.take k)) e.kids[k] = false → w6 nv na (d + 1) c e = false) from fun h => HSC.out.trans (Y3 hlt h)
    have HT := show Hid _ from V5 hlt
    clear hcell hncb bz hkk M
    go_wp2_with fail
    refine (ih (deep + 1) (by omega) (by omega) e.kids[k] _ _ (c + 1 + n8 (e.kids.take k)) cb _ ⟨_, rfl, HE.out⟩ HNCB.out (HM.out.blk 0 rfl) hle).mono ?_
    rintro x w2 ⟨rfl, r1, ⟨u, r2⟩, kp⟩
    obtain ⟨q, hq⟩ : ∃ q, q = w6 nv na d (c + 1 + n8 (e.kids.take k)) e.kids[k] := ⟨_, rfl⟩
    rw [← hq] at r1 ⊢
    have HQ2 := show Hid _ from hq
    clear hq x0 x1 x2 g0 g1 g2
    cases q
    ·have M2 := HM.out.callB 0 rfl kp r2
     have HF := show Hid _ from HX.out HQ2.out.symm
     clear r1 r2 kp
     go_wp2_with fail
     go_ret
     exact ⟨f7 (by rw [HF.out]), fun h => absurd (h.symm.trans HF.out) (by simp), ⟨_, M2.blk 0 rfl⟩, M2.kept⟩
    ·have M2 := (HM.out.callB 0 rfl kp (r1 rfl)).take 4
     have HM2 := show Hid _ from M2
     clear r1 r2 kp M2
     go_wp2_with fail
     refine ⟨⟨k + 1, by omega, by go_num, by rw [HP.out, HPRE.out, ← HQ2.out]; rfl, ?_⟩, by simp [intOf]; omega⟩
     rw [HT.out, show c + 1 + (n8 (e.kids.take k) + (1 + v7 e.kids[k])) = c + 1 + n8 (e.kids.take k) + 1 + v7 e.kids[k] by omega]
     exact HM2.out
   ·have hkn : k = e.kids.length := by omega
    subst hkn
    have HM := show Hid _ from M
    have HS : Hid (w6 nv na (d + 1) c e = true) := HSC.out.trans HPRE.out
    clear M
    go_wp2_with fail
    go_ret
    refine ⟨f7 (by rw [HS.out]), fun _ => ?_, ⟨_, HM.out.blk 0 rfl⟩, HM.out.kept⟩
    have := HM.out.blk 0 rfl
    rw [ca3 (b99 _)] at this
    rw [A3]
    exact this
theorem ba1 (nv na : Nat) (e : b5) : w6 nv na 5 0 e = l6 nv na e := by
 have h : (0 + 1 + v7 e ≤ 15) = (1 + v7 e ≤ 15) := by rw [cc3]
 unfold w6 l6
 simp only [h]
theorem bp3 (a1 a2 : Option Addr) (nv c1 na c2 : Nat) (v3 : Value) (h1 : nv ≤ 9223372036854775807) (h2 : na ≤ 9223372036854775807) (e : b5) (φ : Nat → Prop) (v : Value) (w : World) (h : ab7 w φ v e) :
  Calls Tryz.prog 227 #[.agg #[.slice a1 nv c1, .slice a2 na c2, v3], v] w fun x w' => x = .returned (.bool (l6 nv na e)) ∧ Below w.heap.size w w' := by
 obtain ⟨kv, rfl, hk⟩ := h
 obtain ⟨W, hW, M⟩ : ∃ W, W = ((w.alloc (.cells #[.slice a1 nv c1, .slice a2 na c2, v3] 26)).alloc (.cells #[.int .i64 e.kind, .int .i64 e.value, kv] 104)).alloc (.cells #[.int .i64 0] 3) ∧ A9 (fun _ => True) (fun _ => True) w W [.box w.heap.size [.slice a1 nv c1, .slice a2 na c2, v3], .box (w.heap.size + 1) [.int .i64 e.kind, .int .i64 e.value, kv], .box (w.heap.size + 1 + 1) [.int .i64 0]] :=
  ⟨_, rfl, (((A9.start fun _ _ => trivial).box _ _).box' _ _ (by simp)).box' _ _ (by simp)⟩
 have hb := M.below fun _ _ => trivial
 have HK := show Hid _ from s9.nice _ _ _ _ φ (fun b => φ b ∧ b < w.heap.size) ⟨hb.size, fun b hl hf => ⟨⟨hf, hl⟩, hb.block b hl⟩⟩ hk
 clear hb hk
 have x0 := M.c 0 0 rfl rfl
 have x1 := M.c 0 1 rfl rfl
 have x2 := M.c 0 2 rfl rfl
 have y0 := M.c 1 0 rfl rfl
 have y1 := M.c 1 1 rfl rfl
 have y2 := M.c 1 2 rfl rfl
 have HM := show Hid _ from M
 rw [hW] at x0 x1 x2 y0 y1 y2
 clear M
 go_enter Tryz.func227, Tryz.ntmps227
 go_wp2_with fail
 rw [← hW]
 clear hW x0 x1 x2 y0 y1 y2
 refine (bp2 a1 a2 nv c1 na c2 v3 h1 h2 5 1 (by omega) (by omega) e _ _ 0 _ _ ⟨kv, rfl, HK.out⟩ (fun h => by have := h.2; omega) (HM.out.blk 2 rfl) (by omega)).mono ?_
 rintro x w1 ⟨rfl, -, ⟨u, r2⟩, kp⟩
 rw [ba1]
 have M := HM.out.callB 2 rfl kp r2
 have HB := show Hid _ from M.below fun _ _ => trivial
 clear kp r2 M
 go_wp2_with fail
 go_ret
 exact ⟨rfl, HB.out⟩
theorem Y2 (k n : Int) (a : Option Addr) (len c : Nat) (w : World) (hl : len ≤ 9223372036854775807) : Calls Tryz.prog 251 #[.agg #[.int .i64 k, .int .i64 n, .slice a len c]] w fun e w' => e = .returned (.bool (decide (k = 0) && decide (n = 0) && decide (len = 0))) ∧ Below w.heap.size w w' := by
 by_cases q1 : k = 0
 case neg =>
  have p1 : (k == 0) = false := by simp [q1]
  have HQ := show Hid _ from q1
  clear q1
  go_enter Tryz.func251, Tryz.ntmps251
  go_wp2_with fail
  go_ret
  exact ⟨f7 (by rw [decide_eq_false HQ.out]; rfl), by go_grown⟩
 have p1 : (k == 0) = true := by simp [q1]
 have HQ := show Hid _ from q1
 clear q1
 by_cases q2 : n = 0
 case neg =>
  have p2 : (n == 0) = false := by simp [q2]
  have HQ2 := show Hid _ from q2
  clear q2
  go_enter Tryz.func251, Tryz.ntmps251
  go_wp2_with fail
  go_ret
  exact ⟨f7 (by rw [decide_eq_true HQ.out, decide_eq_false HQ2.out]; rfl), by go_grown⟩
 have p2 : (n == 0) = true := by simp [q2]
 have HQ2 := show Hid _ from q2
 clear q2
 by_cases q3 : len = 0
 case neg =>
  have p3 : ((len : Int) == 0) = false := by simp [q3]
  have HQ3 := show Hid _ from q3
  clear q3
  go_enter Tryz.func251, Tryz.ntmps251
  go_wp2_with fail
  go_ret
  exact ⟨f7 (by rw [decide_eq_true HQ.out, decide_eq_true HQ2.out, decide_eq_false HQ3.out]; rfl), by go_grown⟩
 have p3 : ((len : Int) == 0) = true := by simp [q3]
 have HQ3 := show Hid _ from q3
 clear q3
 go_enter Tryz.func251, Tryz.ntmps251
 go_wp2_with fail
 go_ret
 exact ⟨f7 (by rw [decide_eq_true HQ.out, decide_eq_true HQ2.out, decide_eq_true HQ3.out]; rfl), by go_grown⟩
theorem aj9.form {w : World} {φ : Nat → Prop} {v : Value} {s : b6} (h : aj9 w φ v s) : ∃ ai ci av cv ab cb ae ce, v = .agg #[.int .i64 s.kind, .int .i64 s.target, .int .i64 s.index.kind, .int .i64 s.index.value, .slice ai s.index.kids.length ci, .int .i64 s.value.kind, .int .i64 s.value.value, .slice av s.value.kids.length cv, .int .i64 s.count, .slice ab s.body.length cb, .slice ae s.els.length ce] ∧
  (s9 w φ (.slice ai s.index.kids.length ci) s.index.kids ∧ s9 w φ (.slice av s.value.kids.length cv) s.value.kids ∧ A8 w φ (.slice ab s.body.length cb) s.body ∧ A8 w φ (.slice ae s.els.length ce) s.els) ∧
  (s.index.kids.length ≤ 9223372036854775807 ∧ s.value.kids.length ≤ 9223372036854775807 ∧ s.body.length ≤ 9223372036854775807 ∧ s.els.length ≤ 9223372036854775807) := by
 obtain ⟨iv, vv, bv, ev, rfl, h1, h2, h3, h4⟩ := h
 obtain ⟨ai, ci, rfl, -, l1, -⟩ := h1.open
 obtain ⟨av, cv, rfl, -, l2, -⟩ := h2.open
 obtain ⟨ab, cb, rfl, -, l3, -⟩ := h3.open
 obtain ⟨ae, ce, rfl, -, l4, -⟩ := h4.open
 exact ⟨ai, ci, av, cv, ab, cb, ae, ce, rfl, ⟨h1, h2, h3, h4⟩, l1, l2, l3, l4⟩
theorem aT7 (φ : Nat → Prop) (v : Value) (s : b6) (w : World) (h : aj9 w φ v s) :
  Calls Tryz.prog 232 #[v] w fun x w' => x = .returned (.bool (z6 s)) ∧ Below w.heap.size w w' := by
 obtain ⟨ai, ci, av, cv, ab, cb, ae, ce, rfl, -, hl⟩ := h.form
 have HL := show Hid _ from hl
 have hl3 := hl.2.2.1
 have hl4 := hl.2.2.2
 clear h hl
 have HD : Hid (z6 s = if (s.kind = 3 ∨ s.kind = 4) then decide (s.target = 0) && (if s.kind = 4 then decide (s.els.length = 0) && decide (1 ≤ s.count) && decide (s.count ≤ 3) && noneB s.index && noneB s.value else decide (s.count = 0) && noneB s.index)
   else decide (s.body.length = 0) && decide (s.els.length = 0) && decide (s.count = 0) && (decide (s.kind = 2) || noneB s.index)) := rfl
 obtain ⟨W, hW, M⟩ : ∃ W, W = w.alloc (.cells #[.int .i64 s.kind, .int .i64 s.target, .int .i64 s.index.kind, .int .i64 s.index.value, .slice ai s.index.kids.length ci, .int .i64 s.value.kind, .int .i64 s.value.value, .slice av s.value.kids.length cv, .int .i64 s.count, .slice ab s.body.length cb, .slice ae s.els.length ce] 106) ∧ A9 (fun _ => True) (fun _ => True) w W [.box w.heap.size [.int .i64 s.kind, .int .i64 s.target, .int .i64 s.index.kind, .int .i64 s.index.value, .slice ai s.index.kids.length ci, .int .i64 s.value.kind, .int .i64 s.value.value, .slice av s.value.kids.length cv, .int .i64 s.count, .slice ab s.body.length cb, .slice ae s.els.length ce]] :=
  ⟨_, rfl, (A9.start fun _ _ => trivial).box _ _⟩
 by_cases qk : s.kind = 3
 ·have pk : (s.kind == 3) = true := by simp [qk]
  have pk4 : (s.kind == 4) = false := by simp [qk]
  have pk2 : (s.kind == 2) = false := by simp [qk]
  by_cases qpt : s.target = 0
  case neg =>
   have pt : (s.target != 0) = true := by first | (simp [qpt]; done) | (simp; omega) | exact decide_eq_true (by omega) | exact decide_eq_false (by omega)
   have HP : Hid (z6 s = false) := by rw [Hid, HD.out]; simp [qk, qpt]
   clear qpt qk HD
   have c0 := M.c 0 0 rfl rfl
   have c1 := M.c 0 1 rfl rfl
   have c2 := M.c 0 2 rfl rfl
   have c3 := M.c 0 3 rfl rfl
   have c4 := M.c 0 4 rfl rfl
   have c5 := M.c 0 5 rfl rfl
   have c6 := M.c 0 6 rfl rfl
   have c7 := M.c 0 7 rfl rfl
   have c8 := M.c 0 8 rfl rfl
   have c9 := M.c 0 9 rfl rfl
   have c10 := M.c 0 10 rfl rfl
   have HM := show Hid _ from M
   rw [hW] at c0 c1 c2 c3 c4 c5 c6 c7 c8 c9 c10
   clear M
   go_enter Tryz.func232, Tryz.ntmps232
   go_wp2_with fail
   rw [← hW]
   clear hW
   have M := HM.out
   clear HM c0 c1 c2 c3 c4 c5 c6 c7 c8 c9 c10
   go_ret
   exact ⟨f7 (by rw [HP.out]), M.below fun _ _ => trivial⟩
  have pt : (s.target != 0) = false := by first | (simp [qpt]; done) | (simp; omega) | exact decide_eq_true (by omega) | exact decide_eq_false (by omega)
  by_cases qpc : s.count = 0
  case neg =>
   have pc : (s.count == 0) = false := by first | (simp [qpc]; done) | (simp; omega) | exact decide_eq_true (by omega) | exact decide_eq_false (by omega)
   have HP : Hid (z6 s = false) := by rw [Hid, HD.out]; simp [qk, qpt, qpc]
   clear qpc qk qpt HD
   have c0 := M.c 0 0 rfl rfl
   have c1 := M.c 0 1 rfl rfl
   have c2 := M.c 0 2 rfl rfl
   have c3 := M.c 0 3 rfl rfl
   have c4 := M.c 0 4 rfl rfl
   have c5 := M.c 0 5 rfl rfl
   have c6 := M.c 0 6 rfl rfl
   have c7 := M.c 0 7 rfl rfl
   have c8 := M.c 0 8 rfl rfl
   have c9 := M.c 0 9 rfl rfl
   have c10 := M.c 0 10 rfl rfl
   have HM := show Hid _ from M
   rw [hW] at c0 c1 c2 c3 c4 c5 c6 c7 c8 c9 c10
   clear M
   go_enter Tryz.func232, Tryz.ntmps232
   go_wp2_with fail
   rw [← hW]
   clear hW
   have M := HM.out
   clear HM c0 c1 c2 c3 c4 c5 c6 c7 c8 c9 c10
   go_ret
   exact ⟨f7 (by rw [HP.out]), M.below fun _ _ => trivial⟩
  have pc : (s.count == 0) = true := by first | (simp [qpc]; done) | (simp; omega) | exact decide_eq_true (by omega) | exact decide_eq_false (by omega)
  have HP : Hid (z6 s = noneB s.index) := by rw [Hid, HD.out]; simp [qk, qpt, qpc]
  clear qpt qpc HD qk
  have c0 := M.c 0 0 rfl rfl
  have c1 := M.c 0 1 rfl rfl
  have c2 := M.c 0 2 rfl rfl
  have c3 := M.c 0 3 rfl rfl
  have c4 := M.c 0 4 rfl rfl
  have c5 := M.c 0 5 rfl rfl
  have c6 := M.c 0 6 rfl rfl
  have c7 := M.c 0 7 rfl rfl
  have c8 := M.c 0 8 rfl rfl
  have c9 := M.c 0 9 rfl rfl
  have c10 := M.c 0 10 rfl rfl
  have HM := show Hid _ from M
  rw [hW] at c0 c1 c2 c3 c4 c5 c6 c7 c8 c9 c10
  clear M
  go_enter Tryz.func232, Tryz.ntmps232
  go_wp2_with fail
  rw [← hW]
  clear hW
  have M := HM.out
  clear HM c0 c1 c2 c3 c4 c5 c6 c7 c8 c9 c10
  refine (Y2 s.index.kind s.index.value ai s.index.kids.length ci _ HL.out.1).mono ?_
  rintro x w1 ⟨rfl, b1⟩
  rw [show (decide (s.index.kind = 0) && decide (s.index.value = 0) && decide (s.index.kids.length = 0)) = noneB s.index from rfl]
  replace M := M.call b1
  clear b1
  have HM := show Hid _ from M
  clear M
  go_wp2_with fail
  go_ret
  exact ⟨f7 (by rw [HP.out]), HM.out.below fun _ _ => trivial⟩
 have qk3 := qk
 have pk3 : (s.kind == 3) = false := by simp [qk]
 clear qk
 by_cases qk : s.kind = 4
 ·have pk4 : (s.kind == 4) = true := by simp [qk]
  clear qk3
  by_cases qpt : s.target = 0
  case neg =>
   have pt : (s.target != 0) = true := by first | (simp [qpt]; done) | (simp; omega) | exact decide_eq_true (by omega) | exact decide_eq_false (by omega)
   have HP : Hid (z6 s = false) := by rw [Hid, HD.out]; simp [qk, qpt]
   clear qpt qk HD
   have c0 := M.c 0 0 rfl rfl
   have c1 := M.c 0 1 rfl rfl
   have c2 := M.c 0 2 rfl rfl
   have c3 := M.c 0 3 rfl rfl
   have c4 := M.c 0 4 rfl rfl
   have c5 := M.c 0 5 rfl rfl
   have c6 := M.c 0 6 rfl rfl
   have c7 := M.c 0 7 rfl rfl
   have c8 := M.c 0 8 rfl rfl
   have c9 := M.c 0 9 rfl rfl
   have c10 := M.c 0 10 rfl rfl
   have HM := show Hid _ from M
   rw [hW] at c0 c1 c2 c3 c4 c5 c6 c7 c8 c9 c10
   clear M
   go_enter Tryz.func232, Tryz.ntmps232
   go_wp2_with fail
   rw [← hW]
   clear hW
   have M := HM.out
   clear HM c0 c1 c2 c3 c4 c5 c6 c7 c8 c9 c10
   go_ret
   exact ⟨f7 (by rw [HP.out]), M.below fun _ _ => trivial⟩
  have pt : (s.target != 0) = false := by first | (simp [qpt]; done) | (simp; omega) | exact decide_eq_true (by omega) | exact decide_eq_false (by omega)
  by_cases qpe : s.els.length = 0
  case neg =>
   have pe : ((s.els.length : Int) == 0) = false := by first | (simp [qpe]; done) | (simp; omega) | exact decide_eq_true (by omega) | exact decide_eq_false (by omega)
   have HP : Hid (z6 s = false) := by rw [Hid, HD.out]; simp [qk, qpt, qpe]
   clear qpe qk qpt HD
   have c0 := M.c 0 0 rfl rfl
   have c1 := M.c 0 1 rfl rfl
   have c2 := M.c 0 2 rfl rfl
   have c3 := M.c 0 3 rfl rfl
   have c4 := M.c 0 4 rfl rfl
   have c5 := M.c 0 5 rfl rfl
   have c6 := M.c 0 6 rfl rfl
   have c7 := M.c 0 7 rfl rfl
   have c8 := M.c 0 8 rfl rfl
   have c9 := M.c 0 9 rfl rfl
   have c10 := M.c 0 10 rfl rfl
   have HM := show Hid _ from M
   rw [hW] at c0 c1 c2 c3 c4 c5 c6 c7 c8 c9 c10
   clear M
   go_enter Tryz.func232, Tryz.ntmps232
   go_wp2_with fail
   rw [← hW]
   clear hW
   have M := HM.out
   clear HM c0 c1 c2 c3 c4 c5 c6 c7 c8 c9 c10
   go_ret
   exact ⟨f7 (by rw [HP.out]), M.below fun _ _ => trivial⟩
  have pe : ((s.els.length : Int) == 0) = true := by first | (simp [qpe]; done) | (simp; omega) | exact decide_eq_true (by omega) | exact decide_eq_false (by omega)
  by_cases qp1 : 1 ≤ s.count
  case neg =>
   have p1 : decide (1 ≤ s.count) = false := by first | (simp [qp1]; done) | (simp; omega) | exact decide_eq_true (by omega) | exact decide_eq_false (by omega)
   have HP : Hid (z6 s = false) := by rw [Hid, HD.out]; simp [qk, qpt, qpe, qp1]
   clear qp1 qk qpt qpe HD
   have c0 := M.c 0 0 rfl rfl
   have c1 := M.c 0 1 rfl rfl
   have c2 := M.c 0 2 rfl rfl
   have c3 := M.c 0 3 rfl rfl
   have c4 := M.c 0 4 rfl rfl
   have c5 := M.c 0 5 rfl rfl
   have c6 := M.c 0 6 rfl rfl
   have c7 := M.c 0 7 rfl rfl
   have c8 := M.c 0 8 rfl rfl
   have c9 := M.c 0 9 rfl rfl
   have c10 := M.c 0 10 rfl rfl
   have HM := show Hid _ from M
   rw [hW] at c0 c1 c2 c3 c4 c5 c6 c7 c8 c9 c10
   clear M
   go_enter Tryz.func232, Tryz.ntmps232
   go_wp2_with fail
   rw [← hW]
   clear hW
   have M := HM.out
   clear HM c0 c1 c2 c3 c4 c5 c6 c7 c8 c9 c10
   go_ret
   exact ⟨f7 (by rw [HP.out]), M.below fun _ _ => trivial⟩
  have p1 : decide (1 ≤ s.count) = true := by first | (simp [qp1]; done) | (simp; omega) | exact decide_eq_true (by omega) | exact decide_eq_false (by omega)
  by_cases qp3 : s.count ≤ 3
  case neg =>
   have p3 : decide (s.count ≤ 3) = false := by first | (simp [qp3]; done) | (simp; omega) | exact decide_eq_true (by omega) | exact decide_eq_false (by omega)
   have HP : Hid (z6 s = false) := by rw [Hid, HD.out]; simp [qk, qpt, qpe, qp1, qp3]
   clear qp3 qk qpt qpe qp1 HD
   have c0 := M.c 0 0 rfl rfl
   have c1 := M.c 0 1 rfl rfl
   have c2 := M.c 0 2 rfl rfl
   have c3 := M.c 0 3 rfl rfl
   have c4 := M.c 0 4 rfl rfl
   have c5 := M.c 0 5 rfl rfl
   have c6 := M.c 0 6 rfl rfl
   have c7 := M.c 0 7 rfl rfl
   have c8 := M.c 0 8 rfl rfl
   have c9 := M.c 0 9 rfl rfl
   have c10 := M.c 0 10 rfl rfl
   have HM := show Hid _ from M
   rw [hW] at c0 c1 c2 c3 c4 c5 c6 c7 c8 c9 c10
   clear M
   go_enter Tryz.func232, Tryz.ntmps232
   go_wp2_with fail
   rw [← hW]
   clear hW
   have M := HM.out
   clear HM c0 c1 c2 c3 c4 c5 c6 c7 c8 c9 c10
   go_ret
   exact ⟨f7 (by rw [HP.out]), M.below fun _ _ => trivial⟩
  have p3 : decide (s.count ≤ 3) = true := by first | (simp [qp3]; done) | (simp; omega) | exact decide_eq_true (by omega) | exact decide_eq_false (by omega)
  have HP0 : Hid (z6 s = (noneB s.index && noneB s.value)) := by rw [Hid, HD.out]; simp [qk, qpt, qpe, qp1, qp3]
  clear qpt qpe qp1 qp3 HD qk
  have c0 := M.c 0 0 rfl rfl
  have c1 := M.c 0 1 rfl rfl
  have c2 := M.c 0 2 rfl rfl
  have c3 := M.c 0 3 rfl rfl
  have c4 := M.c 0 4 rfl rfl
  have c5 := M.c 0 5 rfl rfl
  have c6 := M.c 0 6 rfl rfl
  have c7 := M.c 0 7 rfl rfl
  have c8 := M.c 0 8 rfl rfl
  have c9 := M.c 0 9 rfl rfl
  have c10 := M.c 0 10 rfl rfl
  have HM := show Hid _ from M
  rw [hW] at c0 c1 c2 c3 c4 c5 c6 c7 c8 c9 c10
  clear M
  go_enter Tryz.func232, Tryz.ntmps232
  go_wp2_with fail
  rw [← hW]
  clear hW
  have M := HM.out
  clear HM c0 c1 c2 c3 c4 c5 c6 c7 c8 c9 c10
  refine (Y2 s.index.kind s.index.value ai s.index.kids.length ci _ HL.out.1).mono ?_
  rintro x w1 ⟨rfl, b1⟩
  rw [show (decide (s.index.kind = 0) && decide (s.index.value = 0) && decide (s.index.kids.length = 0)) = noneB s.index from rfl]
  replace M := M.call b1
  clear b1
  obtain ⟨b, hb⟩ : ∃ b, b = noneB s.index := ⟨_, rfl⟩
  rw [← hb]
  have HB := show Hid _ from hb
  clear hb
  cases b
  ·have HP : Hid (z6 s = false) := by rw [Hid, HP0.out, ← HB.out]; rfl
   clear HP0
   have HM := show Hid _ from M
   clear M
   go_wp2_with fail
   go_ret
   exact ⟨f7 (by rw [HP.out]), HM.out.below fun _ _ => trivial⟩
  ·have HP : Hid (z6 s = noneB s.value) := by rw [Hid, HP0.out, ← HB.out]; rfl
   clear HP0
   have c5 := M.c 0 5 rfl rfl
   have c6 := M.c 0 6 rfl rfl
   have c7 := M.c 0 7 rfl rfl
   have HM := show Hid _ from M
   clear M
   go_wp2_with fail
   have M := HM.out
   clear HM c5 c6 c7
   refine (Y2 s.value.kind s.value.value av s.value.kids.length cv _ HL.out.2.1).mono ?_
   rintro x w1 ⟨rfl, b1⟩
   rw [show (decide (s.value.kind = 0) && decide (s.value.value = 0) && decide (s.value.kids.length = 0)) = noneB s.value from rfl]
   replace M := M.call b1
   clear b1
   have HM := show Hid _ from M
   clear M
   go_wp2_with fail
   go_ret
   exact ⟨f7 (by rw [HP.out]), HM.out.below fun _ _ => trivial⟩
 have qk4 := qk
 have pk4 : (s.kind == 4) = false := by simp [qk]
 clear qk
 by_cases qpb : s.body.length = 0
 case neg =>
  have pb : decide (0 < s.body.length) = true := by first | (simp [qpb]; done) | (simp; omega) | exact decide_eq_true (by omega) | exact decide_eq_false (by omega)
  have HP : Hid (z6 s = false) := by rw [Hid, HD.out]; simp [qk3, qk4, qpb]
  clear qpb qk3 qk4 HD
  have c0 := M.c 0 0 rfl rfl
  have c1 := M.c 0 1 rfl rfl
  have c2 := M.c 0 2 rfl rfl
  have c3 := M.c 0 3 rfl rfl
  have c4 := M.c 0 4 rfl rfl
  have c5 := M.c 0 5 rfl rfl
  have c6 := M.c 0 6 rfl rfl
  have c7 := M.c 0 7 rfl rfl
  have c8 := M.c 0 8 rfl rfl
  have c9 := M.c 0 9 rfl rfl
  have c10 := M.c 0 10 rfl rfl
  have HM := show Hid _ from M
  rw [hW] at c0 c1 c2 c3 c4 c5 c6 c7 c8 c9 c10
  clear M
  go_enter Tryz.func232, Tryz.ntmps232
  go_wp2_with fail
  rw [← hW]
  clear hW
  have M := HM.out
  clear HM c0 c1 c2 c3 c4 c5 c6 c7 c8 c9 c10
  go_ret
  exact ⟨f7 (by rw [HP.out]), M.below fun _ _ => trivial⟩
 have pb : decide (0 < s.body.length) = false := by first | (simp [qpb]; done) | (simp; omega) | exact decide_eq_true (by omega) | exact decide_eq_false (by omega)
 by_cases qpe : s.els.length = 0
 case neg =>
  have pe : decide (0 < s.els.length) = true := by first | (simp [qpe]; done) | (simp; omega) | exact decide_eq_true (by omega) | exact decide_eq_false (by omega)
  have HP : Hid (z6 s = false) := by rw [Hid, HD.out]; simp [qk3, qk4, qpb, qpe]
  clear qpe qk3 qk4 qpb HD
  have c0 := M.c 0 0 rfl rfl
  have c1 := M.c 0 1 rfl rfl
  have c2 := M.c 0 2 rfl rfl
  have c3 := M.c 0 3 rfl rfl
  have c4 := M.c 0 4 rfl rfl
  have c5 := M.c 0 5 rfl rfl
  have c6 := M.c 0 6 rfl rfl
  have c7 := M.c 0 7 rfl rfl
  have c8 := M.c 0 8 rfl rfl
  have c9 := M.c 0 9 rfl rfl
  have c10 := M.c 0 10 rfl rfl
  have HM := show Hid _ from M
  rw [hW] at c0 c1 c2 c3 c4 c5 c6 c7 c8 c9 c10
  clear M
  go_enter Tryz.func232, Tryz.ntmps232
  go_wp2_with fail
  rw [← hW]
  clear hW
  have M := HM.out
  clear HM c0 c1 c2 c3 c4 c5 c6 c7 c8 c9 c10
  go_ret
  exact ⟨f7 (by rw [HP.out]), M.below fun _ _ => trivial⟩
 have pe : decide (0 < s.els.length) = false := by first | (simp [qpe]; done) | (simp; omega) | exact decide_eq_true (by omega) | exact decide_eq_false (by omega)
 by_cases qpc : s.count = 0
 case neg =>
  have pc : (s.count == 0) = false := by first | (simp [qpc]; done) | (simp; omega) | exact decide_eq_true (by omega) | exact decide_eq_false (by omega)
  have HP : Hid (z6 s = false) := by rw [Hid, HD.out]; simp [qk3, qk4, qpb, qpe, qpc]
  clear qpc qk3 qk4 qpb qpe HD
  have c0 := M.c 0 0 rfl rfl
  have c1 := M.c 0 1 rfl rfl
  have c2 := M.c 0 2 rfl rfl
  have c3 := M.c 0 3 rfl rfl
  have c4 := M.c 0 4 rfl rfl
  have c5 := M.c 0 5 rfl rfl
  have c6 := M.c 0 6 rfl rfl
  have c7 := M.c 0 7 rfl rfl
  have c8 := M.c 0 8 rfl rfl
  have c9 := M.c 0 9 rfl rfl
  have c10 := M.c 0 10 rfl rfl
  have HM := show Hid _ from M
  rw [hW] at c0 c1 c2 c3 c4 c5 c6 c7 c8 c9 c10
  clear M
  go_enter Tryz.func232, Tryz.ntmps232
  go_wp2_with fail
  rw [← hW]
  clear hW
  have M := HM.out
  clear HM c0 c1 c2 c3 c4 c5 c6 c7 c8 c9 c10
  go_ret
  exact ⟨f7 (by rw [HP.out]), M.below fun _ _ => trivial⟩
 have pc : (s.count == 0) = true := by first | (simp [qpc]; done) | (simp; omega) | exact decide_eq_true (by omega) | exact decide_eq_false (by omega)
 by_cases qk2 : s.kind = 2
 ·have pk2 : (s.kind == 2) = true := by simp [qk2]
  have HP : Hid (z6 s = true) := by rw [Hid, HD.out]; simp [qk2, qpb, qpe, qpc]
  clear qk2 qk3 qk4 qpb qpe qpc HD
  have c0 := M.c 0 0 rfl rfl
  have c1 := M.c 0 1 rfl rfl
  have c2 := M.c 0 2 rfl rfl
  have c3 := M.c 0 3 rfl rfl
  have c4 := M.c 0 4 rfl rfl
  have c5 := M.c 0 5 rfl rfl
  have c6 := M.c 0 6 rfl rfl
  have c7 := M.c 0 7 rfl rfl
  have c8 := M.c 0 8 rfl rfl
  have c9 := M.c 0 9 rfl rfl
  have c10 := M.c 0 10 rfl rfl
  have HM := show Hid _ from M
  rw [hW] at c0 c1 c2 c3 c4 c5 c6 c7 c8 c9 c10
  clear M
  go_enter Tryz.func232, Tryz.ntmps232
  go_wp2_with fail
  rw [← hW]
  clear hW
  have M := HM.out
  clear HM c0 c1 c2 c3 c4 c5 c6 c7 c8 c9 c10
  go_ret
  exact ⟨f7 (by rw [HP.out]), M.below fun _ _ => trivial⟩
 ·have pk2 : (s.kind == 2) = false := by simp [qk2]
  have HP : Hid (z6 s = noneB s.index) := by rw [Hid, HD.out]; simp [qk2, qk3, qk4, qpb, qpe, qpc]
  clear qk2 qk3 qk4 qpb qpe qpc HD
  have c0 := M.c 0 0 rfl rfl
  have c1 := M.c 0 1 rfl rfl
  have c2 := M.c 0 2 rfl rfl
  have c3 := M.c 0 3 rfl rfl
  have c4 := M.c 0 4 rfl rfl
  have c5 := M.c 0 5 rfl rfl
  have c6 := M.c 0 6 rfl rfl
  have c7 := M.c 0 7 rfl rfl
  have c8 := M.c 0 8 rfl rfl
  have c9 := M.c 0 9 rfl rfl
  have c10 := M.c 0 10 rfl rfl
  have HM := show Hid _ from M
  rw [hW] at c0 c1 c2 c3 c4 c5 c6 c7 c8 c9 c10
  clear M
  go_enter Tryz.func232, Tryz.ntmps232
  go_wp2_with fail
  rw [← hW]
  clear hW
  have M := HM.out
  clear HM c0 c1 c2 c3 c4 c5 c6 c7 c8 c9 c10
  refine (Y2 s.index.kind s.index.value ai s.index.kids.length ci _ HL.out.1).mono ?_
  rintro x w1 ⟨rfl, b1⟩
  rw [show (decide (s.index.kind = 0) && decide (s.index.value = 0) && decide (s.index.kids.length = 0)) = noneB s.index from rfl]
  replace M := M.call b1
  clear b1
  have HM := show Hid _ from M
  clear M
  go_wp2_with fail
  go_ret
  exact ⟨f7 (by rw [HP.out]), HM.out.below fun _ _ => trivial⟩
end Go.Proofs.YthikdkjjdeehoaaGreat
