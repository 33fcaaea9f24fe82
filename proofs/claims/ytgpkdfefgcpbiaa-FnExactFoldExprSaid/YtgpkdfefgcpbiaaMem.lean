/-
  Memory as a list of what a call owns: boxes, rows, and data that hang on memory which nobody writes. One lemma carries all of it over each step. Conditions: none.
-/
import Derived.Test.YtgpkdfefgcpbiaaRRel
namespace Go.Proofs.Ytgpkdfefgcpbiaa
set_option linter.unusedVariables false
set_option linter.unusedSimpArgs false
open Go Go.RowKit

/-- On these blocks nothing has turned, and they may be read from then on. -/
def Agr (φ φ' : Nat → Prop) (w w' : World) : Prop := w.heap.size ≤ w'.heap.size ∧ ∀ b, b < w.heap.size → φ b → φ' b ∧ w'.heap[b]? = w.heap[b]?
/-- What hangs on the blocks of a set alone. -/
def Nice (R : World → (Nat → Prop) → Prop) : Prop := ∀ w w' φ φ', Agr φ φ' w w' → R w φ → R w' φ'

theorem Agr.below {φ : Nat → Prop} {w w' : World} (h : Below w.heap.size w w') : Agr φ φ w w' := ⟨h.size, fun b hb hf => ⟨hf, h.block b hb⟩⟩
theorem Agr.mono {φ φ' : Nat → Prop} {w : World} (h : ∀ b, b < w.heap.size → φ b → φ' b) : Agr φ φ' w w := ⟨Nat.le_refl _, fun b hb hf => ⟨h b hb hf, rfl⟩⟩
theorem Agr.cell {φ φ' : Nat → Prop} {w w' : World} (h : Agr φ φ' w w') {b o : Nat} (hb : b < w.heap.size) (hf : φ b) : w'.cell? ⟨b, o, none⟩ = w.cell? ⟨b, o, none⟩ := by
  simp only [World.cell?, (h.2 b hb hf).2]

/-- A row in blocks of a set. -/
def RowF (w : World) (φ : Nat → Prop) (v : Value) (n sz : Nat) (xs : List Value) : Prop :=
  xs.length = n * sz ∧ ∃ a cap, v = .slice a n cap ∧ n ≤ cap ∧ cap ≤ maxLen ∧
    (0 < n → ∃ b off, a = some ⟨b, off, none⟩ ∧ b < w.heap.size ∧ φ b ∧ ∀ j u, xs[j]? = some u → w.cell? ⟨b, off + j, none⟩ = some u)
theorem RowF.nice (v : Value) (n sz : Nat) (xs : List Value) : Nice fun w φ => RowF w φ v n sz xs := by
  rintro w w' φ φ' ha ⟨hl, a, cap, rfl, h1, h2, h3⟩
  refine ⟨hl, a, cap, rfl, h1, h2, fun hn => ?_⟩
  obtain ⟨b, off, rfl, hb, hf, hc⟩ := h3 hn
  exact ⟨b, off, rfl, Nat.lt_of_lt_of_le hb ha.1, (ha.2 b hb hf).1, fun j u hj => (ha.cell hb hf).trans (hc j u hj)⟩
theorem RowF.row {w : World} {φ : Nat → Prop} {v : Value} {n sz : Nat} {xs : List Value} (h : RowF w φ v n sz xs) : Row w v n sz xs := by
  obtain ⟨hl, a, cap, rfl, h1, h2, h3⟩ := h
  refine ⟨hl, a, cap, rfl, h1, h2, fun hn => ?_⟩
  obtain ⟨b, off, rfl, hb, _, hc⟩ := h3 hn
  exact ⟨b, off, rfl, hb, hc⟩
theorem Row.rowF {w : World} {v : Value} {n sz : Nat} {xs : List Value} (h : Row w v n sz xs) {φ : Nat → Prop} (hf : ∀ b, b < w.heap.size → φ b) : RowF w φ v n sz xs := by
  obtain ⟨hl, a, cap, rfl, h1, h2, h3⟩ := h
  refine ⟨hl, a, cap, rfl, h1, h2, fun hn => ?_⟩
  obtain ⟨b, off, rfl, hb, hc⟩ := h3 hn
  exact ⟨b, off, rfl, hb, hf b hb, hc⟩
theorem RowF.nil (w : World) (φ : Nat → Prop) (sz : Nat) : RowF w φ (.slice none 0 0) 0 sz [] := ⟨by simp, none, 0, rfl, Nat.le_refl _, by unfold maxLen; omega, fun h => absurd h (by omega)⟩
theorem owns_rowF {w : World} {lo : Nat} {e : TypeId} {sz : Nat} {v : Value} {n : Nat} {xs : List Value} (h : w.ownsRow lo e sz v n xs) {φ : Nat → Prop} (hf : ∀ g, v.ownBlock = some g → φ g) : RowF w φ v n sz xs := by
  obtain ⟨hl, a, cap, hv, h1, h2, h3⟩ := owns_row h
  refine ⟨hl, a, cap, hv, h1, h2, fun hn => ?_⟩
  obtain ⟨b, off, he, hb, hc⟩ := h3 hn
  refine ⟨b, off, he, hb, ?_, hc⟩
  rcases h.2 with ⟨hv', h0⟩ | ⟨g, cap', cur, hv', _⟩
  · omega
  · rw [hv'] at hv
    cases hv
    cases he
    exact hf _ (by rw [hv']; rfl)

inductive Res where
  | box (b : Nat) (cs : List Value)
  | row (e : TypeId) (sz : Nat) (v : Value) (n : Nat) (xs : List Value)
  | dat (R : World → (Nat → Prop) → Prop)
  | own (S : Nat → Prop) (R : World → Prop)
/-- The blocks that it owns. -/
def Res.blk : Res → Nat → Prop
  | .box b _ => fun g => g = b
  | .row _ _ v _ _ => fun g => v.ownBlock = some g
  | .dat _ => fun _ => False
  | .own S _ => S
/-- What may be read: not what is owned. -/
def Fr (φ : Nat → Prop) (L : List Res) (b : Nat) : Prop := φ b ∧ ∀ r ∈ L, ¬ r.blk b
def Res.holds (w : World) (φ : Nat → Prop) : Res → Prop
  | .box b cs => Blk w b cs
  | .row e sz v n xs => w.ownsRow 0 e sz v n xs
  | .dat R => Nice R ∧ R w φ
  | .own S R => (∀ w w', R w → (∀ b, S b → b < w.heap.size → w'.heap[b]? = w.heap[b]?) → R w') ∧ R w ∧ ∀ b, S b → b < w.heap.size
/-- Outside of a set nothing is owned; there nothing has turned. -/
structure Kept (ψ : Nat → Prop) (w w' : World) : Prop where
  os : w'.os = w.os
  tape : w'.tape = w.tape
  output : w'.output = w.output
  size : w.heap.size ≤ w'.heap.size
  block : ∀ b, b < w.heap.size → ψ b → w'.heap[b]? = w.heap[b]?
theorem Kept.refl (ψ : Nat → Prop) (w : World) : Kept ψ w w := ⟨rfl, rfl, rfl, Nat.le_refl _, fun _ _ _ => rfl⟩
theorem Kept.trans {ψ : Nat → Prop} {a b c : World} (h : Kept ψ a b) (k : Kept ψ b c) : Kept ψ a c :=
  ⟨k.os.trans h.os, k.tape.trans h.tape, k.output.trans h.output, Nat.le_trans h.size k.size, fun i hi hp => (k.block i (Nat.lt_of_lt_of_le hi h.size) hp).trans (h.block i hi hp)⟩
theorem Kept.of_below {ψ : Nat → Prop} {w w' : World} {B : Nat} (h : Below B w w') (hB : ∀ b, b < w.heap.size → ψ b → b < B) : Kept ψ w w' := ⟨h.os, h.tape, h.output, h.size, fun b hb hp => h.block b (hB b hb hp)⟩
theorem Kept.below {w w' : World} {ψ : Nat → Prop} (h : Kept ψ w w') (hp : ∀ b, b < w.heap.size → ψ b) : Below w.heap.size w w' := ⟨h.os, h.tape, h.output, h.size, fun b hb => h.block b hb (hp b hb)⟩

structure Mem (φ ψ : Nat → Prop) (w0 w : World) (L : List Res) : Prop where
  kept : Kept ψ w0 w
  fresh : ∀ b, w0.heap.size ≤ b → φ b
  holds : ∀ (r : Res), r ∈ L → r.holds w (Fr φ L)
  dis : ∀ (i j : Nat) (a b : Res) (g : Nat), L[i]? = some a → L[j]? = some b → i ≠ j → a.blk g → ¬ b.blk g
  ge : ∀ (r : Res) (b : Nat), r ∈ L → r.blk b → w0.heap.size ≤ b ∨ ¬ ψ b

section
variable {φ ψ : Nat → Prop} {w0 w w' : World} {L : List Res}

theorem Mem.start (hf : ∀ b, w0.heap.size ≤ b → φ b) : Mem φ ψ w0 w0 [] := ⟨Kept.refl _ _, hf, (fun _ h => by cases h), (fun i j a b g h => by simp at h), (fun _ _ h => by cases h)⟩
theorem Res.lt {r : Res} (h : r.holds w φ) {b : Nat} (hb : r.blk b) : b < w.heap.size := by
  cases r with
  | box b' cs => cases hb; exact Blk.lt h
  | row e sz v n xs => exact (World.ownsRow.lt h b hb).2
  | dat R => cases hb
  | own S R => exact h.2.2 b hb
theorem Mem.lt (M : Mem φ ψ w0 w L) {r : Res} (hr : r ∈ L) {b : Nat} (hb : r.blk b) : b < w.heap.size := Res.lt (M.holds r hr) hb
theorem Mem.frFresh (M : Mem φ ψ w0 w L) : ∀ b, w.heap.size ≤ b → Fr φ L b := fun b hb => ⟨M.fresh b (Nat.le_trans M.kept.size hb), fun r hr he => by have := M.lt hr he; omega⟩
theorem Mem.size (M : Mem φ ψ w0 w L) : w0.heap.size ≤ w.heap.size := M.kept.size
theorem Mem.below (M : Mem φ ψ w0 w L) (hp : ∀ b, b < w0.heap.size → ψ b) : Below w0.heap.size w0 w := M.kept.below hp

/-- A resource is kept where its own block, or what it reads, has not turned. -/
theorem Res.keep {φ' : Nat → Prop} {r : Res} (h : r.holds w φ) (ha : Agr φ φ' w w') (hb : ∀ b, r.blk b → w'.heap[b]? = w.heap[b]?) : r.holds w' φ' := by
  cases r with
  | box b cs => obtain ⟨T, h⟩ := h; exact ⟨T, (hb b rfl).trans h⟩
  | row e sz v n xs => exact (Own.same (lo := 0) (hi := w.heap.size) ⟨h, fun g hg => (World.ownsRow.lt h g hg).2⟩ hb).1
  | dat R => exact ⟨h.1, h.1 _ _ _ _ ha h.2⟩
  | own S R => exact ⟨h.1, h.1 _ _ h.2.1 fun b hs _ => hb b hs, fun b hs => Nat.lt_of_lt_of_le (h.2.2 b hs) ha.1⟩

theorem Mem.call (M : Mem φ ψ w0 w L) (b : Below w.heap.size w w') : Mem φ ψ w0 w' L :=
  ⟨M.kept.trans (Kept.of_below b fun _ h _ => h), M.fresh, fun r hr => Res.keep (M.holds r hr) (Agr.below b) fun g hg => b.block g (M.lt hr hg), M.dis, M.ge⟩
theorem Mem.drew (M : Mem φ ψ w0 w L) : Mem φ ψ w0 w.drew L := M.call (Below.refl _ _).drew

theorem Fr.snoc {r : Res} {b : Nat} : Fr φ (L ++ [r]) b ↔ Fr φ L b ∧ ¬ r.blk b := by
  unfold Fr
  constructor
  · rintro ⟨h1, h2⟩; exact ⟨⟨h1, fun x hx => h2 x (by simp [hx])⟩, h2 r (by simp)⟩
  · rintro ⟨⟨h1, h2⟩, h3⟩
    refine ⟨h1, fun x hx => ?_⟩
    simp only [List.mem_append, List.mem_singleton] at hx
    rcases hx with hx | rfl
    · exact h2 x hx
    · exact h3

/-- A resource more: its block is a new one. -/
theorem Mem.add (M : Mem φ ψ w0 w L) (b : Below w.heap.size w w') (r : Res) (h : r.holds w' (Fr φ (L ++ [r]))) (hg : ∀ g, r.blk g → w.heap.size ≤ g) : Mem φ ψ w0 w' (L ++ [r]) := by
  have M' := M.call b
  refine ⟨M'.kept, M.fresh, fun x hx => ?_, fun i j x y g hi hj hij hx hy => ?_, fun x g hx hxg => ?_⟩
  · simp only [List.mem_append, List.mem_singleton] at hx
    rcases hx with hx | rfl
    · exact Res.keep (M.holds x hx) ⟨b.size, fun c hc hf => ⟨Fr.snoc.2 ⟨hf, fun he => by have := hg c he; omega⟩, b.block c hc⟩⟩ fun g hgx => b.block g (M.lt hx hgx)
    · exact h
  · have lt : ∀ (k : Nat) (z : Res), (L ++ [r])[k]? = some z → (k < L.length ∧ L[k]? = some z) ∨ (k = L.length ∧ z = r) := by
      intro k z hz
      rcases Nat.lt_or_ge k L.length with hk | hk
      · rw [List.getElem?_append_left hk] at hz; exact .inl ⟨hk, hz⟩
      · rw [List.getElem?_append_right hk] at hz
        have : k - L.length = 0 := by
          rcases Nat.eq_zero_or_pos (k - L.length) with h | h
          · exact h
          · rw [List.getElem?_eq_none (by rw [List.length_singleton]; exact h)] at hz; cases hz
        rw [this] at hz; simp at hz
        exact .inr ⟨by omega, hz.symm⟩
    rcases lt i x hi with ⟨hi', h1⟩ | ⟨hi', rfl⟩ <;> rcases lt j y hj with ⟨hj', h2⟩ | ⟨hj', rfl⟩
    · exact M.dis i j x y g h1 h2 hij hx hy
    · have := M.lt (List.mem_of_getElem? h1) hx; have := hg g hy; omega
    · have := M.lt (List.mem_of_getElem? h2) hy; have := hg g hx; omega
    · omega
  · simp only [List.mem_append, List.mem_singleton] at hx
    rcases hx with hx | rfl
    · exact M.ge x g hx hxg
    · exact .inl (Nat.le_trans M.size (hg g hxg))
theorem Mem.box (M : Mem φ ψ w0 w L) (cs : List Value) (T : TypeId) : Mem φ ψ w0 (w.alloc (.cells cs.toArray T)) (L ++ [.box w.heap.size cs]) :=
  M.add ((Below.refl _ _).alloc (Nat.le_refl _) _) _ (Blk.new w cs T) fun g hg => by cases hg; exact Nat.le_refl _
theorem Mem.box' (M : Mem φ ψ w0 w L) (cs : List Value) (T : TypeId) {b : Nat} (hb : b = w.heap.size) : Mem φ ψ w0 (w.alloc (.cells cs.toArray T)) (L ++ [.box b cs]) := by subst hb; exact M.box cs T
theorem Mem.dat (M : Mem φ ψ w0 w L) {R : World → (Nat → Prop) → Prop} (hn : Nice R) (h : R w (Fr φ L)) : Mem φ ψ w0 w (L ++ [.dat R]) :=
  M.add (Below.refl _ _) _ ⟨hn, hn _ _ _ _ (Agr.mono fun b _ hf => Fr.snoc.2 ⟨hf, fun h => by cases h⟩) h⟩ fun g hg => by cases hg
/-- A call that hands back data. -/
theorem Mem.callD (M : Mem φ ψ w0 w L) (b : Below w.heap.size w w') {R : World → (Nat → Prop) → Prop} (hn : Nice R) (h : R w' (Fr φ L)) : Mem φ ψ w0 w' (L ++ [.dat R]) := (M.call b).dat hn h
/-- A call that hands back a row of its own. -/
theorem Mem.callR (M : Mem φ ψ w0 w L) (b : Below w.heap.size w w') {e : TypeId} {sz : Nat} {v : Value} {n : Nat} {xs : List Value} (h : w'.ownsRow w.heap.size e sz v n xs) : Mem φ ψ w0 w' (L ++ [.row e sz v n xs]) :=
  M.add b _ (owns_base h (Nat.zero_le _)) fun g hg => (h.lt g hg).1
theorem Mem.nil (M : Mem φ ψ w0 w L) (e : TypeId) (sz : Nat) : Mem φ ψ w0 w (L ++ [.row e sz (.slice none 0 0) 0 []]) :=
  M.add (Below.refl _ _) _ (World.ownsRow_nil _ _ _ _) fun g hg => by cases hg

theorem Fr.set {r : Res} {i : Nat} {a : Res} (_hi : L[i]? = some a) {b : Nat} (h : Fr φ L b) (hr : ¬ r.blk b) : Fr φ (L.set i r) b :=
  ⟨h.1, fun x hx => by
    rcases List.mem_or_eq_of_mem_set hx with hx | rfl
    · exact h.2 x hx
    · exact hr⟩
/-- A resource is put in another's place: what turns is the elder's block, or new. -/
theorem Mem.put (M : Mem φ ψ w0 w L) {i : Nat} {a : Res} (hi : L[i]? = some a) (r : Res) (hk : Kept (fun b => ¬ a.blk b) w w') (h : r.holds w' (Fr φ (L.set i r))) (hg : ∀ g, r.blk g → a.blk g ∨ w.heap.size ≤ g) : Mem φ ψ w0 w' (L.set i r) := by
  have hil := (List.getElem?_eq_some_iff.1 hi).1
  have ha := List.mem_of_getElem? hi
  have get : ∀ (j : Nat) (z : Res), (L.set i r)[j]? = some z → (j ≠ i ∧ L[j]? = some z) ∨ (j = i ∧ z = r) := by
    intro j z hz
    by_cases e : j = i
    · subst e; rw [List.getElem?_set_self hil] at hz; exact .inr ⟨rfl, (Option.some.inj hz).symm⟩
    · rw [List.getElem?_set_ne (fun h => e h.symm)] at hz; exact .inl ⟨e, hz⟩
  refine ⟨⟨hk.os.trans M.kept.os, hk.tape.trans M.kept.tape, hk.output.trans M.kept.output, Nat.le_trans M.size hk.size, fun b hb hp => (hk.block b (Nat.lt_of_lt_of_le hb M.size) fun he => ?_).trans (M.kept.block b hb hp)⟩, M.fresh, fun x hx => ?_, fun j k x y g hj hk' hjk hx hy => ?_, fun x g hx hxg => ?_⟩
  · rcases M.ge a b ha he with h' | h'
    · omega
    · exact h' hp
  · obtain ⟨j, hj⟩ := List.mem_iff_getElem?.1 hx
    rcases get j x hj with ⟨hne, hj'⟩ | ⟨_, rfl⟩
    · refine Res.keep (M.holds x (List.mem_of_getElem? hj')) ⟨hk.size, fun b hb hf => ⟨Fr.set hi hf fun he => ?_, hk.block b hb (hf.2 a ha)⟩⟩ fun g hgx => hk.block g (M.lt (List.mem_of_getElem? hj') hgx) fun he => M.dis i j a x g hi hj' (fun e => hne e.symm) he hgx
      rcases hg b he with h' | h'
      · exact hf.2 a ha h'
      · omega
    · exact h
  · rcases get j x hj with ⟨hne, hj'⟩ | ⟨e1, rfl⟩ <;> rcases get k y hk' with ⟨hne', hk''⟩ | ⟨e2, rfl⟩
    · exact M.dis j k x y g hj' hk'' hjk hx hy
    · rcases hg g hy with h' | h'
      · exact M.dis j i x a g hj' hi hne hx h'
      · have := M.lt (List.mem_of_getElem? hj') hx; omega
    · rcases hg g hx with h' | h'
      · exact M.dis i k a y g hi hk'' (fun e => hne' e.symm) h' hy
      · have := M.lt (List.mem_of_getElem? hk'') hy; omega
    · omega
  · obtain ⟨j, hj⟩ := List.mem_iff_getElem?.1 hx
    rcases get j x hj with ⟨hne, hj'⟩ | ⟨_, rfl⟩
    · exact M.ge x g (List.mem_of_getElem? hj') hxg
    · rcases hg g hxg with h' | h'
      · exact M.ge a g ha h'
      · exact .inl (Nat.le_trans M.size h')

theorem Kept.mono {ψ ψ' : Nat → Prop} {w w' : World} (h : Kept ψ w w') (hp : ∀ b, ψ' b → ψ b) : Kept ψ' w w' := ⟨h.os, h.tape, h.output, h.size, fun b hb hp' => h.block b hb (hp b hp')⟩
theorem Kept.setCell (w : World) (b j : Nat) (u : Value) : Kept (fun c => ¬ c = b) w (w.setCell ⟨b, j, none⟩ u) :=
  ⟨rfl, rfl, rfl, by simp [World.setCell], fun c _ hc => Below.heap_setCell _ _ _ _ hc⟩
theorem Mem.set (M : Mem φ ψ w0 w L) (i : Nat) {b : Nat} {cs : List Value} (hi : L[i]? = some (.box b cs)) (j : Nat) (u : Value) : Mem φ ψ w0 (w.setCell ⟨b, j, none⟩ u) (L.set i (.box b (cs.set j u))) :=
  M.put hi _ (Kept.setCell w b j u) (Blk.set (M.holds _ (List.mem_of_getElem? hi)) u) fun _ hg => .inl hg
theorem Mem.setFrom (us : List Value) : ∀ {w : World} {L : List Res} {p : Nat} {cs : List Value}, Mem φ ψ w0 w L → ∀ (i : Nat) {b : Nat}, L[i]? = some (.box b cs) → Mem φ ψ w0 (World.setFrom w b p us) (L.set i (.box b (Go.Proofs.Ytgpkdfefgcpbiaa.setFrom cs p us))) := by
  induction us with
  | nil =>
    intro w L p cs M i b hi
    have : L.set i (.box b cs) = L := by
      apply List.ext_getElem?
      intro j
      rw [List.getElem?_set]
      split
      · rename_i e; subst e; rw [if_pos (List.getElem?_eq_some_iff.1 hi).1, hi]
      · rfl
    show Mem φ ψ w0 w (L.set i (.box b cs))
    rw [this]; exact M
  | cons u r ih =>
    intro w L p cs M i b hi
    have h1 := M.set i hi p u
    have h2 := ih (p := p + 1) h1 i (by rw [List.getElem?_set_self (List.getElem?_eq_some_iff.1 hi).1])
    rw [List.set_set] at h2
    exact h2
theorem setFrom_all {cs us : List Value} (h : us.length = cs.length) : Go.Proofs.Ytgpkdfefgcpbiaa.setFrom cs 0 us = us := by
  have h1 := setFrom_take us cs 0 (by omega)
  rw [Nat.zero_add, List.take_of_length_le (by rw [setFrom_len]; omega)] at h1
  simpa using h1
/-- A box filled anew. -/
theorem Mem.fill (M : Mem φ ψ w0 w L) (i : Nat) {b : Nat} {cs : List Value} (hi : L[i]? = some (.box b cs)) (us : List Value) (h : us.length = cs.length) : Mem φ ψ w0 (World.setFrom w b 0 us) (L.set i (.box b us)) := by
  have h1 := M.setFrom us (p := 0) i hi
  rwa [setFrom_all h] at h1
/-- What a callee does to a box of the caller's. -/
theorem Mem.callB (M : Mem φ ψ w0 w L) (i : Nat) {b : Nat} {cs cs' : List Value} (hi : L[i]? = some (.box b cs)) (hk : Kept (fun c => ¬ c = b) w w') (h : Blk w' b cs') : Mem φ ψ w0 w' (L.set i (.box b cs')) :=
  M.put hi _ hk h fun _ hg => .inl hg
theorem Mem.rowSet (M : Mem φ ψ w0 w L) (i : Nat) {e : TypeId} {sz n cap g : Nat} {xs : List Value} (hi : L[i]? = some (.row e sz (.slice (some ⟨g, 0, none⟩) n cap) n xs)) {j : Nat} (hj : j < xs.length) (u : Value) :
    Mem φ ψ w0 (w.setCell ⟨g, j, none⟩ u) (L.set i (.row e sz (.slice (some ⟨g, 0, none⟩) n cap) n (xs.set j u))) :=
  M.put hi _ ((Kept.setCell w g j u).mono fun b hb e => hb (by rw [e]; rfl)) (Own.setCell (Own.mk' (M.holds _ (List.mem_of_getElem? hi))) hj u).1 fun _ hg => .inl hg
/-- append has turned a row. -/
theorem Mem.app (M : Mem φ ψ w0 w L) (i : Nat) {e : TypeId} {sz : Nat} {v v' : Value} {n n' : Nat} {xs xs' : List Value} (hi : L[i]? = some (.row e sz v n xs)) (h : w'.ownsRow 0 e sz v' n' xs') (hg : w.grownBy w' v.ownBlock) (hb : ∀ g, v'.ownBlock = some g → v.ownBlock = some g ∨ w.heap.size ≤ g) :
    Mem φ ψ w0 w' (L.set i (.row e sz v' n' xs')) :=
  M.put hi _ ⟨hg.os, hg.tape, hg.output, hg.size, fun b hb hn => hg.block b hb fun h => hn h.symm⟩ h hb
/-- A row that is written no more is data. -/
theorem Mem.freeze (M : Mem φ ψ w0 w L) (i : Nat) {e : TypeId} {sz : Nat} {v : Value} {n : Nat} {xs : List Value} (hi : L[i]? = some (.row e sz v n xs)) (hs : ∀ g, v.ownBlock = some g → φ g) : Mem φ ψ w0 w (L.set i (.dat fun w φ => RowF w φ v n sz xs)) := by
  have hr := M.holds _ (List.mem_of_getElem? hi)
  refine M.put hi _ (Kept.refl _ _) ⟨RowF.nice _ _ _ _, owns_rowF hr fun g hg => ⟨hs g hg, fun x hx he => ?_⟩⟩ fun g hg => by cases hg
  obtain ⟨j, hj⟩ := List.mem_iff_getElem?.1 hx
  by_cases e : j = i
  · subst e
    rw [List.getElem?_set_self (List.getElem?_eq_some_iff.1 hi).1] at hj
    cases hj
    cases he
  · rw [List.getElem?_set_ne (fun h => e h.symm)] at hj
    exact M.dis i j _ x g hi hj (fun h => e h.symm) hg he
/-- A call that hands back what it owns. -/
theorem Mem.callO (M : Mem φ ψ w0 w L) (b : Below w.heap.size w w') {S : Nat → Prop} {R : World → Prop} (hR : ∀ w w', R w → (∀ b, S b → b < w.heap.size → w'.heap[b]? = w.heap[b]?) → R w') (h : R w') (hs : ∀ b, S b → w.heap.size ≤ b ∧ b < w'.heap.size) : Mem φ ψ w0 w' (L ++ [.own S R]) :=
  M.add b _ ⟨hR, h, fun b hb => (hs b hb).2⟩ fun g hg => (hs g hg).1
/-- A call that turns what is owned. -/
theorem Mem.turn (M : Mem φ ψ w0 w L) (i : Nat) {S : Nat → Prop} {R R' : World → Prop} (hi : L[i]? = some (.own S R)) (hk : Kept (fun b => ¬ S b) w w') (hR : ∀ w w', R' w → (∀ b, S b → b < w.heap.size → w'.heap[b]? = w.heap[b]?) → R' w') (h : R' w') : Mem φ ψ w0 w' (L.set i (.own S R')) :=
  M.put hi _ hk ⟨hR, h, fun b hb => Nat.lt_of_lt_of_le ((M.holds _ (List.mem_of_getElem? hi)).2.2 b hb) hk.size⟩ fun _ hg => .inl hg
theorem Mem.o (M : Mem φ ψ w0 w L) (i : Nat) {S : Nat → Prop} {R : World → Prop} (hi : L[i]? = some (.own S R)) : R w := (M.holds _ (List.mem_of_getElem? hi)).2.1
/-- What is needed no more. -/
theorem Mem.take (M : Mem φ ψ w0 w L) (k : Nat) : Mem φ ψ w0 w (L.take k) :=
  ⟨M.kept, M.fresh, fun r hr => Res.keep (M.holds r (List.mem_of_mem_take hr)) (Agr.mono fun _ _ hf => ⟨hf.1, fun x hx => hf.2 x (List.mem_of_mem_take hx)⟩) fun _ _ => rfl,
    fun i j a b g hi hj hij => M.dis i j a b g (by rw [List.getElem?_take] at hi; split at hi; exact hi; cases hi) (by rw [List.getElem?_take] at hj; split at hj; exact hj; cases hj) hij, fun r b hr => M.ge r b (List.mem_of_mem_take hr)⟩

/-- Some of the resources, in another order. -/
theorem Mem.sel (M : Mem φ ψ w0 w L) (is : List Nat) (L' : List Res) (h : L'.map some = is.map fun i => L[i]?) (hn : is.Nodup) : Mem φ ψ w0 w L' := by
  have hl : L'.length = is.length := by simpa using congrArg List.length h
  have get : ∀ (j : Nat) (r : Res), L'[j]? = some r → ∃ i, is[j]? = some i ∧ L[i]? = some r := by
    intro j r hj
    have h1 : (L'.map some)[j]? = some (some r) := by simp [hj]
    rw [h, List.getElem?_map] at h1
    cases hi : is[j]? with
    | none => rw [hi] at h1; cases h1
    | some i => rw [hi] at h1; exact ⟨i, rfl, Option.some.inj h1⟩
  have mem : ∀ r, r ∈ L' → r ∈ L := fun r hr => by
    obtain ⟨j, hj⟩ := List.mem_iff_getElem?.1 hr
    obtain ⟨i, _, hi⟩ := get j r hj
    exact List.mem_of_getElem? hi
  refine ⟨M.kept, M.fresh, fun r hr => Res.keep (M.holds r (mem r hr)) (Agr.mono fun _ _ hf => ⟨hf.1, fun x hx => hf.2 x (mem x hx)⟩) fun _ _ => rfl, fun j k a b g hj hk hjk ha hb => ?_, fun r b hr => M.ge r b (mem r hr)⟩
  obtain ⟨i1, e1, h1⟩ := get j a hj
  obtain ⟨i2, e2, h2⟩ := get k b hk
  refine M.dis i1 i2 a b g h1 h2 (fun e => hjk ?_) ha hb
  subst e
  have hlt := (List.getElem?_eq_some_iff.1 e1).1
  exact (List.getElem?_inj hlt hn).1 (e1.trans e2.symm)

theorem Mem.c (M : Mem φ ψ w0 w L) (i j : Nat) {b : Nat} {cs : List Value} {u : Value} (hi : L[i]? = some (.box b cs)) (hj : cs[j]? = some u) : w.cell? ⟨b, j, none⟩ = some u :=
  (Blk.cell (M.holds _ (List.mem_of_getElem? hi)) j).trans hj
theorem Mem.f (M : Mem φ ψ w0 w L) (i : Nat) {b : Nat} {cs : List Value} (hi : L[i]? = some (.box b cs)) : ∀ j, w.frozen? ⟨b, j, none⟩ = false := Blk.free (M.holds _ (List.mem_of_getElem? hi))
theorem Mem.blk (M : Mem φ ψ w0 w L) (i : Nat) {b : Nat} {cs : List Value} (hi : L[i]? = some (.box b cs)) : Blk w b cs := M.holds _ (List.mem_of_getElem? hi)
theorem Mem.r (M : Mem φ ψ w0 w L) (i : Nat) {e : TypeId} {sz : Nat} {v : Value} {n : Nat} {xs : List Value} (hi : L[i]? = some (.row e sz v n xs)) : w.ownsRow 0 e sz v n xs := M.holds _ (List.mem_of_getElem? hi)
theorem Mem.d (M : Mem φ ψ w0 w L) (i : Nat) {R : World → (Nat → Prop) → Prop} (hi : L[i]? = some (.dat R)) : R w (Fr φ L) := (M.holds _ (List.mem_of_getElem? hi)).2
theorem Mem.dn (M : Mem φ ψ w0 w L) (i : Nat) {R : World → (Nat → Prop) → Prop} (hi : L[i]? = some (.dat R)) : Nice R := (M.holds _ (List.mem_of_getElem? hi)).1
/-- Data, for the caller. -/
theorem Mem.out (M : Mem φ ψ w0 w L) (i : Nat) {R : World → (Nat → Prop) → Prop} (hi : L[i]? = some (.dat R)) : R w φ := M.dn i hi _ _ _ _ (Agr.mono fun _ _ hf => hf.1) (M.d i hi)
theorem Mem.as (M : Mem φ ψ w0 w L) (L' : List Res) (h : L = L') : Mem φ ψ w0 w L' := h ▸ M

end
end Go.Proofs.Ytgpkdfefgcpbiaa
