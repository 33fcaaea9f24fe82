/-
  Texts of this claim, part 3: what the functions on the way do, and plain laws. Conditions: as each statement says.
-/
import Derived.Test.YtgpkdfefgcpbiaaK2

namespace Go.Proofs.Ytgpkdfefgcpbiaa
set_option linter.unusedVariables false
set_option linter.unusedSimpArgs false
open Go Go.RowKit

mutual
/-- The number n read as nil: as a slice, or (t) as a slice with all that hangs on it. -/
def AV.den (t : Bool) (n : Nat) : AV → AV
  | .v x => .v x
  | .ptr a b => .ptr a b
  | .ea a b c d => .ea a b c d
  | .ref i => if !t && natEq i n then .v (.slice none 0 0) else .ref i
  | .agg l => .agg (AV.denL t n l)
  | .tup l => .tup (AV.denL t n l)
  | .fn f l => .fn f (AV.denL t n l)
  | .bm f l => .bm f (AV.denL t n l)
  | .tref i => if t && natEq i n then .v (.slice none 0 0) else .tref i
def AV.denL (t : Bool) (n : Nat) : List AV → List AV
  | [] => []
  | x :: r => x.den t n :: AV.denL t n r
end
def It.den (t : Bool) (n : Nat) : It → It
  | .box cs => .box (AV.denL t n cs)
  | x => x
mutual
theorem AV.val_den {ρ : Nat → Value} {t : Bool} {n : Nat} {z : Value} (hz : if t then valOf z = .slice none 0 0 else z = .slice none 0 0) : ∀ (x : AV), (∀ i ∈ (x.den t n).ids, i < n) → x.val (fun j => if j = n then z else ρ j) = (x.den t n).val ρ ∧ ∀ i ∈ x.ids, i < n + 1
  | .v _, _ => ⟨rfl, fun i hi => by simp [AV.ids] at hi⟩
  | .ptr a b, h => by
    have ha : a < n := h a (by simp [AV.den, AV.ids])
    refine ⟨?_, fun i hi => by simp [AV.ids] at hi; omega⟩
    simp only [AV.den, AV.val]
    rw [if_neg (by omega)]
  | .ea a b c d, h => by
    have ha : a < n := h a (by simp [AV.den, AV.ids])
    refine ⟨?_, fun i hi => by simp [AV.ids] at hi; omega⟩
    simp only [AV.den, AV.val]
    rw [if_neg (by omega)]
  | .ref a, h => by
    by_cases e : t = false ∧ a = n
    · obtain ⟨rfl, rfl⟩ := e
      refine ⟨?_, fun i hi => by simp [AV.ids] at hi; omega⟩
      simp only [Bool.false_eq_true, if_false] at hz
      simp [AV.den, AV.val, natEq, hz]
    · have hd : (AV.ref a).den t n = .ref a := by
        simp only [AV.den]
        rw [if_neg]
        simp [natEq]; intro h1 h2; exact e ⟨h1, h2⟩
      rw [hd] at h ⊢
      have ha : a < n := h a (by simp [AV.ids])
      refine ⟨?_, fun i hi => by simp [AV.ids] at hi; omega⟩
      simp only [AV.val]
      rw [if_neg (by omega)]
  | .tref a, h => by
    by_cases e : t = true ∧ a = n
    · obtain ⟨rfl, rfl⟩ := e
      refine ⟨?_, fun i hi => by simp [AV.ids] at hi; omega⟩
      simp only [if_true] at hz
      simp [AV.den, AV.val, natEq, hz]
    · have hd : (AV.tref a).den t n = .tref a := by
        simp only [AV.den]
        rw [if_neg]
        simp [natEq]; intro h1 h2; exact e ⟨h1, h2⟩
      rw [hd] at h ⊢
      have ha : a < n := h a (by simp [AV.ids])
      refine ⟨?_, fun i hi => by simp [AV.ids] at hi; omega⟩
      simp only [AV.val]
      rw [if_neg (by omega)]
  | .agg l, h => by
    obtain ⟨h1, h2⟩ := AV.vals_den hz l (by simpa [AV.den, AV.ids] using h)
    exact ⟨by simp only [AV.den, AV.val]; rw [h1], by simpa [AV.ids] using h2⟩
  | .tup l, h => by
    obtain ⟨h1, h2⟩ := AV.vals_den hz l (by simpa [AV.den, AV.ids] using h)
    exact ⟨by simp only [AV.den, AV.val]; rw [h1], by simpa [AV.ids] using h2⟩
  | .fn f l, h => by
    obtain ⟨h1, h2⟩ := AV.vals_den hz l (by simpa [AV.den, AV.ids] using h)
    exact ⟨by simp only [AV.den, AV.val]; rw [h1], by simpa [AV.ids] using h2⟩
  | .bm f l, h => by
    obtain ⟨h1, h2⟩ := AV.vals_den hz l (by simpa [AV.den, AV.ids] using h)
    exact ⟨by simp only [AV.den, AV.val]; rw [h1], by simpa [AV.ids] using h2⟩
theorem AV.vals_den {ρ : Nat → Value} {t : Bool} {n : Nat} {z : Value} (hz : if t then valOf z = .slice none 0 0 else z = .slice none 0 0) : ∀ (l : List AV), (∀ i ∈ AV.idsL (AV.denL t n l), i < n) → AV.vals (fun j => if j = n then z else ρ j) l = AV.vals ρ (AV.denL t n l) ∧ ∀ i ∈ AV.idsL l, i < n + 1
  | [], _ => ⟨rfl, fun i hi => by simp [AV.idsL] at hi⟩
  | x :: r, h => by
    obtain ⟨h1, h2⟩ := AV.val_den hz x fun i hi => h i (by simp only [AV.denL, AV.idsL, List.mem_append]; exact .inl hi)
    obtain ⟨h3, h4⟩ := AV.vals_den hz r fun i hi => h i (by simp only [AV.denL, AV.idsL, List.mem_append]; exact .inr hi)
    refine ⟨by simp only [AV.denL, AV.vals]; rw [h1, h3], fun i hi => ?_⟩
    simp only [AV.idsL, List.mem_append] at hi
    rcases hi with hi | hi
    · exact h2 i hi
    · exact h4 i hi
end
theorem look_den {m : Bool} {n : Nat} {t : Nat} {x : AV} : ∀ {tm : List (Nat × AV)}, look tm t = some x → look (tm.map fun p => (p.1, p.2.den m n)) t = some (x.den m n)
  | [], h => by cases h
  | (k, y) :: r, h => by
    simp only [look, List.map_cons] at h ⊢
    split at h
    · rename_i e; cases h; rw [if_pos e]
    · rename_i e; rw [if_neg e]; exact look_den h

section
variable {P : Program} {ι : Type} {φ ψ : Nat → Prop} {w0 w : World} {F : ι → Rs} {ρ ρ0 : Nat → Value} {N m n : Nat} {S : List It} {tm : List (Nat × AV)} {a : Act}
theorem Gam.nilW (G : Gam φ ψ w0 F N m ρ0 ρ S tm a w) (n : Nat) (hn : S.length = n) (b : Bool) (x : It) (z : Value) (hz : if b then valOf z = .slice none 0 0 else z = .slice none 0 0) (hids : x.ids = []) (hb : ∀ g, ¬ (x.res (fun j => if j = n then z else ρ j) n).blk g)
    (hx : ∀ φ', (x.res (fun j => if j = n then z else ρ j) n).holds w φ') (S1 : List It) (tm1 : List (Nat × AV)) (hS : S = S1.map (It.den b n)) (ht : tm = tm1.map fun p => (p.1, p.2.den b n)) :
    ∃ ρ', Gam φ ψ w0 F N m ρ0 ρ' (S1 ++ [x]) tm1 a w := by
  have hl : S1.length = n := by rw [← hn, hS, List.length_map]
  have hat : ∀ j (hj : j < n), lst S j = (S1[j]'(by omega)).den b n := fun j hj => by
    rw [lst_at (show j < S.length by omega)]
    have h1 := congrArg (·[j]?) hS
    simp only [List.getElem?_map, List.getElem?_eq_getElem (show j < S.length by omega), List.getElem?_eq_getElem (show j < S1.length by omega), Option.map_some, Option.some.injEq] at h1
    exact h1
  have hnew : ∀ j (hj : j < n), lst (S1 ++ [x]) j = S1[j]'(by omega) := fun j hj => by
    simp [lst, List.getD_eq_getElem?_getD, List.getElem?_append_left (show j < S1.length by omega), List.getElem?_eq_getElem (show j < S1.length by omega)]
  have hlast : lst (S1 ++ [x]) n = x := by
    simp [lst, List.getD_eq_getElem?_getD, ← hl]
  have hout : ∀ j, n < j → lst (S1 ++ [x]) j = .none := fun j hj => lst_out (by simp; omega)
  have hbx : ∀ j (hj : j < n), ((S1[j]'(by omega)).res (fun j => if j = n then z else ρ j) j = (lst S j).res ρ j) ∧ ∀ i ∈ (S1[j]'(by omega)).ids, i < n + 1 := fun j hj => by
    rw [hat j hj]
    have hb := (G.bd j).1
    rw [hat j hj, hn] at hb
    generalize S1[j]'(by omega) = x at *
    cases x with
    | box cs =>
      obtain ⟨h1, h2⟩ := AV.vals_den (ρ := ρ) (n := n) hz cs hb
      refine ⟨?_, h2⟩
      simp only [It.res, It.den]
      rw [h1, if_neg (show ¬ j = n by omega)]
    | none => exact ⟨rfl, fun i hi => by cases hi⟩
    | dead => exact ⟨rfl, fun i hi => by cases hi⟩
    | dat d' => exact ⟨by simp only [It.res, It.den]; rw [if_neg (show ¬ j = n by omega)], fun i hi => by cases hi⟩
    | row e' d' => exact ⟨by simp only [It.res, It.den]; rw [if_neg (show ¬ j = n by omega)], fun i hi => by cases hi⟩
    | tree d' => exact ⟨by simp only [It.res, It.den]; rw [if_neg (show ¬ j = n by omega)], fun i hi => by cases hi⟩
  have hw : ∀ t x, look tm1 t = some x → x.val (fun j => if j = n then z else ρ j) = (x.den b n).val ρ ∧ ∀ i ∈ x.ids, i < n + 1 := fun t x hx => by
    refine AV.val_den hz x fun i hi => ?_
    have h1 : look tm t = some (x.den b n) := by rw [ht]; exact look_den hx
    have := G.tmi t _ h1 i hi
    omega
  refine ⟨fun j => if j = n then z else ρ j, ?_⟩
  refine ⟨G.size, G.defs, fun t x hx => ?_, fun t x hx i hi => ?_, fun j => ⟨fun i hi => ?_, fun hj => lst_out hj⟩, ?_, ?_, fun i hi => ?_⟩
  · have h1 : look tm t = some (x.den b n) := by rw [ht]; exact look_den hx
    rw [(hw t x hx).1]; exact G.tmv t _ h1
  · have := (hw t x hx).2 i hi
    simp; omega
  · rcases Nat.lt_trichotomy j n with h | h | h
    · rw [hnew j h] at hi
      have := (hbx j h).2 i hi
      simp; omega
    · subst h; rw [hlast, hids] at hi; cases hi
    · rw [hout j h] at hi; cases hi
  · refine MemF.put G.mem (.inr n) (fun k hk => ?_) (Kept.refl _ _) ?_ ?_
    · cases k with
      | inl i => rfl
      | inr j =>
        simp only [lay]
        rcases Nat.lt_trichotomy j n with h | h | h
        · rw [hnew j h]; exact (hbx j h).1
        · exact absurd (by rw [h]) hk
        · rw [hout j h, lst_out (show S.length ≤ j by omega)]; rfl
    · simp only [lay, hlast]; exact hx _
    · intro g hg
      simp only [lay, hlast] at hg
      exact absurd hg (hb g)
  · have := G.le; simp; omega
  · show (if i = n then _ else ρ i) = ρ0 i
    have := G.le
    rw [if_neg (by omega)]; exact G.old i hi
theorem Gam.nil (G : Gam φ ψ w0 F N m ρ0 ρ S tm a w) (n : Nat) (e : TypeId) (d : D) (k : Nat) (S1 : List It) (tm1 : List (Nat × AV)) (hn : S.length = n := by kernel_rfl) (hd : D.nil k = some d := by kernel_rfl) (hS : S = S1.map (It.den false n) := by kernel_rfl) (ht : tm = tm1.map (fun p => (p.1, p.2.den false n)) := by kernel_rfl) :
    ∃ ρ', Gam φ ψ w0 F N m ρ0 ρ' (S1 ++ [.row e d]) tm1 a w := by
  have hz := D.nil_len hd
  refine G.nilW n hn false (.row e d) (.slice none 0 0) (by simp) rfl (fun g hg => ?_) (fun φ' => ?_) S1 tm1 hS ht
  · simp only [It.res, if_true] at hg
    cases hg
  · simp only [It.res, if_true]
    refine ⟨fun xs => RW.nice d xs, [], ?_, RW.nil hz _⟩
    rw [hz]; exact World.ownsRow_nil _ _ _ _
theorem Gam.nilT (G : Gam φ ψ w0 F N m ρ0 ρ S tm a w) (n : Nat) (d : D) (S1 : List It) (tm1 : List (Nat × AV)) (hn : S.length = n := by kernel_rfl) (hd : ((treeE d).isSome && natEq d.len 0) = true := by kernel_rfl) (hS : S = S1.map (It.den true n) := by kernel_rfl) (ht : tm = tm1.map (fun p => (p.1, p.2.den true n)) := by kernel_rfl) :
    ∃ ρ', Gam φ ψ w0 F N m ρ0 ρ' (S1 ++ [.tree d]) tm1 a w := by
  simp only [Bool.and_eq_true, natEq, beq_iff_eq] at hd
  obtain ⟨e, he⟩ := Option.isSome_iff_exists.1 hd.1
  obtain ⟨z, h1, h2⟩ := enc_exists (.slice none 0 0) (fun _ => False) 0 fun b h => h.elim
  refine G.nilW n hn true (.tree d) z (by simp [h1]) rfl (fun g hg => ?_) (fun φ' => ?_) S1 tm1 hS ht
  · simp only [It.res, if_true] at hg
    exact ((h2 g).1 hg).elim
  · simp only [It.res, if_true]
    rw [h1]
    refine ⟨fun _ _ h hs => h.same hs, ⟨e, [], fun _ => False, he, ?_, (fun g hg => by cases hg), (fun b hb => hb.elim), ?_⟩, fun b hb => ((h2 b).1 hb).elim⟩
    · rw [hd.2]; exact World.ownsRow_nil _ _ _ _
    · have h0 := hd.2
      cases d <;> simp only [treeE] at he <;> first | cases he | skip
      all_goals (simp only [D.len] at h0; rw [List.eq_nil_of_length_eq_zero h0]; rfl)
end
end Go.Proofs.Ytgpkdfefgcpbiaa

namespace Go.Proofs.Ytgpkdfefgcpbiaa
set_option linter.unusedVariables false
set_option linter.unusedSimpArgs false
open Go Go.RowKit

/-- How a thing is lent: not, as a row, as a slice with all that hangs on it. -/
inductive Ln where
  | no
  | row (e : TypeId)
  | tree
def lnAt (M : List Ln) (i : Nat) : Ln := M.getD i .no
def Ln.isT : Ln → Bool
  | .tree => true
  | _ => false
mutual
def AV.tr (M : List Ln) : AV → AV
  | .v x => .v x
  | .ptr a b => .ptr a b
  | .ea a b c d => .ea a b c d
  | .ref i => if (lnAt M i).isT then .tref i else .ref i
  | .agg l => .agg (AV.trL M l)
  | .tup l => .tup (AV.trL M l)
  | .fn f l => .fn f (AV.trL M l)
  | .bm f l => .bm f (AV.trL M l)
  | .tref i => .tref i
def AV.trL (M : List Ln) : List AV → List AV
  | [] => []
  | x :: r => x.tr M :: AV.trL M r
end
mutual
/-- No address of, and no other word for, what is lent as a tree. -/
def AV.trOk (M : List Ln) : AV → Bool
  | .v _ => true
  | .ptr a _ => !(lnAt M a).isT
  | .ea a _ _ _ => !(lnAt M a).isT
  | .ref _ => true
  | .agg l => AV.trOkL M l
  | .tup l => AV.trOkL M l
  | .fn _ l => AV.trOkL M l
  | .bm _ l => AV.trOkL M l
  | .tref i => !(lnAt M i).isT
def AV.trOkL (M : List Ln) : List AV → Bool
  | [] => true
  | x :: r => x.trOk M && AV.trOkL M r
end
mutual
theorem AV.val_tr {ρ ρ' : Nat → Value} {M : List Ln} (h : ∀ i, ρ' i = if (lnAt M i).isT then valOf (ρ i) else ρ i) : ∀ (x : AV), x.trOk M = true → (x.tr M).val ρ = x.val ρ'
  | .v _, _ => rfl
  | .ptr a _, hx => by
    simp only [AV.trOk, Bool.not_eq_true'] at hx
    simp only [AV.tr, AV.val]; rw [h a, hx]; rfl
  | .ea a _ _ _, hx => by
    simp only [AV.trOk, Bool.not_eq_true'] at hx
    simp only [AV.tr, AV.val]; rw [h a, hx]; rfl
  | .ref i, _ => by
    simp only [AV.tr]
    cases hm : (lnAt M i).isT
    · simp only [Bool.false_eq_true, if_false, AV.val]; rw [h i, hm]; rfl
    · simp only [if_true, AV.val]; rw [h i, hm]; rfl
  | .agg l, hx => by simp only [AV.tr, AV.val]; rw [AV.vals_tr h l (by simpa [AV.trOk] using hx)]
  | .tup l, hx => by simp only [AV.tr, AV.val]; rw [AV.vals_tr h l (by simpa [AV.trOk] using hx)]
  | .fn _ l, hx => by simp only [AV.tr, AV.val]; rw [AV.vals_tr h l (by simpa [AV.trOk] using hx)]
  | .bm _ l, hx => by simp only [AV.tr, AV.val]; rw [AV.vals_tr h l (by simpa [AV.trOk] using hx)]
  | .tref i, hx => by
    simp only [AV.trOk, Bool.not_eq_true'] at hx
    simp only [AV.tr, AV.val]; rw [h i, hx]; rfl
theorem AV.vals_tr {ρ ρ' : Nat → Value} {M : List Ln} (h : ∀ i, ρ' i = if (lnAt M i).isT then valOf (ρ i) else ρ i) : ∀ (l : List AV), AV.trOkL M l = true → AV.vals ρ (AV.trL M l) = AV.vals ρ' l
  | [], _ => rfl
  | x :: r, hx => by
    simp only [AV.trOkL, Bool.and_eq_true] at hx
    simp only [AV.trL, AV.vals]; rw [AV.val_tr h x hx.1, AV.vals_tr h r hx.2]
end
def lendIt (M : List Ln) : Ln → It → It
  | .row e, .dat d => .row e d
  | .tree, .dat d => .tree d
  | .no, .box cs => .box (AV.trL M cs)
  | _, x => x
def lendL (M : List Ln) (S : List It) : List It := (List.range S.length).map fun i => lendIt M (lnAt M i) (lst S i)
theorem lst_lend (M : List Ln) (S : List It) (i : Nat) : lst (lendL M S) i = lendIt M (lnAt M i) (lst S i) := by
  unfold lendL
  rcases Nat.lt_or_ge i S.length with h | h
  · conv => lhs; rw [lst, List.getD_eq_getElem?_getD, List.getElem?_map, List.getElem?_range h]
    rfl
  · rw [lst_out (by simpa using h), lst_out h]
    cases lnAt M i <;> rfl
def flatD : D → Bool
  | .rows _ => false
  | .brows _ => false
  | .exprs _ => false
  | .stmts _ => false
  | _ => true
theorem flat_rw {w w' : World} {φ φ' : Nat → Prop} {d : D} {xs : List Value} (hd : flatD d = true) (h : RW w φ d xs) : RW w' φ' d xs := by
  intro i hi j x hx
  obtain ⟨u, h1, h2⟩ := h i hi j x hx
  refine ⟨u, h1, ?_⟩
  have : ∃ y, x = .v y := by
    have hm := List.mem_of_getElem? hx
    cases d <;> simp only [flatD, Bool.false_eq_true] at hd <;> simp [D.elem, insX, eventX] at hm
    · exact ⟨_, hm⟩
    · exact ⟨_, hm⟩
    · exact ⟨_, hm⟩
    · exact ⟨_, hm⟩
    · rcases hm with h | h | h | h | h <;> exact ⟨_, h⟩
    · rcases hm with h | h <;> exact ⟨_, h⟩
  obtain ⟨y, rfl⟩ := this
  exact h2
/-- Whether lending is all right at a place. -/
def lnOk (M : List Ln) (l : Ln) (p x : It) : Bool :=
  match l with
  | .no => match x with
    | .dat _ => (match p with | .dat _ => true | _ => false)
    | .row _ d => flatD d
    | .box cs => AV.trOkL M cs
    | _ => true
  | .row _ => (match p, x with | .dat d, .dat _ => flatD d | _, _ => false)
  | .tree => (match p, x with | .dat d, .dat _ => (treeE d).isSome | _, _ => false)
def preLn (M : List Ln) (l : Ln) (p : It) : Bool :=
  match l, p with
  | .no, .box cs => AV.trOkL M cs
  | _, _ => true
def lendB (M : List Ln) (c : Ctr) : Bool :=
  decide (M.length ≤ c.pre.length) && decide (c.pre.length ≤ c.post.length) && AV.trOkL M c.args && c.res.trOk M && (List.range c.post.length).all (fun i => lnOk M (lnAt M i) (lst c.pre i) (lst c.post i)) && (List.range c.pre.length).all fun i => preLn M (lnAt M i) (lst c.pre i)

/-- A resource as it stands. -/
def Rs.snap (w : World) (r : Rs) : Rs := .own r.blk fun w' => ∀ b, r.blk b → b < w.heap.size → w'.heap[b]? = w.heap[b]?
theorem Rs.snap_holds {w : World} {φ φ' : Nat → Prop} {r : Rs} (h : r.holds w φ) : (r.snap w).holds w φ' := by
  refine ⟨fun w1 w2 h1 h2 b hb hlt => ?_, fun b _ _ => rfl, fun b hb => Rs.lt h hb⟩
  have h3 := h1 b hb hlt
  rw [h2 b hb, h3]
  have : (w1.heap[b]?).isSome = true := by rw [h3, Array.getElem?_eq_getElem hlt]; rfl
  obtain ⟨o, ho⟩ := Option.isSome_iff_exists.1 this
  exact (Array.getElem?_eq_some_iff.1 ho).1
theorem datP_at : ∀ {P X : List It} {i : Nat} {d e : D}, datP P X = datQ P X → lst P i = .dat d → lst X i = .dat e → d = e
  | P, X, i, d, e, h, h1, h2 => by
    have hp : P[i]? = some (.dat d) := by
      rcases Nat.lt_or_ge i P.length with hl | hl
      · rw [lst_at hl] at h1; rw [List.getElem?_eq_getElem hl, h1]
      · rw [lst_out hl] at h1; cases h1
    have hx : X[i]? = some (.dat e) := by
      rcases Nat.lt_or_ge i X.length with hl | hl
      · rw [lst_at hl] at h2; rw [List.getElem?_eq_getElem hl, h2]
      · rw [lst_out hl] at h2; cases h2
    exact dat_eq h hp hx

theorem Ctr.lend {P : Program} {c : Ctr} (hc : c.ok P) (M : List Ln) (hb : lendB M c = true := by kernel_rfl) (he : datP c.pre c.post = datQ c.pre c.post := by kernel_rfl) : Ctr.ok P ⟨c.f, AV.trL M c.args, lendL M c.pre, lendL M c.post, c.res.tr M⟩ := by
  simp only [lendB, Bool.and_eq_true, decide_eq_true_eq] at hb
  obtain ⟨⟨⟨⟨⟨hM, hle⟩, hargs⟩, hres⟩, hpost⟩, hpre⟩ := hb
  have hno : ∀ i, c.pre.length ≤ i → lnAt M i = .no := fun i hi => by
    unfold lnAt; rw [List.getD_eq_getElem?_getD, List.getElem?_eq_none (by omega)]; rfl
  have hpo : ∀ i, lnOk M (lnAt M i) (lst c.pre i) (lst c.post i) = true := fun i => by
    rcases Nat.lt_or_ge i c.post.length with h | h
    · exact List.all_eq_true.1 hpost i (List.mem_range.2 h)
    · rw [hno i (by omega), lst_out h]; rfl
  have hpr : ∀ i, preLn M (lnAt M i) (lst c.pre i) = true := fun i => by
    rcases Nat.lt_or_ge i c.pre.length with h | h
    · exact List.all_eq_true.1 hpre i (List.mem_range.2 h)
    · rw [hno i h, lst_out h]; rfl
  intro ι φ ψ w0 w F ρ MM
  -- what the call sees
  let ρ1 : Nat → Value := fun i => if (lnAt M i).isT then valOf (ρ i) else ρ i
  have hρ1 : ∀ i, ρ1 i = if (lnAt M i).isT then valOf (ρ i) else ρ i := fun _ => rfl
  let F1 : ι → Rs := fun i => (F i).snap w
  have hLi : ∀ i, lay F ρ (lst (lendL M c.pre)) (.inl i) = F i := fun _ => rfl
  have hLj : ∀ j, lay F ρ (lst (lendL M c.pre)) (.inr j) = (lendIt M (lnAt M j) (lst c.pre j)).res ρ j := fun j => by simp only [lay]; rw [lst_lend]
  generalize hL : lay F ρ (lst (lendL M c.pre)) = L at MM hLi hLj
  have h1j : ∀ j, lnAt M j = .no → (lst c.pre j).res ρ1 j = L (.inr j) := fun j hl => by
    rw [hLj, hl]
    have hp := hpr j
    have e : ρ1 j = ρ j := by rw [hρ1, hl]; rfl
    cases hx : lst c.pre j with
    | none => rfl
    | dead => rfl
    | dat d => simp only [lendIt, It.res]; rw [e]
    | row e' d => simp only [lendIt, It.res]; rw [e]
    | tree d => simp only [lendIt, It.res]; rw [e]
    | box cs =>
      rw [hl, hx] at hp
      simp only [preLn] at hp
      simp only [lendIt, It.res]
      rw [e, AV.vals_tr hρ1 cs hp]
  -- lent things own nothing in the call's eyes
  have hlent : ∀ j, lnAt M j ≠ .no → (∃ d, lst c.pre j = .dat d ∧ lst c.post j = .dat d ∧ ((∃ e, lnAt M j = .row e ∧ flatD d = true) ∨ lnAt M j = .tree)) := fun j hj => by
    have h := hpo j
    cases hl : lnAt M j with
    | no => exact absurd hl hj
    | row e =>
      rw [hl] at h
      simp only [lnOk] at h
      split at h
      · rename_i d d' h1 h2
        exact ⟨d, h1, by rw [h2, ← datP_at he h1 h2], .inl ⟨e, rfl, h⟩⟩
      · cases h
    | tree =>
      rw [hl] at h
      simp only [lnOk] at h
      split at h
      · rename_i d d' h1 h2
        exact ⟨d, h1, by rw [h2, ← datP_at he h1 h2], .inr rfl⟩
      · cases h
  have hsub : ∀ k b, (lay F1 ρ1 (lst c.pre) k).blk b → (L k).blk b ∧ ∀ j, k = .inr j → lnAt M j = .no := fun k b hb => by
    cases k with
    | inl i => rw [hLi]; exact ⟨hb, fun j h => by cases h⟩
    | inr j =>
      by_cases hl : lnAt M j = .no
      · simp only [lay] at hb
        rw [h1j j hl] at hb
        exact ⟨hb, fun j' h => by cases h; exact hl⟩
      · obtain ⟨d, h1, _⟩ := hlent j hl
        simp only [lay, h1, It.res] at hb
        exact hb.elim
  have hfr1 : ∀ b, FrF φ L b → FrF φ (lay F1 ρ1 (lst c.pre)) b := fun b hb => ⟨hb.1, fun k hk => hb.2 k (hsub k b hk).1⟩
  let ψ1 : Nat → Prop := fun b => ∀ k, ¬ (lay F1 ρ1 (lst c.pre) k).blk b
  have M1 : MemF φ ψ1 w w (lay F1 ρ1 (lst c.pre)) := by
    refine ⟨Kept.refl _ _, fun b hb => MM.fresh b (Nat.le_trans MM.size hb), fun k => ?_, fun k k' b hkk h1 h2 => MM.dis k k' b hkk (hsub k b h1).1 (hsub k' b h2).1, fun k b h1 => .inr fun h => h k h1, fun k b h1 => MM.ph k b (hsub k b h1).1⟩
    cases k with
    | inl i => exact Rs.snap_holds (show (F i).holds w _ from by rw [← hLi i]; exact MM.holds (.inl i))
    | inr j =>
      by_cases hl : lnAt M j = .no
      · simp only [lay]
        rw [h1j j hl]
        exact Rs.keep (MM.holds (.inr j)) (Agr.mono fun b _ hf => hfr1 b hf) fun _ _ => rfl
      · obtain ⟨d, h1, h2, h3⟩ := hlent j hl
        have hh := MM.holds (.inr j)
        have hown : ∀ b, (L (.inr j)).blk b → FrF φ (lay F1 ρ1 (lst c.pre)) b := fun b hb => ⟨MM.ph _ _ hb, fun k hk => by
          obtain ⟨q1, q2⟩ := hsub k b hk
          by_cases e : k = .inr j
          · exact hl (q2 j e)
          · exact MM.dis k (.inr j) b e q1 hb⟩
        simp only [lay, h1, It.res]
        refine ⟨RD.nice _ _, ?_⟩
        rcases h3 with ⟨e, h3, hflat⟩ | h3
        · rw [hLj, h3, h1] at hh
          simp only [lendIt, It.res] at hh
          obtain ⟨_, xs, o1, o2⟩ := hh
          have e1 : ρ1 j = ρ j := by rw [hρ1, h3]; rfl
          rw [e1]
          refine RD.make (owns_rowF o1 fun g hg => hown g ?_) (flat_rw hflat o2)
          rw [hLj, h3, h1]; exact hg
        · rw [hLj, h3, h1] at hh
          simp only [lendIt, It.res] at hh
          have e1 : ρ1 j = valOf (ρ j) := by rw [hρ1, h3]; rfl
          rw [e1]
          refine TreeO.read hh.2.1 fun b hb => hown b ?_
          rw [hLj, h3, h1]; exact hb
  simp only
  rw [AV.vals_tr hρ1 c.args hargs]
  refine (hc ι φ ψ1 w w F1 ρ1 M1).mono ?_
  rintro x w' ⟨ρ2, g1, g2, M2⟩
  have hplen : (lendL M c.pre).length = c.pre.length := by simp [lendL]
  let ρ' : Nat → Value := fun j => if j < c.pre.length then ρ j else ρ2 j
  have hρ' : ∀ j, ρ2 j = if (lnAt M j).isT then valOf (ρ' j) else ρ' j := fun j => by
    show _ = if (lnAt M j).isT then valOf (if j < c.pre.length then ρ j else ρ2 j) else (if j < c.pre.length then ρ j else ρ2 j)
    rcases Nat.lt_or_ge j c.pre.length with h | h
    · rw [if_pos h, g1 j h]
    · rw [hno j h]
      exact (if_neg (Nat.not_lt.2 h)).symm
  have hρo : ∀ j, lnAt M j ≠ .no → ρ' j = ρ j := fun j hj => by
    rcases Nat.lt_or_ge j c.pre.length with h | h
    · exact if_pos h
    · exact absurd (hno j h) hj
  refine ⟨ρ', fun i hi => if_pos (by rw [hplen] at hi; exact hi), by rw [AV.val_tr hρ' c.res hres]; exact g2, ?_⟩
  have hL'j : ∀ j, lay F ρ' (lst (lendL M c.post)) (.inr j) = (lendIt M (lnAt M j) (lst c.post j)).res ρ' j := fun j => by simp only [lay]; rw [lst_lend]
  have hL'i : ∀ i, lay F ρ' (lst (lendL M c.post)) (.inl i) = F i := fun _ => rfl
  generalize hL' : lay F ρ' (lst (lendL M c.post)) = L' at hL'j hL'i
  have hL2j : ∀ j, lnAt M j = .no → L' (.inr j) = lay F1 ρ2 (lst c.post) (.inr j) := fun j hl => by
    rw [hL'j, hl]
    have hp := hpo j
    have e : ρ2 j = ρ' j := by rw [hρ', hl]; rfl
    simp only [lay]
    cases hx : lst c.post j with
    | none => rfl
    | dead => rfl
    | dat d => simp only [lendIt, It.res]; rw [e]
    | row e' d => simp only [lendIt, It.res]; rw [e]
    | tree d => simp only [lendIt, It.res]; rw [e]
    | box cs =>
      rw [hl, hx] at hp
      simp only [lnOk] at hp
      simp only [lendIt, It.res]
      rw [e, AV.vals_tr hρ' cs hp]
  have hlj : ∀ j, lnAt M j ≠ .no → L' (.inr j) = L (.inr j) := fun j hl => by
    obtain ⟨d, h1, h2, h3⟩ := hlent j hl
    rw [hL'j, hLj, h1, h2]
    rcases h3 with ⟨e, h3, _⟩ | h3
    · rw [h3]; simp only [lendIt, It.res]; rw [hρo j hl]
    · rw [h3]; simp only [lendIt, It.res]; rw [hρo j hl]
  -- where what stands behind lies
  have hin : ∀ b, b < w.heap.size → ¬ ψ1 b → ∃ k, (L k).blk b ∧ ∀ j, k = .inr j → lnAt M j = .no := fun b _ hn => by
    obtain ⟨k, hk⟩ := Classical.not_forall.1 hn
    exact ⟨k, hsub k b (Classical.not_not.1 hk)⟩
  have hnew : ∀ k b, (∀ j, k = .inr j → lnAt M j = .no) → (lay F1 ρ2 (lst c.post) k).blk b → b < w.heap.size → ∃ k', (L k').blk b ∧ ∀ j, k' = .inr j → lnAt M j = .no := fun k b _ hb hlt => by
    rcases M2.ge k b hb with h | h
    · omega
    · exact hin b hlt h
  have hback : ∀ k b, (L' k).blk b → b < w.heap.size → ∃ k', (L k').blk b := fun k b hb hlt => by
    cases k with
    | inl i => rw [hL'i] at hb; exact ⟨.inl i, by rw [hLi]; exact hb⟩
    | inr j =>
      by_cases hl : lnAt M j = .no
      · rw [hL2j j hl] at hb
        obtain ⟨k', h1, _⟩ := hnew (.inr j) b (fun j' h => by cases h; exact hl) hb hlt
        exact ⟨k', h1⟩
      · rw [hlj j hl] at hb; exact ⟨_, hb⟩
  have hsame : ∀ b, b < w.heap.size → ψ1 b → w'.heap[b]? = w.heap[b]? := fun b h1 h2 => M2.kept.block b h1 h2
  have hagr : Agr (FrF φ L) (FrF φ L') w w' := ⟨M2.kept.size, fun b hb hf => ⟨⟨hf.1, fun k hk => let ⟨k', h1⟩ := hback k b hk hb; hf.2 k' h1⟩, hsame b hb fun k hk => (hfr1 b hf).2 k hk⟩⟩
  have hlsame : ∀ j, lnAt M j ≠ .no → ∀ b, (L (.inr j)).blk b → w'.heap[b]? = w.heap[b]? := fun j hl b hb => hsame b (MM.lt hb) fun k hk => by
    obtain ⟨q1, q2⟩ := hsub k b hk
    by_cases e : k = .inr j
    · exact hl (q2 j e)
    · exact MM.dis k (.inr j) b e q1 hb
  have hcross : ∀ j k b, lnAt M j ≠ .no → (∀ j, k = .inr j → lnAt M j = .no) → (L (.inr j)).blk b → ¬ (lay F1 ρ2 (lst c.post) k).blk b := fun j k b hl hk h1 h2 => by
    obtain ⟨k', h3, h4⟩ := hnew k b hk h2 (MM.lt h1)
    exact MM.dis k' (.inr j) b (fun e => hl (h4 j e)) h3 h1
  refine ⟨⟨M2.kept.os.trans MM.kept.os, M2.kept.tape.trans MM.kept.tape, M2.kept.output.trans MM.kept.output, Nat.le_trans MM.size M2.kept.size, fun b hb hp => (hsame b (Nat.lt_of_lt_of_le hb MM.size) fun k hk => ?_).trans (MM.kept.block b hb hp)⟩, MM.fresh, fun k => ?_, fun k k' b hkk h1 h2 => ?_, fun k b h1 => ?_, fun k b h1 => ?_⟩
  · rcases MM.ge k b (hsub k b hk).1 with h | h
    · omega
    · exact h hp
  · cases k with
    | inl i =>
      rw [hL'i, ← hLi i]
      refine Rs.keep (MM.holds (.inl i)) hagr fun b hb => ?_
      have := (M2.holds (.inl i)).2.1 b (by rw [← hLi i]; exact hb) (MM.lt hb)
      exact this
    | inr j =>
      by_cases hl : lnAt M j = .no
      · have hh := M2.holds (.inr j)
        rw [← hL2j j hl] at hh
        have hp := hpo j
        rw [hl] at hp
        cases hx : lst c.post j with
        | none => rw [hL'j, hl, hx]; exact Rs.none_holds _ _
        | dead => rw [hL'j, hl, hx]; exact Rs.none_holds _ _
        | box cs => rw [hL'j, hl, hx] at hh ⊢; exact hh
        | tree d => rw [hL'j, hl, hx] at hh ⊢; exact hh
        | row e d =>
          rw [hx] at hp
          simp only [lnOk] at hp
          rw [hL'j, hl, hx] at hh ⊢
          simp only [lendIt, It.res] at hh ⊢
          obtain ⟨_, xs, o1, o2⟩ := hh
          exact ⟨fun xs => RW.nice d xs, xs, o1, flat_rw hp o2⟩
        | dat d =>
          rw [hx] at hp
          simp only [lnOk] at hp
          split at hp
          · rename_i d' hpx
            have hd : d' = d := datP_at he hpx hx
            subst hd
            have e : L' (.inr j) = L (.inr j) := by
              rw [hL'j, hLj, hl, hx, hpx]
              simp only [lendIt, It.res]
              have : j < c.pre.length := by
                rcases Nat.lt_or_ge j c.pre.length with h | h
                · exact h
                · rw [lst_out h] at hpx; cases hpx
              rw [show ρ' j = ρ j from if_pos this]
            rw [e]
            refine Rs.keep (MM.holds (.inr j)) hagr fun b hb => ?_
            rw [hLj, hl, hpx] at hb
            exact hb.elim
          · cases hp
      · rw [hlj j hl]
        exact Rs.keep (MM.holds (.inr j)) hagr fun b hb => hlsame j hl b hb
  · have key : ∀ k, (∃ j, k = .inr j ∧ lnAt M j ≠ .no ∧ (L' k) = L k) ∨ ((∀ j, k = .inr j → lnAt M j = .no) ∧ ∀ b, (L' k).blk b → (lay F1 ρ2 (lst c.post) k).blk b) := fun k => by
      cases k with
      | inl i => exact .inr ⟨(fun j h => by cases h), fun b hb => by rw [hL'i] at hb; exact hb⟩
      | inr j =>
        by_cases hl : lnAt M j = .no
        · exact .inr ⟨fun j' h => by cases h; exact hl, fun b hb => by rw [hL2j j hl] at hb; exact hb⟩
        · exact .inl ⟨j, rfl, hl, hlj j hl⟩
    rcases key k with ⟨j, rfl, k1, k2⟩ | ⟨k1, k2⟩ <;> rcases key k' with ⟨j', rfl, k3, k4⟩ | ⟨k3, k4⟩
    · rw [k2] at h1; rw [k4] at h2; exact MM.dis _ _ b hkk h1 h2
    · rw [k2] at h1; exact hcross j k' b k1 k3 h1 (k4 b h2)
    · rw [k4] at h2; exact hcross j' k b k3 k1 h2 (k2 b h1)
    · exact M2.dis k k' b hkk (k2 b h1) (k4 b h2)
  · cases k with
    | inl i => rw [hL'i, ← hLi i] at h1; exact MM.ge _ b h1
    | inr j =>
      by_cases hl : lnAt M j = .no
      · rw [hL2j j hl] at h1
        rcases Nat.lt_or_ge b w.heap.size with hlt | hge
        · obtain ⟨k', h2, _⟩ := hnew (.inr j) b (fun j' h => by cases h; exact hl) h1 hlt
          exact MM.ge k' b h2
        · exact .inl (Nat.le_trans MM.size hge)
      · rw [hlj j hl] at h1; exact MM.ge _ b h1
  · cases k with
    | inl i => rw [hL'i, ← hLi i] at h1; exact MM.ph _ b h1
    | inr j =>
      by_cases hl : lnAt M j = .no
      · rw [hL2j j hl] at h1; exact M2.ph _ b h1
      · rw [hlj j hl] at h1; exact MM.ph _ b h1

end Go.Proofs.Ytgpkdfefgcpbiaa

namespace Go.Proofs.Ytgpkdfefgcpbiaa
set_option linter.unusedVariables false
set_option linter.unusedSimpArgs false
open Go Go.RowKit

section
variable {P : Program} {ι κ : Type} {φ ψ : Nat → Prop} {w0 w : World} {F : ι → Rs} {ρ ρ0 : Nat → Value} {N m n : Nat} {S : List It} {tm : List (Nat × AV)} {a : Act}
theorem MemF.release {L L' : κ → Rs} (M : MemF φ ψ w0 w L) (h : ∀ k, L' k = L k ∨ ((∀ b, ¬ (L' k).blk b) ∧ ∀ φ', (∀ b, FrF φ L b → φ' b) → (∀ b, (L k).blk b → φ' b) → (L' k).holds w φ')) : MemF φ ψ w0 w L' := by
  have old : ∀ k b, (L' k).blk b → (L k).blk b := fun k b hb => by
    rcases h k with e | ⟨h1, _⟩
    · rw [e] at hb; exact hb
    · exact (h1 b hb).elim
  have hfr : ∀ b, FrF φ L b → FrF φ L' b := fun b hb => ⟨hb.1, fun k hk => hb.2 k (old k b hk)⟩
  refine ⟨M.kept, M.fresh, fun k => ?_, fun i j g hij h1 h2 => M.dis i j g hij (old i g h1) (old j g h2), fun i b hb => M.ge i b (old i b hb), fun i b hb => M.ph i b (old i b hb)⟩
  rcases h k with e | ⟨h1, h2⟩
  · rw [e]; exact Rs.keep (M.holds k) (Agr.mono fun b _ hf => hfr b hf) fun _ _ => rfl
  · refine h2 _ hfr fun b hb => ⟨M.ph k b hb, fun j hj => ?_⟩
    by_cases e : j = k
    · subst e; exact h1 b hj
    · exact M.dis j k b e (old j b hj) hb

mutual
theorem AV.ids_tr (M : List Ln) : ∀ (x : AV), (x.tr M).ids = x.ids
  | .v _ => rfl
  | .ptr _ _ => rfl
  | .ea _ _ _ _ => rfl
  | .ref i => by simp only [AV.tr]; split <;> rfl
  | .agg l => by simp only [AV.tr, AV.ids]; exact AV.idsL_tr M l
  | .tup l => by simp only [AV.tr, AV.ids]; exact AV.idsL_tr M l
  | .fn _ l => by simp only [AV.tr, AV.ids]; exact AV.idsL_tr M l
  | .bm _ l => by simp only [AV.tr, AV.ids]; exact AV.idsL_tr M l
  | .tref _ => rfl
theorem AV.idsL_tr (M : List Ln) : ∀ (l : List AV), AV.idsL (AV.trL M l) = AV.idsL l
  | [] => rfl
  | x :: r => by simp only [AV.trL, AV.idsL]; rw [AV.ids_tr M x, AV.idsL_tr M r]
end
theorem look_tr {M : List Ln} {t : Nat} {x : AV} : ∀ {tm : List (Nat × AV)}, look tm t = some x → look (tm.map fun p => (p.1, p.2.tr M)) t = some (x.tr M) ∧ ∃ p ∈ tm, p.2 = x
  | [], h => by cases h
  | (k, y) :: r, h => by
    simp only [look, List.map_cons] at h ⊢
    split at h
    · cases h; rename_i hk; rw [if_pos hk]; exact ⟨rfl, _, List.mem_cons_self, rfl⟩
    · rename_i hk; rw [if_neg hk]
      obtain ⟨h1, p, h2, h3⟩ := look_tr h
      exact ⟨h1, p, List.mem_cons_of_mem _ h2, h3⟩

def frzB (M : List Ln) (m : Nat) (S1 : List It) (tm1 : List (Nat × AV)) : Bool :=
  decide (M.length ≤ S1.length) && (List.range S1.length).all (fun i => match lnAt M i, lst S1 i with
    | .no, .box cs => AV.trOkL M cs
    | .no, _ => true
    | .row _, .dat _ => true
    | .tree, .dat _ => decide (m ≤ i)
    | _, _ => false) && tm1.all fun p => p.2.trOk M
theorem It.ids_lend (M : List Ln) (l : Ln) (x : It) : x.ids = [] ∨ (lendIt M l x).ids = x.ids := by
  cases x with
  | box cs => cases l <;> first | exact .inr rfl | exact .inr (AV.idsL_tr M cs)
  | _ => exact .inl rfl
theorem Gam.frz (G : Gam φ ψ w0 F N m ρ0 ρ S tm a w) (M : List Ln) (S1 : List It) (tm1 : List (Nat × AV)) (hb : frzB M m S1 tm1 = true := by kernel_rfl) (hS : S = lendL M S1 := by kernel_rfl) (ht : tm = tm1.map (fun p => (p.1, p.2.tr M)) := by kernel_rfl) :
    ∃ ρ', Gam φ ψ w0 F N m ρ0 ρ' S1 tm1 a w := by
  subst hS
  subst ht
  simp only [frzB, Bool.and_eq_true, decide_eq_true_eq] at hb
  obtain ⟨⟨hM, hall⟩, htm⟩ := hb
  have hlen : (lendL M S1).length = S1.length := by simp [lendL]
  have hno : ∀ i, S1.length ≤ i → lnAt M i = .no := fun i hi => by
    unfold lnAt; rw [List.getD_eq_getElem?_getD, List.getElem?_eq_none (by omega)]; rfl
  have hat := fun i (hi : i < S1.length) => List.all_eq_true.1 hall i (List.mem_range.2 hi)
  let ρ1 : Nat → Value := fun i => if (lnAt M i).isT then valOf (ρ i) else ρ i
  have hρ1 : ∀ i, ρ1 i = if (lnAt M i).isT then valOf (ρ i) else ρ i := fun _ => rfl
  have hρn : ∀ i, (lnAt M i).isT = false → ρ1 i = ρ i := fun i h => by rw [hρ1, h]; rfl
  refine ⟨ρ1, G.size, G.defs, fun t x hx => ?_, fun t x hx i hi => ?_, fun j => ⟨fun i hi => ?_, fun hj => lst_out hj⟩, ?_, ?_, fun i hi => ?_⟩
  · obtain ⟨h1, p, h2, h3⟩ := look_tr (M := M) hx
    rw [G.tmv t _ h1, AV.val_tr hρ1 x (by rw [← h3]; exact List.all_eq_true.1 htm p h2)]
  · obtain ⟨h1, _⟩ := look_tr (M := M) hx
    have := G.tmi t _ h1 i (by rw [AV.ids_tr]; exact hi)
    rw [hlen] at this; exact this
  · have h1 := (G.bd j).1 i
    rw [lst_lend, hlen] at h1
    rcases It.ids_lend M (lnAt M j) (lst S1 j) with h | h
    · rw [h] at hi; cases hi
    · exact h1 (by rw [h]; exact hi)
  · refine G.mem.release fun k => ?_
    cases k with
    | inl i => exact .inl rfl
    | inr j =>
      simp only [lay]
      rw [lst_lend]
      rcases Nat.lt_or_ge j S1.length with hj | hj
      case inr => rw [hno j hj, lst_out hj]; exact .inl rfl
      have h1 := hat j hj
      cases hl : lnAt M j with
      | no =>
        have e : ρ1 j = ρ j := hρn j (by rw [hl]; rfl)
        rw [hl] at h1
        left
        cases hx : lst S1 j with
        | box cs =>
          rw [hx] at h1
          simp only [lendIt, It.res]
          rw [e, AV.vals_tr hρ1 cs h1]
        | none => rfl
        | dead => rfl
        | dat d => simp only [lendIt, It.res]; rw [e]
        | row e' d => simp only [lendIt, It.res]; rw [e]
        | tree d => simp only [lendIt, It.res]; rw [e]
      | row e' =>
        have e : ρ1 j = ρ j := hρn j (by rw [hl]; rfl)
        rw [hl] at h1
        cases hx : lst S1 j <;> rw [hx] at h1 <;> first | cases h1 | skip
        rename_i d
        refine .inr ⟨fun b hb => hb, fun φ' hf hown => ⟨RD.nice _ _, ?_⟩⟩
        have hh := G.mem.holds (.inr j)
        simp only [lay] at hh
        rw [lst_lend, hl, hx] at hh
        simp only [lendIt, It.res] at hh
        obtain ⟨_, xs, o1, o2⟩ := hh
        rw [e]
        exact RD.make (owns_rowF o1 fun g hg => hown g hg) (RW.nice _ _ _ _ _ _ (Agr.mono fun b _ hb => hf b hb) o2)
      | tree =>
        have e : ρ1 j = valOf (ρ j) := by rw [hρ1, hl]; rfl
        rw [hl] at h1
        cases hx : lst S1 j <;> rw [hx] at h1 <;> first | cases h1 | skip
        rename_i d
        refine .inr ⟨fun b hb => hb, fun φ' hf hown => ⟨RD.nice _ _, ?_⟩⟩
        have hh := G.mem.holds (.inr j)
        simp only [lay] at hh
        rw [lst_lend, hl, hx] at hh
        simp only [lendIt, It.res] at hh
        rw [e]
        exact TreeO.read hh.2.1 fun b hb => hown b hb
  · have := G.le; rw [hlen] at this; exact this
  · have hm := G.le
    rw [hlen] at hm
    have : (lnAt M i).isT = false := by
      cases hl : lnAt M i with
      | no => rfl
      | row _ => rfl
      | tree =>
        have h1 := hat i (by omega)
        rw [hl] at h1
        cases hx : lst S1 i <;> rw [hx] at h1 <;> simp at h1
        omega
    show ρ1 i = ρ0 i
    rw [hρn i this]; exact G.old i hi
end
end Go.Proofs.Ytgpkdfefgcpbiaa

namespace Go.Proofs.Ytgpkdfefgcpbiaa
set_option linter.unusedVariables false
set_option linter.unusedSimpArgs false

def arity (k : Int) : Int := if k = 1 ∨ k = 2 then 0 else if k = 3 then 1 else if 4 ≤ k ∧ k ≤ 10 then 2 else if k = 11 then 3 else -1
def limit (nv na : Nat) (k : Int) : Int := if k = 1 then 256 else if k = 2 then nv else if k = 3 then na else 1
def atomB (e : LExpr) : Bool := decide (e.kind = 1) || decide (e.kind = 2)
/-- What is asked of a node itself. -/
def nodeB (nv na : Nat) (e : LExpr) : Bool := decide ((e.kids.length : Int) = arity e.kind) && decide (0 ≤ e.value) && decide (e.value < limit nv na e.kind)
def readB (e : LExpr) : Bool := decide (e.kind ≠ 3) || (match e.kids with | k :: _ => atomB k | [] => false)
def shapeB (nv na : Nat) : Nat → LExpr → Bool
  | 0, _ => false
  | d + 1, e => nodeB nv na e && e.kids.all (shapeB nv na d) && readB e
def cntE : Nat → LExpr → Nat
  | 0, _ => 1
  | d + 1, e => 1 + (e.kids.map (cntE d)).sum
/-- An expression is valid. -/
def rightB (nv na : Nat) (e : LExpr) : Bool := shapeB nv na 5 e && decide (1 + szE e ≤ 15)
theorem szE_kids (e : LExpr) : szE e = szEs e.kids := by cases e; rfl
theorem cnt_full (nv na : Nat) : ∀ (d : Nat) (e : LExpr), shapeB nv na d e = true → cntE d e = 1 + szE e := by
  intro d
  induction d with
  | zero => intro e h; simp [shapeB] at h
  | succ d ih =>
    intro e h
    simp only [shapeB, Bool.and_eq_true, List.all_eq_true] at h
    rw [cntE, szE_kids]
    have key : ∀ ks : List LExpr, (∀ e ∈ ks, shapeB nv na d e = true) → (ks.map (cntE d)).sum = szEs ks := by
      intro ks
      induction ks with
      | nil => intro _; rfl
      | cons a r ihr => intro hk; rw [List.map_cons, List.sum_cons, szEs, ihr fun e he => hk e (List.mem_cons_of_mem _ he), ih a (hk a List.mem_cons_self)]
    rw [key _ h.1.2]
theorem right_spec (nv na : Nat) (e : LExpr) : rightB nv na e = (shapeB nv na 5 e && decide (cntE 5 e ≤ 15)) := by
  unfold rightB
  cases h : shapeB nv na 5 e
  · rfl
  · rw [cnt_full nv na 5 e h]

/-- The program's search: how many nodes there are then, if all is well. -/
def scanB (nv na : Nat) (d c : Nat) (e : LExpr) : Bool := shapeB nv na d e && decide (c + 1 + szE e ≤ 15)
/-- Some of the operands looked at. -/
def scanPre (nv na : Nat) (d c : Nat) (ks : List LExpr) (k : Nat) : Bool := (ks.take k).all (shapeB nv na d) && decide (c + szEs (ks.take k) ≤ 15)
theorem szEs_take {ks : List LExpr} {k : Nat} (h : k < ks.length) : szEs (ks.take (k + 1)) = szEs (ks.take k) + (1 + szE ks[k]) := by
  rw [p_take_succ _ _ h, szEs_append]
  simp [szEs]
theorem szEs_take_le (ks : List LExpr) (k : Nat) : szEs (ks.take k) ≤ szEs ks := by
  have := szEs_append (ks.take k) (ks.drop k)
  rw [List.take_append_drop] at this
  omega
theorem scanPre_succ (nv na : Nat) {d c : Nat} {ks : List LExpr} {k : Nat} (h : k < ks.length) : scanPre nv na d c ks (k + 1) = (scanPre nv na d c ks k && scanB nv na d (c + szEs (ks.take k)) ks[k]) := by
  unfold scanPre scanB
  rw [szEs_take h, p_take_succ _ _ h, List.all_append]
  simp only [List.all_cons, List.all_nil, Bool.and_true]
  rw [Bool.eq_iff_iff]
  simp only [Bool.and_eq_true, decide_eq_true_eq]
  constructor
  · rintro ⟨⟨h1, h2⟩, h3⟩; exact ⟨⟨h1, by omega⟩, h2, by omega⟩
  · rintro ⟨⟨h1, _⟩, h3, h4⟩; exact ⟨⟨h1, h3⟩, by omega⟩
theorem scanPre_fail (nv na : Nat) {d c : Nat} {ks : List LExpr} {k : Nat} (h : k < ks.length) (hs : scanB nv na d (c + szEs (ks.take k)) ks[k] = false) : (ks.all (shapeB nv na d) && decide (c + szEs ks ≤ 15)) = false := by
  rw [Bool.eq_false_iff]
  intro ht
  simp only [Bool.and_eq_true, decide_eq_true_eq, List.all_eq_true] at ht
  have h1 := ht.1 _ (List.getElem_mem h)
  have h2 := szEs_take_le ks (k + 1)
  rw [szEs_take h] at h2
  unfold scanB at hs
  rw [h1] at hs
  simp at hs
  omega

def noneB (e : LExpr) : Bool := decide (e.kind = 0) && decide (e.value = 0) && decide (e.kids.length = 0)

/-- What is asked of a statement's fields that its kind does not have. -/
def partsB (s : LStmt) : Bool :=
  if (s.kind = 3 ∨ s.kind = 4) then
    decide (s.target = 0) && (if s.kind = 4 then decide (s.els.length = 0) && decide (1 ≤ s.count) && decide (s.count ≤ 3) && noneB s.index && noneB s.value
      else decide (s.count = 0) && noneB s.index)
  else decide (s.body.length = 0) && decide (s.els.length = 0) && decide (s.count = 0) && (decide (s.kind = 2) || noneB s.index)
def stmtB (nv na : Nat) : Nat → LStmt → Bool
  | 0, _ => false
  | d + 1, s => partsB s &&
    (if s.kind = 1 ∨ s.kind = 5 then decide (0 ≤ s.target) && decide (s.target < nv) && rightB nv na s.value
     else if s.kind = 2 then decide (0 ≤ s.target) && decide (s.target < na) && rightB nv na s.index && atomB s.index && rightB nv na s.value
     else if s.kind = 3 then rightB nv na s.value && s.body.all (stmtB nv na d) && s.els.all (stmtB nv na d)
     else if s.kind = 4 then s.body.all (stmtB nv na d)
     else false)
def blockB (nv na : Nat) (d : Nat) (ss : List LStmt) : Bool := ss.all (stmtB nv na d)
mutual
/-- How many statements there are. -/
def nS : LStmt → Nat
  | ⟨_, _, _, _, _, b, e⟩ => 1 + nSs b + nSs e
def nSs : List LStmt → Nat
  | [] => 0
  | s :: r => nS s + nSs r
end
/-- A program is valid. -/
def progB (p : LProg) : Bool := headsB p.vars p.arrays && blockB p.vars.length p.arrays.length 5 p.body && decide (nSs p.body ≤ 60)

end Go.Proofs.Ytgpkdfefgcpbiaa

namespace Go.Proofs.Ytgpkdfefgcpbiaa
set_option linter.unusedVariables false
set_option linter.unusedSimpArgs false
open Go Go.RowKit

def dkP (t : TypeId) : Nat :=
  if natEq t 3 then 1 else
  if natEq t 4 then 2 else
  if natEq t 5 then 3 else
  if natEq t 9 then 4 else
if natEq t 153 then 5 else
if natEq t 128 then 6 else
  if natEq t 22 then 7 else
if natEq t 41 then 9 else
if natEq t 135 then 10 else
  0
/-- An expression, a statement and a program as arguments. -/
abbrev eA (e : LExpr) (r : Nat) : AV := .agg [.v (.int .i64 e.kind), .v (.int .i64 e.value), .ref r]
abbrev eS (e : LExpr) : List It := [.dat (.exprs e.kids)]
abbrev sA (s : LStmt) (r : Nat) : AV := .agg [.v (.int .i64 s.kind), .v (.int .i64 s.target), .v (.int .i64 s.index.kind), .v (.int .i64 s.index.value), .ref r, .v (.int .i64 s.value.kind), .v (.int .i64 s.value.value), .ref (r + 1), .v (.int .i64 s.count), .ref (r + 2), .ref (r + 3)]
abbrev sS (s : LStmt) : List It := [.dat (.exprs s.index.kids), .dat (.exprs s.value.kids), .dat (.stmts s.body), .dat (.stmts s.els)]
abbrev pA (r : Nat) : AV := .agg [.ref r, .ref (r + 1), .ref (r + 2)]
abbrev pS (p : LProg) : List It := [.dat (.ints p.vars), .dat (.ints p.arrays), .dat (.stmts p.body)]
abbrev iA (n : Int) : AV := .v (.int .i64 n)
abbrev bA (b : Bool) : AV := .v (.bool b)
/-- A function that turns nothing that it is handed. -/
abbrev fnC (f : FuncId) (args : List AV) (S : List It) (res : AV) : Ctr := ⟨f, args, S, S, res⟩

/-- Short words for what the walks name. -/
abbrev dI (l : List Int) : It := .dat (.ints l)
abbrev dB (l : List Bool) : It := .dat (.bools l)
abbrev dY (l : List UInt8) : It := .dat (.bytes l)
abbrev dN (l : List LIns) : It := .dat (.instrs l)
abbrev dV (l : List (Int × Int)) : It := .dat (.events l)
abbrev dR (l : List (List Int)) : It := .dat (.rows l)
abbrev dE (l : List LExpr) : It := .dat (.exprs l)
abbrev dT (l : List LStmt) : It := .dat (.stmts l)
abbrev eL (e : LExpr) (r : Nat) : List AV := [.v (.int .i64 e.kind), .v (.int .i64 e.value), .ref r]
abbrev sL (s : LStmt) (r : Nat) : List AV := [.v (.int .i64 s.kind), .v (.int .i64 s.target), .v (.int .i64 s.index.kind), .v (.int .i64 s.index.value), .ref r, .v (.int .i64 s.value.kind), .v (.int .i64 s.value.value), .ref (r + 1), .v (.int .i64 s.count), .ref (r + 2), .ref (r + 3)]
abbrev pL (r : Nat) : List AV := [.ref r, .ref (r + 1), .ref (r + 2)]
section
variable {P : Program} {ι : Type} {φ ψ : Nat → Prop} {w0 w w' : World} {F : ι → Rs} {ρ ρ0 : Nat → Value} {N m n : Nat} {S : List It} {tm : List (Nat × AV)} {a : Act} {Q : Exit → Act → World → Prop}
/-- A statement that only reads, tests nothing and owes nothing. -/
theorem rs0 {l : List Oper} {id : Nat} (G : Gam φ ψ w0 F N m ρ0 ρ S tm a w) (js : List Nat) (S1 : List It) (tm1 : List (Nat × AV)) (k : ∀ ρ' a' w', Gam φ ψ w0 F N m ρ0 ρ' S1 tm1 a' w' → Q .normal a' w')
    (hs : ((runA P dkP N l ⟨[], [], []⟩ l 0 tm (lst S) S.length).isSome && selB m js S1 tm1) = true := by kernel_rfl)
    (hc : outL (runA P dkP N l ⟨[], [], []⟩ l 0 tm (lst S) S.length) js (tm1.map (·.1)) = outR (runA P dkP N l ⟨[], [], []⟩ l 0 tm (lst S) S.length) [] js S1 tm1 := by kernel_rfl) : (Code.region id l.toArray false).wp P Q a w := rx_seq G ⟨[], [], []⟩ calls_nil trivial js S1 tm1 [] hs hc trivial k
/-- The same where the things stay as they stand. -/
theorem rs0s {l : List Oper} {id : Nat} (G : Gam φ ψ w0 F N m ρ0 ρ S tm a w) (tm1 : List (Nat × AV)) (k : ∀ ρ' a' w', Gam φ ψ w0 F N m ρ0 ρ' S tm1 a' w' → Q .normal a' w')
    (hs : ((runA P dkP N l ⟨[], [], []⟩ l 0 tm (lst S) S.length).isSome && selB m (List.range S.length) S tm1) = true := by kernel_rfl)
    (hc : outL (runA P dkP N l ⟨[], [], []⟩ l 0 tm (lst S) S.length) (List.range S.length) (tm1.map (·.1)) = outR (runA P dkP N l ⟨[], [], []⟩ l 0 tm (lst S) S.length) [] (List.range S.length) S tm1 := by kernel_rfl) : (Code.region id l.toArray false).wp P Q a w := rs0 G _ S tm1 k hs hc
theorem rs1s {l : List Oper} {id : Nat} (G : Gam φ ψ w0 F N m ρ0 ρ S tm a w) (H : Hint) (hH : ∀ i c τ, hcall H.calls i = some (c, τ) → c.ok P) (hF : Facts H.facts) (tm1 : List (Nat × AV)) (obs : List Prop)
    (ho : AllP obs) (k : ∀ ρ' a' w', Gam φ ψ w0 F N m ρ0 ρ' S tm1 a' w' → Q .normal a' w')
    (hs : ((runA P dkP N l H l 0 tm (lst S) S.length).isSome && selB m (List.range S.length) S tm1) = true := by kernel_rfl)
    (hc : outL (runA P dkP N l H l 0 tm (lst S) S.length) (List.range S.length) (tm1.map (·.1)) = outR (runA P dkP N l H l 0 tm (lst S) S.length) obs (List.range S.length) S tm1 := by kernel_rfl) : (Code.region id l.toArray false).wp P Q a w := rs1 G H hH hF _ S tm1 obs ho k hs hc
theorem rd1s {l : List Oper} {id : Nat} (G : Gam φ ψ w0 F N m ρ0 ρ S tm a w) (H : Hint) (hH : ∀ i c τ, hcall H.calls i = some (c, τ) → c.ok P) (hF : Facts H.facts) (ms : List Nat) (tm1 : List (Nat × AV)) (obs : List Prop)
    (ho : AllP obs) (k : ∀ ρ' a' w', Gam φ ψ w0 F N m ρ0 ρ' S tm1 a' w' → Q .normal a' w') (hm : P.follows .mixedOrders = true := by kernel_rfl)
    (hs : (drawB l ms S.length (runA P dkP N l H l 0 tm (lst S) S.length) && selB m (List.range S.length) S tm1) = true := by kernel_rfl)
    (hc : outL (runA P dkP N l H l 0 tm (lst S) S.length) (List.range S.length) (tm1.map (·.1)) = outR (runA P dkP N l H l 0 tm (lst S) S.length) obs (List.range S.length) S tm1 := by kernel_rfl) : (Code.region id l.toArray true).wp P Q a w := rd1 G H hH hF ms _ S tm1 obs ho k hm hs hc
end
theorem LExpr.eta (e : LExpr) : (⟨e.kind, e.value, e.kids⟩ : LExpr) = e := by cases e; rfl
theorem LStmt.eta (s : LStmt) : (⟨s.kind, s.target, s.index, s.value, s.count, s.body, s.els⟩ : LStmt) = s := by cases s; rfl

end Go.Proofs.Ytgpkdfefgcpbiaa

namespace Go.Proofs.Ytgpkdfefgcpbiaa
set_option linter.unusedVariables false
set_option linter.unusedSimpArgs false
open Go Go.RowKit

theorem spec_LabelValid (l : Int) (w : World) : Calls Try.prog 83 #[.int .i64 l] w fun e w' => e = .returned (.bool (labOk l)) ∧ w = w' := by
  go_enter Try.func83, Try.ntmps83
  go_wp2
  all_goals go_ret
  all_goals exact ⟨ret_bool (by simp [labOk]; try omega), rfl⟩


set_option maxHeartbeats 1000000 in
theorem spec_l2Heads (v1 v2 v3 : Value) (vars arrays : List Int) (w : World) (h1 : Row w v1 vars.length 1 (ints vars)) (h2 : Row w v2 arrays.length 1 (ints arrays)) :
    Calls Try.prog 136 #[.agg #[v1, v2, v3]] w fun e w' => e = .returned (.bool (headsB vars arrays)) ∧ Below w.heap.size w w' := by
  have B0 : Below w.heap.size w (w.alloc (.cells #[v1, v2, v3] 31)) := by go_grown
  obtain ⟨a1, c1, rfl, -, hm1, -, hc1⟩ := (h1.below B0).open1
  obtain ⟨a2, c2, rfl, -, hm2, -, hc2⟩ := (h2.below B0).open1
  have HT : Hid (headsB vars arrays = (vars.all labOk && arrays.all labOk && decide (1 ≤ vars.length) && decide (vars.length ≤ 12) && decide (arrays.length ≤ 2))) := rfl
  clear h1 h2
  go_enter Try.func136, Try.ntmps136
  go_wp2_with fail
  go_loop [3] (fun i => ∃ k : Nat, k ≤ vars.length ∧ i = .int .i64 k ∧ (vars.take k).all labOk = true) (fun i => vars.length - (intOf i).toNat)
  case atStart => exact ⟨0, Nat.zero_le _, rfl, rfl⟩
  case round =>
    obtain ⟨k, hk, rfl, ha⟩ := hrel
    have HA := show Hid _ from ha
    clear ha
    by_cases hlt : k < vars.length
    · obtain ⟨b1, o1, rfl, hb1, hx⟩ := hc1 k hlt
      rw [ints_get _ _ hlt] at hx
      have HS := show Hid _ from all_take_succ labOk vars k hlt
      clear hc1 hc2
      cases hl : labOk vars[k]
      all_goals
        have HL := show Hid _ from hl
        clear hl
        go_wp2_with fail
        refine (spec_LabelValid _ _).mono ?_
        rintro e w1 ⟨rfl, rfl⟩
        rw [HL.out]
        go_wp2_with fail
      · go_ret
        exact ⟨ret_bool (by rw [HT.out, not_all hlt HL.out]; rfl), B0⟩
      · go_round
        case rel => exact ⟨k + 1, by omega, by go_num, by rw [HS.out, HA.out, HL.out]; rfl⟩
        case measure => simp [intOf]; omega
    · have HA' := show Hid (vars.all labOk = true) from by have := HA.out; rwa [List.take_of_length_le (by omega)] at this
      clear HA hc1
      go_wp2_with fail
      go_loop [4] (fun i => ∃ k : Nat, k ≤ arrays.length ∧ i = .int .i64 k ∧ (arrays.take k).all labOk = true) (fun i => arrays.length - (intOf i).toNat)
      case atStart => exact ⟨0, Nat.zero_le _, rfl, rfl⟩
      case round =>
        obtain ⟨j, hj, rfl, ha⟩ := hrel
        have HB := show Hid _ from ha
        clear ha
        by_cases hlj : j < arrays.length
        · obtain ⟨b1, o1, rfl, hb1, hx⟩ := hc2 j hlj
          rw [ints_get _ _ hlj] at hx
          have HS := show Hid _ from all_take_succ labOk arrays j hlj
          clear hc2
          cases hl : labOk arrays[j]
          all_goals
            have HL := show Hid _ from hl
            clear hl
            go_wp2_with fail
            refine (spec_LabelValid _ _).mono ?_
            rintro e w1 ⟨rfl, rfl⟩
            rw [HL.out]
            go_wp2_with fail
          · go_ret
            exact ⟨ret_bool (by rw [HT.out, not_all hlj HL.out]; simp), B0⟩
          · go_round
            case rel => exact ⟨j + 1, by omega, by go_num, by rw [HS.out, HB.out, HL.out]; rfl⟩
            case measure => simp [intOf]; omega
        · have HB' := show Hid (arrays.all labOk = true) from by have := HB.out; rwa [List.take_of_length_le (by omega)] at this
          clear HB hc2
          go_wp2_with fail
          all_goals go_ret
          all_goals refine ⟨ret_bool ?_, B0⟩
          all_goals rw [HT.out, HA'.out, HB'.out]
          all_goals rw [Bool.eq_iff_iff]
          all_goals simp
          all_goals omega


theorem bool_tri (c : Bool) : c = true ∨ c = false := by cases c <;> simp




end Go.Proofs.Ytgpkdfefgcpbiaa

namespace Go.Proofs.Ytgpkdfefgcpbiaa
set_option linter.unusedVariables false
set_option linter.unusedSimpArgs false
open Go Go.RowKit

theorem spec_l2Arity (k : Int) (w : World) : Calls Try.prog 188 #[.int .i64 k] w fun e w' => e = .returned (.int .i64 (arity k)) ∧ w = w' := by
  go_enter Try.func188, Try.ntmps188
  go_wp2
  all_goals
    go_ret
    exact ⟨ret_int (by unfold arity; (repeat' split) <;> simp_all <;> omega), rfl⟩

theorem spec_l2Atom (k n : Int) (kv : Value) (w : World) : Calls Try.prog 190 #[.agg #[.int .i64 k, .int .i64 n, kv]] w fun e w' => e = .returned (.bool (decide (k = 1) || decide (k = 2))) ∧ Below w.heap.size w w' := by
  by_cases h1 : k = 1
  · have p1 : (k == 1) = true := by simp [h1]
    have Q := show Hid _ from h1
    clear h1
    go_enter Try.func190, Try.ntmps190
    go_wp2
    go_ret
    exact ⟨ret_bool (by simp [Q.out]), by go_grown⟩
  · have p1 : (k == 1) = false := by simp [h1]
    have Q := show Hid _ from h1
    clear h1
    by_cases h2 : k = 2
    · have p2 : (k == 2) = true := by simp [h2]
      have Q2 := show Hid _ from h2
      clear h2
      go_enter Try.func190, Try.ntmps190
      go_wp2
      go_ret
      exact ⟨ret_bool (by simp [Q2.out]), by go_grown⟩
    · have p2 : (k == 2) = false := by simp [h2]
      have Q2 := show Hid _ from h2
      clear h2
      go_enter Try.func190, Try.ntmps190
      go_wp2
      go_ret
      exact ⟨ret_bool (by rw [decide_eq_false Q.out, decide_eq_false Q2.out]; rfl), by go_grown⟩

theorem spec_l2Limit (a1 a2 : Option Addr) (nv c1 na c2 : Nat) (v3 : Value) (k : Int) (w : World) (h1 : nv ≤ 9223372036854775807) (h2 : na ≤ 9223372036854775807) :
    Calls Try.prog 189 #[.agg #[.slice a1 nv c1, .slice a2 na c2, v3], .int .i64 k] w fun e w' => e = .returned (.int .i64 (limit nv na k)) ∧ Below w.heap.size w w' := by
  go_enter Try.func189, Try.ntmps189
  go_wp2
  all_goals
    go_ret
    exact ⟨ret_int (by unfold limit; (repeat' split) <;> simp_all), by go_grown⟩

end Go.Proofs.Ytgpkdfefgcpbiaa

namespace Go.Proofs.Ytgpkdfefgcpbiaa
set_option linter.unusedVariables false
set_option linter.unusedSimpArgs false
open Go Go.RowKit

theorem szEs_drop (ks : List LExpr) (k : Nat) : szEs ks = szEs (ks.take k) + szEs (ks.drop k) := by
  have := szEs_append (ks.take k) (ks.drop k)
  rwa [List.take_append_drop] at this
theorem szEs_take1 {ks : List LExpr} {k : Nat} (h : k < ks.length) : szEs (ks.take (k + 1)) = szEs (ks.take k) + (1 + szE ks[k]) := by
  rw [take_succ_get _ _ h, szEs_append]
  simp [szEs]
theorem szSs_drop (ks : List LStmt) (k : Nat) : szSs ks = szSs (ks.take k) + szSs (ks.drop k) := by
  have := szSs_append (ks.take k) (ks.drop k)
  rwa [List.take_append_drop] at this
theorem szSs_take1 {ks : List LStmt} {k : Nat} (h : k < ks.length) : szSs (ks.take (k + 1)) = szSs (ks.take k) + (1 + szS ks[k]) := by
  rw [take_succ_get _ _ h, szSs_append]
  simp [szSs]

def SzE (e : LExpr) : Prop := ∀ (φ : Nat → Prop) (v : Value) (m : Int) (w : World), ExprV w φ v e → 0 ≤ m → m ≤ 1048576 →
  Calls Try.prog 20 #[v, .int .i64 m] w fun e' w' => e' = .returned (.int .i64 (szRes m (szE e))) ∧ Below w.heap.size w w'

set_option maxHeartbeats 1000000 in
theorem szExprS_of (ks : List LExpr) (ih : ∀ e ∈ ks, SzE e) (φ : Nat → Prop) (v : Value) (m : Int) (w : World) (h : KidsV w φ v ks) (hm : 0 ≤ m) (hm2 : m ≤ 1048576) :
    Calls Try.prog 72 #[v, .int .i64 m] w fun e w' => e = .returned (.int .i64 (szRes m (szEs ks))) ∧ Below w.heap.size w w' := by
  obtain ⟨a, cap, rfl, -, hn, -, hc⟩ := h.open
  have hlen := szEs_len ks
  by_cases hlt : m < (ks.length : Int)
  · have hneg := show Hid (szRes m (szEs ks) = -1) from szRes_neg (by omega)
    clear hc h hlen
    go_enter Try.func72, Try.ntmps72
    go_wp2
    go_ret
    exact ⟨ret_int hneg.out.symm, Below.refl _ _⟩
  · have HC := show Hid _ from hc
    have HL := show Hid _ from hlen
    clear hc h hlen
    go_enter Try.func72, Try.ntmps72
    go_wp2
    go_loopw [1, 5] (fun l i wr => ∃ (k : Nat) (y : Int), k ≤ ks.length ∧ i = .int .i64 k ∧ l = .int .i64 y ∧ y = m - ks.length + k - szEs (ks.take k) ∧ 0 ≤ y ∧ Below w.heap.size w wr) (fun _ i _ => ks.length - (intOf i).toNat)
    case atStart => exact ⟨0, m - ks.length, Nat.zero_le _, rfl, rfl, by simp [szEs], by omega, Below.refl _ _⟩
    case round =>
      obtain ⟨k, y, hk, rfl, rfl, hye, hy, hb⟩ := hrel
      have HY := show Hid _ from hye
      have HB := show Hid _ from hb
      have hy2 : y ≤ 1048576 := by have := szEs_take1 (ks := ks) (k := k); have : k ≤ szEs (ks.take k) := by have := szEs_len (ks.take k); rw [List.length_take] at this; omega
                                   omega
      clear hye hb
      by_cases hlk : k < ks.length
      · obtain ⟨b, off, kv, rfl, hbk, hf, c0, c1, c2, hkv⟩ := HC.out k hlk
        rw [← (bcell HB.out).1 _ _ hbk] at c0 c1 c2
        have HE := show Hid (ExprV wr φ (.agg #[.int .i64 ks[k].kind, .int .i64 ks[k].value, kv]) ks[k]) from ⟨kv, rfl, KidsV.nice _ _ _ _ _ _ (Agr.below HB.out) hkv⟩
        clear hkv
        go_wp2_with fail
        refine (ih _ (List.getElem_mem hlk) φ _ y _ HE.out hy hy2).mono ?_
        rintro e w1 ⟨rfl, b1⟩
        have B1 := show Hid _ from HB.out.trans (b1.mono HB.out.size)
        by_cases hs : y < (szE ks[k] : Int)
        · rw [szRes_neg hs]
          have hneg := show Hid (szRes m (szEs ks) = -1) from by
            have h1 := szEs_drop ks (k + 1)
            have h2 := szEs_take1 hlk
            have h3 := szEs_len (ks.drop (k + 1))
            rw [List.length_drop] at h3
            have h4 := HY.out
            exact szRes_neg (by omega)
          clear hs
          go_wp2_with fail
          go_ret
          exact ⟨ret_int hneg.out.symm, B1.out⟩
        · rw [szRes_pos hs]
          have hnn : ¬ (y - (szE ks[k] : Int) < 0) := by omega
          have hlo : y - (szE ks[k] : Int) ≤ 1048576 := by omega
          have HS := show Hid _ from hs
          clear hs
          go_wp2_with fail
          exact ⟨⟨k + 1, _, by omega, by go_num, rfl, by rw [HY.out, szEs_take1 hlk]; omega, by omega, B1.out⟩, by simp [intOf]; omega⟩
      · have hkn : k = ks.length := by omega
        subst hkn
        go_wp2_with fail
        go_ret
        exact ⟨ret_int (by have h4 := HY.out; rw [List.take_of_length_le (Nat.le_refl _)] at h4; rw [szRes_pos (by omega), h4]; omega), HB.out⟩

set_option maxHeartbeats 1000000 in
theorem szExpr_all (e : LExpr) : SzE e := by
  refine LExpr.ind (P := SzE) (fun k n ks ih => ?_) e
  intro φ v m w h hm hm2
  obtain ⟨kv, rfl, hk⟩ := h
  have bx : Below w.heap.size w (w.alloc (.cells #[.int .i64 k, .int .i64 n, kv] 37)) := by go_grown
  have HS := show Hid (szE ⟨k, n, ks⟩ = szEs ks) from rfl
  have hk1 := KidsV.nice _ _ _ _ _ _ (Agr.below bx) hk
  have HK := show Hid _ from hk1
  have HB := show Hid _ from bx
  clear hk hk1 bx
  go_enter Try.func20, Try.ntmps20
  go_wp2_with fail
  refine (szExprS_of ks ih φ kv m _ HK.out hm hm2).mono ?_
  rintro e w1 ⟨rfl, b1⟩
  have B1 := show Hid _ from HB.out.trans (b1.mono HB.out.size)
  by_cases hs : m < (szEs ks : Int)
  · rw [szRes_neg hs]
    go_wp2_with fail
    go_ret
    exact ⟨ret_int (by rw [HS.out]; exact (szRes_neg (by omega)).symm), B1.out⟩
  · rw [szRes_pos hs]
    have hnn : ¬ (m - (szEs ks : Int) < 0) := by omega
    have hlo : m - (szEs ks : Int) ≤ 1048576 := by omega
    go_wp2_with fail
    go_ret
    exact ⟨ret_int (by rw [HS.out]; exact (szRes_pos (by omega)).symm), B1.out⟩

def SzS (e : LStmt) : Prop := ∀ (φ : Nat → Prop) (v : Value) (m : Int) (w : World), StmtV w φ v e → 0 ≤ m → m ≤ 1048576 →
  Calls Try.prog 128 #[v, .int .i64 m] w fun e' w' => e' = .returned (.int .i64 (szRes m (szS e))) ∧ Below w.heap.size w w'

set_option maxHeartbeats 1000000 in
theorem szStmtS_of (ks : List LStmt) (ih : ∀ e ∈ ks, SzS e) (φ : Nat → Prop) (v : Value) (m : Int) (w : World) (h : BlockV w φ v ks) (hm : 0 ≤ m) (hm2 : m ≤ 1048576) :
    Calls Try.prog 64 #[v, .int .i64 m] w fun e w' => e = .returned (.int .i64 (szRes m (szSs ks))) ∧ Below w.heap.size w w' := by
  obtain ⟨a, cap, rfl, -, hn, -, hc⟩ := h.open
  have hlen := szSs_len ks
  by_cases hlt : m < (ks.length : Int)
  · have hneg := show Hid (szRes m (szSs ks) = -1) from szRes_neg (by omega)
    clear hc h hlen
    go_enter Try.func64, Try.ntmps64
    go_wp2
    go_ret
    exact ⟨ret_int hneg.out.symm, Below.refl _ _⟩
  · have HC := show Hid _ from hc
    have HL := show Hid _ from hlen
    clear hc h hlen
    go_enter Try.func64, Try.ntmps64
    go_wp2
    go_loopw [1, 5] (fun l i wr => ∃ (k : Nat) (y : Int), k ≤ ks.length ∧ i = .int .i64 k ∧ l = .int .i64 y ∧ y = m - ks.length + k - szSs (ks.take k) ∧ 0 ≤ y ∧ Below w.heap.size w wr) (fun _ i _ => ks.length - (intOf i).toNat)
    case atStart => exact ⟨0, m - ks.length, Nat.zero_le _, rfl, rfl, by simp [szSs], by omega, Below.refl _ _⟩
    case round =>
      obtain ⟨k, y, hk, rfl, rfl, hye, hy, hb⟩ := hrel
      have HY := show Hid _ from hye
      have HB := show Hid _ from hb
      have hy2 : y ≤ 1048576 := by have := szSs_take1 (ks := ks) (k := k); have : k ≤ szSs (ks.take k) := by have := szSs_len (ks.take k); rw [List.length_take] at this; omega
                                   omega
      clear hye hb
      by_cases hlk : k < ks.length
      · obtain ⟨b, off, iv, vv, bv, ev, rfl, hbk, hf, ⟨c0, c1, c2, c3, c4, c5, c6, c7, c8, c9, c10⟩, g1, g2, g3, g4⟩ := HC.out k hlk
        rw [← (bcell HB.out).1 _ _ hbk] at c0 c1 c2 c3 c4 c5 c6 c7 c8 c9 c10
        have HE := show Hid (StmtV wr φ (.agg #[.int .i64 ks[k].kind, .int .i64 ks[k].target, .int .i64 ks[k].index.kind, .int .i64 ks[k].index.value, iv, .int .i64 ks[k].value.kind, .int .i64 ks[k].value.value, vv, .int .i64 ks[k].count, bv, ev]) ks[k]) from StmtV.nice _ _ _ _ _ _ (Agr.below HB.out) ⟨iv, vv, bv, ev, rfl, g1, g2, g3, g4⟩
        clear g1 g2 g3 g4
        go_wp2_with fail
        refine (ih _ (List.getElem_mem hlk) φ _ y _ HE.out hy hy2).mono ?_
        rintro e w1 ⟨rfl, b1⟩
        have B1 := show Hid _ from HB.out.trans (b1.mono HB.out.size)
        by_cases hs : y < (szS ks[k] : Int)
        · rw [szRes_neg hs]
          have hneg := show Hid (szRes m (szSs ks) = -1) from by
            have h1 := szSs_drop ks (k + 1)
            have h2 := szSs_take1 hlk
            have h3 := szSs_len (ks.drop (k + 1))
            rw [List.length_drop] at h3
            have h4 := HY.out
            exact szRes_neg (by omega)
          clear hs
          go_wp2_with fail
          go_ret
          exact ⟨ret_int hneg.out.symm, B1.out⟩
        · rw [szRes_pos hs]
          have hnn : ¬ (y - (szS ks[k] : Int) < 0) := by omega
          have hlo : y - (szS ks[k] : Int) ≤ 1048576 := by omega
          have HS := show Hid _ from hs
          clear hs
          go_wp2_with fail
          exact ⟨⟨k + 1, _, by omega, by go_num, rfl, by rw [HY.out, szSs_take1 hlk]; omega, by omega, B1.out⟩, by simp [intOf]; omega⟩
      · have hkn : k = ks.length := by omega
        subst hkn
        go_wp2_with fail
        go_ret
        exact ⟨ret_int (by have h4 := HY.out; rw [List.take_of_length_le (Nat.le_refl _)] at h4; rw [szRes_pos (by omega), h4]; omega), HB.out⟩

theorem szRes_sub {m : Int} {a b : Nat} (h : ¬ m < (a : Int)) : szRes (m - a) b = szRes m (a + b) := by
  by_cases h2 : m - a < (b : Int)
  · rw [szRes_neg h2, szRes_neg (by omega)]
  · rw [szRes_pos h2, szRes_pos (by omega)]; omega

set_option maxHeartbeats 2000000 in
theorem szStmt_all (s : LStmt) : SzS s := by
  refine LStmt.ind (P := SzS) (fun k t i v c b e ihb ihe => ?_) s
  intro φ u m w h hm hm2
  obtain ⟨iv, vv, bv, ev, rfl, g1, g2, g3, g4⟩ := h
  simp only [LStmt.index, LStmt.value, LStmt.body, LStmt.els, LStmt.kind, LStmt.target, LStmt.count] at g1 g2 g3 g4 ⊢
  have HS := show Hid (szS ⟨k, t, i, v, c, b, e⟩ = szE i + szE v + szSs b + szSs e) from rfl
  obtain ⟨W, hW, M⟩ : ∃ W, W = w.alloc (.cells #[.int .i64 k, .int .i64 t, .int .i64 i.kind, .int .i64 i.value, iv, .int .i64 v.kind, .int .i64 v.value, vv, .int .i64 c, bv, ev] 139) ∧ Mem (fun _ => True) (fun _ => True) w W [.box w.heap.size [.int .i64 k, .int .i64 t, .int .i64 i.kind, .int .i64 i.value, iv, .int .i64 v.kind, .int .i64 v.value, vv, .int .i64 c, bv, ev]] :=
    ⟨_, rfl, (Mem.start fun _ _ => trivial).box _ _⟩
  have HG := show Hid (∀ W', Below w.heap.size w W' → ExprV W' φ (.agg #[.int .i64 i.kind, .int .i64 i.value, iv]) i ∧ ExprV W' φ (.agg #[.int .i64 v.kind, .int .i64 v.value, vv]) v ∧ BlockV W' φ bv b ∧ BlockV W' φ ev e) from fun W' k =>
    ⟨⟨iv, rfl, KidsV.nice _ _ _ _ _ _ (Agr.below k) g1⟩, ⟨vv, rfl, KidsV.nice _ _ _ _ _ _ (Agr.below k) g2⟩, BlockV.nice _ _ _ _ _ _ (Agr.below k) g3, BlockV.nice _ _ _ _ _ _ (Agr.below k) g4⟩
  clear g1 g2 g3 g4
  have c2 := M.c 0 2 rfl rfl
  have c3 := M.c 0 3 rfl rfl
  have c4 := M.c 0 4 rfl rfl
  rw [hW] at c2 c3 c4
  go_enter Try.func128, Try.ntmps128
  go_wp2_with fail
  rw [← hW]
  clear hW c2 c3 c4
  refine (szExpr_all i φ _ m _ (HG.out _ (M.below fun _ _ => trivial)).1 hm hm2).mono ?_
  rintro x w1 ⟨rfl, b1⟩
  replace M := M.call b1
  clear b1
  by_cases h1 : m < (szE i : Int)
  · rw [szRes_neg h1]
    have HB := show Hid _ from M.below fun _ _ => trivial
    have HN := show Hid (szRes m (szE i + szE v + szSs b + szSs e) = -1) from szRes_neg (by omega)
    clear h1 M
    go_wp2_with fail
    go_ret
    exact ⟨ret_int (by rw [HS.out]; exact HN.out.symm), HB.out⟩
  have hx1 : 0 ≤ m - (szE i : Int) := by omega
  have hy1 : m - (szE i : Int) ≤ 1048576 := by omega
  rw [szRes_pos h1]
  have c5 := M.c 0 5 rfl rfl
  have c6 := M.c 0 6 rfl rfl
  have c7 := M.c 0 7 rfl rfl
  clear h1
  have HM := show Hid _ from M
  clear M
  go_wp2_with fail
  have M := HM.out
  clear HM c5 c6 c7
  refine (szExpr_all v φ _ _ _ (HG.out _ (M.below fun _ _ => trivial)).2.1 hx1 hy1).mono ?_
  rintro x w2 ⟨rfl, b1⟩
  replace M := M.call b1
  clear b1
  by_cases h2 : m - (szE i : Int) < (szE v : Int)
  · rw [szRes_neg h2]
    have HB := show Hid _ from M.below fun _ _ => trivial
    have HN := show Hid (szRes m (szE i + szE v + szSs b + szSs e) = -1) from szRes_neg (by omega)
    clear h2 M
    go_wp2_with fail
    go_ret
    exact ⟨ret_int (by rw [HS.out]; exact HN.out.symm), HB.out⟩
  have hx2 : 0 ≤ m - (szE i : Int) - (szE v : Int) := by omega
  have hy2 : m - (szE i : Int) - (szE v : Int) ≤ 1048576 := by omega
  rw [szRes_pos h2]
  have c9 := M.c 0 9 rfl rfl
  clear h2
  have HM := show Hid _ from M
  clear M
  go_wp2_with fail
  have M := HM.out
  clear HM c9
  refine (szStmtS_of b ihb φ _ _ _ (HG.out _ (M.below fun _ _ => trivial)).2.2.1 hx2 hy2).mono ?_
  rintro x w3 ⟨rfl, b1⟩
  replace M := M.call b1
  clear b1
  by_cases h3 : m - (szE i : Int) - (szE v : Int) < (szSs b : Int)
  · rw [szRes_neg h3]
    have HB := show Hid _ from M.below fun _ _ => trivial
    have HN := show Hid (szRes m (szE i + szE v + szSs b + szSs e) = -1) from szRes_neg (by omega)
    clear h3 M
    go_wp2_with fail
    go_ret
    exact ⟨ret_int (by rw [HS.out]; exact HN.out.symm), HB.out⟩
  have hx3 : 0 ≤ m - (szE i : Int) - (szE v : Int) - (szSs b : Int) := by omega
  have hy3 : m - (szE i : Int) - (szE v : Int) - (szSs b : Int) ≤ 1048576 := by omega
  rw [szRes_pos h3]
  have c10 := M.c 0 10 rfl rfl
  clear h3
  have HM := show Hid _ from M
  clear M
  go_wp2_with fail
  have M := HM.out
  clear HM c10
  refine (szStmtS_of e ihe φ _ _ _ (HG.out _ (M.below fun _ _ => trivial)).2.2.2 hx3 hy3).mono ?_
  rintro x w4 ⟨rfl, b1⟩
  replace M := M.call b1
  clear b1
  have HB := show Hid _ from M.below fun _ _ => trivial
  clear M
  by_cases h4 : m - (szE i : Int) - (szE v : Int) - (szSs b : Int) < (szSs e : Int)
  · rw [szRes_neg h4]
    have HN := show Hid (szRes m (szE i + szE v + szSs b + szSs e) = -1) from szRes_neg (by omega)
    clear h4
    go_wp2_with fail
    go_ret
    exact ⟨ret_int (by rw [HS.out]; exact HN.out.symm), HB.out⟩
  · rw [szRes_pos h4]
    have HN := show Hid (szRes m (szE i + szE v + szSs b + szSs e) = m - (szE i : Int) - (szE v : Int) - (szSs b : Int) - (szSs e : Int)) from by unfold Hid; rw [szRes_pos (by omega)]; omega
    have hx4 : ¬ (m - (szE i : Int) - (szE v : Int) - (szSs b : Int) - (szSs e : Int) < 0) := by omega
    have hy4 : m - (szE i : Int) - (szE v : Int) - (szSs b : Int) - (szSs e : Int) ≤ 1048576 := by omega
    clear h4
    go_wp2_with fail
    go_ret
    exact ⟨ret_int (by rw [HS.out]; exact HN.out.symm), HB.out⟩

set_option maxHeartbeats 1000000 in
theorem szProgram_any (φ : Nat → Prop) (u : Value) (p : LProg) (m : Int) (w : World) (h : ProgV w φ u p) (hm : 0 ≤ m) (hm2 : m ≤ 1048576) :
    Calls Try.prog 15 #[u, .int .i64 m] w fun e w' => e = .returned (.int .i64 (szRes m p.size)) ∧ Below w.heap.size w w' := by
  obtain ⟨v1, v2, v3, rfl, h1, h2, h3⟩ := h
  have HS : Hid (p.size = p.vars.length + p.arrays.length + szSs p.body) := rfl
  obtain ⟨W, hW, M⟩ : ∃ W, W = w.alloc (.cells #[v1, v2, v3] 25) ∧ Mem (fun _ => True) (fun _ => True) w W [.box w.heap.size [v1, v2, v3]] :=
    ⟨_, rfl, (Mem.start fun _ _ => trivial).box _ _⟩
  have HG := show Hid (∀ W', Below w.heap.size w W' → Row W' v1 p.vars.length 1 (ints p.vars) ∧ Row W' v2 p.arrays.length 1 (ints p.arrays) ∧ BlockV W' φ v3 p.body) from fun W' k =>
    ⟨h1.row.below k, h2.row.below k, BlockV.nice _ _ _ _ _ _ (Agr.below k) h3⟩
  clear h1 h2 h3
  have c0 := M.c 0 0 rfl rfl
  rw [hW] at c0
  go_enter Try.func15, Try.ntmps15
  go_wp2_with fail
  rw [← hW]
  clear hW c0
  refine (szIntS_any v1 p.vars.length _ m _ (HG.out _ (M.below fun _ _ => trivial)).1 hm hm2).mono ?_
  rintro x w1 ⟨rfl, rfl⟩
  by_cases q1 : m < (p.vars.length : Int)
  · rw [szRes_neg q1]
    have HB := show Hid _ from M.below fun _ _ => trivial
    have HN := show Hid (szRes m (p.vars.length + p.arrays.length + szSs p.body) = -1) from szRes_neg (by omega)
    clear q1 M
    go_wp2_with fail
    go_ret
    exact ⟨ret_int (by rw [HS.out]; exact HN.out.symm), HB.out⟩
  have hx1 : 0 ≤ m - (p.vars.length : Int) := by omega
  have hy1 : m - (p.vars.length : Int) ≤ 1048576 := by omega
  rw [szRes_pos q1]
  have c1 := M.c 0 1 rfl rfl
  clear q1
  have HM := show Hid _ from M
  clear M
  go_wp2_with fail
  have M := HM.out
  clear HM c1
  refine (szIntS_any v2 p.arrays.length _ _ _ (HG.out _ (M.below fun _ _ => trivial)).2.1 hx1 hy1).mono ?_
  rintro x w1 ⟨rfl, rfl⟩
  by_cases q2 : m - (p.vars.length : Int) < (p.arrays.length : Int)
  · rw [szRes_neg q2]
    have HB := show Hid _ from M.below fun _ _ => trivial
    have HN := show Hid (szRes m (p.vars.length + p.arrays.length + szSs p.body) = -1) from szRes_neg (by omega)
    clear q2 M
    go_wp2_with fail
    go_ret
    exact ⟨ret_int (by rw [HS.out]; exact HN.out.symm), HB.out⟩
  have hx2 : 0 ≤ m - (p.vars.length : Int) - (p.arrays.length : Int) := by omega
  have hy2 : m - (p.vars.length : Int) - (p.arrays.length : Int) ≤ 1048576 := by omega
  rw [szRes_pos q2]
  have c2 := M.c 0 2 rfl rfl
  clear q2
  have HM := show Hid _ from M
  clear M
  go_wp2_with fail
  have M := HM.out
  clear HM c2
  refine (szStmtS_of p.body (fun s _ => szStmt_all s) φ _ _ _ (HG.out _ (M.below fun _ _ => trivial)).2.2 hx2 hy2).mono ?_
  rintro x w3 ⟨rfl, b1⟩
  replace M := M.call b1
  clear b1
  have HB := show Hid _ from M.below fun _ _ => trivial
  clear M
  by_cases q3 : m - (p.vars.length : Int) - (p.arrays.length : Int) < (szSs p.body : Int)
  · rw [szRes_neg q3]
    have HN := show Hid (szRes m (p.vars.length + p.arrays.length + szSs p.body) = -1) from szRes_neg (by omega)
    clear q3
    go_wp2_with fail
    go_ret
    exact ⟨ret_int (by rw [HS.out]; exact HN.out.symm), HB.out⟩
  · rw [szRes_pos q3]
    have HN := show Hid (szRes m (p.vars.length + p.arrays.length + szSs p.body) = m - (p.vars.length : Int) - (p.arrays.length : Int) - (szSs p.body : Int)) from by unfold Hid; rw [szRes_pos (by omega)]; omega
    have hx4 : ¬ (m - (p.vars.length : Int) - (p.arrays.length : Int) - (szSs p.body : Int) < 0) := by omega
    have hy4 : m - (p.vars.length : Int) - (p.arrays.length : Int) - (szSs p.body : Int) ≤ 1048576 := by omega
    clear q3
    go_wp2_with fail
    go_ret
    exact ⟨ret_int (by rw [HS.out]; exact HN.out.symm), HB.out⟩

end Go.Proofs.Ytgpkdfefgcpbiaa

namespace Go.Proofs.Ytgpkdfefgcpbiaa
set_option linter.unusedVariables false
set_option linter.unusedSimpArgs false
open Go Go.RowKit

theorem nodeB_parts {nv na : Nat} {e : LExpr} (h : nodeB nv na e = true) : (e.kids.length : Int) = arity e.kind ∧ 0 ≤ e.value ∧ e.value < limit nv na e.kind := by
  unfold nodeB at h; simp at h; exact ⟨h.1.1, h.1.2, h.2⟩

theorem readB_get {e : LExpr} (h3 : e.kind = 3) (hl : 0 < e.kids.length) : readB e = (decide (e.kids[0].kind = 1) || decide (e.kids[0].kind = 2)) := by
  rcases e with ⟨k, n, ks⟩
  cases ks with
  | nil => simp [LExpr.kids] at hl
  | cons a r =>
    have h3' : k = 3 := h3
    subst h3'
    simp only [readB, LExpr.kids, List.getElem_cons_zero, atomB]
    rw [decide_eq_false (by simp [LExpr.kind])]
    rfl

set_option maxRecDepth 100000 in
set_option maxHeartbeats 8000000 in
theorem spec_l2Shape (a1 a2 : Option Addr) (nv c1 na c2 : Nat) (v3 : Value) (h1 : nv ≤ 9223372036854775807) (h2 : na ≤ 9223372036854775807) : ∀ d : Nat, d ≤ 5 → ∀ (e : LExpr) (φ : Nat → Prop) (v : Value) (w : World), ExprV w φ v e →
    Calls Try.prog 159 #[.agg #[.slice a1 nv c1, .slice a2 na c2, v3], v, .int .i64 d] w fun x w' => x = .returned (.bool (shapeB nv na d e)) ∧ Below w.heap.size w w' := by
  intro d
  induction d with
  | zero =>
    intro _ e φ v w h
    obtain ⟨kv, rfl, hk⟩ := h
    have HS : Hid (shapeB nv na 0 e = false) := rfl
    obtain ⟨W, hW, M⟩ : ∃ W, W = (w.alloc (.cells #[.slice a1 nv c1, .slice a2 na c2, v3] 31)).alloc (.cells #[.int .i64 e.kind, .int .i64 e.value, kv] 41) ∧ Mem (fun _ => True) (fun _ => True) w W [.box w.heap.size [.slice a1 nv c1, .slice a2 na c2, v3], .box (w.heap.size + 1) [.int .i64 e.kind, .int .i64 e.value, kv]] :=
      ⟨_, rfl, ((Mem.start fun _ _ => trivial).box _ _).box' _ _ (by simp)⟩
    have HB := show Hid _ from M.below fun _ _ => trivial
    clear hk M
    go_enter Try.func159, Try.ntmps159
    go_wp2_with fail
    rw [← hW]
    clear hW
    refine wp_region_ext (by kernel_rfl) (by kernel_rfl) ?_
    repeat (any_goals (first | go_big_quiet_step (((fail))) | quiet_step (((fail)))))
    refine wpQuiet_nil ?_
    rintro _ ⟨X, rfl⟩
    go_wp2_with fail
    go_ret
    exact ⟨ret_bool HS.out.symm, HB.out.trans ((ext_below W X).mono HB.out.size)⟩
  | succ d ih =>
    intro hd5 e φ v w h
    obtain ⟨kv, rfl, hk⟩ := h
    obtain ⟨ak, ck, rfl, -, hn, -, hc⟩ := hk.open
    have hd0 : (d : Int) ≤ 5 := by omega
    have p0 : decide ((d : Int) + 1 < 1) = false := by simp; omega
    have HS : Hid (shapeB nv na (d + 1) e = (nodeB nv na e && e.kids.all (shapeB nv na d) && readB e)) := rfl
    obtain ⟨W, hW, M⟩ : ∃ W, W = (w.alloc (.cells #[.slice a1 nv c1, .slice a2 na c2, v3] 31)).alloc (.cells #[.int .i64 e.kind, .int .i64 e.value, .slice ak e.kids.length ck] 41) ∧ Mem (fun _ => True) (fun _ => True) w W [.box w.heap.size [.slice a1 nv c1, .slice a2 na c2, v3], .box (w.heap.size + 1) [.int .i64 e.kind, .int .i64 e.value, .slice ak e.kids.length ck]] :=
      ⟨_, rfl, ((Mem.start fun _ _ => trivial).box _ _).box' _ _ (by simp)⟩
    have HB := show Hid _ from M.below fun _ _ => trivial
    have HA : Hid (∀ X, Calls Try.prog 188 #[.int .i64 e.kind] (W.ext X) fun x w'' => x = .returned (.int .i64 (arity e.kind)) ∧ ∃ Y, w'' = W.ext Y) := fun X =>
      Calls.ext_of' ((spec_l2Arity e.kind _).mono fun x w' h => ⟨h.1, h.2 ▸ Below.refl _ _⟩)
    have HL : Hid (∀ X, Calls Try.prog 189 #[.agg #[.slice a1 nv c1, .slice a2 na c2, v3], .int .i64 e.kind] (W.ext X) fun x w'' => x = .returned (.int .i64 (limit nv na e.kind)) ∧ ∃ Y, w'' = W.ext Y) := fun X =>
      Calls.ext_of' (spec_l2Limit a1 a2 nv c1 na c2 v3 e.kind _ h1 h2)
    have HM := show Hid _ from M
    have HC := show Hid _ from hc
    have x0 := M.c 0 0 rfl rfl
    have x1 := M.c 0 1 rfl rfl
    have x2 := M.c 0 2 rfl rfl
    have y0 := M.c 1 0 rfl rfl
    have y1 := M.c 1 1 rfl rfl
    have y2 := M.c 1 2 rfl rfl
    have z0 := fun X => ext_cell x0 X
    have z1 := fun X => ext_cell x1 X
    have z2 := fun X => ext_cell x2 X
    have z3 := fun X => ext_cell y0 X
    have z4 := fun X => ext_cell y1 X
    have z5 := fun X => ext_cell y2 X
    clear hk M hc x0 x1 x2 y0 y1 y2
    by_cases q1 : (e.kids.length : Int) = arity e.kind
    case neg =>
      have p1 : ((e.kids.length : Int) != arity e.kind) = true := by simp [q1]
      have HN : Hid (nodeB nv na e = false) := by unfold Hid nodeB; simp [q1]
      clear q1
      go_enter Try.func159, Try.ntmps159
      go_wp2_with fail
      rw [← hW]
      clear hW
      refine wp_region_ext (by kernel_rfl) (by kernel_rfl) ?_
      repeat (any_goals (first | go_big_quiet_step (((first | (go_at_call 188; exact HA.out _) | (go_at_call 189; exact HL.out _)))) | quiet_step (((first | (go_at_call 188; exact HA.out _) | (go_at_call 189; exact HL.out _))))))
      refine wpQuiet_nil ?_
      rintro _ ⟨X, rfl⟩
      go_wp2_with fail
      go_ret
      exact ⟨ret_bool (by rw [HS.out, HN.out]; rfl), HB.out.trans ((ext_below W X).mono HB.out.size)⟩
    have p1 : ((e.kids.length : Int) != arity e.kind) = false := by simp [q1]
    by_cases q2 : e.value < 0
    case pos =>
      have p2 : decide (e.value < 0) = true := by simp [q2]
      have HN : Hid (nodeB nv na e = false) := by unfold Hid nodeB; simp; intro _ h; omega
      clear q1 q2
      go_enter Try.func159, Try.ntmps159
      go_wp2_with fail
      rw [← hW]
      clear hW
      refine wp_region_ext (by kernel_rfl) (by kernel_rfl) ?_
      repeat (any_goals (first | go_big_quiet_step (((first | (go_at_call 188; exact HA.out _) | (go_at_call 189; exact HL.out _)))) | quiet_step (((first | (go_at_call 188; exact HA.out _) | (go_at_call 189; exact HL.out _))))))
      refine wpQuiet_nil ?_
      rintro _ ⟨X, rfl⟩
      go_wp2_with fail
      go_ret
      exact ⟨ret_bool (by rw [HS.out, HN.out]; rfl), HB.out.trans ((ext_below W X).mono HB.out.size)⟩
    have p2 : decide (e.value < 0) = false := by simp; omega
    by_cases q3 : limit nv na e.kind ≤ e.value
    case pos =>
      have p3 : decide (limit nv na e.kind ≤ e.value) = true := by simp [q3]
      have HN : Hid (nodeB nv na e = false) := by unfold Hid nodeB; simp; intro _ h; omega
      clear q1 q2 q3
      go_enter Try.func159, Try.ntmps159
      go_wp2_with fail
      rw [← hW]
      clear hW
      refine wp_region_ext (by kernel_rfl) (by kernel_rfl) ?_
      repeat (any_goals (first | go_big_quiet_step (((first | (go_at_call 188; exact HA.out _) | (go_at_call 189; exact HL.out _)))) | quiet_step (((first | (go_at_call 188; exact HA.out _) | (go_at_call 189; exact HL.out _))))))
      refine wpQuiet_nil ?_
      rintro _ ⟨X, rfl⟩
      go_wp2_with fail
      go_ret
      exact ⟨ret_bool (by rw [HS.out, HN.out]; rfl), HB.out.trans ((ext_below W X).mono HB.out.size)⟩
    have p3 : decide (limit nv na e.kind ≤ e.value) = false := by simp; omega
    have HN : Hid (nodeB nv na e = true) := by unfold Hid nodeB; simp; exact ⟨⟨q1, by omega⟩, by omega⟩
    have HQ := show Hid _ from q1
    clear q1 q2 q3
    go_enter Try.func159, Try.ntmps159
    go_wp2_with fail
    rw [← hW]
    clear hW
    refine wp_region_ext (by kernel_rfl) (by kernel_rfl) ?_
    repeat (any_goals (first | go_big_quiet_step (((first | (go_at_call 188; exact HA.out _) | (go_at_call 189; exact HL.out _)))) | quiet_step (((first | (go_at_call 188; exact HA.out _) | (go_at_call 189; exact HL.out _))))))
    refine wpQuiet_nil ?_
    rintro _ ⟨X, rfl⟩
    have M := HM.out.call (ext_below W X)
    generalize W.ext X = W1 at *
    clear HA HL HM HB p1 p2 p3 z0 z1 z2 z3 z4 z5
    go_wp2_with fail
    go_loopw [7] (fun i wr => ∃ k : Nat, k ≤ e.kids.length ∧ i = .int .i64 k ∧ (e.kids.take k).all (shapeB nv na d) = true ∧ Mem (fun _ => True) (fun _ => True) w wr [.box w.heap.size [.slice a1 nv c1, .slice a2 na c2, v3], .box (w.heap.size + 1) [.int .i64 e.kind, .int .i64 e.value, .slice ak e.kids.length ck]]) (fun i _ => e.kids.length - (intOf i).toNat)
    case atStart => exact ⟨0, Nat.zero_le _, rfl, rfl, M⟩
    case round =>
      clear M
      obtain ⟨k, hk, rfl, hall, M⟩ := hrel
      have HALL := show Hid _ from hall
      clear hall
      have hB := M.below fun _ _ => trivial
      have x0 := M.c 0 0 rfl rfl
      have x1 := M.c 0 1 rfl rfl
      have x2 := M.c 0 2 rfl rfl
      have y0 := M.c 1 0 rfl rfl
      have y2 := M.c 1 2 rfl rfl
      by_cases hlt : k < e.kids.length
      · obtain ⟨b, off, kv, rfl, hbk, hf, c0, c1', c2', hkv⟩ := HC.out k hlt
        rw [← (bcell hB).1 _ _ hbk] at c0 c1' c2'
        obtain ⟨q, hq⟩ : ∃ q, q = shapeB nv na d e.kids[k] := ⟨_, rfl⟩
        have HC3 : Hid (∀ X, Calls Try.prog 159 #[.agg #[.slice a1 nv c1, .slice a2 na c2, v3], .agg #[.int .i64 e.kids[k].kind, .int .i64 e.kids[k].value, kv], .int .i64 d] (wr.ext X) fun x w'' => x = .returned (.bool q) ∧ ∃ Y, w'' = wr.ext Y) := fun X => by
          have bb := hB.trans ((ext_below wr X).mono hB.size)
          rw [hq]
          exact Calls.ext_of' (ih (by omega) _ φ _ _ ⟨kv, rfl, KidsV.nice _ _ _ _ _ _ (Agr.below bb) hkv⟩)
        have HQQ := show Hid _ from hq
        have HM := show Hid _ from M
        have j0 := fun X => ext_cell c0 X
        have j1 := fun X => ext_cell c1' X
        have j2 := fun X => ext_cell c2' X
        have z0 := fun X => ext_cell x0 X
        have z1 := fun X => ext_cell x1 X
        have z2 := fun X => ext_cell x2 X
        have z5 := fun X => ext_cell y2 X
        have hlt' : (k : Int) < e.kids.length := by omega
        clear hkv hq c0 c1' c2' x0 x1 x2 y0 M hB
        cases q
        · go_wp2_with fail
          refine wp_region_ext (by kernel_rfl) (by kernel_rfl) ?_
          repeat (any_goals (first | go_big_quiet_step (((go_at_call 159; exact HC3.out _))) | quiet_step (((go_at_call 159; exact HC3.out _)))))
          refine wpQuiet_nil ?_
          rintro _ ⟨X, rfl⟩
          go_wp2_with fail
          go_ret
          have M := HM.out.call (ext_below wr X)
          refine ⟨ret_bool ?_, M.below fun _ _ => trivial⟩
          have h9 : e.kids.all (shapeB nv na d) = false := List.all_eq_false.2 ⟨_, List.getElem_mem hlt, by rw [← HQQ.out]; simp⟩
          rw [HS.out, h9, Bool.and_false, Bool.false_and]
        · go_wp2_with fail
          refine wp_region_ext (by kernel_rfl) (by kernel_rfl) ?_
          repeat (any_goals (first | go_big_quiet_step (((go_at_call 159; exact HC3.out _))) | quiet_step (((go_at_call 159; exact HC3.out _)))))
          refine wpQuiet_nil ?_
          rintro _ ⟨X, rfl⟩
          go_wp2_with fail
          refine ⟨⟨k + 1, by omega, by go_num, ?_, HM.out.call (ext_below wr X)⟩, by simp [intOf]; omega⟩
          rw [p_take_succ _ _ hlt, List.all_append, HALL.out]
          simp [← HQQ.out]
      · have hkn : k = e.kids.length := by omega
        subst hkn
        have hall := HALL.out
        rw [List.take_of_length_le (Nat.le_refl _)] at hall
        have HAL := show Hid _ from hall
        have HB := show Hid _ from hB
        have HM := show Hid _ from M
        clear hall x0 x1 x2 M hB
        by_cases q4 : e.kind = 3
        · have p4 : (e.kind != 3) = false := by simp [q4]
          have hl1 : e.kids.length = 1 := by have := HQ.out; rw [q4] at this; simp [arity] at this; omega
          have HL1 := show Hid _ from hl1
          have hpos : 0 < (e.kids.length : Int) := by omega
          obtain ⟨b, off, kv, rfl, hbk, hf, c0, c1', c2', hkv⟩ := HC.out 0 (by omega)
          rw [← (bcell HB.out).1 _ _ hbk] at c0 c1' c2'
          simp only [Nat.zero_mul, Nat.add_zero] at c0 c1' c2'
          have HR := show Hid _ from readB_get q4 (by omega)
          clear hkv q4
          go_wp2_with fail
          refine (spec_l2Atom _ _ _ _).mono ?_
          rintro x w2 ⟨rfl, b2⟩
          have B2 := show Hid _ from HB.out.trans (b2.mono HB.out.size)
          clear b2
          go_wp2_with fail
          go_ret
          exact ⟨ret_bool (by rw [HS.out, HN.out, HAL.out, HR.out]; rfl), B2.out⟩
        · have p4 : (e.kind != 3) = true := by simp [q4]
          have HR : Hid (readB e = true) := by unfold Hid readB; simp [q4]
          clear q4
          go_wp2_with fail
          go_ret
          exact ⟨ret_bool (by rw [HS.out, HN.out, HAL.out, HR.out]; rfl), HB.out⟩

end Go.Proofs.Ytgpkdfefgcpbiaa

namespace Go.Proofs.Ytgpkdfefgcpbiaa
set_option linter.unusedVariables false
set_option linter.unusedSimpArgs false
open Go Go.RowKit

theorem arity_kids {nv na d : Nat} {e : LExpr} (h : shapeB nv na (d + 1) e = true) : e.kids.length ≤ 3 ∧ ∀ x ∈ e.kids, shapeB nv na d x = true := by
  simp only [shapeB, nodeB, Bool.and_eq_true, decide_eq_true_eq, List.all_eq_true] at h
  refine ⟨?_, h.1.2⟩
  have h1 := h.1.1.1.1
  have : arity e.kind ≤ 3 := by unfold arity; (repeat' split) <;> omega
  omega
theorem szEs_bound {ks : List LExpr} {B : Nat} (h : ∀ x ∈ ks, 1 + szE x ≤ B) : szEs ks ≤ ks.length * B := by
  induction ks with
  | nil => simp [szEs]
  | cons a r ih =>
    have h1 := h a List.mem_cons_self
    have h2 := ih fun x hx => h x (List.mem_cons_of_mem _ hx)
    simp only [szEs, List.length_cons, Nat.succ_mul]; omega
theorem shape_sz (nv na : Nat) : ∀ (d : Nat) (e : LExpr), shapeB nv na d e = true → 1 + szE e ≤ 4 ^ d := by
  intro d
  induction d with
  | zero => intro e h; simp [shapeB] at h
  | succ d ih =>
    intro e h
    obtain ⟨h1, h2⟩ := arity_kids h
    have h3 := szEs_bound (ks := e.kids) fun x hx => ih x (h2 x hx)
    have h4 : e.kids.length * 4 ^ d ≤ 3 * 4 ^ d := Nat.mul_le_mul_right _ h1
    have h5 : 0 < 4 ^ d := Nat.pos_of_ne_zero (by simp)
    rw [szE_kids, Nat.pow_succ]
    omega

set_option maxRecDepth 100000 in
set_option maxHeartbeats 4000000 in
theorem spec_l2Count (nv na : Nat) : ∀ d : Nat, d ≤ 5 → ∀ (e : LExpr) (φ : Nat → Prop) (v : Value) (w : World), ExprV w φ v e → shapeB nv na d e = true →
    Calls Try.prog 160 #[v, .int .i64 d] w fun x w' => x = .returned (.int .i64 (1 + szE e : Nat)) ∧ Below w.heap.size w w' := by
  intro d
  induction d with
  | zero => intro _ e φ v w _ hs; simp [shapeB] at hs
  | succ d ih =>
    intro hd5 e φ v w h hs
    obtain ⟨kv, rfl, hk⟩ := h
    obtain ⟨ak, ck, rfl, -, hn, -, hc⟩ := hk.open
    have hd0 : (d : Int) ≤ 5 := by omega
    have hd1 : decide (0 < (d : Int) + 1) = true := decide_eq_true (by omega)
    have hsz : szEs e.kids ≤ 1024 := by
      have h1 := shape_sz nv na (d + 1) e hs
      have h2 : 4 ^ (d + 1) ≤ 4 ^ 5 := Nat.pow_le_pow_right (by omega) hd5
      rw [szE_kids] at h1; omega
    have HK := show Hid _ from (arity_kids hs).2
    obtain ⟨W, hW, M⟩ : ∃ W, W = w.alloc (.cells #[.int .i64 e.kind, .int .i64 e.value, .slice ak e.kids.length ck] 41) ∧ Mem (fun _ => True) (fun _ => True) w W [.box w.heap.size [.int .i64 e.kind, .int .i64 e.value, .slice ak e.kids.length ck]] :=
      ⟨_, rfl, (Mem.start fun _ _ => trivial).box _ _⟩
    have HC := show Hid _ from hc
    have HSZ := show Hid _ from szE_kids e
    clear hk hc hs
    go_enter Try.func160, Try.ntmps160
    go_wp2_with fail
    rw [← hW]
    clear hW
    go_loopw [5, 6] (fun q i wr => ∃ k : Nat, k ≤ e.kids.length ∧ i = .int .i64 k ∧ q = .int .i64 (1 + szEs (e.kids.take k) : Nat) ∧ Mem (fun _ => True) (fun _ => True) w wr [.box w.heap.size [.int .i64 e.kind, .int .i64 e.value, .slice ak e.kids.length ck]]) (fun _ i _ => e.kids.length - (intOf i).toNat)
    case atStart => exact ⟨0, Nat.zero_le _, rfl, rfl, M⟩
    case round =>
      clear M
      obtain ⟨k, hk, rfl, rfl, M⟩ := hrel
      have hB := M.below fun _ _ => trivial
      have y2 := M.c 0 2 rfl rfl
      have htl := szEs_take_le e.kids k
      obtain ⟨z, hz⟩ : ∃ z, z = szEs (e.kids.take k) := ⟨_, rfl⟩
      rw [← hz] at htl ⊢
      have HZ := show Hid _ from hz
      clear hz
      by_cases hlt : k < e.kids.length
      · obtain ⟨b, off, kv, rfl, hbk, hf, c0, c1', c2', hkv⟩ := HC.out k hlt
        rw [← (bcell hB).1 _ _ hbk] at c0 c1' c2'
        have HE := show Hid (ExprV wr φ (.agg #[.int .i64 e.kids[k].kind, .int .i64 e.kids[k].value, kv]) e.kids[k]) from ⟨kv, rfl, KidsV.nice _ _ _ _ _ _ (Agr.below hB) hkv⟩
        have HM := show Hid _ from M
        have hlt' : (k : Int) < e.kids.length := by omega
        have HT := show Hid _ from szEs_take1 hlt
        have htl1 := szEs_take_le e.kids (k + 1)
        rw [HT.out, ← HZ.out] at htl1
        clear hkv M hB
        go_wp2_with fail
        refine (ih (by omega) _ φ _ _ HE.out (HK.out _ (List.getElem_mem hlt))).mono ?_
        rintro x w2 ⟨rfl, b2⟩
        have HM2 := show Hid _ from HM.out.call b2
        clear b2 y2
        go_wp2_with fail
        exact ⟨⟨k + 1, by omega, by go_num, by rw [HT.out, ← HZ.out]; go_num, HM2.out⟩, by simp [intOf]; omega⟩
      · have hkn : k = e.kids.length := by omega
        subst hkn
        have HB := show Hid _ from hB
        clear M hB
        go_wp2_with fail
        go_ret
        exact ⟨ret_int (by rw [HZ.out, List.take_of_length_le (Nat.le_refl _), HSZ.out]), HB.out⟩

set_option maxHeartbeats 1000000 in
theorem spec_l2Right (a1 a2 : Option Addr) (nv c1 na c2 : Nat) (v3 : Value) (h1 : nv ≤ 9223372036854775807) (h2 : na ≤ 9223372036854775807) (e : LExpr) (φ : Nat → Prop) (v : Value) (w : World) (h : ExprV w φ v e) :
    Calls Try.prog 110 #[.agg #[.slice a1 nv c1, .slice a2 na c2, v3], v] w fun x w' => x = .returned (.bool (rightB nv na e)) ∧ Below w.heap.size w w' := by
  obtain ⟨kv, rfl, hk⟩ := h
  have HR : Hid (rightB nv na e = (shapeB nv na 5 e && decide (1 + szE e ≤ 15))) := rfl
  obtain ⟨W, hW, M⟩ : ∃ W, W = (w.alloc (.cells #[.slice a1 nv c1, .slice a2 na c2, v3] 31)).alloc (.cells #[.int .i64 e.kind, .int .i64 e.value, kv] 41) ∧ Mem (fun _ => True) (fun _ => True) w W [.box w.heap.size [.slice a1 nv c1, .slice a2 na c2, v3], .box (w.heap.size + 1) [.int .i64 e.kind, .int .i64 e.value, kv]] :=
    ⟨_, rfl, ((Mem.start fun _ _ => trivial).box _ _).box' _ _ (by simp)⟩
  have HE := show Hid (∀ W', Below w.heap.size w W' → ExprV W' φ (.agg #[.int .i64 e.kind, .int .i64 e.value, kv]) e) from fun W' k => ⟨kv, rfl, KidsV.nice _ _ _ _ _ _ (Agr.below k) hk⟩
  clear hk
  have x0 := M.c 0 0 rfl rfl
  have x1 := M.c 0 1 rfl rfl
  have x2 := M.c 0 2 rfl rfl
  have y0 := M.c 1 0 rfl rfl
  have y1 := M.c 1 1 rfl rfl
  have y2 := M.c 1 2 rfl rfl
  rw [hW] at x0 x1 x2 y0 y1 y2
  go_enter Try.func110, Try.ntmps110
  go_wp2_with fail
  rw [← hW]
  clear hW x0 x1 x2 y0 y1 y2
  refine (spec_l2Shape a1 a2 nv c1 na c2 v3 h1 h2 5 (by omega) e φ _ _ (HE.out _ (M.below fun _ _ => trivial))).mono ?_
  rintro x w1 ⟨rfl, b1⟩
  replace M := M.call b1
  clear b1
  cases hs : shapeB nv na 5 e
  · have HB := show Hid _ from M.below fun _ _ => trivial
    have HS := show Hid _ from hs
    clear hs M
    go_wp2_with fail
    go_ret
    exact ⟨ret_bool (by rw [HR.out, HS.out]; rfl), HB.out⟩
  · have HS := show Hid _ from hs
    have hsz := shape_sz nv na 5 e hs
    have y0 := M.c 1 0 rfl rfl
    have y1 := M.c 1 1 rfl rfl
    have y2 := M.c 1 2 rfl rfl
    have HM := show Hid _ from M
    clear hs M
    go_wp2_with fail
    refine (spec_l2Count nv na 5 (by omega) e φ _ _ (HE.out _ (HM.out.below fun _ _ => trivial)) HS.out).mono ?_
    rintro x w2 ⟨rfl, b1⟩
    have HB := show Hid _ from (HM.out.call b1).below fun _ _ => trivial
    clear b1 y0 y1 y2
    go_wp2_with fail
    go_ret
    exact ⟨ret_bool (by rw [HR.out, HS.out, Bool.true_and]; exact decide_eq_decide.2 (by omega)), HB.out⟩

/-- An expression is valid in a program. -/
def exprOk (p : LProg) (e : LExpr) : Bool := headsB p.vars p.arrays && rightB p.vars.length p.arrays.length e

set_option maxHeartbeats 1000000 in
theorem spec_ExprValid (p : LProg) (e : LExpr) (φ φ' : Nat → Prop) (u v : Value) (w : World) (hp : ProgV w φ u p) (h : ExprV w φ' v e) :
    Calls Try.prog 73 #[u, v] w fun x w' => x = .returned (.bool (exprOk p e)) ∧ Below w.heap.size w w' := by
  obtain ⟨v1, v2, v3, rfl, g1, g2, -⟩ := hp
  obtain ⟨kv, rfl, hk⟩ := h
  obtain ⟨a1, c1, rfl, -, hm1, -⟩ := g1.row.open1
  obtain ⟨a2, c2, rfl, -, hm2, -⟩ := g2.row.open1
  have HR : Hid (exprOk p e = (headsB p.vars p.arrays && rightB p.vars.length p.arrays.length e)) := rfl
  obtain ⟨W, hW, M⟩ : ∃ W, W = (w.alloc (.cells #[.slice a1 p.vars.length c1, .slice a2 p.arrays.length c2, v3] 31)).alloc (.cells #[.int .i64 e.kind, .int .i64 e.value, kv] 41) ∧ Mem (fun _ => True) (fun _ => True) w W [.box w.heap.size [.slice a1 p.vars.length c1, .slice a2 p.arrays.length c2, v3], .box (w.heap.size + 1) [.int .i64 e.kind, .int .i64 e.value, kv]] :=
    ⟨_, rfl, ((Mem.start fun _ _ => trivial).box _ _).box' _ _ (by simp)⟩
  have HE := show Hid (∀ W', Below w.heap.size w W' → ExprV W' φ' (.agg #[.int .i64 e.kind, .int .i64 e.value, kv]) e ∧ Row W' (.slice a1 p.vars.length c1) p.vars.length 1 (ints p.vars) ∧ Row W' (.slice a2 p.arrays.length c2) p.arrays.length 1 (ints p.arrays)) from fun W' k => ⟨⟨kv, rfl, KidsV.nice _ _ _ _ _ _ (Agr.below k) hk⟩, g1.row.below k, g2.row.below k⟩
  clear hk g1 g2
  have x0 := M.c 0 0 rfl rfl
  have x1 := M.c 0 1 rfl rfl
  have x2 := M.c 0 2 rfl rfl
  rw [hW] at x0 x1 x2
  go_enter Try.func73, Try.ntmps73
  go_wp2_with fail
  rw [← hW]
  clear hW x0 x1 x2
  refine (spec_l2Heads _ _ v3 p.vars p.arrays _ (HE.out _ (M.below fun _ _ => trivial)).2.1 (HE.out _ (M.below fun _ _ => trivial)).2.2).mono ?_
  rintro x w1 ⟨rfl, b1⟩
  replace M := M.call b1
  clear b1
  cases hs : headsB p.vars p.arrays
  · have HB := show Hid _ from M.below fun _ _ => trivial
    have HS := show Hid _ from hs
    clear hs M
    go_wp2_with fail
    go_ret
    exact ⟨ret_bool (by rw [HR.out, HS.out]; rfl), HB.out⟩
  · have HS := show Hid _ from hs
    have x0 := M.c 0 0 rfl rfl
    have x1 := M.c 0 1 rfl rfl
    have x2 := M.c 0 2 rfl rfl
    have y0 := M.c 1 0 rfl rfl
    have y1 := M.c 1 1 rfl rfl
    have y2 := M.c 1 2 rfl rfl
    have HM := show Hid _ from M
    clear hs M
    go_wp2_with fail
    refine (spec_l2Right a1 a2 _ c1 _ c2 v3 hm1 hm2 e φ' _ _ (HE.out _ (HM.out.below fun _ _ => trivial)).1).mono ?_
    rintro x w2 ⟨rfl, b1⟩
    have HB := show Hid _ from (HM.out.call b1).below fun _ _ => trivial
    clear b1 x0 x1 x2 y0 y1 y2
    go_wp2_with fail
    go_ret
    exact ⟨ret_bool (by rw [HR.out, HS.out]; rfl), HB.out⟩

end Go.Proofs.Ytgpkdfefgcpbiaa

namespace Go.Proofs.Ytgpkdfefgcpbiaa
set_option linter.unusedVariables false
set_option linter.unusedSimpArgs false
open Go Go.RowKit

theorem impl_within (n lo hi : Int) (w : World) : Calls Try.prog 140 #[.int .i64 n, .int .i64 lo, .int .i64 hi] w fun e w' => e = .returned (.bool (decide (lo ≤ n) && decide (n ≤ hi))) ∧ w = w' := by
  go_enter Try.func140, Try.ntmps140
  go_wp2
  all_goals go_ret
  all_goals exact ⟨ret_bool (by simp; try omega), rfl⟩

theorem impl_LabelValid (l : Int) (w : World) : Calls Try.prog 86 #[.int .i64 l] w fun e w' => e = .returned (.bool (labOk l)) ∧ w = w' := by
  go_enter Try.func86, Try.ntmps86
  go_wp2_with fail
  refine (impl_within l 0 3 _).mono ?_
  rintro e w1 ⟨rfl, rfl⟩
  go_wp2_with fail
  go_ret
  exact ⟨rfl, rfl⟩

theorem impl_areLabels1 (l : Int) (w : World) : Calls Try.prog 201 #[.int .i64 l] w fun e w' => e = .returned (.bool (!labOk l)) ∧ w = w' := by
  go_enter Try.func201, Try.ntmps201
  go_wp2_with fail
  refine (impl_LabelValid l _).mono ?_
  rintro e w1 ⟨rfl, rfl⟩
  go_wp2_with fail
  go_ret
  exact ⟨rfl, rfl⟩

set_option maxHeartbeats 1000000 in
/-- slices.IndexFunc over ints, the function capturing nothing. -/
theorem indexFunc_int (p : Int → Bool) (f : FuncId) (v : Value) (xs : List Int) (w : World) (h : Row w v xs.length 1 (ints xs)) (he : ∀ args w, (callFunc f args).run Try.prog w = .ok (.enter f args) w)
    (hf : ∀ x w', Calls Try.prog f #[.int .i64 x] w' fun e w'' => e = .returned (.bool (p x)) ∧ w' = w'') :
    Calls Try.prog 205 #[v, .func (.func f) #[] #[]] w fun e w' => ∃ r : Int, e = .returned (.int .i64 r) ∧ decide (0 ≤ r) = xs.any p ∧ w = w' := by
  obtain ⟨a1, c1, rfl, -, hm1, -, hc1⟩ := h.open1
  have HF := show Hid _ from hf
  clear h hf
  go_enter Try.func205, Try.ntmps205
  go_wp2_with fail
  go_loop [5, 8] (fun _ i => ∃ k : Nat, k ≤ xs.length ∧ i = .int .i64 k ∧ (xs.take k).any p = false) (fun _ i => xs.length - (intOf i).toNat)
  case atStart => exact ⟨0, Nat.zero_le _, rfl, rfl⟩
  case round =>
    obtain ⟨k, hk, rfl, ha⟩ := hrel
    have HA := show Hid _ from ha
    clear ha
    by_cases hlt : k < xs.length
    · obtain ⟨b1, o1, rfl, hb1, hx⟩ := hc1 k hlt
      rw [ints_get _ _ hlt] at hx
      clear hc1
      cases hp : p xs[k]
      all_goals
        have HP := show Hid _ from hp
        clear hp
        go_wp2_with fail
        refine (HF.out xs[k] _).mono ?_
        rintro e w1 ⟨rfl, rfl⟩
        rw [HP.out]
        go_wp2_with fail
      · go_round
        case rel => exact ⟨k + 1, by omega, by go_num, by rw [take_succ_get _ _ hlt, List.any_append, HA.out]; simp [HP.out]⟩
        case measure => simp [intOf]; omega
      · go_ret
        exact ⟨_, rfl, by rw [decide_eq_true (by omega)]; symm; rw [List.any_eq_true]; exact ⟨_, List.getElem_mem hlt, HP.out⟩, rfl⟩
    · go_wp2_with fail
      go_ret
      refine ⟨_, rfl, ?_, rfl⟩
      have := HA.out
      rw [List.take_of_length_le (by omega)] at this
      rw [this]; rfl

theorem containsFunc_int (p : Int → Bool) (f : FuncId) (v : Value) (xs : List Int) (w : World) (h : Row w v xs.length 1 (ints xs)) (he : ∀ args w, (callFunc f args).run Try.prog w = .ok (.enter f args) w)
    (hf : ∀ x w', Calls Try.prog f #[.int .i64 x] w' fun e w'' => e = .returned (.bool (p x)) ∧ w' = w'') :
    Calls Try.prog 185 #[v, .func (.func f) #[] #[]] w fun e w' => e = .returned (.bool (xs.any p)) ∧ w = w' := by
  obtain ⟨a1, c1, rfl, -⟩ := h.open1
  have HF := show Hid _ from hf
  have HE := show Hid _ from he
  clear hf he
  go_enter Try.func185, Try.ntmps185
  go_wp2_with fail
  refine (indexFunc_int p f _ xs _ h HE.out HF.out).mono ?_
  rintro e w1 ⟨r, rfl, hr, rfl⟩
  have HR := show Hid _ from hr
  clear hr
  go_wp2_with fail
  go_ret
  exact ⟨ret_bool HR.out, rfl⟩

theorem any_not_all (xs : List Int) : (!xs.any fun l => !labOk l) = xs.all labOk := by
  induction xs with
  | nil => rfl
  | cons x r ih => simp only [List.any_cons, List.all_cons, ← ih]; cases labOk x <;> simp

theorem impl_areLabels (v : Value) (xs : List Int) (w : World) (h : Row w v xs.length 1 (ints xs)) :
    Calls Try.prog 178 #[v] w fun e w' => e = .returned (.bool (xs.all labOk)) ∧ w = w' := by
  obtain ⟨a1, c1, rfl, -⟩ := h.open1
  go_enter Try.func178, Try.ntmps178
  go_wp2_with fail
  refine (containsFunc_int (fun l => !labOk l) 201 _ xs _ h (enters_of Try.func201 (by kernel_rfl) rfl) (fun x w' => impl_areLabels1 x w')).mono ?_
  rintro e w1 ⟨rfl, rfl⟩
  have HN := show Hid _ from any_not_all xs
  go_wp2_with fail
  go_ret
  exact ⟨ret_bool HN.out, rfl⟩

set_option maxHeartbeats 1000000 in
theorem impl_declared (v1 v2 : Value) (vars arrays : List Int) (w : World) (h1 : Row w v1 vars.length 1 (ints vars)) (h2 : Row w v2 arrays.length 1 (ints arrays)) :
    Calls Try.prog 138 #[v1, v2] w fun e w' => e = .returned (.bool (headsB vars arrays)) ∧ w = w' := by
  obtain ⟨a1, c1, rfl, -, q1, -⟩ := h1.open1
  obtain ⟨a2, c2, rfl, -, q2, -⟩ := h2.open1
  have HT : Hid (headsB vars arrays = (vars.all labOk && arrays.all labOk && decide (1 ≤ vars.length) && decide (vars.length ≤ 12) && decide (arrays.length ≤ 2))) := rfl
  by_cases hn : (1 : Int) ≤ (vars.length : Int) ∧ (vars.length : Int) ≤ 12
  · have hb : (decide ((1 : Int) ≤ vars.length) && decide ((vars.length : Int) ≤ 12)) = true := by simpa using hn
    have HB := show Hid _ from hb
    by_cases hm : (arrays.length : Int) ≤ 2
    · cases hv : vars.all labOk
      · have HV := show Hid _ from hv
        clear hv hb hn
        go_enter Try.func138, Try.ntmps138
        go_wp2_with fail
        refine (impl_within _ 1 12 _).mono ?_
        rintro e w1 ⟨rfl, rfl⟩
        rw [HB.out]
        go_wp2_with fail
        refine (impl_areLabels _ vars _ h1).mono ?_
        rintro e w1 ⟨rfl, rfl⟩
        rw [HV.out]
        go_wp2_with fail
        go_ret
        exact ⟨ret_bool (by rw [HT.out, HV.out]; rfl), rfl⟩
      · have HV := show Hid _ from hv
        have hn' := show Hid _ from hn
        have hm' := show Hid _ from hm
        clear hv hb hn
        go_enter Try.func138, Try.ntmps138
        go_wp2_with fail
        refine (impl_within _ 1 12 _).mono ?_
        rintro e w1 ⟨rfl, rfl⟩
        rw [HB.out]
        go_wp2_with fail
        refine (impl_areLabels _ vars _ h1).mono ?_
        rintro e w1 ⟨rfl, rfl⟩
        rw [HV.out]
        go_wp2_with fail
        refine (impl_areLabels _ arrays _ h2).mono ?_
        rintro e w1 ⟨rfl, rfl⟩
        go_wp2_with fail
        go_ret
        refine ⟨ret_bool ?_, rfl⟩
        have h3 := hn'.out
        have h4 := hm'.out
        rw [HT.out, HV.out, decide_eq_true (show 1 ≤ vars.length by omega), decide_eq_true (show vars.length ≤ 12 by omega), decide_eq_true (show arrays.length ≤ 2 by omega)]
        simp
    · have hF : Hid (headsB vars arrays = false) := by unfold Hid; rw [HT.out, decide_eq_false (show ¬ arrays.length ≤ 2 by omega)]; simp
      clear hb hn
      go_enter Try.func138, Try.ntmps138
      go_wp2_with fail
      refine (impl_within _ 1 12 _).mono ?_
      rintro e w1 ⟨rfl, rfl⟩
      rw [HB.out]
      go_wp2_with fail
      go_ret
      exact ⟨ret_bool hF.out.symm, rfl⟩
  · have hb : (decide ((1 : Int) ≤ vars.length) && decide ((vars.length : Int) ≤ 12)) = false := by
      rw [Bool.eq_false_iff]; simp only [ne_eq, Bool.and_eq_true, decide_eq_true_eq]; exact hn
    have HB := show Hid _ from hb
    have hF : Hid (headsB vars arrays = false) := by
      unfold Hid; rw [HT.out]
      rcases Classical.not_and_iff_not_or_not.1 hn with h | h
      · rw [decide_eq_false (show ¬ 1 ≤ vars.length by omega)]; simp
      · rw [decide_eq_false (show ¬ vars.length ≤ 12 by omega)]; simp
    clear hb hn
    go_enter Try.func138, Try.ntmps138
    go_wp2_with fail
    refine (impl_within _ 1 12 _).mono ?_
    rintro e w1 ⟨rfl, rfl⟩
    rw [HB.out]
    go_wp2_with fail
    go_ret
    exact ⟨ret_bool hF.out.symm, rfl⟩

end Go.Proofs.Ytgpkdfefgcpbiaa

namespace Go.Proofs.Ytgpkdfefgcpbiaa
set_option linter.unusedVariables false
set_option linter.unusedSimpArgs false
open Go Go.RowKit

theorem impl_isPlain (k n : Int) (kv : Value) (w : World) : Calls Try.prog 193 #[.agg #[.int .i64 k, .int .i64 n, kv]] w fun e w' => e = .returned (.bool (decide (k = 1) || decide (k = 2))) ∧ Below w.heap.size w w' := by
  by_cases h1 : k = 1
  · have p1 : (k == 1) = true := by simp [h1]
    have Q := show Hid _ from h1
    clear h1
    go_enter Try.func193, Try.ntmps193
    go_wp2
    go_ret
    exact ⟨ret_bool (by simp [Q.out]), by go_grown⟩
  · have p1 : (k == 1) = false := by simp [h1]
    have Q := show Hid _ from h1
    clear h1
    by_cases h2 : k = 2
    · have p2 : (k == 2) = true := by simp [h2]
      have Q2 := show Hid _ from h2
      clear h2
      go_enter Try.func193, Try.ntmps193
      go_wp2
      go_ret
      exact ⟨ret_bool (by simp [Q2.out]), by go_grown⟩
    · have p2 : (k == 2) = false := by simp [h2]
      have Q2 := show Hid _ from h2
      clear h2
      go_enter Try.func193, Try.ntmps193
      go_wp2
      go_ret
      exact ⟨ret_bool (by rw [decide_eq_false Q.out, decide_eq_false Q2.out]; rfl), by go_grown⟩

end Go.Proofs.Ytgpkdfefgcpbiaa

namespace Go.Proofs.Ytgpkdfefgcpbiaa
set_option linter.unusedVariables false
set_option linter.unusedSimpArgs false
open Go Go.RowKit

theorem infoE : (Try.prog.info? 41).map (fun i => (i.zero, i.size, i.bytes)) = some (some (.agg #[.int .i64 0, .int .i64 0, .slice none 0 0]), 3, 40) := by kernel_rfl
theorem setFrom_same {w : World} {g p : Nat} {us : List Value} {b : Nat} (hb : b < w.heap.size) (hne : b ≠ g) : (World.setFrom w g p us).heap[b]? = w.heap[b]? :=
  (Out.setFrom us (Out.refl g (g + 1) w) (Nat.le_refl _) (Nat.lt_succ_self _)).block b hb (by omega)

def ToE (e : LExpr) : Prop := ∀ (φ : Nat → Prop) (v : Value) (w : World), ExprV w φ v e → szE e ≤ 1048576 →
  Calls Try.prog 22 #[v] w fun x w' => ∃ a c S, x = .returned (.agg #[.int .i64 e.kind, .int .i64 e.value, .slice a e.kids.length c]) ∧ KidsO w' (.slice a e.kids.length c) e.kids S ∧ (∀ b, S b → w.heap.size ≤ b ∧ b < w'.heap.size) ∧ Below w.heap.size w w'

set_option maxHeartbeats 1000000 in
theorem toExprS_of (ks : List LExpr) (ih : ∀ e ∈ ks, ToE e) (φ : Nat → Prop) (v : Value) (w : World) (h : KidsV w φ v ks) (hb : szEs ks ≤ 1048576) :
    Calls Try.prog 75 #[v] w fun x w' => ∃ a c S, x = .returned (.slice a ks.length c) ∧ KidsO w' (.slice a ks.length c) ks S ∧ (∀ b, S b → w.heap.size ≤ b ∧ b < w'.heap.size) ∧ Below w.heap.size w w' := by
  obtain ⟨a1, c1, rfl, -, hm1, -, hc1⟩ := h.open
  have hlen := szEs_len ks
  have HC := show Hid _ from hc1
  clear h hc1
  have hmk := make_run (P := Try.prog) (t := 39) Try.underlying39 infoE rfl (by omega) ks.length (by omega) hm1
  have hown := own_made w (Value.agg #[.int .i64 0, .int .i64 0, .slice none 0 0]).cells.toList ks.length 3 41 rfl hm1
  have HB := show Hid _ from hb
  have HLN := show Hid _ from hlen
  clear hb hlen
  go_enter Try.func75, Try.ntmps75
  go_wp2_with fail
  clear hmk
  go_loopw [4] (fun i wr => ∃ (k : Nat) (ys : List Value), k ≤ ks.length ∧ i = .int .i64 k ∧ Own wr w.heap.size (w.heap.size + 1) 41 3 (.slice (some ⟨w.heap.size, 0, none⟩) ks.length ks.length) ks.length ys ∧ ExprsO wr (ks.take k) (fun b => w.heap.size < b ∧ b < wr.heap.size) (ys.take (k * 3)) ∧ Below w.heap.size w wr) (fun i _ => ks.length - (intOf i).toNat)
  case atStart => exact ⟨0, _, Nat.zero_le _, rfl, hown, by simp [ExprsO], (Below.refl _ _).alloc (Nat.le_refl _) _⟩
  case round =>
    obtain ⟨k, ys, hk, rfl, ho, ht, hbw⟩ := hrel
    have HT := show Hid _ from ht
    clear ht hown
    by_cases hlt : k < ks.length
    · obtain ⟨b1, o1, kv, rfl, hb1, hf, x0, x1, x2, hkv⟩ := HC.out k hlt
      rw [← (bcell hbw).1 _ _ hb1] at x0 x1 x2
      have HY := show Hid (ys.length = ks.length * 3) from ho.1.1
      have HE := show Hid (ExprV wr φ (.agg #[.int .i64 ks[k].kind, .int .i64 ks[k].value, kv]) ks[k]) from ⟨kv, rfl, KidsV.nice _ _ _ _ _ _ (Agr.below hbw) hkv⟩
      clear hkv
      go_wp2_with fail
      refine (ih _ (List.getElem_mem hlt) φ _ _ HE.out (by have h1 := szE_mem (List.getElem_mem hlt); have h2 := HB.out; omega)).mono ?_
      rintro e w1 ⟨ra, rc, S1, rfl, hO, hS, hbc⟩
      have ho1 := ho.keep hbc (by have := ho.lt _ rfl; omega)
      have hin : ∀ j, j < 3 → k * 3 + j < ys.length := fun j hj => by rw [HY.out]; omega
      obtain ⟨g, cap, hv, hg1, hg2, hg3, f0, u0, y0⟩ := ho1.at (hin 0 (by omega))
      cases hv
      obtain ⟨g, cap, hv, -, -, -, f1, u1, y1⟩ := ho1.at (hin 1 (by omega))
      cases hv
      obtain ⟨g, cap, hv, -, -, -, f2, u2, y2⟩ := ho1.at (hin 2 (by omega))
      cases hv
      simp only [Nat.add_zero] at f0 y0
      have hg4 : w.heap.size < w1.heap.size := hg3
      have HO := show Hid _ from hO
      have HS := show Hid _ from hS
      have hsz0 := hbw.size
      have hszr := hbc.size
      have hgr : w.heap.size < wr.heap.size := (ho.lt _ rfl).2.2
      clear hin hO hS
      go_wp2_with fail
      have hb3 := below_setFrom (p := k * 3) [.int .i64 ks[k].kind, .int .i64 ks[k].value, (.slice ra ks[k].kids.length rc)] (hbw.trans (hbc.mono hbw.size)) (Nat.le_refl w.heap.size)
      have hsz := (Out.setFrom (p := k * 3) [.int .i64 ks[k].kind, .int .i64 ks[k].value, (.slice ra ks[k].kids.length rc)] (Out.refl w.heap.size (w.heap.size + 1) w1) (Nat.le_refl _) (Nat.lt_succ_self _)).size
      refine ⟨⟨k + 1, _, by omega, by go_num, ho1.setFrom [.int .i64 ks[k].kind, .int .i64 ks[k].value, (.slice ra ks[k].kids.length rc)] (by simp; rw [HY.out]; omega), ?_, hb3⟩, by simp [intOf]; omega⟩
      rw [Nat.succ_mul, take_succ_get _ _ hlt]
      rw [show (setFrom ys (k * 3) [.int .i64 ks[k].kind, .int .i64 ks[k].value, (.slice ra ks[k].kids.length rc)]).take (k * 3 + 3) = ys.take (k * 3) ++ [.int .i64 ks[k].kind, .int .i64 ks[k].value, (.slice ra ks[k].kids.length rc)] from setFrom_take [_, _, _] _ _ (by simp; rw [HY.out]; omega)]
      refine ExprsO.snoc (S := fun b => w.heap.size < b ∧ b < wr.heap.size) (T := S1) (ExprsO.same _ _ _ HT.out fun b hbb hlt' => ?_) ((ExprO.iff _ _ _).2 ⟨.slice ra ks[k].kids.length rc, rfl, KidsO.same HO.out fun b hbb hlt' => ?_⟩) (fun b hbb => ⟨⟨hbb.1, ?_⟩, fun h1 => ?_⟩) fun b hbb => ⟨?_, ?_⟩
      · obtain ⟨p1, p2⟩ : w.heap.size < b ∧ b < wr.heap.size := hbb
        exact (setFrom_same (p := k * 3) (us := [.int .i64 ks[k].kind, .int .i64 ks[k].value, (.slice ra ks[k].kids.length rc)]) (by omega) (by omega)).trans (hbc.block b p2)
      · obtain ⟨p1, p2⟩ : wr.heap.size ≤ b ∧ b < w1.heap.size := HS.out b hbb
        exact setFrom_same (p := k * 3) (us := [.int .i64 ks[k].kind, .int .i64 ks[k].value, (.slice ra ks[k].kids.length rc)]) hlt' (by omega)
      · exact Nat.lt_of_lt_of_le (Nat.lt_of_lt_of_le hbb.2 hszr) hsz
      · have h2 : wr.heap.size ≤ b ∧ b < w1.heap.size := HS.out b h1
        have h3 : b < wr.heap.size := hbb.2
        omega
      · have h2 : wr.heap.size ≤ b ∧ b < w1.heap.size := HS.out b hbb
        show w.heap.size < b
        omega
      · exact Nat.lt_of_lt_of_le (HS.out b hbb).2 hsz
    · have hkn : k = ks.length := by omega
      subst hkn
      go_wp2_with fail
      go_ret
      have hl : ys.take (ks.length * 3) = ys := List.take_of_length_le (by rw [ho.1.1]; exact Nat.le_refl _)
      have ht := HT.out
      rw [hl, List.take_of_length_le (Nat.le_refl _)] at ht
      exact ⟨_, _, fun b => w.heap.size ≤ b ∧ b < wr.heap.size, rfl, ⟨ys, fun b => w.heap.size < b ∧ b < wr.heap.size, owns_base ho.1 (Nat.zero_le _), fun g hg => by cases hg; exact ⟨⟨Nat.le_refl _, (ho.lt _ rfl).2.2⟩, fun h => absurd h.1 (Nat.lt_irrefl _)⟩, fun b hb => ⟨by omega, hb.2⟩, ht⟩, fun b hb => hb, hbw⟩

set_option maxHeartbeats 1000000 in
theorem toExpr_all (e : LExpr) : ToE e := by
  refine LExpr.ind (P := ToE) (fun k n ks ih => ?_) e
  intro φ v w h hb
  obtain ⟨kv, rfl, hk⟩ := h
  simp only [LExpr.kind, LExpr.value, LExpr.kids] at hk ⊢
  obtain ⟨W, hW, M⟩ : ∃ W, W = (((w.alloc (.cells #[.int .i64 k, .int .i64 n, kv] 37)).alloc (.cells #[.int .i64 0, .int .i64 0, .slice none 0 0] 41)).alloc (.cells #[.int .i64 k, .int .i64 n, .slice none 0 0] 41)) ∧ Mem (fun _ => True) (fun _ => True) w W [.box w.heap.size [.int .i64 k, .int .i64 n, kv], .box (w.heap.size + 1) [.int .i64 0, .int .i64 0, .slice none 0 0], .box (w.heap.size + 1 + 1) [.int .i64 k, .int .i64 n, .slice none 0 0]] :=
    ⟨_, rfl, (((Mem.start fun _ _ => trivial).box _ _).box' _ _ (by simp)).box' _ _ (by simp)⟩
  have HK := show Hid _ from KidsV.nice _ _ _ _ _ _ (Agr.below (M.below fun _ _ => trivial)) hk
  have sW : W.heap.size = w.heap.size + 1 + 1 + 1 := by rw [hW]; simp
  have HM := show Hid _ from M
  have HS := show Hid _ from sW
  clear hk M sW
  go_enter Try.func22, Try.ntmps22
  go_wp2_with fail
  rw [← hW]
  clear hW
  refine (toExprS_of ks ih φ kv _ HK.out hb).mono ?_
  rintro x w1 ⟨ra, rc, S1, rfl, hO, hS, b1⟩
  have M := HM.out.callO b1 (S := S1) (R := fun w => KidsO w (.slice ra ks.length rc) ks S1) (fun w w' h hs => KidsO.same h hs) hO hS
  clear HM b1 hO
  have c0 := M.c 2 0 rfl rfl
  have c1 := M.c 2 1 rfl rfl
  have c2 := M.c 2 2 rfl rfl
  have d0 := M.c 1 0 rfl rfl
  have d1 := M.c 1 1 rfl rfl
  have d2 := M.c 1 2 rfl rfl
  have f1 := M.f 1 rfl
  have f2 := M.f 2 rfl
  have M2 := (((M.set 2 rfl 2 (.slice ra ks.length rc)).set 1 rfl 0 (.int .i64 k)).set 1 rfl 1 (.int .i64 n)).set 1 rfl 2 (.slice ra ks.length rc)
  have HM2 := show Hid _ from M2
  have HSS := show Hid _ from hS
  clear M M2 hS
  go_wp2_with fail
  have M2 := HM2.out
  have r0 : World.cell? _ ⟨w.heap.size + 1, 0, none⟩ = some (.int .i64 k) := M2.c 1 0 rfl rfl
  have r1 : World.cell? _ ⟨w.heap.size + 1, 1, none⟩ = some (.int .i64 n) := M2.c 1 1 rfl rfl
  have r2 : World.cell? _ ⟨w.heap.size + 1, 2, none⟩ = some (.slice ra ks.length rc) := M2.c 1 2 rfl rfl
  refine bodyPost_ret (v := .agg #[.int .i64 k, .int .i64 n, .slice ra ks.length rc]) (by simp [results, Try.results22, go_sem, r0, r1, r2]) rfl ⟨ra, rc, S1, rfl, M2.o 3 rfl, fun b hbb => ⟨?_, M2.lt (List.mem_of_getElem? (i := 3) rfl) hbb⟩, M2.below fun _ _ => trivial⟩
  have := HSS.out b hbb
  have := HS.out
  omega

theorem infoS : (Try.prog.info? 135).map (fun i => (i.zero, i.size, i.bytes)) = some (some (.agg #[.int .i64 0, .int .i64 0, .int .i64 0, .int .i64 0, .slice none 0 0, .int .i64 0, .int .i64 0, .slice none 0 0, .int .i64 0, .slice none 0 0, .slice none 0 0]), 11, 152) := by kernel_rfl
def stCells (s : LStmt) (ai : Option Addr) (ci : Nat) (av : Option Addr) (cv : Nat) (ab : Option Addr) (cb : Nat) (ae : Option Addr) (ce : Nat) : List Value :=
  [.int .i64 s.kind, .int .i64 s.target, .int .i64 s.index.kind, .int .i64 s.index.value, .slice ai s.index.kids.length ci, .int .i64 s.value.kind, .int .i64 s.value.value, .slice av s.value.kids.length cv, .int .i64 s.count, .slice ab s.body.length cb, .slice ae s.els.length ce]
def ToS (s : LStmt) : Prop := ∀ (φ : Nat → Prop) (v : Value) (w : World), StmtV w φ v s → szS s ≤ 1048576 →
  Calls Try.prog 130 #[v] w fun x w' => ∃ ai ci av cv ab cb ae ce S, x = .returned (.agg #[.int .i64 s.kind, .int .i64 s.target, .int .i64 s.index.kind, .int .i64 s.index.value, .slice ai s.index.kids.length ci, .int .i64 s.value.kind, .int .i64 s.value.value, .slice av s.value.kids.length cv, .int .i64 s.count, .slice ab s.body.length cb, .slice ae s.els.length ce]) ∧
    StmtO w' s S (stCells s ai ci av cv ab cb ae ce) ∧ (∀ b, S b → w.heap.size ≤ b ∧ b < w'.heap.size) ∧ Below w.heap.size w w'

set_option maxHeartbeats 1000000 in
theorem toStmtS_of (ks : List LStmt) (ih : ∀ e ∈ ks, ToS e) (φ : Nat → Prop) (v : Value) (w : World) (h : BlockV w φ v ks) (hb : szSs ks ≤ 1048576) :
    Calls Try.prog 67 #[v] w fun x w' => ∃ a c S, x = .returned (.slice a ks.length c) ∧ BlockO w' (.slice a ks.length c) ks S ∧ (∀ b, S b → w.heap.size ≤ b ∧ b < w'.heap.size) ∧ Below w.heap.size w w' := by
  obtain ⟨a1, c1, rfl, -, hm1, -, hc1⟩ := h.open
  have hlen := szSs_len ks
  have HC := show Hid _ from hc1
  clear h hc1
  have hmk := make_run (P := Try.prog) (t := 29) Try.underlying29 infoS rfl (by omega) ks.length (by omega) hm1
  have hown := own_made w (Value.agg #[.int .i64 0, .int .i64 0, .int .i64 0, .int .i64 0, .slice none 0 0, .int .i64 0, .int .i64 0, .slice none 0 0, .int .i64 0, .slice none 0 0, .slice none 0 0]).cells.toList ks.length 11 135 rfl hm1
  have HB := show Hid _ from hb
  have HLN := show Hid _ from hlen
  clear hb hlen
  go_enter Try.func67, Try.ntmps67
  go_wp2_with fail
  clear hmk
  go_loopw [4] (fun i wr => ∃ (k : Nat) (ys : List Value), k ≤ ks.length ∧ i = .int .i64 k ∧ Own wr w.heap.size (w.heap.size + 1) 135 11 (.slice (some ⟨w.heap.size, 0, none⟩) ks.length ks.length) ks.length ys ∧ StmtsO wr (ks.take k) (fun b => w.heap.size < b ∧ b < wr.heap.size) (ys.take (k * 11)) ∧ Below w.heap.size w wr) (fun i _ => ks.length - (intOf i).toNat)
  case atStart => exact ⟨0, _, Nat.zero_le _, rfl, hown, by simp [StmtsO], (Below.refl _ _).alloc (Nat.le_refl _) _⟩
  case round =>
    obtain ⟨k, ys, hk, rfl, ho, ht, hbw⟩ := hrel
    have HT := show Hid _ from ht
    clear ht hown
    by_cases hlt : k < ks.length
    · obtain ⟨b1, o1, iv, vv, bv, ev, rfl, hb1, hf, ⟨x0, x1, x2, x3, x4, x5, x6, x7, x8, x9, x10⟩, k1, k2, k3, k4⟩ := HC.out k hlt
      rw [← (bcell hbw).1 _ _ hb1] at x0 x1 x2 x3 x4 x5 x6 x7 x8 x9 x10
      have HY := show Hid (ys.length = ks.length * 11) from ho.1.1
      have HE := show Hid (StmtV wr φ (.agg #[.int .i64 ks[k].kind, .int .i64 ks[k].target, .int .i64 ks[k].index.kind, .int .i64 ks[k].index.value, iv, .int .i64 ks[k].value.kind, .int .i64 ks[k].value.value, vv, .int .i64 ks[k].count, bv, ev]) ks[k]) from StmtV.nice _ _ _ _ _ _ (Agr.below hbw) ⟨iv, vv, bv, ev, rfl, k1, k2, k3, k4⟩
      clear k1 k2 k3 k4
      go_wp2_with fail
      refine (ih _ (List.getElem_mem hlt) φ _ _ HE.out (by have h1 := szS_mem (List.getElem_mem hlt); have h2 := HB.out; omega)).mono ?_
      rintro e w1 ⟨ai, ci, av, cv, ab, cb, ae, ce, S1, rfl, hO, hS, hbc⟩
      have ho1 := ho.keep hbc (by have := ho.lt _ rfl; omega)
      have hin : ∀ j, j < 11 → k * 11 + j < ys.length := fun j hj => by rw [HY.out]; omega
      obtain ⟨g, cap, hv, hg1, hg2, hg3, f0, u0, y0⟩ := ho1.at (hin 0 (by omega))
      cases hv
      obtain ⟨g, cap, hv, -, -, -, f1, u1, y1⟩ := ho1.at (hin 1 (by omega))
      cases hv
      obtain ⟨g, cap, hv, -, -, -, f2, u2, y2⟩ := ho1.at (hin 2 (by omega))
      cases hv
      obtain ⟨g, cap, hv, -, -, -, f3, u3, y3⟩ := ho1.at (hin 3 (by omega))
      cases hv
      obtain ⟨g, cap, hv, -, -, -, f4, u4, y4⟩ := ho1.at (hin 4 (by omega))
      cases hv
      obtain ⟨g, cap, hv, -, -, -, f5, u5, y5⟩ := ho1.at (hin 5 (by omega))
      cases hv
      obtain ⟨g, cap, hv, -, -, -, f6, u6, y6⟩ := ho1.at (hin 6 (by omega))
      cases hv
      obtain ⟨g, cap, hv, -, -, -, f7, u7, y7⟩ := ho1.at (hin 7 (by omega))
      cases hv
      obtain ⟨g, cap, hv, -, -, -, f8, u8, y8⟩ := ho1.at (hin 8 (by omega))
      cases hv
      obtain ⟨g, cap, hv, -, -, -, f9, u9, y9⟩ := ho1.at (hin 9 (by omega))
      cases hv
      obtain ⟨g, cap, hv, -, -, -, f10, u10, y10⟩ := ho1.at (hin 10 (by omega))
      cases hv
      simp only [Nat.add_zero] at f0 y0
      have hg4 : w.heap.size < w1.heap.size := hg3
      have HO := show Hid _ from hO
      have HS := show Hid _ from hS
      have hsz0 := hbw.size
      have hszr := hbc.size
      have hgr : w.heap.size < wr.heap.size := (ho.lt _ rfl).2.2
      clear hin hO hS
      go_wp2_with fail
      have hb3 := below_setFrom (p := k * 11) [.int .i64 ks[k].kind, .int .i64 ks[k].target, .int .i64 ks[k].index.kind, .int .i64 ks[k].index.value, .slice ai ks[k].index.kids.length ci, .int .i64 ks[k].value.kind, .int .i64 ks[k].value.value, .slice av ks[k].value.kids.length cv, .int .i64 ks[k].count, .slice ab ks[k].body.length cb, .slice ae ks[k].els.length ce] (hbw.trans (hbc.mono hbw.size)) (Nat.le_refl w.heap.size)
      have hsz := (Out.setFrom (p := k * 11) [.int .i64 ks[k].kind, .int .i64 ks[k].target, .int .i64 ks[k].index.kind, .int .i64 ks[k].index.value, .slice ai ks[k].index.kids.length ci, .int .i64 ks[k].value.kind, .int .i64 ks[k].value.value, .slice av ks[k].value.kids.length cv, .int .i64 ks[k].count, .slice ab ks[k].body.length cb, .slice ae ks[k].els.length ce] (Out.refl w.heap.size (w.heap.size + 1) w1) (Nat.le_refl _) (Nat.lt_succ_self _)).size
      refine ⟨⟨k + 1, _, by omega, by go_num, ho1.setFrom [.int .i64 ks[k].kind, .int .i64 ks[k].target, .int .i64 ks[k].index.kind, .int .i64 ks[k].index.value, .slice ai ks[k].index.kids.length ci, .int .i64 ks[k].value.kind, .int .i64 ks[k].value.value, .slice av ks[k].value.kids.length cv, .int .i64 ks[k].count, .slice ab ks[k].body.length cb, .slice ae ks[k].els.length ce] (by simp; rw [HY.out]; omega), ?_, hb3⟩, by simp [intOf]; omega⟩
      rw [Nat.succ_mul, take_succ_get _ _ hlt]
      rw [show (setFrom ys (k * 11) [.int .i64 ks[k].kind, .int .i64 ks[k].target, .int .i64 ks[k].index.kind, .int .i64 ks[k].index.value, .slice ai ks[k].index.kids.length ci, .int .i64 ks[k].value.kind, .int .i64 ks[k].value.value, .slice av ks[k].value.kids.length cv, .int .i64 ks[k].count, .slice ab ks[k].body.length cb, .slice ae ks[k].els.length ce]).take (k * 11 + 11) = ys.take (k * 11) ++ [.int .i64 ks[k].kind, .int .i64 ks[k].target, .int .i64 ks[k].index.kind, .int .i64 ks[k].index.value, .slice ai ks[k].index.kids.length ci, .int .i64 ks[k].value.kind, .int .i64 ks[k].value.value, .slice av ks[k].value.kids.length cv, .int .i64 ks[k].count, .slice ab ks[k].body.length cb, .slice ae ks[k].els.length ce] from setFrom_take [_, _, _, _, _, _, _, _, _, _, _] _ _ (by simp; rw [HY.out]; omega)]
      refine StmtsO.snoc (S := fun b => w.heap.size < b ∧ b < wr.heap.size) (T := S1) (StmtsO.same _ _ _ HT.out fun b hbb hlt' => ?_) (StmtO.same _ _ _ HO.out fun b hbb hlt' => ?_) (fun b hbb => ⟨⟨hbb.1, ?_⟩, fun h1 => ?_⟩) fun b hbb => ⟨?_, ?_⟩
      · obtain ⟨p1, p2⟩ : w.heap.size < b ∧ b < wr.heap.size := hbb
        exact (setFrom_same (p := k * 11) (us := [.int .i64 ks[k].kind, .int .i64 ks[k].target, .int .i64 ks[k].index.kind, .int .i64 ks[k].index.value, .slice ai ks[k].index.kids.length ci, .int .i64 ks[k].value.kind, .int .i64 ks[k].value.value, .slice av ks[k].value.kids.length cv, .int .i64 ks[k].count, .slice ab ks[k].body.length cb, .slice ae ks[k].els.length ce]) (by omega) (by omega)).trans (hbc.block b p2)
      · obtain ⟨p1, p2⟩ : wr.heap.size ≤ b ∧ b < w1.heap.size := HS.out b hbb
        exact setFrom_same (p := k * 11) (us := [.int .i64 ks[k].kind, .int .i64 ks[k].target, .int .i64 ks[k].index.kind, .int .i64 ks[k].index.value, .slice ai ks[k].index.kids.length ci, .int .i64 ks[k].value.kind, .int .i64 ks[k].value.value, .slice av ks[k].value.kids.length cv, .int .i64 ks[k].count, .slice ab ks[k].body.length cb, .slice ae ks[k].els.length ce]) hlt' (by omega)
      · exact Nat.lt_of_lt_of_le (Nat.lt_of_lt_of_le hbb.2 hszr) hsz
      · have h2 : wr.heap.size ≤ b ∧ b < w1.heap.size := HS.out b h1
        have h3 : b < wr.heap.size := hbb.2
        omega
      · have h2 : wr.heap.size ≤ b ∧ b < w1.heap.size := HS.out b hbb
        show w.heap.size < b
        omega
      · exact Nat.lt_of_lt_of_le (HS.out b hbb).2 hsz
    · have hkn : k = ks.length := by omega
      subst hkn
      go_wp2_with fail
      go_ret
      have hl : ys.take (ks.length * 11) = ys := List.take_of_length_le (by rw [ho.1.1]; exact Nat.le_refl _)
      have ht := HT.out
      rw [hl, List.take_of_length_le (Nat.le_refl _)] at ht
      exact ⟨_, _, fun b => w.heap.size ≤ b ∧ b < wr.heap.size, rfl, ⟨ys, fun b => w.heap.size < b ∧ b < wr.heap.size, owns_base ho.1 (Nat.zero_le _), fun g hg => by cases hg; exact ⟨⟨Nat.le_refl _, (ho.lt _ rfl).2.2⟩, fun h => absurd h.1 (Nat.lt_irrefl _)⟩, fun b hb => ⟨by omega, hb.2⟩, ht⟩, fun b hb => hb, hbw⟩

set_option maxHeartbeats 4000000 in
theorem toStmt_all (s : LStmt) : ToS s := by
  refine LStmt.ind (P := ToS) (fun k t i v c b e ihb ihe => ?_) s
  intro φ u w h hb
  obtain ⟨iv, vv, bv, ev, rfl, g1, g2, g3, g4⟩ := h
  have hsz : szE i + szE v + szSs b + szSs e ≤ 1048576 := hb
  simp only [LStmt.index, LStmt.value, LStmt.body, LStmt.els, LStmt.kind, LStmt.target, LStmt.count, stCells] at g1 g2 g3 g4 ⊢
  obtain ⟨W, hW, M⟩ : ∃ W, W = (((w.alloc (.cells #[.int .i64 k, .int .i64 t, .int .i64 i.kind, .int .i64 i.value, iv, .int .i64 v.kind, .int .i64 v.value, vv, .int .i64 c, bv, ev] 139)).alloc (.cells #[.int .i64 0, .int .i64 0, .int .i64 0, .int .i64 0, .slice none 0 0, .int .i64 0, .int .i64 0, .slice none 0 0, .int .i64 0, .slice none 0 0, .slice none 0 0] 135)).alloc (.cells #[.int .i64 k, .int .i64 t, .int .i64 0, .int .i64 0, .slice none 0 0, .int .i64 0, .int .i64 0, .slice none 0 0, .int .i64 0, .slice none 0 0, .slice none 0 0] 135)) ∧ Mem (fun _ => True) (fun _ => True) w W [.box w.heap.size [.int .i64 k, .int .i64 t, .int .i64 i.kind, .int .i64 i.value, iv, .int .i64 v.kind, .int .i64 v.value, vv, .int .i64 c, bv, ev], .box (w.heap.size + 1) [.int .i64 0, .int .i64 0, .int .i64 0, .int .i64 0, .slice none 0 0, .int .i64 0, .int .i64 0, .slice none 0 0, .int .i64 0, .slice none 0 0, .slice none 0 0], .box (w.heap.size + 1 + 1) [.int .i64 k, .int .i64 t, .int .i64 0, .int .i64 0, .slice none 0 0, .int .i64 0, .int .i64 0, .slice none 0 0, .int .i64 0, .slice none 0 0, .slice none 0 0]] :=
    ⟨_, rfl, (((Mem.start fun _ _ => trivial).box _ _).box' _ _ (by simp)).box' _ _ (by simp)⟩
  have HG := show Hid (∀ W', Below w.heap.size w W' → ExprV W' φ (.agg #[.int .i64 i.kind, .int .i64 i.value, iv]) i ∧ ExprV W' φ (.agg #[.int .i64 v.kind, .int .i64 v.value, vv]) v ∧ BlockV W' φ bv b ∧ BlockV W' φ ev e) from fun W' k =>
    ⟨⟨iv, rfl, KidsV.nice _ _ _ _ _ _ (Agr.below k) g1⟩, ⟨vv, rfl, KidsV.nice _ _ _ _ _ _ (Agr.below k) g2⟩, BlockV.nice _ _ _ _ _ _ (Agr.below k) g3, BlockV.nice _ _ _ _ _ _ (Agr.below k) g4⟩
  clear g1 g2 g3 g4
  have c2 := M.c 0 2 rfl rfl
  have c3 := M.c 0 3 rfl rfl
  have c4 := M.c 0 4 rfl rfl
  rw [hW] at c2 c3 c4
  have HZ := show Hid _ from hsz
  have HM := show Hid _ from M
  clear M hsz hb
  go_enter Try.func130, Try.ntmps130
  go_wp2_with fail
  rw [← hW]
  have M := HM.out
  clear hW HM c2 c3 c4
  refine (toExpr_all i φ _ _ (HG.out _ (M.below fun _ _ => trivial)).1 (by have := HZ.out; omega)).mono ?_
  rintro x w1 ⟨ai, ci, S1, rfl, hO, hS, b1⟩
  replace M := M.callO b1 (S := S1) (R := fun w => KidsO w (.slice ai i.kids.length ci) i.kids S1) (fun w w' h hs => KidsO.same h hs) hO (fun b hb => hS b hb)
  clear hO hS b1
  have q2_2 := M.c 2 2 rfl rfl
  have q2_3 := M.c 2 3 rfl rfl
  have q2_4 := M.c 2 4 rfl rfl
  have q0_5 := M.c 0 5 rfl rfl
  have q0_6 := M.c 0 6 rfl rfl
  have q0_7 := M.c 0 7 rfl rfl
  have fo := M.f 2 rfl
  have M2 := (((M.set 2 rfl 2 (.int .i64 i.kind)).set 2 rfl 3 (.int .i64 i.value)).set 2 rfl 4 (.slice ai i.kids.length ci))
  have HM2 := show Hid _ from M2
  clear M M2
  go_wp2_with fail
  have M := HM2.out
  clear HM2 fo q2_2 q2_3 q2_4 q0_5 q0_6 q0_7
  refine (toExpr_all v φ _ _ (HG.out _ (M.below fun _ _ => trivial)).2.1 (by have := HZ.out; omega)).mono ?_
  rintro x w1 ⟨av, cv, S2, rfl, hO, hS, b1⟩
  replace M := M.callO b1 (S := S2) (R := fun w => KidsO w (.slice av v.kids.length cv) v.kids S2) (fun w w' h hs => KidsO.same h hs) hO (fun b hb => hS b hb)
  clear hO hS b1
  have q2_5 := M.c 2 5 rfl rfl
  have q2_6 := M.c 2 6 rfl rfl
  have q2_7 := M.c 2 7 rfl rfl
  have q0_8 := M.c 0 8 rfl rfl
  have q2_8 := M.c 2 8 rfl rfl
  have q0_9 := M.c 0 9 rfl rfl
  have fo := M.f 2 rfl
  have M2 := ((((M.set 2 rfl 5 (.int .i64 v.kind)).set 2 rfl 6 (.int .i64 v.value)).set 2 rfl 7 (.slice av v.kids.length cv)).set 2 rfl 8 (.int .i64 c))
  have HM2 := show Hid _ from M2
  clear M M2
  go_wp2_with fail
  have M := HM2.out
  clear HM2 fo q2_5 q2_6 q2_7 q0_8 q2_8 q0_9
  refine (toStmtS_of b ihb φ _ _ (HG.out _ (M.below fun _ _ => trivial)).2.2.1 (by have := HZ.out; omega)).mono ?_
  rintro x w1 ⟨ab, cb, S3, rfl, hO, hS, b1⟩
  replace M := M.callO b1 (S := S3) (R := fun w => BlockO w (.slice ab b.length cb) b S3) (fun w w' h hs => BlockO.same h hs) hO (fun b hb => hS b hb)
  clear hO hS b1
  have q2_9 := M.c 2 9 rfl rfl
  have q0_10 := M.c 0 10 rfl rfl
  have fo := M.f 2 rfl
  have M2 := (M.set 2 rfl 9 (.slice ab b.length cb))
  have HM2 := show Hid _ from M2
  clear M M2
  go_wp2_with fail
  have M := HM2.out
  clear HM2 fo q2_9 q0_10
  refine (toStmtS_of e ihe φ _ _ (HG.out _ (M.below fun _ _ => trivial)).2.2.2 (by have := HZ.out; omega)).mono ?_
  rintro x w1 ⟨ae, ce, S4, rfl, hO, hS, b1⟩
  replace M := M.callO b1 (S := S4) (R := fun w => BlockO w (.slice ae e.length ce) e S4) (fun w w' h hs => BlockO.same h hs) hO (fun b hb => hS b hb)
  clear hO hS b1
  replace M := M.as [.box w.heap.size [.int .i64 k, .int .i64 t, .int .i64 i.kind, .int .i64 i.value, iv, .int .i64 v.kind, .int .i64 v.value, vv, .int .i64 c, bv, ev], .box (w.heap.size + 1) [.int .i64 0, .int .i64 0, .int .i64 0, .int .i64 0, .slice none 0 0, .int .i64 0, .int .i64 0, .slice none 0 0, .int .i64 0, .slice none 0 0, .slice none 0 0], .box (w.heap.size + 1 + 1) [.int .i64 k, .int .i64 t, .int .i64 i.kind, .int .i64 i.value, .slice ai i.kids.length ci, .int .i64 v.kind, .int .i64 v.value, .slice av v.kids.length cv, .int .i64 c, .slice ab b.length cb, .slice none 0 0], .own S1 (fun w => KidsO w (.slice ai i.kids.length ci) i.kids S1), .own S2 (fun w => KidsO w (.slice av v.kids.length cv) v.kids S2), .own S3 (fun w => BlockO w (.slice ab b.length cb) b S3), .own S4 (fun w => BlockO w (.slice ae e.length ce) e S4)] rfl
  have o0 : World.cell? _ ⟨w.heap.size + 1 + 1, 0, none⟩ = some (.int .i64 k) := M.c 2 0 rfl rfl
  have o1 : World.cell? _ ⟨w.heap.size + 1 + 1, 1, none⟩ = some (.int .i64 t) := M.c 2 1 rfl rfl
  have o2 : World.cell? _ ⟨w.heap.size + 1 + 1, 2, none⟩ = some (.int .i64 i.kind) := M.c 2 2 rfl rfl
  have o3 : World.cell? _ ⟨w.heap.size + 1 + 1, 3, none⟩ = some (.int .i64 i.value) := M.c 2 3 rfl rfl
  have o4 : World.cell? _ ⟨w.heap.size + 1 + 1, 4, none⟩ = some (.slice ai i.kids.length ci) := M.c 2 4 rfl rfl
  have o5 : World.cell? _ ⟨w.heap.size + 1 + 1, 5, none⟩ = some (.int .i64 v.kind) := M.c 2 5 rfl rfl
  have o6 : World.cell? _ ⟨w.heap.size + 1 + 1, 6, none⟩ = some (.int .i64 v.value) := M.c 2 6 rfl rfl
  have o7 : World.cell? _ ⟨w.heap.size + 1 + 1, 7, none⟩ = some (.slice av v.kids.length cv) := M.c 2 7 rfl rfl
  have o8 : World.cell? _ ⟨w.heap.size + 1 + 1, 8, none⟩ = some (.int .i64 c) := M.c 2 8 rfl rfl
  have o9 : World.cell? _ ⟨w.heap.size + 1 + 1, 9, none⟩ = some (.slice ab b.length cb) := M.c 2 9 rfl rfl
  have o10 : World.cell? _ ⟨w.heap.size + 1 + 1, 10, none⟩ = some (.slice none 0 0) := M.c 2 10 rfl rfl
  have z0 : World.cell? _ ⟨w.heap.size + 1, 0, none⟩ = some (.int .i64 0) := M.c 1 0 rfl rfl
  have z1 : World.cell? _ ⟨w.heap.size + 1, 1, none⟩ = some (.int .i64 0) := M.c 1 1 rfl rfl
  have z2 : World.cell? _ ⟨w.heap.size + 1, 2, none⟩ = some (.int .i64 0) := M.c 1 2 rfl rfl
  have z3 : World.cell? _ ⟨w.heap.size + 1, 3, none⟩ = some (.int .i64 0) := M.c 1 3 rfl rfl
  have z4 : World.cell? _ ⟨w.heap.size + 1, 4, none⟩ = some (.slice none 0 0) := M.c 1 4 rfl rfl
  have z5 : World.cell? _ ⟨w.heap.size + 1, 5, none⟩ = some (.int .i64 0) := M.c 1 5 rfl rfl
  have z6 : World.cell? _ ⟨w.heap.size + 1, 6, none⟩ = some (.int .i64 0) := M.c 1 6 rfl rfl
  have z7 : World.cell? _ ⟨w.heap.size + 1, 7, none⟩ = some (.slice none 0 0) := M.c 1 7 rfl rfl
  have z8 : World.cell? _ ⟨w.heap.size + 1, 8, none⟩ = some (.int .i64 0) := M.c 1 8 rfl rfl
  have z9 : World.cell? _ ⟨w.heap.size + 1, 9, none⟩ = some (.slice none 0 0) := M.c 1 9 rfl rfl
  have z10 : World.cell? _ ⟨w.heap.size + 1, 10, none⟩ = some (.slice none 0 0) := M.c 1 10 rfl rfl
  have fo := M.f 2 rfl
  have fz := M.f 1 rfl
  have M2 := ((M.set 2 rfl 10 (.slice ae e.length ce)).fill 1 rfl [.int .i64 k, .int .i64 t, .int .i64 i.kind, .int .i64 i.value, .slice ai i.kids.length ci, .int .i64 v.kind, .int .i64 v.value, .slice av v.kids.length cv, .int .i64 c, .slice ab b.length cb, .slice ae e.length ce] rfl).as [.box w.heap.size [.int .i64 k, .int .i64 t, .int .i64 i.kind, .int .i64 i.value, iv, .int .i64 v.kind, .int .i64 v.value, vv, .int .i64 c, bv, ev], .box (w.heap.size + 1) [.int .i64 k, .int .i64 t, .int .i64 i.kind, .int .i64 i.value, .slice ai i.kids.length ci, .int .i64 v.kind, .int .i64 v.value, .slice av v.kids.length cv, .int .i64 c, .slice ab b.length cb, .slice ae e.length ce], .box (w.heap.size + 1 + 1) [.int .i64 k, .int .i64 t, .int .i64 i.kind, .int .i64 i.value, .slice ai i.kids.length ci, .int .i64 v.kind, .int .i64 v.value, .slice av v.kids.length cv, .int .i64 c, .slice ab b.length cb, .slice ae e.length ce], .own S1 (fun w => KidsO w (.slice ai i.kids.length ci) i.kids S1), .own S2 (fun w => KidsO w (.slice av v.kids.length cv) v.kids S2), .own S3 (fun w => BlockO w (.slice ab b.length cb) b S3), .own S4 (fun w => BlockO w (.slice ae e.length ce) e S4)] rfl
  simp only [World.setFrom] at M2
  have HM2 := show Hid _ from M2
  clear M M2
  go_wp2_with fail
  have M2 := HM2.out
  have r0 : World.cell? _ ⟨w.heap.size + 1, 0, none⟩ = some (.int .i64 k) := M2.c 1 0 rfl rfl
  have r1 : World.cell? _ ⟨w.heap.size + 1, 1, none⟩ = some (.int .i64 t) := M2.c 1 1 rfl rfl
  have r2 : World.cell? _ ⟨w.heap.size + 1, 2, none⟩ = some (.int .i64 i.kind) := M2.c 1 2 rfl rfl
  have r3 : World.cell? _ ⟨w.heap.size + 1, 3, none⟩ = some (.int .i64 i.value) := M2.c 1 3 rfl rfl
  have r4 : World.cell? _ ⟨w.heap.size + 1, 4, none⟩ = some (.slice ai i.kids.length ci) := M2.c 1 4 rfl rfl
  have r5 : World.cell? _ ⟨w.heap.size + 1, 5, none⟩ = some (.int .i64 v.kind) := M2.c 1 5 rfl rfl
  have r6 : World.cell? _ ⟨w.heap.size + 1, 6, none⟩ = some (.int .i64 v.value) := M2.c 1 6 rfl rfl
  have r7 : World.cell? _ ⟨w.heap.size + 1, 7, none⟩ = some (.slice av v.kids.length cv) := M2.c 1 7 rfl rfl
  have r8 : World.cell? _ ⟨w.heap.size + 1, 8, none⟩ = some (.int .i64 c) := M2.c 1 8 rfl rfl
  have r9 : World.cell? _ ⟨w.heap.size + 1, 9, none⟩ = some (.slice ab b.length cb) := M2.c 1 9 rfl rfl
  have r10 : World.cell? _ ⟨w.heap.size + 1, 10, none⟩ = some (.slice ae e.length ce) := M2.c 1 10 rfl rfl
  have e1 := fun b (h1 : S1 b) => M2.dis 3 4 _ _ b rfl rfl (by omega) h1
  have e2 := fun b (h1 : S1 b) => M2.dis 3 5 _ _ b rfl rfl (by omega) h1
  have e3 := fun b (h1 : S1 b) => M2.dis 3 6 _ _ b rfl rfl (by omega) h1
  have e4 := fun b (h1 : S2 b) => M2.dis 4 5 _ _ b rfl rfl (by omega) h1
  have e5 := fun b (h1 : S2 b) => M2.dis 4 6 _ _ b rfl rfl (by omega) h1
  have e6 := fun b (h1 : S3 b) => M2.dis 5 6 _ _ b rfl rfl (by omega) h1
  refine bodyPost_ret (v := .agg #[.int .i64 k, .int .i64 t, .int .i64 i.kind, .int .i64 i.value, .slice ai i.kids.length ci, .int .i64 v.kind, .int .i64 v.value, .slice av v.kids.length cv, .int .i64 c, .slice ab b.length cb, .slice ae e.length ce]) (by simp [results, Try.results130, go_sem, r0, r1, r2, r3, r4, r5, r6, r7, r8, r9, r10]) rfl ⟨ai, ci, av, cv, ab, cb, ae, ce, fun b => S1 b ∨ S2 b ∨ S3 b ∨ S4 b, rfl, (StmtO.iff ⟨k, t, i, v, c, b, e⟩ _ _).2 ⟨_, _, _, _, S1, S2, S3, S4, rfl, ⟨fun b hb => ⟨.inl hb, e1 b hb, e2 b hb, e3 b hb⟩, fun b hb => ⟨.inr (.inl hb), e4 b hb, e5 b hb⟩, fun b hb => ⟨.inr (.inr (.inl hb)), e6 b hb⟩, fun b hb => .inr (.inr (.inr hb))⟩, M2.o 3 rfl, M2.o 4 rfl, M2.o 5 rfl, M2.o 6 rfl⟩, fun b hb => ?_, M2.below fun _ _ => trivial⟩
  have fin : ∀ (j : Nat) (S : Nat → Prop) (R : World → Prop) (L : List Res) (W : World), Mem (fun _ => True) (fun _ => True) w W L → L[j]? = some (.own S R) → S b → w.heap.size ≤ b ∧ b < W.heap.size := fun j S R L W M hj hs =>
    ⟨(M.ge _ b (List.mem_of_getElem? hj) hs).elim (fun h => h) fun h => absurd trivial h, M.lt (List.mem_of_getElem? hj) hs⟩
  rcases hb with hb | hb | hb | hb
  · exact fin 3 _ _ _ _ M2 rfl hb
  · exact fin 4 _ _ _ _ M2 rfl hb
  · exact fin 5 _ _ _ _ M2 rfl hb
  · exact fin 6 _ _ _ _ M2 rfl hb

set_option maxHeartbeats 2000000 in
theorem toProgram_any (φ : Nat → Prop) (u : Value) (p : LProg) (w : World) (h : ProgV w φ u p) (hb : p.size ≤ 1048576) :
    Calls Try.prog 17 #[u] w fun x w' => ∃ a1 k1 a2 k2 a3 k3 S, x = .returned (.agg #[.slice a1 p.vars.length k1, .slice a2 p.arrays.length k2, .slice a3 p.body.length k3]) ∧ ProgO w' (.agg #[.slice a1 p.vars.length k1, .slice a2 p.arrays.length k2, .slice a3 p.body.length k3]) p S ∧ (∀ b, S b → w.heap.size ≤ b ∧ b < w'.heap.size) ∧ Below w.heap.size w w' := by
  obtain ⟨v1, v2, v3, rfl, h1, h2, h3⟩ := h
  have hsz : p.vars.length + p.arrays.length + szSs p.body ≤ 1048576 := hb
  obtain ⟨W, hW, M⟩ : ∃ W, W = (((w.alloc (.cells #[v1, v2, v3] 25)).alloc (.cells #[.slice none 0 0, .slice none 0 0, .slice none 0 0] 31)).alloc (.cells #[.slice none 0 0, .slice none 0 0, .slice none 0 0] 31)) ∧ Mem (fun _ => True) (fun _ => True) w W [.box w.heap.size [v1, v2, v3], .box (w.heap.size + 1) [.slice none 0 0, .slice none 0 0, .slice none 0 0], .box (w.heap.size + 1 + 1) [.slice none 0 0, .slice none 0 0, .slice none 0 0]] :=
    ⟨_, rfl, (((Mem.start fun _ _ => trivial).box _ _).box' _ _ (by simp)).box' _ _ (by simp)⟩
  have HG := show Hid (∀ W', Below w.heap.size w W' → Row W' v1 p.vars.length 1 (ints p.vars) ∧ Row W' v2 p.arrays.length 1 (ints p.arrays) ∧ BlockV W' φ v3 p.body) from fun W' k =>
    ⟨h1.row.below k, h2.row.below k, BlockV.nice _ _ _ _ _ _ (Agr.below k) h3⟩
  clear h1 h2 h3 hb
  have c0 := M.c 0 0 rfl rfl
  rw [hW] at c0
  have HZ := show Hid _ from hsz
  have HM := show Hid _ from M
  clear M hsz
  go_enter Try.func17, Try.ntmps17
  go_wp2_with fail
  rw [← hW]
  have M := HM.out
  clear hW HM c0
  refine (toIntS_any v1 p.vars _ (HG.out _ (M.below fun _ _ => trivial)).1 (by have := HZ.out; omega)).mono ?_
  rintro x w1 ⟨u1, rfl, o1, b1⟩
  obtain ⟨a1, k1, rfl⟩ := o1.form
  replace M := M.callR b1 o1.1
  clear o1 b1
  have x1 := M.c 0 1 rfl rfl
  have y0 := M.c 2 0 rfl rfl
  have fo := M.f 2 rfl
  have M2 := (M.set 2 rfl 0 (.slice a1 p.vars.length k1))
  have HM := show Hid _ from M2
  clear M M2
  go_wp2_with fail
  have M := HM.out
  clear HM x1 y0 fo
  refine (toIntS_any v2 p.arrays _ (HG.out _ (M.below fun _ _ => trivial)).2.1 (by have := HZ.out; omega)).mono ?_
  rintro x w2 ⟨u2, rfl, o2, b2⟩
  obtain ⟨a2, k2, rfl⟩ := o2.form
  replace M := M.callR b2 o2.1
  clear o2 b2
  have x2 := M.c 0 2 rfl rfl
  have y1 := M.c 2 1 rfl rfl
  have fo := M.f 2 rfl
  have M2 := (M.set 2 rfl 1 (.slice a2 p.arrays.length k2))
  have HM := show Hid _ from M2
  clear M M2
  go_wp2_with fail
  have M := HM.out
  clear HM x2 y1 fo
  refine (toStmtS_of p.body (fun s _ => toStmt_all s) φ v3 _ (HG.out _ (M.below fun _ _ => trivial)).2.2 (by have := HZ.out; omega)).mono ?_
  rintro x w3 ⟨a3, k3, S3, rfl, hO, hS, b3⟩
  replace M := M.callO b3 (S := S3) (R := fun w => BlockO w (.slice a3 p.body.length k3) p.body S3) (fun w w' h hs => BlockO.same h hs) hO (fun b hb => hS b hb)
  clear hO hS b3
  have y0 : World.cell? _ ⟨w.heap.size + 1 + 1, 0, none⟩ = some (.slice a1 p.vars.length k1) := M.c 2 0 rfl rfl
  have y1 : World.cell? _ ⟨w.heap.size + 1 + 1, 1, none⟩ = some (.slice a2 p.arrays.length k2) := M.c 2 1 rfl rfl
  have y2 : World.cell? _ ⟨w.heap.size + 1 + 1, 2, none⟩ = some (.slice none 0 0) := M.c 2 2 rfl rfl
  have z0 := M.c 1 0 rfl rfl
  have z1 := M.c 1 1 rfl rfl
  have z2 := M.c 1 2 rfl rfl
  have fo := M.f 2 rfl
  have fz := M.f 1 rfl
  have M2 := (M.set 2 rfl 2 (.slice a3 p.body.length k3)).fill 1 rfl [.slice a1 p.vars.length k1, .slice a2 p.arrays.length k2, .slice a3 p.body.length k3] rfl
  simp only [World.setFrom] at M2
  have HM2 := show Hid _ from M2
  clear M M2
  go_wp2_with fail
  have M2 := HM2.out
  have r0 : World.cell? _ ⟨w.heap.size + 1, 0, none⟩ = some (.slice a1 p.vars.length k1) := M2.c 1 0 rfl rfl
  have r1 : World.cell? _ ⟨w.heap.size + 1, 1, none⟩ = some (.slice a2 p.arrays.length k2) := M2.c 1 1 rfl rfl
  have r2 : World.cell? _ ⟨w.heap.size + 1, 2, none⟩ = some (.slice a3 p.body.length k3) := M2.c 1 2 rfl rfl
  have fin : ∀ (b j : Nat) (r : Res) (L : List Res) (W : World), Mem (fun _ => True) (fun _ => True) w W L → L[j]? = some r → r.blk b → w.heap.size ≤ b ∧ b < W.heap.size := fun b j r L W M hj hs =>
    ⟨(M.ge _ b (List.mem_of_getElem? hj) hs).elim (fun h => h) fun h => absurd trivial h, M.lt (List.mem_of_getElem? hj) hs⟩
  have e1 := fun b => M2.dis 3 4 _ _ b rfl rfl (by omega)
  have e2 := fun b => M2.dis 3 5 _ _ b rfl rfl (by omega)
  have e3 := fun b => M2.dis 4 5 _ _ b rfl rfl (by omega)
  refine bodyPost_ret (v := .agg #[.slice a1 p.vars.length k1, .slice a2 p.arrays.length k2, .slice a3 p.body.length k3]) (by simp [results, Try.results17, go_sem, r0, r1, r2]) rfl ⟨a1, k1, a2, k2, a3, k3, fun b => (Value.slice a1 p.vars.length k1).ownBlock = some b ∨ (Value.slice a2 p.arrays.length k2).ownBlock = some b ∨ S3 b, rfl,
    ⟨_, _, _, S3, rfl, M2.r 3 rfl, M2.r 4 rfl, M2.o 5 rfl, fun g hg => ⟨.inl hg, e2 g hg, e1 g hg⟩, fun g hg => ⟨.inr (.inl hg), e3 g hg⟩, fun b hb => .inr (.inr hb)⟩, fun b hb => ?_, M2.below fun _ _ => trivial⟩
  rcases hb with hb | hb | hb
  · exact fin b 3 _ _ _ M2 rfl hb
  · exact fin b 4 _ _ _ M2 rfl hb
  · exact fin b 5 _ _ _ M2 rfl hb

end Go.Proofs.Ytgpkdfefgcpbiaa

namespace Go.Proofs.Ytgpkdfefgcpbiaa
set_option linter.unusedVariables false
set_option linter.unusedSimpArgs false
open Go Go.RowKit

theorem setFrom_append_right (us : List Value) : ∀ (c ys : List Value) (p : Nat), c.length ≤ p → setFrom (c ++ ys) p us = c ++ setFrom ys (p - c.length) us := by
  induction us with
  | nil => intro c ys p _; rfl
  | cons u r ih =>
    intro c ys p hp
    simp only [setFrom]
    rw [List.set_append_right _ _ hp, ih _ _ _ (by omega), show p + 1 - c.length = p - c.length + 1 by omega]
theorem setFrom_append_left (us : List Value) : ∀ (c ys : List Value) (p : Nat), p + us.length ≤ c.length → setFrom (c ++ ys) p us = setFrom c p us ++ ys := by
  induction us with
  | nil => intro c ys p _; rfl
  | cons u r ih =>
    intro c ys p hp
    simp only [List.length_cons] at hp
    simp only [setFrom]
    rw [List.set_append_left _ _ (by omega), ih _ _ _ (by simp; omega)]
theorem setFrom_whole {c us : List Value} (h : us.length = c.length) : setFrom c 0 us = us := by
  have h1 := setFrom_take us c 0 (by omega)
  rw [Nat.zero_add, List.take_of_length_le (by rw [setFrom_len]; omega)] at h1
  simpa using h1
theorem ExprO.len {w : World} {e : LExpr} {S : Nat → Prop} {c : List Value} (h : ExprO w e S c) : c.length = 3 := by
  obtain ⟨kv, rfl, _⟩ := (ExprO.iff e S c).1 h; rfl
theorem StmtO.len {w : World} {s : LStmt} {S : Nat → Prop} {c : List Value} (h : StmtO w s S c) : c.length = 11 := by
  obtain ⟨_, _, _, _, _, _, _, _, rfl, _⟩ := (StmtO.iff s S c).1 h; rfl
/-- One element of an owned row, to be turned. -/
theorem ExprsO.focus {w : World} : ∀ {ls : List LExpr} {S : Nat → Prop} {xs : List Value}, ExprsO w ls S xs → ∀ (i : Nat) (hi : i < ls.length), ∃ (c : List Value) (Sc : Nat → Prop), ExprO w ls[i] Sc c ∧ (∀ b, Sc b → S b) ∧ (∀ j, j < 3 → xs[i * 3 + j]? = c[j]?) ∧
    ∀ (w' : World) (e' : LExpr) (c' : List Value), (∀ b, S b → ¬ Sc b → b < w.heap.size → w'.heap[b]? = w.heap[b]?) → ExprO w' e' Sc c' → ExprsO w' (ls.set i e') S (setFrom xs (i * 3) c')
  | [], _, _, _, i, hi => by simp at hi
  | e :: r, S, xs, ⟨c, ys, S1, S2, h1, h2, h3, h4, h5⟩, i, hi => by
    have hc := h4.len
    subst h1
    cases i with
    | zero =>
      refine ⟨c, S1, h4, fun b hb => (h2 b hb).1, fun j hj => by rw [List.getElem?_append_left (by omega)]; simp, fun w' e' c' hs hO => ?_⟩
      refine ⟨c', ys, S1, S2, ?_, h2, h3, hO, ExprsO.same r S2 ys h5 fun b hb hlt => hs b (h3 b hb) (fun h => (h2 b h).2 hb) hlt⟩
      rw [Nat.zero_mul, setFrom_append_left c' c ys 0 (by rw [hO.len]; omega), setFrom_whole (by rw [hO.len, hc])]
    | succ i =>
      obtain ⟨d, Sc, k1, k2, k3, k4⟩ := ExprsO.focus h5 i (by simpa using hi)
      refine ⟨d, Sc, k1, fun b hb => h3 b (k2 b hb), fun j hj => ?_, fun w' e' c' hs hO => ?_⟩
      · rw [List.getElem?_append_right (by rw [hc, Nat.succ_mul]; omega), ← k3 j hj]
        congr 1
        rw [hc, Nat.succ_mul]; omega
      · refine ⟨c, setFrom ys (i * 3) c', S1, S2, ?_, h2, h3, ExprO.same e S1 c h4 fun b hb hlt => hs b (h2 b hb).1 (fun h => (h2 b hb).2 (k2 b h)) hlt, k4 w' e' c' (fun b hb hn hlt => hs b (h3 b hb) hn hlt) hO⟩
        rw [setFrom_append_right c' c ys _ (by rw [hc, Nat.succ_mul]; omega), hc, Nat.succ_mul, Nat.add_sub_cancel]
theorem StmtsO.focus {w : World} : ∀ {ls : List LStmt} {S : Nat → Prop} {xs : List Value}, StmtsO w ls S xs → ∀ (i : Nat) (hi : i < ls.length), ∃ (c : List Value) (Sc : Nat → Prop), StmtO w ls[i] Sc c ∧ (∀ b, Sc b → S b) ∧ (∀ j, j < 11 → xs[i * 11 + j]? = c[j]?) ∧
    ∀ (w' : World) (e' : LStmt) (c' : List Value), (∀ b, S b → ¬ Sc b → b < w.heap.size → w'.heap[b]? = w.heap[b]?) → StmtO w' e' Sc c' → StmtsO w' (ls.set i e') S (setFrom xs (i * 11) c')
  | [], _, _, _, i, hi => by simp at hi
  | e :: r, S, xs, ⟨c, ys, S1, S2, h1, h2, h3, h4, h5⟩, i, hi => by
    have hc := h4.len
    subst h1
    cases i with
    | zero =>
      refine ⟨c, S1, h4, fun b hb => (h2 b hb).1, fun j hj => by rw [List.getElem?_append_left (by omega)]; simp, fun w' e' c' hs hO => ?_⟩
      refine ⟨c', ys, S1, S2, ?_, h2, h3, hO, StmtsO.same r S2 ys h5 fun b hb hlt => hs b (h3 b hb) (fun h => (h2 b h).2 hb) hlt⟩
      rw [Nat.zero_mul, setFrom_append_left c' c ys 0 (by rw [hO.len]; omega), setFrom_whole (by rw [hO.len, hc])]
    | succ i =>
      obtain ⟨d, Sc, k1, k2, k3, k4⟩ := StmtsO.focus h5 i (by simpa using hi)
      refine ⟨d, Sc, k1, fun b hb => h3 b (k2 b hb), fun j hj => ?_, fun w' e' c' hs hO => ?_⟩
      · rw [List.getElem?_append_right (by rw [hc, Nat.succ_mul]; omega), ← k3 j hj]
        congr 1
        rw [hc, Nat.succ_mul]; omega
      · refine ⟨c, setFrom ys (i * 11) c', S1, S2, ?_, h2, h3, StmtO.same e S1 c h4 fun b hb hlt => hs b (h2 b hb).1 (fun h => (h2 b hb).2 (k2 b h)) hlt, k4 w' e' c' (fun b hb hn hlt => hs b (h3 b hb) hn hlt) hO⟩
        rw [setFrom_append_right c' c ys _ (by rw [hc, Nat.succ_mul]; omega), hc, Nat.succ_mul, Nat.add_sub_cancel]

/-- Some elements marked. -/
def mxE (ks : List LExpr) (k : Int) (i : Nat) : List LExpr := (mkEs ks k).take i ++ ks.drop i
theorem mkEs_len : ∀ (ks : List LExpr) (k : Int), (mkEs ks k).length = ks.length
  | [], _ => rfl
  | _ :: r, k => by simp [mkEs, mkEs_len r]
theorem mkEs_get : ∀ (ks : List LExpr) (k : Int) (i : Nat) (h : i < ks.length), (mkEs ks k)[i]? = some (mkE ks[i] (k + 2 * szEs (ks.take i)))
  | [], _, i, h => by simp at h
  | e :: r, k, 0, _ => by simp [mkEs, szEs]
  | e :: r, k, i + 1, h => by
    simp only [mkEs, List.getElem?_cons_succ, List.getElem_cons_succ, List.take_succ_cons, szEs]
    rw [mkEs_get r _ i (by simpa using h)]
    congr 2
    simp only [Int.natCast_add, Int.natCast_one]
    omega
theorem mxE_len (ks : List LExpr) (k : Int) {i : Nat} (h : i ≤ ks.length) : (mxE ks k i).length = ks.length := by simp [mxE, mkEs_len]; omega
theorem mxE_zero (ks : List LExpr) (k : Int) : mxE ks k 0 = ks := by simp [mxE]
theorem mxE_all (ks : List LExpr) (k : Int) : mxE ks k ks.length = mkEs ks k := by
  unfold mxE; rw [List.drop_length, List.append_nil, List.take_of_length_le (by rw [mkEs_len]; exact Nat.le_refl _)]
theorem mxE_at (ks : List LExpr) (k : Int) {i : Nat} (h : i < ks.length) : (mxE ks k i)[i]? = some ks[i] := by
  unfold mxE
  rw [List.getElem?_append_right (by rw [List.length_take]; omega), List.length_take, mkEs_len, Nat.min_eq_left (by omega), Nat.sub_self, List.getElem?_drop, Nat.add_zero, List.getElem?_eq_getElem h]
theorem mxE_succ (ks : List LExpr) (k : Int) {i : Nat} (h : i < ks.length) : mxE ks k (i + 1) = (mxE ks k i).set i (mkE ks[i] (k + 2 * szEs (ks.take i))) := by
  have hl : ((mkEs ks k).take i).length = i := by rw [List.length_take, mkEs_len]; omega
  have hg := mkEs_get ks k i h
  have hi : i < (mkEs ks k).length := by rw [mkEs_len]; exact h
  rw [List.getElem?_eq_getElem hi] at hg
  have hg' := Option.some.inj hg
  unfold mxE
  rw [List.set_append_right _ _ (by omega), hl, Nat.sub_self, List.drop_eq_getElem_cons h, List.set_cons_zero, take_succ_get _ _ hi, hg']
  simp

def MkE' (e : LExpr) : Prop := ∀ (v : Value) (k : Int) (w : World) (S : Nat → Prop), KidsO w v e.kids S → 0 ≤ k → k + 2 * szEs e.kids ≤ 9000000000000000000 →
  Calls Try.prog 80 #[v, .int .i64 k] w fun x w' => x = .returned (.int .i64 (k + 2 * szEs e.kids)) ∧ KidsO w' v (mkEs e.kids k) S ∧ Kept (fun b => ¬ S b) w w'

set_option maxHeartbeats 2000000 in
theorem markExprS_of (ks : List LExpr) (ih : ∀ e ∈ ks, MkE' e) (v : Value) (k0 : Int) (w : World) (S : Nat → Prop) (h : KidsO w v ks S) (hk0 : 0 ≤ k0) (hkb : k0 + 2 * szEs ks ≤ 9000000000000000000) :
    Calls Try.prog 80 #[v, .int .i64 k0] w fun x w' => x = .returned (.int .i64 (k0 + 2 * szEs ks)) ∧ KidsO w' v (mkEs ks k0) S ∧ Kept (fun b => ¬ S b) w w' := by
  obtain ⟨xs, S', ho, hg, hs, hx⟩ := h
  obtain ⟨a, cap, rfl⟩ := owns_form ho
  have hm : ks.length ≤ 9223372036854775807 := (owns_row ho).len
  have HG := show Hid _ from hg
  have HS := show Hid _ from hs
  have HX := show Hid _ from hx
  have HO := show Hid _ from ho
  clear hg hs hx ho
  go_enter Try.func80, Try.ntmps80
  go_wp2_with fail
  go_loopw [1, 5] (fun q i wr => ∃ (j : Nat) (y : Int) (xs : List Value), j ≤ ks.length ∧ i = .int .i64 j ∧ q = .int .i64 y ∧ y = k0 + 2 * szEs (ks.take j) ∧ wr.ownsRow 0 41 3 (.slice a ks.length cap) ks.length xs ∧ ExprsO wr (mxE ks k0 j) S' xs ∧ Kept (fun b => ¬ S b) w wr) (fun _ i _ => ks.length - (intOf i).toNat)
  case atStart => exact ⟨0, k0, xs, Nat.zero_le _, rfl, rfl, by simp [szEs], HO.out, by rw [mxE_zero]; exact HX.out, Kept.refl _ _⟩
  case round =>
    obtain ⟨j, y, xs, hj, rfl, rfl, hy, ho, hx, hkp⟩ := hrel
    have HY := show Hid _ from hy
    have HKP := show Hid _ from hkp
    have HX1 := show Hid _ from hx
    have HO1 := show Hid _ from ho
    clear hy hkp hx ho
    by_cases hlt : j < ks.length
    · have h1 := szEs_take1 hlt
      have h2 := szEs_drop ks (j + 1)
      have hy0 : 0 ≤ y := by have := HY.out; omega
      have hy1 : y + 2 + 2 * szE ks[j] ≤ 9000000000000000000 := by have := HY.out; omega
      have hlen := mxE_len ks k0 hj
      obtain ⟨c, Sc, f1, f2, f3, f4⟩ := HX1.out.focus j (by omega)
      have hge := mxE_at ks k0 hlt
      rw [List.getElem?_eq_getElem (by omega)] at hge
      rw [Option.some.inj hge] at f1
      obtain ⟨kv, rfl, hkv⟩ := (ExprO.iff _ _ _).1 f1
      have F3 := show Hid _ from f3
      have F4 := show Hid _ from f4
      have F2 := show Hid _ from f2
      obtain ⟨g, cap', hv, -, hg2, hg3, -, -, hfr, hcell⟩ := (Own.mk' HO1.out).open (by omega)
      cases hv
      have hxl : xs.length = ks.length * 3 := HO1.out.1
      have e0 := hcell (j * 3) (.int .i64 ks[j].kind) (by simpa using f3 0 (by omega))
      have e1 := hcell (j * 3 + 1) (.int .i64 ks[j].value) ((f3 1 (by omega)).trans rfl)
      have e2 := hcell (j * 3 + 2) kv ((f3 2 (by omega)).trans rfl)
      have hSg : ¬ S' g := (HG.out g rfl).2
      have HSG := show Hid _ from hSg
      have HK := show Hid _ from hkv
      have HXL := show Hid _ from hxl
      have HH := show Hid _ from And.intro h1 h2
      clear hcell f1 f2 f3 f4 hkv hge hlen hSg hxl h1 h2
      go_wp2_with fail
      refine (ih _ (List.getElem_mem hlt) kv (y + 1 + 1) _ Sc (KidsO.same HK.out fun b hb hl => ?_) (by omega) ?_).mono ?_
      · have hbg : b ≠ g := fun e => HSG.out (by rw [← e]; exact F2.out b hb)
        rw [Below.heap_setCell _ _ _ _ hbg, Below.heap_setCell _ _ _ _ hbg]
      · have : szEs ks[j].kids = szE ks[j] := (by cases ks[j]; rfl)
        omega
      rintro x w2 ⟨rfl, hk2, kp2⟩
      have hkids : szEs ks[j].kids = szE ks[j] := (by cases ks[j]; rfl)
      rw [hkids]
      have r1 := ((Own.mk' HO1.out).setCell (j := j * 3) (by rw [HXL.out]; omega) (.int .i64 y)).setCell (j := j * 3 + 1) (by rw [List.length_set, HXL.out]; omega) (.int .i64 (y + 1))
      have hxs : (xs.set (j * 3) (.int .i64 y)).set (j * 3 + 1) (.int .i64 (y + 1)) = setFrom xs (j * 3) [.int .i64 y, .int .i64 (y + 1), kv] := by
        simp only [setFrom]
        have h3 : xs[j * 3 + 1 + 1]? = some kv := (F3.out 2 (by omega)).trans rfl
        apply List.ext_getElem?
        intro q
        rw [List.getElem?_set (i := j * 3 + 1 + 1)]
        split
        · rename_i e
          subst e
          rw [List.getElem?_set_ne (by omega), List.getElem?_set_ne (by omega), h3]
          have := (List.getElem?_eq_some_iff.1 h3).1
          simp [this]
        · rfl
      rw [hxs] at r1
      have hne : ¬ Sc g := fun h => HSG.out (F2.out g h)
      have r2 := owns_same (owns_base r1.1 (Nat.zero_le _)) (w' := w2) fun g' hg' => by
        cases hg'
        exact kp2.block g (by simp; exact hg3) hne
      have hx2 := F4.out w2 (mkE ks[j] y) [.int .i64 y, .int .i64 (y + 1), kv] (fun b hb hn hl => by
        have hbg : b ≠ g := fun e => HSG.out (by rw [← e]; exact hb)
        rw [kp2.block b (by simp; exact hl) hn, Below.heap_setCell _ _ _ _ hbg, Below.heap_setCell _ _ _ _ hbg]) ((ExprO.iff _ _ _).2 ⟨kv, by cases ks[j]; rfl, by
          have hy2 : y + 1 + 1 = y + 2 := by omega
          rw [hy2] at hk2
          cases hkj : ks[j] with
          | mk a1 b1 c1 => rw [hkj] at hk2; exact hk2⟩)
      have hmx := mxE_succ ks k0 hlt
      rw [← HY.out] at hmx
      rw [← hmx] at hx2
      have hkept : Kept (fun b => ¬ S b) w w2 := HKP.out.trans (((Kept.setCell wr g (j * 3) (.int .i64 y)).trans (Kept.setCell _ g (j * 3 + 1) (.int .i64 (y + 1)))).mono (fun b hb e => hb (by rw [e]; exact (HG.out g rfl).1)) |>.trans (kp2.mono fun b hb h => hb (HS.out b (F2.out b h))))
      have HF := show Hid _ from And.intro r2 (And.intro hx2 hkept)
      have hsz0 : (0 : Int) ≤ szE ks[j] := by omega
      clear r1 r2 hx2 hkept hmx hxs hkids hk2 kp2
      obtain ⟨z, hz⟩ : ∃ z : Nat, z = szE ks[j] := ⟨_, rfl⟩
      have HZ := show Hid _ from hz
      rw [← hz] at hy1 hsz0 ⊢
      clear hz
      go_wp2_with fail
      exact ⟨⟨j + 1, _, _, by omega, by go_num, rfl, by rw [HH.out.1, HY.out, ← HZ.out]; omega, HF.out.1, HF.out.2.1, HF.out.2.2⟩, by simp [intOf]; omega⟩
    · have hjn : j = ks.length := by omega
      subst hjn
      go_wp2_with fail
      go_ret
      exact ⟨ret_int (by have := HY.out; rw [List.take_of_length_le (Nat.le_refl _)] at this; exact this), ⟨xs, S', by rw [mkEs_len]; exact HO1.out, HG.out, HS.out, by rw [← mxE_all]; exact HX1.out⟩, HKP.out⟩

end Go.Proofs.Ytgpkdfefgcpbiaa

namespace Go.Proofs.Ytgpkdfefgcpbiaa
set_option linter.unusedVariables false
set_option linter.unusedSimpArgs false
open Go Go.RowKit

section
variable {φ ψ : Nat → Prop} {w0 w w' : World} {L : List Res}

/-- The last two become one. -/
theorem Mem.fuse {a b : Res} (M : Mem φ ψ w0 w (L ++ [a, b])) (c : Res) (hb : ∀ g, c.blk g → a.blk g ∨ b.blk g)
    (hc : (∀ g, a.blk g → ¬ b.blk g) → a.holds w (Fr φ (L ++ [a, b])) → b.holds w (Fr φ (L ++ [a, b])) → c.holds w (Fr φ (L ++ [c]))) : Mem φ ψ w0 w (L ++ [c]) := by
  have ga : (L ++ [a, b])[L.length]? = some a := by simp
  have gb : (L ++ [a, b])[L.length + 1]? = some b := by simp
  have gl : ∀ (i : Nat) (x : Res), L[i]? = some x → (L ++ [a, b])[i]? = some x := fun i x h => by
    have := (List.getElem?_eq_some_iff.1 h).1
    rw [List.getElem?_append_left this]; exact h
  have get : ∀ (i : Nat) (x : Res), (L ++ [c])[i]? = some x → (i < L.length ∧ L[i]? = some x) ∨ (i = L.length ∧ x = c) := by
    intro k z hz
    rcases Nat.lt_or_ge k L.length with hk | hk
    · rw [List.getElem?_append_left hk] at hz; exact .inl ⟨hk, hz⟩
    · rw [List.getElem?_append_right hk] at hz
      have : k - L.length = 0 := by
        rcases Nat.eq_zero_or_pos (k - L.length) with h | h
        · exact h
        · rw [List.getElem?_eq_none (by rw [List.length_singleton]; exact h)] at hz; cases hz
      rw [this] at hz; simp at hz
      exact .inr ⟨by omega, hz.symm⟩
  refine ⟨M.kept, M.fresh, fun r hr => ?_, fun i j x y g hi hj hij hx hy => ?_, fun r g hr hg => ?_⟩
  · rcases List.mem_append.1 hr with hr | hr
    · refine Res.keep (M.holds r (by simp [hr])) (Agr.mono fun g _ hf => ⟨hf.1, fun x hx he => ?_⟩) fun _ _ => rfl
      rcases List.mem_append.1 hx with hx | hx
      · exact hf.2 x (by simp [hx]) he
      · rw [List.mem_singleton] at hx; subst hx
        rcases hb g he with h | h
        · exact hf.2 a (by simp) h
        · exact hf.2 b (by simp) h
    · rw [List.mem_singleton] at hr; subst hr
      exact hc (fun g h1 h2 => M.dis _ _ a b g ga gb (by omega) h1 h2) (M.holds a (by simp)) (M.holds b (by simp))
  · rcases get i x hi with ⟨hi1, hi2⟩ | ⟨hi1, rfl⟩ <;> rcases get j y hj with ⟨hj1, hj2⟩ | ⟨hj1, rfl⟩
    · exact M.dis i j x y g (gl i x hi2) (gl j y hj2) hij hx hy
    · rcases hb g hy with h | h
      · exact M.dis i _ x a g (gl i x hi2) ga (by omega) hx h
      · exact M.dis i _ x b g (gl i x hi2) gb (by omega) hx h
    · rcases hb g hx with h | h
      · exact M.dis j _ y a g (gl j y hj2) ga (by omega) hy h
      · exact M.dis j _ y b g (gl j y hj2) gb (by omega) hy h
    · omega
  · rcases List.mem_append.1 hr with hr | hr
    · exact M.ge r g (by simp [hr]) hg
    · rw [List.mem_singleton] at hr; subst hr
      rcases hb g hg with h | h
      · exact M.ge a g (by simp) h
      · exact M.ge b g (by simp) h
/-- A tree more among the elements of an owned row. -/
theorem Mem.joinE {S T : Nat → Prop} {ks : List LExpr} {xs : List Value} {e : LExpr} {kv : Value} (M : Mem φ ψ w0 w (L ++ [.own S (fun w => ExprsO w ks S xs), .own T (fun w => KidsO w kv e.kids T)])) :
    Mem φ ψ w0 w (L ++ [.own (fun b => S b ∨ T b) (fun w => ExprsO w (ks ++ [e]) (fun b => S b ∨ T b) (xs ++ [.int .i64 e.kind, .int .i64 e.value, kv]))]) :=
  M.fuse _ (fun _ h => h) fun hd h1 h2 => ⟨fun _ _ h hs => ExprsO.same _ _ _ h hs, ExprsO.snoc h1.2.1 ((ExprO.iff _ _ _).2 ⟨kv, rfl, h2.2.1⟩) (fun b hb => ⟨.inl hb, hd b hb⟩) (fun _ hb => .inr hb), fun b hb => hb.elim (h1.2.2 b) (h2.2.2 b)⟩
/-- A row and what its elements own. -/
theorem Mem.joinK {S : Nat → Prop} {ks : List LExpr} {n : Nat} {xs : List Value} {v : Value} (M : Mem φ ψ w0 w (L ++ [.row 41 3 v n xs, .own S (fun w => ExprsO w ks S xs)])) (hn : n = ks.length) :
    Mem φ ψ w0 w (L ++ [.own (fun b => v.ownBlock = some b ∨ S b) (fun w => KidsO w v ks (fun b => v.ownBlock = some b ∨ S b))]) := by
  subst hn
  exact M.fuse _ (fun _ h => h) fun hd h1 h2 => ⟨fun _ _ h hs => KidsO.same h hs, ⟨xs, S, h1, fun g hg => ⟨.inl hg, hd g hg⟩, fun _ hb => .inr hb, h2.2.1⟩, fun b hb => hb.elim (fun h => (World.ownsRow.lt h1 b h).2) (h2.2.2 b)⟩
/-- Nothing owned. -/
theorem Mem.noneE (M : Mem φ ψ w0 w L) : Mem φ ψ w0 w (L ++ [.own (fun _ => False) (fun w => ExprsO w [] (fun _ => False) [])]) :=
  M.callO (Below.refl _ _) (fun _ _ _ _ => rfl) rfl fun _ h => h.elim

theorem ExprsO.at : ∀ {ks : List LExpr} {S : Nat → Prop} {xs : List Value}, ExprsO w ks S xs → ∀ (i : Nat) (hi : i < ks.length), ∃ kv, xs[i * 3]? = some (.int .i64 ks[i].kind) ∧ xs[i * 3 + 1]? = some (.int .i64 ks[i].value) ∧ xs[i * 3 + 2]? = some kv ∧ KidsO w kv ks[i].kids S
  | [], _, _, _, i, hi => by simp at hi
  | e :: r, S, _, ⟨c, ys, S1, S2, h1, h2, h3, h4, h5⟩, i, hi => by
    obtain ⟨kv, rfl, hk⟩ := (ExprO.iff e S1 c).1 h4
    subst h1
    cases i with
    | zero => exact ⟨kv, rfl, rfl, rfl, hk.mono fun b hb => (h2 b hb).1⟩
    | succ i =>
      obtain ⟨kv', a, b, d, f⟩ := ExprsO.at h5 i (by simpa using hi)
      refine ⟨kv', ?_, ?_, ?_, f.mono h3⟩ <;> (rw [Nat.succ_mul]; simpa [Nat.add_assoc] using by assumption)
/-- An owned slice of expressions, opened. -/
theorem KidsO.open {v : Value} {ks : List LExpr} {S : Nat → Prop} (h : KidsO w v ks S) : ∃ a cap, v = .slice a ks.length cap ∧ ks.length ≤ cap ∧ ks.length ≤ 9223372036854775807 ∧ cap ≤ 9223372036854775807 ∧
    ∀ i (hi : i < ks.length), ∃ b off kv, a = some ⟨b, off, none⟩ ∧ b < w.heap.size ∧ S b ∧ w.cell? ⟨b, off + i * 3, none⟩ = some (.int .i64 ks[i].kind) ∧ w.cell? ⟨b, off + i * 3 + 1, none⟩ = some (.int .i64 ks[i].value) ∧ w.cell? ⟨b, off + i * 3 + 2, none⟩ = some kv ∧ KidsO w kv ks[i].kids S := by
  obtain ⟨xs, S', h2, h3, h4, h5⟩ := h
  obtain ⟨hl, a, cap, hv, n1, n2, n3⟩ := owns_rowF (φ := fun g => S g ∧ ¬ S' g) h2 h3
  unfold maxLen at n2
  refine ⟨a, cap, hv, n1, by omega, by omega, fun i hi => ?_⟩
  obtain ⟨b, off, he, hb, hf, hc⟩ := n3 (by omega)
  obtain ⟨kv, e0, e1, e2, hk⟩ := h5.at i hi
  exact ⟨b, off, kv, he, hb, hf.1, hc _ _ e0, hc _ _ e1, hc _ _ e2, hk.mono h4⟩
theorem KidsO.nil (w : World) (S : Nat → Prop) : KidsO w (.slice none 0 0) [] S := ⟨[], fun _ => False, World.ownsRow_nil _ _ _ _, (fun g hg => by cases hg), fun _ h => h.elim, rfl⟩

end
end Go.Proofs.Ytgpkdfefgcpbiaa

namespace Go.Proofs.Ytgpkdfefgcpbiaa
set_option linter.unusedVariables false
set_option linter.unusedSimpArgs false
open Go Go.RowKit

theorem markExprS_all (ks : List LExpr) (v : Value) (k0 : Int) (w : World) (S : Nat → Prop) (h : KidsO w v ks S) (hk0 : 0 ≤ k0) (hkb : k0 + 2 * szEs ks ≤ 9000000000000000000) :
    Calls Try.prog 80 #[v, .int .i64 k0] w fun x w' => x = .returned (.int .i64 (k0 + 2 * szEs ks)) ∧ KidsO w' v (mkEs ks k0) S ∧ Kept (fun b => ¬ S b) w w' :=
  markExprS_of ks (fun e _ => LExpr.ind (P := MkE') (fun _ _ ks ih v k w S h h0 hb => markExprS_of ks ih v k w S h h0 hb) e) v k0 w S h hk0 hkb

def HeldE (e : LExpr) : Prop := ∀ (φ : Nat → Prop) (v : Value) (k : Int) (w : World), KidsV w φ v (mkEs e.kids k) → 0 ≤ k → k + 2 * szEs e.kids ≤ 9000000000000000000 →
  Calls Try.prog 81 #[v, .int .i64 k] w fun x w' => x = .returned (.int .i64 (k + 2 * szEs e.kids)) ∧ Below w.heap.size w w'

set_option maxHeartbeats 2000000 in
theorem heldExprS_of (ks : List LExpr) (ih : ∀ e ∈ ks, HeldE e) (φ : Nat → Prop) (v : Value) (k0 : Int) (w : World) (h : KidsV w φ v (mkEs ks k0)) (hk0 : 0 ≤ k0) (hkb : k0 + 2 * szEs ks ≤ 9000000000000000000) :
    Calls Try.prog 81 #[v, .int .i64 k0] w fun x w' => x = .returned (.int .i64 (k0 + 2 * szEs ks)) ∧ Below w.heap.size w w' := by
  obtain ⟨a, cap, rfl, -, hn, -, hc⟩ := h.open
  rw [mkEs_len] at hn ⊢
  have HC := show Hid _ from hc
  clear hc h
  go_enter Try.func81, Try.ntmps81
  go_wp2_with fail
  go_loopw [1, 5] (fun q i wr => ∃ (j : Nat) (y : Int), j ≤ ks.length ∧ i = .int .i64 j ∧ q = .int .i64 y ∧ y = k0 + 2 * szEs (ks.take j) ∧ Below w.heap.size w wr) (fun _ i _ => ks.length - (intOf i).toNat)
  case atStart => exact ⟨0, k0, Nat.zero_le _, rfl, rfl, by simp [szEs], Below.refl _ _⟩
  case round =>
    obtain ⟨j, y, hj, rfl, rfl, hy, hb⟩ := hrel
    have HY := show Hid _ from hy
    have HB := show Hid _ from hb
    clear hy hb
    by_cases hlt : j < ks.length
    · have h1 := szEs_take1 hlt
      have h2 := szEs_drop ks (j + 1)
      have hy0 : 0 ≤ y := by have := HY.out; omega
      have hy1 : y + 2 + 2 * szE ks[j] ≤ 9000000000000000000 := by have := HY.out; omega
      have hge := mkEs_get ks k0 j hlt
      rw [← HY.out, List.getElem?_eq_getElem (by rw [mkEs_len]; exact hlt)] at hge
      have hge' := Option.some.inj hge
      obtain ⟨b, off, kv, rfl, hbk, hf, c0, c1, c2, hkv⟩ := HC.out j (by rw [mkEs_len]; exact hlt)
      rw [hge'] at c0 c1 hkv
      rw [← (bcell HB.out).1 _ _ hbk] at c0 c1 c2
      have hkids : szEs ks[j].kids = szE ks[j] := (by cases ks[j]; rfl)
      have d0 : (mkE ks[j] y).kind = y := by cases ks[j]; rfl
      have d1 : (mkE ks[j] y).value = y + 1 := by cases ks[j]; rfl
      have d2 : (mkE ks[j] y).kids = mkEs ks[j].kids (y + 2) := by cases ks[j]; rfl
      rw [d0] at c0
      rw [d1] at c1
      rw [d2] at hkv
      have HK := show Hid (KidsV wr φ kv (mkEs ks[j].kids (y + 1 + 1))) from by rw [show y + 1 + 1 = y + 2 by omega]; exact KidsV.nice _ _ _ _ _ _ (Agr.below HB.out) hkv
      have HH := show Hid _ from And.intro h1 h2
      have HKS := show Hid _ from hkids
      clear hkv hge hge' d0 d1 d2 h1 h2 hkids
      go_wp2_with fail
      refine (ih _ (List.getElem_mem hlt) φ kv (y + 1 + 1) _ HK.out (by omega) (by rw [HKS.out]; omega)).mono ?_
      rintro x w2 ⟨rfl, b2⟩
      rw [HKS.out]
      have B2 := show Hid _ from HB.out.trans (b2.mono HB.out.size)
      obtain ⟨z, hz⟩ : ∃ z : Nat, z = szE ks[j] := ⟨_, rfl⟩
      have HZ := show Hid _ from hz
      have hsz0 : (0 : Int) ≤ (z : Int) := by omega
      rw [← hz] at hy1 ⊢
      clear hz b2
      go_wp2_with fail
      exact ⟨⟨j + 1, _, by omega, by go_num, rfl, by rw [HH.out.1, HY.out, ← HZ.out]; omega, B2.out⟩, by simp [intOf]; omega⟩
    · have hjn : j = ks.length := by omega
      subst hjn
      go_wp2_with fail
      go_ret
      exact ⟨ret_int (by have := HY.out; rw [List.take_of_length_le (Nat.le_refl _)] at this; exact this), HB.out⟩
theorem heldExprS_all (ks : List LExpr) (φ : Nat → Prop) (v : Value) (k0 : Int) (w : World) (h : KidsV w φ v (mkEs ks k0)) (hk0 : 0 ≤ k0) (hkb : k0 + 2 * szEs ks ≤ 9000000000000000000) :
    Calls Try.prog 81 #[v, .int .i64 k0] w fun x w' => x = .returned (.int .i64 (k0 + 2 * szEs ks)) ∧ Below w.heap.size w w' :=
  heldExprS_of ks (fun e _ => LExpr.ind (P := HeldE) (fun _ _ ks ih φ v k w h h0 hb => heldExprS_of ks ih φ v k w h h0 hb) e) φ v k0 w h hk0 hkb

set_option maxHeartbeats 1000000 in
theorem markExpr_any (k n : Int) (ks : List LExpr) (kv : Value) (k0 : Int) (w : World) (S : Nat → Prop) (h : KidsO w kv ks S) (hk0 : 0 ≤ k0) (hkb : k0 + 2 * szEs ks ≤ 9000000000000000000) :
    Calls Try.prog 26 #[.agg #[.int .i64 k, .int .i64 n, kv], .int .i64 k0] w fun x w' => x = .returned (.int .i64 (k0 + 2 * szEs ks)) ∧ KidsO w' kv (mkEs ks k0) S ∧ Kept (fun b => ¬ S b) w w' := by
  have bx : Below w.heap.size w (w.alloc (.cells #[.int .i64 k, .int .i64 n, kv] 41)) := by go_grown
  have HK := show Hid _ from KidsO.same h fun b _ hl => bx.block b hl
  have HB := show Hid (Kept (fun b => ¬ S b) w (w.alloc (.cells #[.int .i64 k, .int .i64 n, kv] 41))) from Kept.of_below bx fun _ hb _ => hb
  clear h bx
  go_enter Try.func26, Try.ntmps26
  go_wp2_with fail
  refine (markExprS_all ks kv k0 _ S HK.out hk0 hkb).mono ?_
  rintro x w1 ⟨rfl, h1, h2⟩
  go_wp2_with fail
  go_ret
  exact ⟨rfl, h1, HB.out.trans h2⟩

set_option maxHeartbeats 1000000 in
theorem heldExpr_any (φ : Nat → Prop) (k n : Int) (ks : List LExpr) (kv : Value) (k0 : Int) (w : World) (h : KidsV w φ kv (mkEs ks k0)) (hk0 : 0 ≤ k0) (hkb : k0 + 2 * szEs ks ≤ 9000000000000000000) :
    Calls Try.prog 27 #[.agg #[.int .i64 k, .int .i64 n, kv], .int .i64 k0] w fun x w' => x = .returned (.int .i64 (k0 + 2 * szEs ks)) ∧ Below w.heap.size w w' := by
  have bx : Below w.heap.size w (w.alloc (.cells #[.int .i64 k, .int .i64 n, kv] 41)) := by go_grown
  have HK := show Hid _ from KidsV.nice _ _ _ _ _ _ (Agr.below bx) h
  have HB := show Hid _ from bx
  clear h bx
  go_enter Try.func27, Try.ntmps27
  go_wp2_with fail
  refine (heldExprS_all ks φ kv k0 _ HK.out hk0 hkb).mono ?_
  rintro x w1 ⟨rfl, b1⟩
  have hnn : ¬ (k0 + 2 * (szEs ks : Int) < 0) := by omega
  have B1 := show Hid _ from HB.out.trans (b1.mono HB.out.size)
  go_wp2_with fail
  go_ret
  exact ⟨rfl, B1.out⟩

end Go.Proofs.Ytgpkdfefgcpbiaa

namespace Go.Proofs.Ytgpkdfefgcpbiaa
set_option linter.unusedVariables false
set_option linter.unusedSimpArgs false
open Go Go.RowKit

/-! Cells of one element, as a list of their own. -/
theorem setFrom_get (us : List Value) : ∀ (ys : List Value) (p q : Nat), p + us.length ≤ ys.length → (setFrom ys p us)[q]? = if p ≤ q ∧ q < p + us.length then us[q - p]? else ys[q]? := by
  induction us with
  | nil => intro ys p q _; simp only [setFrom, List.length_nil]; split; omega; rfl
  | cons u r ih =>
    intro ys p q h
    simp only [List.length_cons] at h
    simp only [setFrom, List.length_cons]
    rw [ih _ _ _ (by simp; omega)]
    by_cases h1 : q = p
    · subst h1
      rw [if_neg (by omega), if_pos (by omega), List.getElem?_set_self (by omega), Nat.sub_self]; rfl
    · by_cases h2 : p + 1 ≤ q ∧ q < p + 1 + r.length
      · rw [if_pos h2, if_pos (by omega), show q - p = q - (p + 1) + 1 by omega]; rfl
      · rw [if_neg h2, if_neg (by omega), List.getElem?_set_ne (by omega)]
theorem setFrom_self {xs cs : List Value} {p : Nat} (h : p + cs.length ≤ xs.length) (hc : ∀ j, j < cs.length → xs[p + j]? = cs[j]?) : setFrom xs p cs = xs := by
  apply List.ext_getElem?
  intro q
  rw [setFrom_get _ _ _ _ h]
  split
  · rename_i h1
    rw [← hc _ (by omega)]; congr 1; omega
  · rfl
theorem setFrom_set {xs cs : List Value} {p k : Nat} (u : Value) (h : p + cs.length ≤ xs.length) (hk : k < cs.length) : (setFrom xs p cs).set (p + k) u = setFrom xs p (cs.set k u) := by
  apply List.ext_getElem?
  intro q
  rw [setFrom_get _ _ _ _ (by simpa using h), List.getElem?_set, setFrom_get _ _ _ _ h, setFrom_len, List.length_set]
  by_cases h1 : p + k = q
  · subst h1
    rw [if_pos rfl, if_pos (by omega), if_pos (by omega), Nat.add_sub_cancel_left, List.getElem?_set_self hk]
  · rw [if_neg h1]
    split
    · rw [List.getElem?_set_ne (by omega)]
    · rfl

def Res.plain : Res → Prop
  | .dat _ => False
  | _ => True
theorem Res.holds_plain {w : World} {φ φ' : Nat → Prop} {r : Res} (hp : r.plain) (h : r.holds w φ) : r.holds w φ' := by
  cases r with
  | dat R => exact hp.elim
  | box b cs => exact h
  | row e sz v n xs => exact h
  | own S R => exact h
/-- A thing that was there is taken up. -/
theorem Mem.adopt {φ ψ : Nat → Prop} {w0 w : World} {L : List Res} (M : Mem φ ψ w0 w L) (r : Res) (hL : ∀ a ∈ L, a.plain) (hp : r.plain) (h : r.holds w (fun _ => True)) (hd : ∀ a ∈ L, ∀ g, r.blk g → ¬ a.blk g) (hg : ∀ g, r.blk g → ¬ ψ g) : Mem φ ψ w0 w (L ++ [r]) := by
  have get : ∀ (i : Nat) (x : Res), (L ++ [r])[i]? = some x → (i < L.length ∧ x ∈ L ∧ L[i]? = some x) ∨ (i = L.length ∧ x = r) := by
    intro k z hz
    rcases Nat.lt_or_ge k L.length with hk | hk
    · rw [List.getElem?_append_left hk] at hz; exact .inl ⟨hk, List.mem_of_getElem? hz, hz⟩
    · rw [List.getElem?_append_right hk] at hz
      have : k - L.length = 0 := by
        rcases Nat.eq_zero_or_pos (k - L.length) with h | h
        · exact h
        · rw [List.getElem?_eq_none (by rw [List.length_singleton]; exact h)] at hz; cases hz
      rw [this] at hz; simp at hz
      exact .inr ⟨by omega, hz.symm⟩
  refine ⟨M.kept, M.fresh, fun x hx => ?_, fun i j x y g hi hj hij hx hy => ?_, fun x g hx hxg => ?_⟩
  · rcases List.mem_append.1 hx with hx | hx
    · exact Res.holds_plain (hL x hx) (M.holds x hx)
    · rw [List.mem_singleton] at hx; subst hx; exact Res.holds_plain hp h
  · rcases get i x hi with ⟨hi1, hi2, hi3⟩ | ⟨hi1, rfl⟩ <;> rcases get j y hj with ⟨hj1, hj2, hj3⟩ | ⟨hj1, rfl⟩
    · exact M.dis i j x y g hi3 hj3 hij hx hy
    · exact hd x hi2 g hy hx
    · exact hd y hj2 g hx hy
    · omega
  · rcases List.mem_append.1 hx with hx | hx
    · exact M.ge x g hx hxg
    · rw [List.mem_singleton] at hx; subst hx; exact .inr (hg g hxg)

/-! Marks of statements. -/
def mxS (ks : List LStmt) (k : Int) (i : Nat) : List LStmt := (mkSs ks k).take i ++ ks.drop i
theorem mkSs_len : ∀ (ks : List LStmt) (k : Int), (mkSs ks k).length = ks.length
  | [], _ => rfl
  | _ :: r, k => by simp [mkSs, mkSs_len r]
theorem mkN_append (a b : List LStmt) : mkN (a ++ b) = mkN a + mkN b := by
  induction a with
  | nil => simp [mkN]
  | cons x r ih => simp only [List.cons_append, mkN, ih]; omega
theorem mkSs_get : ∀ (ks : List LStmt) (k : Int) (i : Nat) (h : i < ks.length), (mkSs ks k)[i]? = some (mkS ks[i] (k + mkN (ks.take i)))
  | [], _, i, h => by simp at h
  | e :: r, k, 0, _ => by simp [mkSs, mkN]
  | e :: r, k, i + 1, h => by
    simp only [mkSs, List.getElem?_cons_succ, List.getElem_cons_succ, List.take_succ_cons, mkN]
    rw [mkSs_get r _ i (by simpa using h)]
    congr 2
    omega
theorem mxS_len (ks : List LStmt) (k : Int) {i : Nat} (h : i ≤ ks.length) : (mxS ks k i).length = ks.length := by simp [mxS, mkSs_len]; omega
theorem mxS_zero (ks : List LStmt) (k : Int) : mxS ks k 0 = ks := by simp [mxS]
theorem mxS_all (ks : List LStmt) (k : Int) : mxS ks k ks.length = mkSs ks k := by
  unfold mxS; rw [List.drop_length, List.append_nil, List.take_of_length_le (by rw [mkSs_len]; exact Nat.le_refl _)]
theorem mxS_at (ks : List LStmt) (k : Int) {i : Nat} (h : i < ks.length) : (mxS ks k i)[i]? = some ks[i] := by
  unfold mxS
  rw [List.getElem?_append_right (by rw [List.length_take]; omega), List.length_take, mkSs_len, Nat.min_eq_left (by omega), Nat.sub_self, List.getElem?_drop, Nat.add_zero, List.getElem?_eq_getElem h]
theorem mxS_succ (ks : List LStmt) (k : Int) {i : Nat} (h : i < ks.length) : mxS ks k (i + 1) = (mxS ks k i).set i (mkS ks[i] (k + mkN (ks.take i))) := by
  have hl : ((mkSs ks k).take i).length = i := by rw [List.length_take, mkSs_len]; omega
  have hg := mkSs_get ks k i h
  have hi : i < (mkSs ks k).length := by rw [mkSs_len]; exact h
  rw [List.getElem?_eq_getElem hi] at hg
  have hg' := Option.some.inj hg
  unfold mxS
  rw [List.set_append_right _ _ (by omega), hl, Nat.sub_self, List.drop_eq_getElem_cons h, List.set_cons_zero, take_succ_get _ _ hi, hg']
  simp
mutual
theorem mkN1_nonneg : ∀ s : LStmt, 0 ≤ mkN1 s ∧ mkN1 s ≤ 7 * (1 + szS s)
  | ⟨_, _, i, v, _, b, e⟩ => by
    have h1 := mkN_nonneg b
    have h2 := mkN_nonneg e
    simp only [mkN1, szS]
    omega
theorem mkN_nonneg : ∀ ss : List LStmt, 0 ≤ mkN ss ∧ mkN ss ≤ 7 * szSs ss
  | [] => by simp [mkN, szSs]
  | s :: r => by
    have h1 := mkN1_nonneg s
    have h2 := mkN_nonneg r
    simp only [mkN, szSs]
    omega
end
theorem mkN_take1 {ks : List LStmt} {k : Nat} (h : k < ks.length) : mkN (ks.take (k + 1)) = mkN (ks.take k) + mkN1 ks[k] := by
  rw [take_succ_get _ _ h, mkN_append]; simp [mkN]
theorem mkN_drop (ks : List LStmt) (k : Nat) : mkN ks = mkN (ks.take k) + mkN (ks.drop k) := by
  have := mkN_append (ks.take k) (ks.drop k)
  rwa [List.take_append_drop] at this
theorem mkN1_def (s : LStmt) : mkN1 s = 7 + 2 * szEs s.index.kids + 2 * szEs s.value.kids + mkN s.body + mkN s.els := by
  rcases s with ⟨_, _, ⟨_, _, _⟩, ⟨_, _, _⟩, _, _, _⟩; simp only [mkN1, szE]; rfl
theorem mkS_def (s : LStmt) (y A B : Int) (hA : A = 2 * szEs s.index.kids) (hB : B = 2 * szEs s.value.kids) :
    mkS s y = ⟨y, y + 1, ⟨y + 1 + 1, y + 1 + 1 + 1, mkEs s.index.kids (y + 1 + 1 + 1 + 1)⟩, ⟨y + 1 + 1 + 1 + 1 + A, y + 1 + 1 + 1 + 1 + A + 1, mkEs s.value.kids (y + 1 + 1 + 1 + 1 + A + 1 + 1)⟩,
      y + 1 + 1 + 1 + 1 + A + 1 + 1 + B, mkSs s.body (y + 1 + 1 + 1 + 1 + A + 1 + 1 + B + 1), mkSs s.els (y + 1 + 1 + 1 + 1 + A + 1 + 1 + B + 1 + mkN s.body)⟩ := by
  rcases s with ⟨_, _, ⟨_, _, _⟩, ⟨_, _, _⟩, _, _, _⟩
  simp only [LStmt.index, LStmt.value, LStmt.body, LStmt.els, LExpr.kids] at hA hB ⊢
  subst hA hB
  simp only [mkS, mkE, szE, LStmt.mk.injEq, LExpr.mk.injEq, true_and]
  refine ⟨⟨by omega, by omega, by congr 1; omega⟩, ⟨by omega, by omega, by congr 1; omega⟩, by omega, by congr 1; omega, by congr 1; omega⟩

/-! Owned trees lie in memory. -/
section
variable {w : World}
mutual
theorem ExprO.cut : ∀ (e : LExpr) (S : Nat → Prop) (cs : List Value), ExprO w e S cs → ExprO w e (fun b => S b ∧ b < w.heap.size) cs
  | ⟨_, _, ks⟩, _, _, ⟨v, xs, S', h1, h2, h3, h4, h5⟩ => ⟨v, xs, fun b => S' b ∧ b < w.heap.size, h1, h2, fun g hg => ⟨⟨(h3 g hg).1, (World.ownsRow.lt h2 g hg).2⟩, fun h => (h3 g hg).2 h.1⟩, fun b hb => ⟨h4 b hb.1, hb.2⟩, ExprsO.cut ks S' xs h5⟩
theorem ExprsO.cut : ∀ (ks : List LExpr) (S : Nat → Prop) (xs : List Value), ExprsO w ks S xs → ExprsO w ks (fun b => S b ∧ b < w.heap.size) xs
  | [], _, _, h => h
  | e :: r, _, _, ⟨c, ys, S1, S2, h1, h2, h3, h4, h5⟩ => ⟨c, ys, fun b => S1 b ∧ b < w.heap.size, fun b => S2 b ∧ b < w.heap.size, h1, fun b hb => ⟨⟨(h2 b hb.1).1, hb.2⟩, fun h => (h2 b hb.1).2 h.1⟩, fun b hb => ⟨h3 b hb.1, hb.2⟩, ExprO.cut e S1 c h4, ExprsO.cut r S2 ys h5⟩
end
theorem KidsO.cut {v : Value} {ks : List LExpr} {S : Nat → Prop} (h : KidsO w v ks S) : KidsO w v ks (fun b => S b ∧ b < w.heap.size) := by
  obtain ⟨xs, S', h2, h3, h4, h5⟩ := h
  exact ⟨xs, fun b => S' b ∧ b < w.heap.size, h2, fun g hg => ⟨⟨(h3 g hg).1, (World.ownsRow.lt h2 g hg).2⟩, fun h => (h3 g hg).2 h.1⟩, fun b hb => ⟨h4 b hb.1, hb.2⟩, ExprsO.cut ks S' xs h5⟩
mutual
theorem StmtO.cut : ∀ (s : LStmt) (S : Nat → Prop) (cs : List Value), StmtO w s S cs → StmtO w s (fun b => S b ∧ b < w.heap.size) cs
  | ⟨_, _, _, _, _, b, e⟩, _, _, ⟨iv, vv, bv, ev, xb, xe, Si, Sv, Sb, Se, Sb', Se', h1, ⟨d1, d2, d3, d4⟩, h2, h3, ⟨b1, b2, b3, b4⟩, ⟨e1, e2, e3, e4⟩⟩ =>
    ⟨iv, vv, bv, ev, xb, xe, fun b => Si b ∧ b < w.heap.size, fun b => Sv b ∧ b < w.heap.size, fun b => Sb b ∧ b < w.heap.size, fun b => Se b ∧ b < w.heap.size, fun b => Sb' b ∧ b < w.heap.size, fun b => Se' b ∧ b < w.heap.size, h1,
      ⟨fun b hb => ⟨⟨(d1 b hb.1).1, hb.2⟩, fun h => (d1 b hb.1).2.1 h.1, fun h => (d1 b hb.1).2.2.1 h.1, fun h => (d1 b hb.1).2.2.2 h.1⟩, fun b hb => ⟨⟨(d2 b hb.1).1, hb.2⟩, fun h => (d2 b hb.1).2.1 h.1, fun h => (d2 b hb.1).2.2 h.1⟩,
        fun b hb => ⟨⟨(d3 b hb.1).1, hb.2⟩, fun h => (d3 b hb.1).2 h.1⟩, fun b hb => ⟨d4 b hb.1, hb.2⟩⟩, h2.cut, h3.cut,
      ⟨b1, fun g hg => ⟨⟨(b2 g hg).1, (World.ownsRow.lt b1 g hg).2⟩, fun h => (b2 g hg).2 h.1⟩, fun b hb => ⟨b3 b hb.1, hb.2⟩, StmtsO.cut b Sb' xb b4⟩,
      ⟨e1, fun g hg => ⟨⟨(e2 g hg).1, (World.ownsRow.lt e1 g hg).2⟩, fun h => (e2 g hg).2 h.1⟩, fun b hb => ⟨e3 b hb.1, hb.2⟩, StmtsO.cut e Se' xe e4⟩⟩
theorem StmtsO.cut : ∀ (ks : List LStmt) (S : Nat → Prop) (xs : List Value), StmtsO w ks S xs → StmtsO w ks (fun b => S b ∧ b < w.heap.size) xs
  | [], _, _, h => h
  | e :: r, _, _, ⟨c, ys, S1, S2, h1, h2, h3, h4, h5⟩ => ⟨c, ys, fun b => S1 b ∧ b < w.heap.size, fun b => S2 b ∧ b < w.heap.size, h1, fun b hb => ⟨⟨(h2 b hb.1).1, hb.2⟩, fun h => (h2 b hb.1).2 h.1⟩, fun b hb => ⟨h3 b hb.1, hb.2⟩, StmtO.cut e S1 c h4, StmtsO.cut r S2 ys h5⟩
end
theorem BlockO.cut {v : Value} {ks : List LStmt} {S : Nat → Prop} (h : BlockO w v ks S) : BlockO w v ks (fun b => S b ∧ b < w.heap.size) := by
  obtain ⟨xs, S', h2, h3, h4, h5⟩ := h
  exact ⟨xs, fun b => S' b ∧ b < w.heap.size, h2, fun g hg => ⟨⟨(h3 g hg).1, (World.ownsRow.lt h2 g hg).2⟩, fun h => (h3 g hg).2 h.1⟩, fun b hb => ⟨h4 b hb.1, hb.2⟩, StmtsO.cut ks S' xs h5⟩
end

/-! One element of an owned row, cell by cell. -/
section
variable {φ ψ : Nat → Prop} {w0 w : World} {L : List Res}
theorem Mem.elemSet (M : Mem φ ψ w0 w L) (i : Nat) {e : TypeId} {sz n cap g p : Nat} {xs cs : List Value} (hi : L[i]? = some (.row e sz (.slice (some ⟨g, 0, none⟩) n cap) n (Go.Proofs.Ytgpkdfefgcpbiaa.setFrom xs p cs))) (hp : p + cs.length ≤ xs.length) (k : Nat) (hk : k < cs.length) (u : Value) {o : Nat} (ho : o = p + k) :
    Mem φ ψ w0 (w.setCell ⟨g, o, none⟩ u) (L.set i (.row e sz (.slice (some ⟨g, 0, none⟩) n cap) n (Go.Proofs.Ytgpkdfefgcpbiaa.setFrom xs p (cs.set k u)))) := by
  subst ho
  rw [← setFrom_set u hp hk]
  exact M.rowSet i hi (by rw [setFrom_len]; omega) u
theorem Mem.elemCell (M : Mem φ ψ w0 w L) (i : Nat) {e : TypeId} {sz n cap g p : Nat} {xs cs : List Value} (hi : L[i]? = some (.row e sz (.slice (some ⟨g, 0, none⟩) n cap) n (Go.Proofs.Ytgpkdfefgcpbiaa.setFrom xs p cs))) (hn : 0 < n) (hp : p + cs.length ≤ xs.length) (k : Nat) {u : Value} (hk : cs[k]? = some u) {o : Nat} (ho : o = p + k) :
    w.cell? ⟨g, o, none⟩ = some u := by
  subst ho
  obtain ⟨g', cap', hv, -, -, -, -, -, -, hc⟩ := (Own.mk' (M.r i hi)).open hn
  cases hv
  refine hc (p + k) u ?_
  have := (List.getElem?_eq_some_iff.1 hk).1
  rw [setFrom_get _ _ _ _ hp, if_pos (by omega), Nat.add_sub_cancel_left, hk]
theorem Mem.rowFree (M : Mem φ ψ w0 w L) (i : Nat) {e : TypeId} {sz n cap g : Nat} {xs : List Value} (hi : L[i]? = some (.row e sz (.slice (some ⟨g, 0, none⟩) n cap) n xs)) (hn : 0 < n) : ∀ o, w.frozen? ⟨g, o, none⟩ = false := by
  obtain ⟨g', cap', hv, -, -, -, -, -, hf, -⟩ := (Own.mk' (M.r i hi)).open hn
  cases hv
  exact hf
end

def MkSs (ss : List LStmt) : Prop := ∀ (v : Value) (k : Int) (w : World) (S : Nat → Prop), BlockO w v ss S → 0 ≤ k → k + mkN ss ≤ 9000000000000000000 →
  Calls Try.prog 79 #[v, .int .i64 k] w fun x w' => x = .returned (.int .i64 (k + mkN ss)) ∧ BlockO w' v (mkSs ss k) S ∧ Kept (fun b => ¬ S b) w w'

set_option maxRecDepth 100000 in
set_option maxHeartbeats 4000000 in
theorem markStmtS_of (ks : List LStmt) (ih : ∀ s ∈ ks, MkSs s.body ∧ MkSs s.els) : MkSs ks := by
  intro v k0 w S h hk0 hkb
  obtain ⟨xs, S', ho, hg, hs, hx⟩ := h
  obtain ⟨a, cap, rfl⟩ := owns_form ho
  have hm : ks.length ≤ 9223372036854775807 := (owns_row ho).len
  have HG := show Hid _ from hg
  have HS := show Hid _ from hs
  have HX := show Hid _ from hx
  have HO := show Hid _ from ho
  have HKB := show Hid _ from hkb
  clear hg hs hx ho hkb
  go_enter Try.func79, Try.ntmps79
  go_wp2_with fail
  go_loopw [1, 5] (fun q i wr => ∃ (j : Nat) (y : Int) (xs : List Value), j ≤ ks.length ∧ i = .int .i64 j ∧ q = .int .i64 y ∧ y = k0 + mkN (ks.take j) ∧ wr.ownsRow 0 135 11 (.slice a ks.length cap) ks.length xs ∧ StmtsO wr (mxS ks k0 j) S' xs ∧ Kept (fun b => ¬ S b) w wr) (fun _ i _ => ks.length - (intOf i).toNat)
  case atStart => exact ⟨0, k0, xs, Nat.zero_le _, rfl, rfl, by simp [mkN], HO.out, by rw [mxS_zero]; exact HX.out, Kept.refl _ _⟩
  case round =>
    obtain ⟨j, y, xs, hj, rfl, rfl, hy, ho, hx, hkp⟩ := hrel
    have HY := show Hid _ from hy
    have HKP := show Hid _ from hkp
    have HX1 := show Hid _ from hx
    have HO1 := show Hid _ from ho
    clear hy hkp hx ho
    by_cases hlt : j < ks.length
    · have hlen := mxS_len ks k0 hj
      obtain ⟨c, Sc, f1, f2, f3, f4⟩ := HX1.out.focus j (by omega)
      have hge := mxS_at ks k0 hlt
      rw [List.getElem?_eq_getElem (by omega)] at hge
      rw [Option.some.inj hge] at f1
      obtain ⟨iv, vv, bv, ev, Si, Sv, Sb, Se, rfl, ⟨d1, d2, d3, d4⟩, o1, o2, o3, o4⟩ := (StmtO.iff _ _ _).1 f1
      obtain ⟨g, cap', hv, -, hg2, hg3, -, -, -, -⟩ := (Own.mk' HO1.out).open (by omega)
      cases hv
      have hxl : xs.length = ks.length * 11 := HO1.out.1
      have hmx := mxS_succ ks k0 hlt
      rw [← HY.out] at hmx
      have hih := ih _ (List.getElem_mem hlt)
      have ht1 := mkN_take1 hlt
      have hdr := mkN_drop ks (j + 1)
      obtain ⟨s, hsj⟩ : ∃ s, s = ks[j] := ⟨_, rfl⟩
      rw [← hsj] at f1 f3 o1 o2 o3 o4 hih hmx ht1
      have hdef := mkN1_def s
      have hnb := (mkN_nonneg s.body).1
      have hne := (mkN_nonneg s.els).1
      have hnt := (mkN_nonneg (ks.take j)).1
      have hnd := (mkN_nonneg (ks.drop (j + 1))).1
      obtain ⟨A, hA⟩ : ∃ A : Int, A = 2 * szEs s.index.kids := ⟨_, rfl⟩
      obtain ⟨B, hB⟩ : ∃ B : Int, B = 2 * szEs s.value.kids := ⟨_, rfl⟩
      obtain ⟨C, hC⟩ : ∃ C : Int, C = mkN s.body := ⟨_, rfl⟩
      obtain ⟨D, hD⟩ : ∃ D : Int, D = mkN s.els := ⟨_, rfl⟩
      have hA0 : 0 ≤ A := by omega
      have hB0 : 0 ≤ B := by omega
      have hC0 : 0 ≤ C := by omega
      have hD0 : 0 ≤ D := by omega
      have hy0 : 0 ≤ y := by have := HY.out; omega
      have hy1 : y + 7 + A + B + C + D ≤ 9000000000000000000 := by have := HY.out; have := HKB.out; omega
      have hyn : y + 7 + A + B + C + D = k0 + mkN (ks.take (j + 1)) := by have := HY.out; omega
      have hmk := mkS_def s y A B hA hB
      rw [← hC] at hmk
      have hp : j * 11 + 11 ≤ xs.length := by omega
      have hxs : setFrom xs (j * 11) [.int .i64 s.kind, .int .i64 s.target, .int .i64 s.index.kind, .int .i64 s.index.value, iv, .int .i64 s.value.kind, .int .i64 s.value.value, vv, .int .i64 s.count, bv, ev] = xs := setFrom_self hp f3
      have hgS' : ¬ S' g := (HG.out g rfl).2
      have hgc : ¬ Sc g := fun h => hgS' (f2 g h)
      have M : Mem (fun _ => True) (fun b => ¬ (b = g ∨ Sc b)) wr wr [.row 135 11 (.slice (some ⟨g, 0, none⟩) ks.length cap) ks.length (setFrom xs (j * 11) [.int .i64 s.kind, .int .i64 s.target, .int .i64 s.index.kind, .int .i64 s.index.value, iv, .int .i64 s.value.kind, .int .i64 s.value.value, vv, .int .i64 s.count, bv, ev]),
          .own (fun b => Si b ∧ b < wr.heap.size) (fun w => KidsO w iv s.index.kids (fun b => Si b ∧ b < wr.heap.size)), .own (fun b => Sv b ∧ b < wr.heap.size) (fun w => KidsO w vv s.value.kids (fun b => Sv b ∧ b < wr.heap.size)),
          .own (fun b => Sb b ∧ b < wr.heap.size) (fun w => BlockO w bv s.body (fun b => Sb b ∧ b < wr.heap.size)), .own (fun b => Se b ∧ b < wr.heap.size) (fun w => BlockO w ev s.els (fun b => Se b ∧ b < wr.heap.size))] := by
        rw [hxs]
        refine (((((Mem.start fun _ _ => trivial).adopt (.row 135 11 (.slice (some ⟨g, 0, none⟩) ks.length cap) ks.length xs) ?_ trivial HO1.out ?_ ?_).adopt (.own (fun b => Si b ∧ b < wr.heap.size) _) ?_ trivial ⟨fun _ _ h hs => KidsO.same h hs, o1.cut, fun _ h => h.2⟩ ?_ ?_).adopt (.own (fun b => Sv b ∧ b < wr.heap.size) _) ?_ trivial ⟨fun _ _ h hs => KidsO.same h hs, o2.cut, fun _ h => h.2⟩ ?_ ?_).adopt (.own (fun b => Sb b ∧ b < wr.heap.size) _) ?_ trivial ⟨fun _ _ h hs => BlockO.same h hs, o3.cut, fun _ h => h.2⟩ ?_ ?_).adopt (.own (fun b => Se b ∧ b < wr.heap.size) _) ?_ trivial ⟨fun _ _ h hs => BlockO.same h hs, o4.cut, fun _ h => h.2⟩ ?_ ?_
        · intro a ha; cases ha
        · intro a ha; cases ha
        · intro g' hg' hn; cases hg'; exact hn (.inl rfl)
        · intro a ha; simp at ha; subst ha; trivial
        · intro a ha g' hg' h; simp at ha; subst ha; cases h; exact hgc (d1 _ hg'.1).1
        · intro g' hg' hn; exact hn (.inr (d1 _ hg'.1).1)
        · intro a ha; simp at ha; rcases ha with rfl | rfl <;> trivial
        · intro a ha g' hg' h; simp at ha; rcases ha with rfl | rfl
          · cases h; exact hgc (d2 _ hg'.1).1
          · exact (d1 _ h.1).2.1 hg'.1
        · intro g' hg' hn; exact hn (.inr (d2 _ hg'.1).1)
        · intro a ha; simp at ha; rcases ha with rfl | rfl | rfl <;> trivial
        · intro a ha g' hg' h; simp at ha; rcases ha with rfl | rfl | rfl
          · cases h; exact hgc (d3 _ hg'.1).1
          · exact (d1 _ h.1).2.2.1 hg'.1
          · exact (d2 _ h.1).2.1 hg'.1
        · intro g' hg' hn; exact hn (.inr (d3 _ hg'.1).1)
        · intro a ha; simp at ha; rcases ha with rfl | rfl | rfl | rfl <;> trivial
        · intro a ha g' hg' h; simp at ha; rcases ha with rfl | rfl | rfl | rfl
          · cases h; exact hgc (d4 _ hg'.1)
          · exact (d1 _ h.1).2.2.2 hg'.1
          · exact (d2 _ h.1).2.2 hg'.1
          · exact (d3 _ h.1).2 hg'.1
        · intro g' hg' hn; exact hn (.inr (d4 _ hg'.1))
      have hn0 : 0 < ks.length := by omega
      have HIH := show Hid _ from hih
      have HF := show Hid _ from And.intro f2 (And.intro f4 (And.intro hmx (And.intro hmk hyn)))
      have HD := show Hid _ from And.intro d1 (And.intro d2 (And.intro d3 d4))
      have HE := show Hid _ from And.intro hA (And.intro hB (And.intro hC hD))
      have HGS := show Hid _ from hgS'
      have HP := show Hid _ from hp
      clear hih f1 f2 f3 f4 hmx hmk hyn d1 d2 d3 d4 o1 o2 o3 o4 hA hB hC hD hgS' hgc hxs hxl hlen hge ht1 hdr hdef hnb hne hnt hnd hsj hp
      have fz := M.rowFree 0 rfl hn0
      have e0 := M.elemCell 0 rfl hn0 HP.out 0 rfl (o := j * 11) rfl
      have e1 := M.elemCell 0 rfl hn0 HP.out 1 rfl rfl
      have e2 := M.elemCell 0 rfl hn0 HP.out 2 rfl rfl
      have e3 := M.elemCell 0 rfl hn0 HP.out 3 rfl rfl
      have e4 := M.elemCell 0 rfl hn0 HP.out 4 rfl rfl
      have M1 := (((M.elemSet 0 rfl HP.out 0 (by simp) (.int .i64 y) (o := j * 11) rfl).elemSet 0 rfl HP.out 1 (by simp) (.int .i64 (y + 1)) rfl).elemSet 0 rfl HP.out 2 (by simp) (.int .i64 (y + 1 + 1)) rfl).elemSet 0 rfl HP.out 3 (by simp) (.int .i64 (y + 1 + 1 + 1)) rfl
      have HM := show Hid _ from M1
      clear M M1
      go_wp2_with fail
      have M := HM.out
      clear HM fz e0 e1 e2 e3 e4
      refine (markExprS_all s.index.kids iv (y + 1 + 1 + 1 + 1) _ _ (M.o 1 rfl) (by omega) (by have := HE.out.1; omega)).mono ?_
      rintro x w1 ⟨rfl, k1, kp1⟩
      rw [← HE.out.1]
      replace M := M.turn 1 rfl kp1 (fun _ _ h hs => KidsO.same h hs) k1
      clear k1 kp1
      have fz := M.rowFree 0 rfl hn0
      have e5 := M.elemCell 0 rfl hn0 HP.out 5 rfl rfl
      have e6 := M.elemCell 0 rfl hn0 HP.out 6 rfl rfl
      have e7 := M.elemCell 0 rfl hn0 HP.out 7 rfl rfl
      have M1 := (M.elemSet 0 rfl HP.out 5 (by simp) (.int .i64 (y + 1 + 1 + 1 + 1 + A)) rfl).elemSet 0 rfl HP.out 6 (by simp) (.int .i64 (y + 1 + 1 + 1 + 1 + A + 1)) rfl
      have HM := show Hid _ from M1
      clear M M1
      go_wp2_with fail
      have M := HM.out
      clear HM fz e5 e6 e7
      refine (markExprS_all s.value.kids vv (y + 1 + 1 + 1 + 1 + A + 1 + 1) _ _ (M.o 2 rfl) (by omega) (by have := HE.out.2.1; omega)).mono ?_
      rintro x w2 ⟨rfl, k1, kp1⟩
      rw [← HE.out.2.1]
      replace M := M.turn 2 rfl kp1 (fun _ _ h hs => KidsO.same h hs) k1
      clear k1 kp1
      have fz := M.rowFree 0 rfl hn0
      have e8 := M.elemCell 0 rfl hn0 HP.out 8 rfl rfl
      have e9 := M.elemCell 0 rfl hn0 HP.out 9 rfl rfl
      have M1 := M.elemSet 0 rfl HP.out 8 (by simp) (.int .i64 (y + 1 + 1 + 1 + 1 + A + 1 + 1 + B)) rfl
      have HM := show Hid _ from M1
      clear M M1
      go_wp2_with fail
      have M := HM.out
      clear HM fz e8 e9
      refine (HIH.out.1 bv (y + 1 + 1 + 1 + 1 + A + 1 + 1 + B + 1) _ _ (M.o 3 rfl) (by omega) (by have := HE.out.2.2.1; omega)).mono ?_
      rintro x w3 ⟨rfl, k1, kp1⟩
      rw [← HE.out.2.2.1]
      replace M := M.turn 3 rfl kp1 (fun _ _ h hs => BlockO.same h hs) k1
      clear k1 kp1
      have e10 := M.elemCell 0 rfl hn0 HP.out 10 rfl rfl
      have HM := show Hid _ from M
      clear M
      go_wp2_with fail
      have M := HM.out
      clear HM e10
      refine (HIH.out.2 ev (y + 1 + 1 + 1 + 1 + A + 1 + 1 + B + 1 + C) _ _ (M.o 4 rfl) (by omega) (by have := HE.out.2.2.2; omega)).mono ?_
      rintro x w4 ⟨rfl, k1, kp1⟩
      rw [← HE.out.2.2.2]
      replace M := M.turn 4 rfl kp1 (fun _ _ h hs => BlockO.same h hs) k1
      clear k1 kp1
      have HM := show Hid _ from M
      clear M
      obtain ⟨z, hz⟩ : ∃ z : Int, z = y + 1 + 1 + 1 + 1 + A + 1 + 1 + B + 1 + C + D := ⟨_, rfl⟩
      have HZ := show Hid _ from hz
      rw [← hz]
      have hz0 : 0 ≤ z := by omega
      have hz1 : z ≤ 9000000000000000000 := by omega
      have HY1 := show Hid _ from hy1
      clear hz hy1
      go_wp2_with fail
      have M := HM.out
      obtain ⟨f2, f4, hmx, hmk, hyn⟩ := HF.out
      obtain ⟨d1, d2, d3, d4⟩ := HD.out
      have hO : StmtO w4 (mkS s y) Sc [.int .i64 y, .int .i64 (y + 1), .int .i64 (y + 1 + 1), .int .i64 (y + 1 + 1 + 1), iv, .int .i64 (y + 1 + 1 + 1 + 1 + A), .int .i64 (y + 1 + 1 + 1 + 1 + A + 1), vv, .int .i64 (y + 1 + 1 + 1 + 1 + A + 1 + 1 + B), bv, ev] := by
        rw [hmk]
        exact (StmtO.iff _ _ _).2 ⟨iv, vv, bv, ev, Si, Sv, Sb, Se, rfl, ⟨d1, d2, d3, d4⟩, (M.o 1 rfl).mono fun _ h => h.1, (M.o 2 rfl).mono fun _ h => h.1, (M.o 3 rfl).mono fun _ h => h.1, (M.o 4 rfl).mono fun _ h => h.1⟩
      have hX := f4 w4 (mkS s y) _ (fun b hb hn hl => M.kept.block b hl fun h => h.elim (fun h => HGS.out (h ▸ hb)) hn) hO
      rw [← hmx] at hX
      refine ⟨⟨j + 1, _, _, by omega, by go_num, rfl, by have := HZ.out; omega, M.r 0 rfl, hX, HKP.out.trans (M.kept.mono fun b hb h => hb (h.elim (fun h => h ▸ (HG.out g rfl).1) fun h => HS.out b (f2 b h)))⟩, by simp [intOf]; omega⟩
    · have hjn : j = ks.length := by omega
      subst hjn
      go_wp2_with fail
      go_ret
      exact ⟨ret_int (by have := HY.out; rw [List.take_of_length_le (Nat.le_refl _)] at this; exact this), ⟨xs, S', by rw [mkSs_len]; exact HO1.out, HG.out, HS.out, by rw [← mxS_all]; exact HX1.out⟩, HKP.out⟩

theorem markStmtS_all (s : LStmt) : MkSs s.body ∧ MkSs s.els :=
  LStmt.ind (P := fun s => MkSs s.body ∧ MkSs s.els) (fun _ _ _ _ _ b e ihb ihe => ⟨markStmtS_of b ihb, markStmtS_of e ihe⟩) s
theorem markStmtS_any (ks : List LStmt) : MkSs ks := markStmtS_of ks fun s _ => markStmtS_all s

end Go.Proofs.Ytgpkdfefgcpbiaa

namespace Go.Proofs.Ytgpkdfefgcpbiaa
set_option linter.unusedVariables false
set_option linter.unusedSimpArgs false
open Go Go.RowKit

theorem impl_operands (k : Int) (w : World) : Calls Try.prog 192 #[.int .i64 k] w fun e w' => e = .returned (.int .i64 (arity k)) ∧ w = w' := by
  by_cases h1 : k = 1
  · subst h1
    go_enter Try.func192, Try.ntmps192
    go_wp2_with fail
    go_ret
    exact ⟨ret_int (by simp [arity]), rfl⟩
  by_cases h2 : k = 2
  · subst h2
    go_enter Try.func192, Try.ntmps192
    go_wp2_with fail
    go_ret
    exact ⟨ret_int (by simp [arity]), rfl⟩
  by_cases h3 : k = 3
  · subst h3
    go_enter Try.func192, Try.ntmps192
    go_wp2_with fail
    go_ret
    exact ⟨ret_int (by simp [arity]), rfl⟩
  have p1 : (k == 1) = false := by simp [h1]
  have p2 : (k == 2) = false := by simp [h2]
  have p3 : (k == 3) = false := by simp [h3]
  have H := show Hid _ from And.intro h1 (And.intro h2 h3)
  clear h1 h2 h3
  go_enter Try.func192, Try.ntmps192
  go_wp2_with fail
  refine (impl_within k 4 10 _).mono ?_
  rintro x w1 ⟨rfl, rfl⟩
  by_cases h4 : 4 ≤ k ∧ k ≤ 10
  · have p4 : (decide (4 ≤ k) && decide (k ≤ 10)) = true := by simp [h4]
    rw [p4]
    have H4 := show Hid _ from h4
    clear h4 p4
    go_wp2_with fail
    go_ret
    exact ⟨ret_int (by have := H.out; have := H4.out; unfold arity; rw [if_neg (by omega), if_neg (by omega), if_pos (by omega)]), rfl⟩
  · have p4 : (decide (4 ≤ k) && decide (k ≤ 10)) = false := by simp; omega
    rw [p4]
    have H4 := show Hid _ from h4
    clear h4 p4
    by_cases h5 : k = 11
    · subst h5
      go_wp2_with fail
      go_ret
      exact ⟨ret_int (by simp [arity]), rfl⟩
    · have p5 : (k == 11) = false := by simp [h5]
      have H5 := show Hid _ from h5
      clear h5
      go_wp2_with fail
      go_ret
      exact ⟨ret_int (by have := H.out; have := H4.out; have := H5.out; unfold arity; rw [if_neg (by omega), if_neg (by omega), if_neg (by omega), if_neg (by omega)]), rfl⟩

theorem scanB_node {nv na d c : Nat} {e : LExpr} (h1 : nodeB nv na e = true) (h2 : readB e = true) : scanB nv na (d + 1) c e = scanPre nv na d (c + 1) e.kids e.kids.length := by
  unfold scanB scanPre
  rw [List.take_of_length_le (Nat.le_refl _), shapeB, h1, h2, szE_kids]
  simp
theorem scanPre_end {nv na d c k : Nat} {ks : List LExpr} (hk : k < ks.length) (hs : scanB nv na d (c + szEs (ks.take k)) ks[k] = false) : scanPre nv na d c ks ks.length = false := by
  unfold scanPre
  rw [List.take_of_length_le (Nat.le_refl _)]
  exact scanPre_fail nv na hk hs
theorem scanB_noNode {nv na d c : Nat} {e : LExpr} (h1 : nodeB nv na e = false) : scanB nv na (d + 1) c e = false := by
  unfold scanB; rw [shapeB, h1]; rfl
theorem scanB_noRead {nv na d c : Nat} {e : LExpr} (h1 : readB e = false) : scanB nv na (d + 1) c e = false := by
  unfold scanB; rw [shapeB, h1]; simp
theorem limit_high {nv na : Nat} {k n h : Int} (hh : h = limit nv na k - 1) : (decide (0 ≤ n) && decide (n ≤ h)) = (decide (0 ≤ n) && decide (n < limit nv na k)) := by
  congr 1; exact decide_eq_decide.2 (by omega)

set_option maxRecDepth 100000 in
set_option maxHeartbeats 8000000 in
theorem impl_scan (a1 a2 : Option Addr) (nv c1 na c2 : Nat) (v3 : Value) (h1 : nv ≤ 9223372036854775807) (h2 : na ≤ 9223372036854775807) : ∀ (d : Nat) (deep : Int), deep + d = 6 → 1 ≤ deep → ∀ (e : LExpr) (φ : Nat → Prop) (v : Value) (c cb : Nat) (w : World), ExprV w φ v e → ¬ φ cb → Blk w cb [.int .i64 c] → c ≤ 15 →
    Calls Try.prog 163 #[.agg #[.slice a1 nv c1, .slice a2 na c2, v3], v, .int .i64 deep, .pointer (some ⟨cb, 0, none⟩)] w fun x w' =>
      x = .returned (.bool (scanB nv na d c e)) ∧ (scanB nv na d c e = true → Blk w' cb [.int .i64 (c + 1 + szE e : Nat)]) ∧ (∃ u, Blk w' cb [u]) ∧ Kept (fun b => ¬ b = cb) w w' := by
  intro d
  induction d with
  | zero =>
    intro deep hdp hd1 e φ v c cb w h hcb hblk hc
    obtain ⟨kv, rfl, hk⟩ := h
    have HF : Hid (scanB nv na 0 c e = false) := rfl
    obtain rfl : deep = 6 := by omega
    have hl := hblk.lt
    have x0 : w.cell? ⟨cb, 0, none⟩ = some (.int .i64 c) := (hblk.cell 0).trans rfl
    have f0 := hblk.free
    obtain ⟨W, hW, M⟩ : ∃ W, W = (((w.setCell ⟨cb, 0, none⟩ (.int .i64 ((c : Int) + 1))).alloc (.cells #[.slice a1 nv c1, .slice a2 na c2, v3] 31)).alloc (.cells #[.int .i64 e.kind, .int .i64 e.value, kv] 41)) ∧ Mem (fun _ => True) (fun b => ¬ b = cb) w W [.box cb [.int .i64 ((c : Int) + 1)]] :=
      ⟨_, rfl, (((Mem.start fun _ _ => trivial).adopt (.box cb [.int .i64 c]) (fun _ ha => by cases ha) trivial hblk (fun _ ha => by cases ha) (fun g hg hn => by cases hg; exact hn rfl)).set 0 rfl 0 (.int .i64 ((c : Int) + 1))).call (by go_grown)⟩
    have y0 := M.c 0 0 rfl rfl
    have z0 := fun X => ext_cell y0 X
    clear hk y0 hblk
    by_cases q : (15 : Int) < (c : Int) + 1
    · have p : decide ((15 : Int) < (c : Int) + 1) = true := by simp; omega
      clear q
      go_enter Try.func163, Try.ntmps163
      go_wp2_with fail
      rw [← hW]
      clear hW
      refine wp_region_ext (by kernel_rfl) (by kernel_rfl) ?_
      repeat (any_goals (first | go_big_quiet_step (((fail))) | quiet_step (((fail)))))
      refine wpQuiet_nil ?_
      rintro _ ⟨X, rfl⟩
      replace M := M.call (ext_below W X)
      go_wp2_with fail
      go_ret
      exact ⟨ret_bool (by rw [HF.out]), fun h => absurd (h.symm.trans HF.out) (by simp), ⟨_, M.blk 0 rfl⟩, M.kept⟩
    · have p : decide ((15 : Int) < (c : Int) + 1) = false := by simp; omega
      clear q
      go_enter Try.func163, Try.ntmps163
      go_wp2_with fail
      rw [← hW]
      clear hW
      refine wp_region_ext (by kernel_rfl) (by kernel_rfl) ?_
      repeat (any_goals (first | go_big_quiet_step (((fail))) | quiet_step (((fail)))))
      refine wpQuiet_nil ?_
      rintro _ ⟨X, rfl⟩
      replace M := M.call (ext_below W X)
      go_wp2_with fail
      go_ret
      exact ⟨ret_bool (by rw [HF.out]), fun h => absurd (h.symm.trans HF.out) (by simp), ⟨_, M.blk 0 rfl⟩, M.kept⟩
  | succ d ih =>
    intro deep hdp hd1 e φ v c cb w h hcb hblk hc
    obtain ⟨kv, rfl, hk⟩ := h
    obtain ⟨ak, ck, rfl, -, hn, -, -⟩ := hk.open
    have hl := hblk.lt
    have hd5 : deep ≤ 5 := by omega
    obtain ⟨φ', hφ'⟩ : ∃ φ' : Nat → Prop, φ' = fun b => φ b ∨ w.heap.size ≤ b := ⟨_, rfl⟩
    have x0 : w.cell? ⟨cb, 0, none⟩ = some (.int .i64 c) := (hblk.cell 0).trans rfl
    have f0 := hblk.free
    obtain ⟨W, hW, M⟩ : ∃ W, W = (((w.setCell ⟨cb, 0, none⟩ (.int .i64 ((c : Int) + 1))).alloc (.cells #[.slice a1 nv c1, .slice a2 na c2, v3] 31)).alloc (.cells #[.int .i64 e.kind, .int .i64 e.value, .slice ak e.kids.length ck] 41)) ∧
        Mem φ' (fun b => ¬ b = cb) w W [.box cb [.int .i64 ((c : Int) + 1)], .box w.heap.size [.slice a1 nv c1, .slice a2 na c2, v3], .box (w.heap.size + 1) [.int .i64 e.kind, .int .i64 e.value, .slice ak e.kids.length ck], .dat (fun w φ => KidsV w φ (.slice ak e.kids.length ck) e.kids)] := by
      refine ⟨_, rfl, (((((Mem.start (by rw [hφ']; exact fun _ h => .inr h)).adopt (.box cb [.int .i64 c]) (fun _ ha => by cases ha) trivial hblk (fun _ ha => by cases ha) (fun g hg hn => by cases hg; exact hn rfl)).set 0 rfl 0 (.int .i64 ((c : Int) + 1))).box' _ _ (by simp)).box' _ _ (by simp)).dat (KidsV.nice _ _) (KidsV.nice _ _ _ _ _ _ ⟨by simp; omega, fun b hb hf => ⟨⟨by rw [hφ']; exact .inl hf, fun r hr he => ?_⟩, ?_⟩⟩ hk)⟩
      · simp at hr
        rcases hr with rfl | rfl | rfl
        · cases he; exact hcb hf
        · cases he; omega
        · cases he; omega
      · have hbc : b ≠ cb := fun he => hcb (he ▸ hf)
        exact (((Below.refl w.heap.size (w.setCell ⟨cb, 0, none⟩ (.int .i64 ((c : Int) + 1)))).alloc (by simp) _ |>.alloc (by simp) _).block b (by simpa using hb)).trans (Below.heap_setCell _ _ _ _ hbc)
    clear hk hblk hφ'
    have y0 := M.c 0 0 rfl rfl
    have y1 := M.c 2 0 rfl rfl
    have y2 := M.c 2 2 rfl rfl
    have z0 := fun X => ext_cell y0 X
    have z1 := fun X => ext_cell y1 X
    have z2 := fun X => ext_cell y2 X
    have HA : Hid (∀ X, Calls Try.prog 192 #[.int .i64 e.kind] (W.ext X) fun x w'' => x = .returned (.int .i64 (arity e.kind)) ∧ ∃ Y, w'' = W.ext Y) := fun X =>
      Calls.ext_of' ((impl_operands e.kind _).mono fun x w' h => ⟨h.1, h.2 ▸ Below.refl _ _⟩)
    clear y0 y1 y2
    have p2 : decide ((5 : Int) < deep) = false := decide_eq_false (by omega)
    by_cases q1 : (15 : Int) < (c : Int) + 1
    · have p1 : decide ((15 : Int) < (c : Int) + 1) = true := decide_eq_true q1
      have HF : Hid (scanB nv na (d + 1) c e = false) := by unfold Hid scanB; rw [decide_eq_false (by omega), Bool.and_false]
      clear q1
      go_enter Try.func163, Try.ntmps163
      go_wp2_with fail
      rw [← hW]
      clear hW
      refine wp_region_ext (by kernel_rfl) (by kernel_rfl) ?_
      repeat (any_goals (first | go_big_quiet_step (((go_at_call 192; exact HA.out _))) | quiet_step (((go_at_call 192; exact HA.out _)))))
      refine wpQuiet_nil ?_
      rintro _ ⟨X, rfl⟩
      replace M := M.call (ext_below W X)
      go_wp2_with fail
      go_ret
      exact ⟨ret_bool (by rw [HF.out]), fun h => absurd (h.symm.trans HF.out) (by simp), ⟨_, M.blk 0 rfl⟩, M.kept⟩
    have p1 : decide ((15 : Int) < (c : Int) + 1) = false := decide_eq_false q1
    by_cases q3 : (e.kids.length : Int) = arity e.kind
    case neg =>
      have p3 : (arity e.kind != (e.kids.length : Int)) = true := by simp; omega
      have HF : Hid (scanB nv na (d + 1) c e = false) := scanB_noNode (by unfold nodeB; rw [decide_eq_false q3]; rfl)
      clear q1 q3
      go_enter Try.func163, Try.ntmps163
      go_wp2_with fail
      rw [← hW]
      clear hW
      refine wp_region_ext (by kernel_rfl) (by kernel_rfl) ?_
      repeat (any_goals (first | go_big_quiet_step (((go_at_call 192; exact HA.out _))) | quiet_step (((go_at_call 192; exact HA.out _)))))
      refine wpQuiet_nil ?_
      rintro _ ⟨X, rfl⟩
      replace M := M.call (ext_below W X)
      go_wp2_with fail
      go_ret
      exact ⟨ret_bool (by rw [HF.out]), fun h => absurd (h.symm.trans HF.out) (by simp), ⟨_, M.blk 0 rfl⟩, M.kept⟩
    have p3 : (arity e.kind != (e.kids.length : Int)) = false := by simp; omega
    have HQ := show Hid _ from And.intro q1 q3
    clear q1 q3
    go_enter Try.func163, Try.ntmps163
    go_wp2_with fail
    rw [← hW]
    clear hW
    refine wp_region_ext (by kernel_rfl) (by kernel_rfl) ?_
    repeat (any_goals (first | go_big_quiet_step (((go_at_call 192; exact HA.out _))) | quiet_step (((go_at_call 192; exact HA.out _)))))
    refine wpQuiet_nil ?_
    rintro _ ⟨X, rfl⟩
    replace M := M.call (ext_below W X)
    generalize W.ext X = W1 at *
    clear z0 z1 z2 HA p1 p2 p3 f0 x0
    have y0 := M.c 1 0 rfl rfl
    have y1 := M.c 1 1 rfl rfl
    have y2 := M.c 2 0 rfl rfl
    have y3 := M.c 2 1 rfl rfl
    have y4 := M.c 2 2 rfl rfl
    have HM := show Hid _ from M
    clear M
    -- KINDS
    by_cases k1 : e.kind = 1
    · have qq1 : (e.kind == 1) = true := by simp [k1]
      have qq2 : (e.kind == 3) = false := by simp [k1]
      have HRD : Hid (readB e = true) := by unfold Hid readB; simp [k1]
      have hhi : (255 : Int) = limit nv na e.kind - 1 := by rw [k1]; simp [limit]
      clear k1
      have HNB := show Hid (nodeB nv na e = (decide (0 ≤ e.value) && decide (e.value ≤ 255))) from by
        unfold Hid nodeB; rw [decide_eq_true HQ.out.2, limit_high hhi]; rfl
      clear hhi
      go_wp2_with fail
      refine (impl_within e.value 0 _ _).mono ?_
      rintro x w1 ⟨rfl, rfl⟩
      have HNB2 := show Hid (nodeB nv na e = (decide (0 ≤ e.value) && decide (e.value ≤ 255))) from HNB.out
      clear HNB
      obtain ⟨qn, hqn⟩ : ∃ qn, qn = (decide (0 ≤ e.value) && decide (e.value ≤ 255)) := ⟨_, rfl⟩
      rw [← hqn]
      have HN := show Hid (nodeB nv na e = qn) from HNB2.out.trans hqn.symm
      clear hqn HNB2
      cases qn
      · have HF : Hid (scanB nv na (d + 1) c e = false) := scanB_noNode HN.out
        have M := HM.out
        clear HM
        go_wp2_with fail
        go_ret
        exact ⟨ret_bool (by rw [HF.out]), fun h => absurd (h.symm.trans HF.out) (by simp), ⟨_, M.blk 0 rfl⟩, M.kept⟩
      have HSC : Hid (scanB nv na (d + 1) c e = scanPre nv na d (c + 1) e.kids e.kids.length) := scanB_node HN.out HRD.out
      go_wp2_with fail
      clear y0 y1 y2 y3 y4
      have HST : Hid (scanPre nv na d (c + 1) e.kids 0 = true ∧ Mem φ' (fun b => ¬ b = cb) w W1 [.box cb [.int .i64 (c + 1 + szEs (e.kids.take 0) : Nat)], .box w.heap.size [.slice a1 nv c1, .slice a2 na c2, v3], .box (w.heap.size + 1) [.int .i64 e.kind, .int .i64 e.value, .slice ak e.kids.length ck], .dat (fun w φ => KidsV w φ (.slice ak e.kids.length ck) e.kids)]) := by
        refine ⟨?_, ?_⟩
        · have := HQ.out.1
          simp [scanPre, szEs]; omega
        · rw [show ((c + 1 + szEs (e.kids.take 0) : Nat) : Int) = (c : Int) + 1 by simp [szEs]]
          exact HM.out
      go_loopw [71] (fun i wr => ∃ k : Nat, k ≤ e.kids.length ∧ i = .int .i64 k ∧ scanPre nv na d (c + 1) e.kids k = true ∧ Mem φ' (fun b => ¬ b = cb) w wr [.box cb [.int .i64 (c + 1 + szEs (e.kids.take k) : Nat)], .box w.heap.size [.slice a1 nv c1, .slice a2 na c2, v3], .box (w.heap.size + 1) [.int .i64 e.kind, .int .i64 e.value, .slice ak e.kids.length ck], .dat (fun w φ => KidsV w φ (.slice ak e.kids.length ck) e.kids)]) (fun i _ => e.kids.length - (intOf i).toNat)
      case atStart => exact ⟨0, Nat.zero_le _, rfl, HST.out.1, HST.out.2⟩
      case round =>
        clear HM
        obtain ⟨k, hk, rfl, hpre, M⟩ := hrel
        have HPRE := show Hid _ from hpre
        have hle : c + 1 + szEs (e.kids.take k) ≤ 15 := by unfold scanPre at hpre; simp at hpre; exact hpre.2
        clear hpre
        by_cases hlt : k < e.kids.length
        · have hncb : ¬ Fr φ' [.box cb [.int .i64 (c + 1 + szEs (e.kids.take k) : Nat)], .box w.heap.size [.slice a1 nv c1, .slice a2 na c2, v3], .box (w.heap.size + 1) [.int .i64 e.kind, .int .i64 e.value, .slice ak e.kids.length ck], .dat (fun w φ => KidsV w φ (.slice ak e.kids.length ck) e.kids)] cb := fun h => h.2 _ List.mem_cons_self rfl
          obtain ⟨a', c', he, -, -, -, hcell⟩ := (M.d 3 rfl).open
          cases he
          obtain ⟨b, off, kv, hbo, hbk, hf, g0, g1, g2, hkk⟩ := hcell k hlt
          cases hbo
          obtain ⟨ka, kc, rfl, -, -, -, -⟩ := hkk.open
          have bz : Below wr.heap.size wr (wr.alloc (.cells #[.int .i64 e.kids[k].kind, .int .i64 e.kids[k].value, .slice ka e.kids[k].kids.length kc] 41)) := by go_grown
          have HE := show Hid _ from KidsV.nice _ _ _ _ _ _ (Agr.below bz) hkk
          have HNCB := show Hid _ from hncb
          have x0 := M.c 1 0 rfl rfl
          have x1 := M.c 1 1 rfl rfl
          have x2 := M.c 1 2 rfl rfl
          have s1 : w.heap.size < wr.heap.size := M.lt (r := .box w.heap.size [.slice a1 nv c1, .slice a2 na c2, v3]) (List.mem_cons_of_mem _ List.mem_cons_self) rfl
          have HM := show Hid _ from M.box [.int .i64 e.kids[k].kind, .int .i64 e.kids[k].value, .slice ka e.kids[k].kids.length kc] 41
          have HP := show Hid _ from scanPre_succ nv na (d := d) (c := c + 1) hlt
          have HX := show Hid (scanB nv na d (c + 1 + szEs (e.kids.take k)) e.kids[k] = false → scanB nv na (d + 1) c e = false) from fun h => HSC.out.trans (scanPre_end hlt h)
          have HT := show Hid _ from szEs_take1 hlt
          clear hcell hncb bz hkk M
          go_wp2_with fail
          refine (ih (deep + 1) (by omega) (by omega) e.kids[k] _ _ (c + 1 + szEs (e.kids.take k)) cb _ ⟨_, rfl, HE.out⟩ HNCB.out (HM.out.blk 0 rfl) hle).mono ?_
          rintro x w2 ⟨rfl, r1, ⟨u, r2⟩, kp⟩
          obtain ⟨q, hq⟩ : ∃ q, q = scanB nv na d (c + 1 + szEs (e.kids.take k)) e.kids[k] := ⟨_, rfl⟩
          rw [← hq] at r1 ⊢
          have HQ2 := show Hid _ from hq
          clear hq x0 x1 x2 g0 g1 g2
          cases q
          · have M2 := HM.out.callB 0 rfl kp r2
            have HF := show Hid _ from HX.out HQ2.out.symm
            clear r1 r2 kp
            go_wp2_with fail
            go_ret
            exact ⟨ret_bool (by rw [HF.out]), fun h => absurd (h.symm.trans HF.out) (by simp), ⟨_, M2.blk 0 rfl⟩, M2.kept⟩
          · have M2 := (HM.out.callB 0 rfl kp (r1 rfl)).take 4
            have HM2 := show Hid _ from M2
            clear r1 r2 kp M2
            go_wp2_with fail
            refine ⟨⟨k + 1, by omega, by go_num, by rw [HP.out, HPRE.out, ← HQ2.out]; rfl, ?_⟩, by simp [intOf]; omega⟩
            rw [HT.out, show c + 1 + (szEs (e.kids.take k) + (1 + szE e.kids[k])) = c + 1 + szEs (e.kids.take k) + 1 + szE e.kids[k] by omega]
            exact HM2.out
        · have hkn : k = e.kids.length := by omega
          subst hkn
          have HM := show Hid _ from M
          have HS : Hid (scanB nv na (d + 1) c e = true) := HSC.out.trans HPRE.out
          clear M
          go_wp2_with fail
          go_ret
          refine ⟨ret_bool (by rw [HS.out]), fun _ => ?_, ⟨_, HM.out.blk 0 rfl⟩, HM.out.kept⟩
          have := HM.out.blk 0 rfl
          rw [List.take_of_length_le (Nat.le_refl _)] at this
          rw [szE_kids]
          exact this
    have k1' : (e.kind == 1) = false := by simp [k1]
    by_cases k2 : e.kind = 2
    · have qq1 : (e.kind == 2) = true := by simp [k2]
      have qq2 : (e.kind == 3) = false := by simp [k2]
      have HRD : Hid (readB e = true) := by unfold Hid readB; simp [k2]
      have hhi : (nv : Int) - 1 = limit nv na e.kind - 1 := by rw [k2]; simp [limit]
      clear k1 k2
      have HNB := show Hid (nodeB nv na e = (decide (0 ≤ e.value) && decide (e.value ≤ (nv : Int) - 1))) from by
        unfold Hid nodeB; rw [decide_eq_true HQ.out.2, limit_high hhi]; rfl
      clear hhi
      go_wp2_with fail
      refine (impl_within e.value 0 _ _).mono ?_
      rintro x w1 ⟨rfl, rfl⟩
      have HNB2 := show Hid (nodeB nv na e = (decide (0 ≤ e.value) && decide (e.value ≤ (nv : Int) - 1))) from HNB.out
      clear HNB
      obtain ⟨qn, hqn⟩ : ∃ qn, qn = (decide (0 ≤ e.value) && decide (e.value ≤ (nv : Int) - 1)) := ⟨_, rfl⟩
      rw [← hqn]
      have HN := show Hid (nodeB nv na e = qn) from HNB2.out.trans hqn.symm
      clear hqn HNB2
      cases qn
      · have HF : Hid (scanB nv na (d + 1) c e = false) := scanB_noNode HN.out
        have M := HM.out
        clear HM
        go_wp2_with fail
        go_ret
        exact ⟨ret_bool (by rw [HF.out]), fun h => absurd (h.symm.trans HF.out) (by simp), ⟨_, M.blk 0 rfl⟩, M.kept⟩
      have HSC : Hid (scanB nv na (d + 1) c e = scanPre nv na d (c + 1) e.kids e.kids.length) := scanB_node HN.out HRD.out
      go_wp2_with fail
      clear y0 y1 y2 y3 y4
      have HST : Hid (scanPre nv na d (c + 1) e.kids 0 = true ∧ Mem φ' (fun b => ¬ b = cb) w W1 [.box cb [.int .i64 (c + 1 + szEs (e.kids.take 0) : Nat)], .box w.heap.size [.slice a1 nv c1, .slice a2 na c2, v3], .box (w.heap.size + 1) [.int .i64 e.kind, .int .i64 e.value, .slice ak e.kids.length ck], .dat (fun w φ => KidsV w φ (.slice ak e.kids.length ck) e.kids)]) := by
        refine ⟨?_, ?_⟩
        · have := HQ.out.1
          simp [scanPre, szEs]; omega
        · rw [show ((c + 1 + szEs (e.kids.take 0) : Nat) : Int) = (c : Int) + 1 by simp [szEs]]
          exact HM.out
      go_loopw [71] (fun i wr => ∃ k : Nat, k ≤ e.kids.length ∧ i = .int .i64 k ∧ scanPre nv na d (c + 1) e.kids k = true ∧ Mem φ' (fun b => ¬ b = cb) w wr [.box cb [.int .i64 (c + 1 + szEs (e.kids.take k) : Nat)], .box w.heap.size [.slice a1 nv c1, .slice a2 na c2, v3], .box (w.heap.size + 1) [.int .i64 e.kind, .int .i64 e.value, .slice ak e.kids.length ck], .dat (fun w φ => KidsV w φ (.slice ak e.kids.length ck) e.kids)]) (fun i _ => e.kids.length - (intOf i).toNat)
      case atStart => exact ⟨0, Nat.zero_le _, rfl, HST.out.1, HST.out.2⟩
      case round =>
        clear HM
        obtain ⟨k, hk, rfl, hpre, M⟩ := hrel
        have HPRE := show Hid _ from hpre
        have hle : c + 1 + szEs (e.kids.take k) ≤ 15 := by unfold scanPre at hpre; simp at hpre; exact hpre.2
        clear hpre
        by_cases hlt : k < e.kids.length
        · have hncb : ¬ Fr φ' [.box cb [.int .i64 (c + 1 + szEs (e.kids.take k) : Nat)], .box w.heap.size [.slice a1 nv c1, .slice a2 na c2, v3], .box (w.heap.size + 1) [.int .i64 e.kind, .int .i64 e.value, .slice ak e.kids.length ck], .dat (fun w φ => KidsV w φ (.slice ak e.kids.length ck) e.kids)] cb := fun h => h.2 _ List.mem_cons_self rfl
          obtain ⟨a', c', he, -, -, -, hcell⟩ := (M.d 3 rfl).open
          cases he
          obtain ⟨b, off, kv, hbo, hbk, hf, g0, g1, g2, hkk⟩ := hcell k hlt
          cases hbo
          obtain ⟨ka, kc, rfl, -, -, -, -⟩ := hkk.open
          have bz : Below wr.heap.size wr (wr.alloc (.cells #[.int .i64 e.kids[k].kind, .int .i64 e.kids[k].value, .slice ka e.kids[k].kids.length kc] 41)) := by go_grown
          have HE := show Hid _ from KidsV.nice _ _ _ _ _ _ (Agr.below bz) hkk
          have HNCB := show Hid _ from hncb
          have x0 := M.c 1 0 rfl rfl
          have x1 := M.c 1 1 rfl rfl
          have x2 := M.c 1 2 rfl rfl
          have s1 : w.heap.size < wr.heap.size := M.lt (r := .box w.heap.size [.slice a1 nv c1, .slice a2 na c2, v3]) (List.mem_cons_of_mem _ List.mem_cons_self) rfl
          have HM := show Hid _ from M.box [.int .i64 e.kids[k].kind, .int .i64 e.kids[k].value, .slice ka e.kids[k].kids.length kc] 41
          have HP := show Hid _ from scanPre_succ nv na (d := d) (c := c + 1) hlt
          have HX := show Hid (scanB nv na d (c + 1 + szEs (e.kids.take k)) e.kids[k] = false → scanB nv na (d + 1) c e = false) from fun h => HSC.out.trans (scanPre_end hlt h)
          have HT := show Hid _ from szEs_take1 hlt
          clear hcell hncb bz hkk M
          go_wp2_with fail
          refine (ih (deep + 1) (by omega) (by omega) e.kids[k] _ _ (c + 1 + szEs (e.kids.take k)) cb _ ⟨_, rfl, HE.out⟩ HNCB.out (HM.out.blk 0 rfl) hle).mono ?_
          rintro x w2 ⟨rfl, r1, ⟨u, r2⟩, kp⟩
          obtain ⟨q, hq⟩ : ∃ q, q = scanB nv na d (c + 1 + szEs (e.kids.take k)) e.kids[k] := ⟨_, rfl⟩
          rw [← hq] at r1 ⊢
          have HQ2 := show Hid _ from hq
          clear hq x0 x1 x2 g0 g1 g2
          cases q
          · have M2 := HM.out.callB 0 rfl kp r2
            have HF := show Hid _ from HX.out HQ2.out.symm
            clear r1 r2 kp
            go_wp2_with fail
            go_ret
            exact ⟨ret_bool (by rw [HF.out]), fun h => absurd (h.symm.trans HF.out) (by simp), ⟨_, M2.blk 0 rfl⟩, M2.kept⟩
          · have M2 := (HM.out.callB 0 rfl kp (r1 rfl)).take 4
            have HM2 := show Hid _ from M2
            clear r1 r2 kp M2
            go_wp2_with fail
            refine ⟨⟨k + 1, by omega, by go_num, by rw [HP.out, HPRE.out, ← HQ2.out]; rfl, ?_⟩, by simp [intOf]; omega⟩
            rw [HT.out, show c + 1 + (szEs (e.kids.take k) + (1 + szE e.kids[k])) = c + 1 + szEs (e.kids.take k) + 1 + szE e.kids[k] by omega]
            exact HM2.out
        · have hkn : k = e.kids.length := by omega
          subst hkn
          have HM := show Hid _ from M
          have HS : Hid (scanB nv na (d + 1) c e = true) := HSC.out.trans HPRE.out
          clear M
          go_wp2_with fail
          go_ret
          refine ⟨ret_bool (by rw [HS.out]), fun _ => ?_, ⟨_, HM.out.blk 0 rfl⟩, HM.out.kept⟩
          have := HM.out.blk 0 rfl
          rw [List.take_of_length_le (Nat.le_refl _)] at this
          rw [szE_kids]
          exact this
    have k2' : (e.kind == 2) = false := by simp [k2]
    by_cases k3 : e.kind = 3
    · have qq1 : (e.kind == 3) = true := by simp [k3]
      have qq2 := k2'
      have HRD : Hid (e.kind = 3) := k3
      have hhi : (na : Int) - 1 = limit nv na e.kind - 1 := by rw [k3]; simp [limit]
      clear k1 k2 k3
      have HNB := show Hid (nodeB nv na e = (decide (0 ≤ e.value) && decide (e.value ≤ (na : Int) - 1))) from by
        unfold Hid nodeB; rw [decide_eq_true HQ.out.2, limit_high hhi]; rfl
      clear hhi
      go_wp2_with fail
      refine (impl_within e.value 0 _ _).mono ?_
      rintro x w1 ⟨rfl, rfl⟩
      have HNB2 := show Hid (nodeB nv na e = (decide (0 ≤ e.value) && decide (e.value ≤ (na : Int) - 1))) from HNB.out
      clear HNB
      obtain ⟨qn, hqn⟩ : ∃ qn, qn = (decide (0 ≤ e.value) && decide (e.value ≤ (na : Int) - 1)) := ⟨_, rfl⟩
      rw [← hqn]
      have HN := show Hid (nodeB nv na e = qn) from HNB2.out.trans hqn.symm
      clear hqn HNB2
      cases qn
      · have HF : Hid (scanB nv na (d + 1) c e = false) := scanB_noNode HN.out
        have M := HM.out
        clear HM
        go_wp2_with fail
        go_ret
        exact ⟨ret_bool (by rw [HF.out]), fun h => absurd (h.symm.trans HF.out) (by simp), ⟨_, M.blk 0 rfl⟩, M.kept⟩
      have hl1 : e.kids.length = 1 := by have := HQ.out.2; rw [HRD.out] at this; simp [arity] at this; omega
      have hpos : 0 < (e.kids.length : Int) := by omega
      obtain ⟨a', c', he, -, -, -, hcell⟩ := (HM.out.d 3 rfl).open
      have e1 : ak = a' := by cases he; rfl
      have e2 : ck = c' := by cases he; rfl
      subst e1 e2
      obtain ⟨b, off, kv, rfl, hbk, hf, g0, g1, g2, hkk⟩ := hcell 0 (by omega)
      simp only [Nat.zero_mul, Nat.add_zero] at g0 g1 g2
      have HR := show Hid _ from readB_get HRD.out (by omega)
      clear hcell hkk
      go_wp2_with fail
      refine (impl_isPlain _ _ _ _).mono ?_
      rintro x w2 ⟨rfl, b2⟩
      replace HM := show Hid _ from HM.out.call b2
      obtain ⟨qr, hqr⟩ : ∃ qr, qr = (decide ((e.kids[0]'(by omega)).kind = 1) || decide ((e.kids[0]'(by omega)).kind = 2)) := ⟨_, rfl⟩
      rw [← hqr]
      have HRR := show Hid (readB e = qr) from HR.out.trans hqr.symm
      clear hqr b2 HR g0 g1 g2
      cases qr
      · have HF : Hid (scanB nv na (d + 1) c e = false) := scanB_noRead HRR.out
        have M := HM.out
        clear HM
        go_wp2_with fail
        go_ret
        exact ⟨ret_bool (by rw [HF.out]), fun h => absurd (h.symm.trans HF.out) (by simp), ⟨_, M.blk 0 rfl⟩, M.kept⟩
      clear y0 y1 y2 y3 y4
      have y4 := HM.out.c 2 2 rfl rfl
      have HSC : Hid (scanB nv na (d + 1) c e = scanPre nv na d (c + 1) e.kids e.kids.length) := scanB_node HN.out HRR.out
      go_wp2_with fail
      clear y4
      have HST : Hid (scanPre nv na d (c + 1) e.kids 0 = true ∧ Mem φ' (fun b => ¬ b = cb) w w2 [.box cb [.int .i64 (c + 1 + szEs (e.kids.take 0) : Nat)], .box w.heap.size [.slice a1 nv c1, .slice a2 na c2, v3], .box (w.heap.size + 1) [.int .i64 e.kind, .int .i64 e.value, .slice (some ⟨b, off, none⟩) e.kids.length ck], .dat (fun w φ => KidsV w φ (.slice (some ⟨b, off, none⟩) e.kids.length ck) e.kids)]) := by
        refine ⟨?_, ?_⟩
        · have := HQ.out.1
          simp [scanPre, szEs]; omega
        · rw [show ((c + 1 + szEs (e.kids.take 0) : Nat) : Int) = (c : Int) + 1 by simp [szEs]]
          exact HM.out
      go_loopw [71] (fun i wr => ∃ k : Nat, k ≤ e.kids.length ∧ i = .int .i64 k ∧ scanPre nv na d (c + 1) e.kids k = true ∧ Mem φ' (fun b => ¬ b = cb) w wr [.box cb [.int .i64 (c + 1 + szEs (e.kids.take k) : Nat)], .box w.heap.size [.slice a1 nv c1, .slice a2 na c2, v3], .box (w.heap.size + 1) [.int .i64 e.kind, .int .i64 e.value, .slice (some ⟨b, off, none⟩) e.kids.length ck], .dat (fun w φ => KidsV w φ (.slice (some ⟨b, off, none⟩) e.kids.length ck) e.kids)]) (fun i _ => e.kids.length - (intOf i).toNat)
      case atStart => exact ⟨0, Nat.zero_le _, rfl, HST.out.1, HST.out.2⟩
      case round =>
        clear HM
        obtain ⟨k, hk, rfl, hpre, M⟩ := hrel
        have HPRE := show Hid _ from hpre
        have hle : c + 1 + szEs (e.kids.take k) ≤ 15 := by unfold scanPre at hpre; simp at hpre; exact hpre.2
        clear hpre
        by_cases hlt : k < e.kids.length
        · have hncb : ¬ Fr φ' [.box cb [.int .i64 (c + 1 + szEs (e.kids.take k) : Nat)], .box w.heap.size [.slice a1 nv c1, .slice a2 na c2, v3], .box (w.heap.size + 1) [.int .i64 e.kind, .int .i64 e.value, .slice (some ⟨b, off, none⟩) e.kids.length ck], .dat (fun w φ => KidsV w φ (.slice (some ⟨b, off, none⟩) e.kids.length ck) e.kids)] cb := fun h => h.2 _ List.mem_cons_self rfl
          obtain ⟨a', c', he, -, -, -, hcell⟩ := (M.d 3 rfl).open
          cases he
          obtain ⟨b, off, kv, hbo, hbk, hf, g0, g1, g2, hkk⟩ := hcell k hlt
          cases hbo
          obtain ⟨ka, kc, rfl, -, -, -, -⟩ := hkk.open
          have bz : Below wr.heap.size wr (wr.alloc (.cells #[.int .i64 e.kids[k].kind, .int .i64 e.kids[k].value, .slice ka e.kids[k].kids.length kc] 41)) := by go_grown
          have HE := show Hid _ from KidsV.nice _ _ _ _ _ _ (Agr.below bz) hkk
          have HNCB := show Hid _ from hncb
          have x0 := M.c 1 0 rfl rfl
          have x1 := M.c 1 1 rfl rfl
          have x2 := M.c 1 2 rfl rfl
          have s1 : w.heap.size < wr.heap.size := M.lt (r := .box w.heap.size [.slice a1 nv c1, .slice a2 na c2, v3]) (List.mem_cons_of_mem _ List.mem_cons_self) rfl
          have HM := show Hid _ from M.box [.int .i64 e.kids[k].kind, .int .i64 e.kids[k].value, .slice ka e.kids[k].kids.length kc] 41
          have HP := show Hid _ from scanPre_succ nv na (d := d) (c := c + 1) hlt
          have HX := show Hid (scanB nv na d (c + 1 + szEs (e.kids.take k)) e.kids[k] = false → scanB nv na (d + 1) c e = false) from fun h => HSC.out.trans (scanPre_end hlt h)
          have HT := show Hid _ from szEs_take1 hlt
          clear hcell hncb bz hkk M
          go_wp2_with fail
          refine (ih (deep + 1) (by omega) (by omega) e.kids[k] _ _ (c + 1 + szEs (e.kids.take k)) cb _ ⟨_, rfl, HE.out⟩ HNCB.out (HM.out.blk 0 rfl) hle).mono ?_
          rintro x w2 ⟨rfl, r1, ⟨u, r2⟩, kp⟩
          obtain ⟨q, hq⟩ : ∃ q, q = scanB nv na d (c + 1 + szEs (e.kids.take k)) e.kids[k] := ⟨_, rfl⟩
          rw [← hq] at r1 ⊢
          have HQ2 := show Hid _ from hq
          clear hq x0 x1 x2 g0 g1 g2
          cases q
          · have M2 := HM.out.callB 0 rfl kp r2
            have HF := show Hid _ from HX.out HQ2.out.symm
            clear r1 r2 kp
            go_wp2_with fail
            go_ret
            exact ⟨ret_bool (by rw [HF.out]), fun h => absurd (h.symm.trans HF.out) (by simp), ⟨_, M2.blk 0 rfl⟩, M2.kept⟩
          · have M2 := (HM.out.callB 0 rfl kp (r1 rfl)).take 4
            have HM2 := show Hid _ from M2
            clear r1 r2 kp M2
            go_wp2_with fail
            refine ⟨⟨k + 1, by omega, by go_num, by rw [HP.out, HPRE.out, ← HQ2.out]; rfl, ?_⟩, by simp [intOf]; omega⟩
            rw [HT.out, show c + 1 + (szEs (e.kids.take k) + (1 + szE e.kids[k])) = c + 1 + szEs (e.kids.take k) + 1 + szE e.kids[k] by omega]
            exact HM2.out
        · have hkn : k = e.kids.length := by omega
          subst hkn
          have HM := show Hid _ from M
          have HS : Hid (scanB nv na (d + 1) c e = true) := HSC.out.trans HPRE.out
          clear M
          go_wp2_with fail
          go_ret
          refine ⟨ret_bool (by rw [HS.out]), fun _ => ?_, ⟨_, HM.out.blk 0 rfl⟩, HM.out.kept⟩
          have := HM.out.blk 0 rfl
          rw [List.take_of_length_le (Nat.le_refl _)] at this
          rw [szE_kids]
          exact this
    have qq1 : (e.kind == 3) = false := by simp [k3]
    have qq2 := qq1
    have HRD : Hid (readB e = true) := by unfold Hid readB; simp [k3]
    have hhi : (0 : Int) = limit nv na e.kind - 1 := by unfold limit; rw [if_neg k1, if_neg k2, if_neg k3]; rfl
    clear k1 k2 k3
    have HNB := show Hid (nodeB nv na e = (decide (0 ≤ e.value) && decide (e.value ≤ 0))) from by
      unfold Hid nodeB; rw [decide_eq_true HQ.out.2, limit_high hhi]; rfl
    clear hhi
    go_wp2_with fail
    refine (impl_within e.value 0 _ _).mono ?_
    rintro x w1 ⟨rfl, rfl⟩
    have HNB2 := show Hid (nodeB nv na e = (decide (0 ≤ e.value) && decide (e.value ≤ 0))) from HNB.out
    clear HNB
    obtain ⟨qn, hqn⟩ : ∃ qn, qn = (decide (0 ≤ e.value) && decide (e.value ≤ 0)) := ⟨_, rfl⟩
    rw [← hqn]
    have HN := show Hid (nodeB nv na e = qn) from HNB2.out.trans hqn.symm
    clear hqn HNB2
    cases qn
    · have HF : Hid (scanB nv na (d + 1) c e = false) := scanB_noNode HN.out
      have M := HM.out
      clear HM
      go_wp2_with fail
      go_ret
      exact ⟨ret_bool (by rw [HF.out]), fun h => absurd (h.symm.trans HF.out) (by simp), ⟨_, M.blk 0 rfl⟩, M.kept⟩
    have HSC : Hid (scanB nv na (d + 1) c e = scanPre nv na d (c + 1) e.kids e.kids.length) := scanB_node HN.out HRD.out
    go_wp2_with fail
    clear y0 y1 y2 y3 y4
    have HST : Hid (scanPre nv na d (c + 1) e.kids 0 = true ∧ Mem φ' (fun b => ¬ b = cb) w W1 [.box cb [.int .i64 (c + 1 + szEs (e.kids.take 0) : Nat)], .box w.heap.size [.slice a1 nv c1, .slice a2 na c2, v3], .box (w.heap.size + 1) [.int .i64 e.kind, .int .i64 e.value, .slice ak e.kids.length ck], .dat (fun w φ => KidsV w φ (.slice ak e.kids.length ck) e.kids)]) := by
      refine ⟨?_, ?_⟩
      · have := HQ.out.1
        simp [scanPre, szEs]; omega
      · rw [show ((c + 1 + szEs (e.kids.take 0) : Nat) : Int) = (c : Int) + 1 by simp [szEs]]
        exact HM.out
    go_loopw [71] (fun i wr => ∃ k : Nat, k ≤ e.kids.length ∧ i = .int .i64 k ∧ scanPre nv na d (c + 1) e.kids k = true ∧ Mem φ' (fun b => ¬ b = cb) w wr [.box cb [.int .i64 (c + 1 + szEs (e.kids.take k) : Nat)], .box w.heap.size [.slice a1 nv c1, .slice a2 na c2, v3], .box (w.heap.size + 1) [.int .i64 e.kind, .int .i64 e.value, .slice ak e.kids.length ck], .dat (fun w φ => KidsV w φ (.slice ak e.kids.length ck) e.kids)]) (fun i _ => e.kids.length - (intOf i).toNat)
    case atStart => exact ⟨0, Nat.zero_le _, rfl, HST.out.1, HST.out.2⟩
    case round =>
      clear HM
      obtain ⟨k, hk, rfl, hpre, M⟩ := hrel
      have HPRE := show Hid _ from hpre
      have hle : c + 1 + szEs (e.kids.take k) ≤ 15 := by unfold scanPre at hpre; simp at hpre; exact hpre.2
      clear hpre
      by_cases hlt : k < e.kids.length
      · have hncb : ¬ Fr φ' [.box cb [.int .i64 (c + 1 + szEs (e.kids.take k) : Nat)], .box w.heap.size [.slice a1 nv c1, .slice a2 na c2, v3], .box (w.heap.size + 1) [.int .i64 e.kind, .int .i64 e.value, .slice ak e.kids.length ck], .dat (fun w φ => KidsV w φ (.slice ak e.kids.length ck) e.kids)] cb := fun h => h.2 _ List.mem_cons_self rfl
        obtain ⟨a', c', he, -, -, -, hcell⟩ := (M.d 3 rfl).open
        cases he
        obtain ⟨b, off, kv, hbo, hbk, hf, g0, g1, g2, hkk⟩ := hcell k hlt
        cases hbo
        obtain ⟨ka, kc, rfl, -, -, -, -⟩ := hkk.open
        have bz : Below wr.heap.size wr (wr.alloc (.cells #[.int .i64 e.kids[k].kind, .int .i64 e.kids[k].value, .slice ka e.kids[k].kids.length kc] 41)) := by go_grown
        have HE := show Hid _ from KidsV.nice _ _ _ _ _ _ (Agr.below bz) hkk
        have HNCB := show Hid _ from hncb
        have x0 := M.c 1 0 rfl rfl
        have x1 := M.c 1 1 rfl rfl
        have x2 := M.c 1 2 rfl rfl
        have s1 : w.heap.size < wr.heap.size := M.lt (r := .box w.heap.size [.slice a1 nv c1, .slice a2 na c2, v3]) (List.mem_cons_of_mem _ List.mem_cons_self) rfl
        have HM := show Hid _ from M.box [.int .i64 e.kids[k].kind, .int .i64 e.kids[k].value, .slice ka e.kids[k].kids.length kc] 41
        have HP := show Hid _ from scanPre_succ nv na (d := d) (c := c + 1) hlt
        have HX := show Hid (scanB nv na d (c + 1 + szEs (e.kids.take k)) e.kids[k] = false → scanB nv na (d + 1) c e = false) from fun h => HSC.out.trans (scanPre_end hlt h)
        have HT := show Hid _ from szEs_take1 hlt
        clear hcell hncb bz hkk M
        go_wp2_with fail
        refine (ih (deep + 1) (by omega) (by omega) e.kids[k] _ _ (c + 1 + szEs (e.kids.take k)) cb _ ⟨_, rfl, HE.out⟩ HNCB.out (HM.out.blk 0 rfl) hle).mono ?_
        rintro x w2 ⟨rfl, r1, ⟨u, r2⟩, kp⟩
        obtain ⟨q, hq⟩ : ∃ q, q = scanB nv na d (c + 1 + szEs (e.kids.take k)) e.kids[k] := ⟨_, rfl⟩
        rw [← hq] at r1 ⊢
        have HQ2 := show Hid _ from hq
        clear hq x0 x1 x2 g0 g1 g2
        cases q
        · have M2 := HM.out.callB 0 rfl kp r2
          have HF := show Hid _ from HX.out HQ2.out.symm
          clear r1 r2 kp
          go_wp2_with fail
          go_ret
          exact ⟨ret_bool (by rw [HF.out]), fun h => absurd (h.symm.trans HF.out) (by simp), ⟨_, M2.blk 0 rfl⟩, M2.kept⟩
        · have M2 := (HM.out.callB 0 rfl kp (r1 rfl)).take 4
          have HM2 := show Hid _ from M2
          clear r1 r2 kp M2
          go_wp2_with fail
          refine ⟨⟨k + 1, by omega, by go_num, by rw [HP.out, HPRE.out, ← HQ2.out]; rfl, ?_⟩, by simp [intOf]; omega⟩
          rw [HT.out, show c + 1 + (szEs (e.kids.take k) + (1 + szE e.kids[k])) = c + 1 + szEs (e.kids.take k) + 1 + szE e.kids[k] by omega]
          exact HM2.out
      · have hkn : k = e.kids.length := by omega
        subst hkn
        have HM := show Hid _ from M
        have HS : Hid (scanB nv na (d + 1) c e = true) := HSC.out.trans HPRE.out
        clear M
        go_wp2_with fail
        go_ret
        refine ⟨ret_bool (by rw [HS.out]), fun _ => ?_, ⟨_, HM.out.blk 0 rfl⟩, HM.out.kept⟩
        have := HM.out.blk 0 rfl
        rw [List.take_of_length_le (Nat.le_refl _)] at this
        rw [szE_kids]
        exact this

end Go.Proofs.Ytgpkdfefgcpbiaa

namespace Go.Proofs.Ytgpkdfefgcpbiaa
set_option linter.unusedVariables false
set_option linter.unusedSimpArgs false
open Go Go.RowKit

theorem scan_right (nv na : Nat) (e : LExpr) : scanB nv na 5 0 e = rightB nv na e := by
  have h : (0 + 1 + szE e ≤ 15) = (1 + szE e ≤ 15) := by rw [Nat.zero_add]
  unfold scanB rightB
  simp only [h]

set_option maxHeartbeats 1000000 in
theorem impl_expr (a1 a2 : Option Addr) (nv c1 na c2 : Nat) (v3 : Value) (h1 : nv ≤ 9223372036854775807) (h2 : na ≤ 9223372036854775807) (e : LExpr) (φ : Nat → Prop) (v : Value) (w : World) (h : ExprV w φ v e) :
    Calls Try.prog 112 #[.agg #[.slice a1 nv c1, .slice a2 na c2, v3], v] w fun x w' => x = .returned (.bool (rightB nv na e)) ∧ Below w.heap.size w w' := by
  obtain ⟨kv, rfl, hk⟩ := h
  obtain ⟨W, hW, M⟩ : ∃ W, W = ((w.alloc (.cells #[.slice a1 nv c1, .slice a2 na c2, v3] 31)).alloc (.cells #[.int .i64 e.kind, .int .i64 e.value, kv] 41)).alloc (.cells #[.int .i64 0] 3) ∧ Mem (fun _ => True) (fun _ => True) w W [.box w.heap.size [.slice a1 nv c1, .slice a2 na c2, v3], .box (w.heap.size + 1) [.int .i64 e.kind, .int .i64 e.value, kv], .box (w.heap.size + 1 + 1) [.int .i64 0]] :=
    ⟨_, rfl, (((Mem.start fun _ _ => trivial).box _ _).box' _ _ (by simp)).box' _ _ (by simp)⟩
  have hb := M.below fun _ _ => trivial
  have HK := show Hid _ from KidsV.nice _ _ _ _ φ (fun b => φ b ∧ b < w.heap.size) ⟨hb.size, fun b hl hf => ⟨⟨hf, hl⟩, hb.block b hl⟩⟩ hk
  clear hb hk
  have x0 := M.c 0 0 rfl rfl
  have x1 := M.c 0 1 rfl rfl
  have x2 := M.c 0 2 rfl rfl
  have y0 := M.c 1 0 rfl rfl
  have y1 := M.c 1 1 rfl rfl
  have y2 := M.c 1 2 rfl rfl
  have HM := show Hid _ from M
  rw [hW] at x0 x1 x2 y0 y1 y2
  clear M
  go_enter Try.func112, Try.ntmps112
  go_wp2_with fail
  rw [← hW]
  clear hW x0 x1 x2 y0 y1 y2
  refine (impl_scan a1 a2 nv c1 na c2 v3 h1 h2 5 1 (by omega) (by omega) e _ _ 0 _ _ ⟨kv, rfl, HK.out⟩ (fun h => by have := h.2; omega) (HM.out.blk 2 rfl) (by omega)).mono ?_
  rintro x w1 ⟨rfl, -, ⟨u, r2⟩, kp⟩
  rw [scan_right]
  have M := HM.out.callB 2 rfl kp r2
  have HB := show Hid _ from M.below fun _ _ => trivial
  clear kp r2 M
  go_wp2_with fail
  go_ret
  exact ⟨rfl, HB.out⟩

set_option maxHeartbeats 1000000 in
theorem impl_ExprValid (p : LProg) (e : LExpr) (φ φ' : Nat → Prop) (u v : Value) (w : World) (hp : ProgV w φ u p) (h : ExprV w φ' v e) :
    Calls Try.prog 76 #[u, v] w fun x w' => x = .returned (.bool (exprOk p e)) ∧ Below w.heap.size w w' := by
  obtain ⟨v1, v2, v3, rfl, g1, g2, -⟩ := hp
  obtain ⟨kv, rfl, hk⟩ := h
  obtain ⟨a1, c1, rfl, -, hm1, -⟩ := g1.row.open1
  obtain ⟨a2, c2, rfl, -, hm2, -⟩ := g2.row.open1
  have HR : Hid (exprOk p e = (headsB p.vars p.arrays && rightB p.vars.length p.arrays.length e)) := rfl
  obtain ⟨W, hW, M⟩ : ∃ W, W = (w.alloc (.cells #[.slice a1 p.vars.length c1, .slice a2 p.arrays.length c2, v3] 31)).alloc (.cells #[.int .i64 e.kind, .int .i64 e.value, kv] 41) ∧ Mem (fun _ => True) (fun _ => True) w W [.box w.heap.size [.slice a1 p.vars.length c1, .slice a2 p.arrays.length c2, v3], .box (w.heap.size + 1) [.int .i64 e.kind, .int .i64 e.value, kv]] :=
    ⟨_, rfl, ((Mem.start fun _ _ => trivial).box _ _).box' _ _ (by simp)⟩
  have HE := show Hid (∀ W', Below w.heap.size w W' → ExprV W' φ' (.agg #[.int .i64 e.kind, .int .i64 e.value, kv]) e ∧ Row W' (.slice a1 p.vars.length c1) p.vars.length 1 (ints p.vars) ∧ Row W' (.slice a2 p.arrays.length c2) p.arrays.length 1 (ints p.arrays)) from fun W' k => ⟨⟨kv, rfl, KidsV.nice _ _ _ _ _ _ (Agr.below k) hk⟩, g1.row.below k, g2.row.below k⟩
  clear hk g1 g2
  have x0 := M.c 0 0 rfl rfl
  have x1 := M.c 0 1 rfl rfl
  have x2 := M.c 0 2 rfl rfl
  have y0 := M.c 1 0 rfl rfl
  have y1 := M.c 1 1 rfl rfl
  have y2 := M.c 1 2 rfl rfl
  rw [hW] at x0 x1
  go_enter Try.func76, Try.ntmps76
  go_wp2_with fail
  rw [← hW]
  clear hW x0 x1
  refine (impl_declared _ _ p.vars p.arrays _ (HE.out _ (M.below fun _ _ => trivial)).2.1 (HE.out _ (M.below fun _ _ => trivial)).2.2).mono ?_
  rintro x w1 ⟨rfl, rfl⟩
  cases hs : headsB p.vars p.arrays
  · have HB := show Hid _ from M.below fun _ _ => trivial
    have HS := show Hid _ from hs
    clear hs M
    go_wp2_with fail
    go_ret
    exact ⟨ret_bool (by rw [HR.out, HS.out]; rfl), HB.out⟩
  · have HS := show Hid _ from hs
    have x0 := M.c 0 0 rfl rfl
    have x1 := M.c 0 1 rfl rfl
    have HM := show Hid _ from M
    clear hs M
    go_wp2_with fail
    refine (impl_expr a1 a2 _ c1 _ c2 v3 hm1 hm2 e φ' _ _ (HE.out _ (HM.out.below fun _ _ => trivial)).1).mono ?_
    rintro x w2 ⟨rfl, b1⟩
    have HB := show Hid _ from (HM.out.call b1).below fun _ _ => trivial
    clear b1 x0 x1 x2 y0 y1 y2
    go_wp2_with fail
    go_ret
    exact ⟨ret_bool (by rw [HR.out, HS.out]; rfl), HB.out⟩

end Go.Proofs.Ytgpkdfefgcpbiaa

namespace Go.Proofs.Ytgpkdfefgcpbiaa
set_option linter.unusedVariables false
set_option linter.unusedSimpArgs false
open Go Go.RowKit

set_option maxHeartbeats 400000 in
theorem spec_l2None (k n : Int) (a : Option Addr) (len c : Nat) (w : World) (hl : len ≤ 9223372036854775807) : Calls Try.prog 208 #[.agg #[.int .i64 k, .int .i64 n, .slice a len c]] w fun e w' => e = .returned (.bool (decide (k = 0) && decide (n = 0) && decide (len = 0))) ∧ Below w.heap.size w w' := by
  by_cases q1 : k = 0
  case neg =>
    have p1 : (k == 0) = false := by simp [q1]
    have HQ := show Hid _ from q1
    clear q1
    go_enter Try.func208, Try.ntmps208
    go_wp2_with fail
    go_ret
    exact ⟨ret_bool (by rw [decide_eq_false HQ.out]; rfl), by go_grown⟩
  have p1 : (k == 0) = true := by simp [q1]
  have HQ := show Hid _ from q1
  clear q1
  by_cases q2 : n = 0
  case neg =>
    have p2 : (n == 0) = false := by simp [q2]
    have HQ2 := show Hid _ from q2
    clear q2
    go_enter Try.func208, Try.ntmps208
    go_wp2_with fail
    go_ret
    exact ⟨ret_bool (by rw [decide_eq_true HQ.out, decide_eq_false HQ2.out]; rfl), by go_grown⟩
  have p2 : (n == 0) = true := by simp [q2]
  have HQ2 := show Hid _ from q2
  clear q2
  by_cases q3 : len = 0
  case neg =>
    have p3 : ((len : Int) == 0) = false := by simp [q3]
    have HQ3 := show Hid _ from q3
    clear q3
    go_enter Try.func208, Try.ntmps208
    go_wp2_with fail
    go_ret
    exact ⟨ret_bool (by rw [decide_eq_true HQ.out, decide_eq_true HQ2.out, decide_eq_false HQ3.out]; rfl), by go_grown⟩
  have p3 : ((len : Int) == 0) = true := by simp [q3]
  have HQ3 := show Hid _ from q3
  clear q3
  go_enter Try.func208, Try.ntmps208
  go_wp2_with fail
  go_ret
  exact ⟨ret_bool (by rw [decide_eq_true HQ.out, decide_eq_true HQ2.out, decide_eq_true HQ3.out]; rfl), by go_grown⟩

/-- A statement's value, its slices written out. -/
theorem StmtV.form {w : World} {φ : Nat → Prop} {v : Value} {s : LStmt} (h : StmtV w φ v s) : ∃ ai ci av cv ab cb ae ce, v = .agg #[.int .i64 s.kind, .int .i64 s.target, .int .i64 s.index.kind, .int .i64 s.index.value, .slice ai s.index.kids.length ci, .int .i64 s.value.kind, .int .i64 s.value.value, .slice av s.value.kids.length cv, .int .i64 s.count, .slice ab s.body.length cb, .slice ae s.els.length ce] ∧
    (KidsV w φ (.slice ai s.index.kids.length ci) s.index.kids ∧ KidsV w φ (.slice av s.value.kids.length cv) s.value.kids ∧ BlockV w φ (.slice ab s.body.length cb) s.body ∧ BlockV w φ (.slice ae s.els.length ce) s.els) ∧
    (s.index.kids.length ≤ 9223372036854775807 ∧ s.value.kids.length ≤ 9223372036854775807 ∧ s.body.length ≤ 9223372036854775807 ∧ s.els.length ≤ 9223372036854775807) := by
  obtain ⟨iv, vv, bv, ev, rfl, h1, h2, h3, h4⟩ := h
  obtain ⟨ai, ci, rfl, -, l1, -⟩ := h1.open
  obtain ⟨av, cv, rfl, -, l2, -⟩ := h2.open
  obtain ⟨ab, cb, rfl, -, l3, -⟩ := h3.open
  obtain ⟨ae, ce, rfl, -, l4, -⟩ := h4.open
  exact ⟨ai, ci, av, cv, ab, cb, ae, ce, rfl, ⟨h1, h2, h3, h4⟩, l1, l2, l3, l4⟩

set_option maxHeartbeats 4000000 in
theorem spec_l2Parts (φ : Nat → Prop) (v : Value) (s : LStmt) (w : World) (h : StmtV w φ v s) :
    Calls Try.prog 202 #[v] w fun x w' => x = .returned (.bool (partsB s)) ∧ Below w.heap.size w w' := by
  obtain ⟨ai, ci, av, cv, ab, cb, ae, ce, rfl, -, hl⟩ := h.form
  have HL := show Hid _ from hl
  have hl3 := hl.2.2.1
  have hl4 := hl.2.2.2
  clear h hl
  have HD : Hid (partsB s = if (s.kind = 3 ∨ s.kind = 4) then decide (s.target = 0) && (if s.kind = 4 then decide (s.els.length = 0) && decide (1 ≤ s.count) && decide (s.count ≤ 3) && noneB s.index && noneB s.value else decide (s.count = 0) && noneB s.index)
      else decide (s.body.length = 0) && decide (s.els.length = 0) && decide (s.count = 0) && (decide (s.kind = 2) || noneB s.index)) := rfl
  obtain ⟨W, hW, M⟩ : ∃ W, W = w.alloc (.cells #[.int .i64 s.kind, .int .i64 s.target, .int .i64 s.index.kind, .int .i64 s.index.value, .slice ai s.index.kids.length ci, .int .i64 s.value.kind, .int .i64 s.value.value, .slice av s.value.kids.length cv, .int .i64 s.count, .slice ab s.body.length cb, .slice ae s.els.length ce] 135) ∧ Mem (fun _ => True) (fun _ => True) w W [.box w.heap.size [.int .i64 s.kind, .int .i64 s.target, .int .i64 s.index.kind, .int .i64 s.index.value, .slice ai s.index.kids.length ci, .int .i64 s.value.kind, .int .i64 s.value.value, .slice av s.value.kids.length cv, .int .i64 s.count, .slice ab s.body.length cb, .slice ae s.els.length ce]] :=
    ⟨_, rfl, (Mem.start fun _ _ => trivial).box _ _⟩
  by_cases qk : s.kind = 3
  · have pk : (s.kind == 3) = true := by simp [qk]
    have pk4 : (s.kind == 4) = false := by simp [qk]
    have pk2 : (s.kind == 2) = false := by simp [qk]
    by_cases qpt : s.target = 0
    case neg =>
      have pt : (s.target != 0) = true := by first | (simp [qpt]; done) | (simp; omega) | exact decide_eq_true (by omega) | exact decide_eq_false (by omega)
      have HP : Hid (partsB s = false) := by rw [Hid, HD.out]; simp [qk, qpt]
      clear qpt qk HD
      have c0 := M.c 0 0 rfl rfl
      have c1 := M.c 0 1 rfl rfl
      have c2 := M.c 0 2 rfl rfl
      have c3 := M.c 0 3 rfl rfl
      have c4 := M.c 0 4 rfl rfl
      have c5 := M.c 0 5 rfl rfl
      have c6 := M.c 0 6 rfl rfl
      have c7 := M.c 0 7 rfl rfl
      have c8 := M.c 0 8 rfl rfl
      have c9 := M.c 0 9 rfl rfl
      have c10 := M.c 0 10 rfl rfl
      have HM := show Hid _ from M
      rw [hW] at c0 c1 c2 c3 c4 c5 c6 c7 c8 c9 c10
      clear M
      go_enter Try.func202, Try.ntmps202
      go_wp2_with fail
      rw [← hW]
      clear hW
      have M := HM.out
      clear HM c0 c1 c2 c3 c4 c5 c6 c7 c8 c9 c10
      go_ret
      exact ⟨ret_bool (by rw [HP.out]), M.below fun _ _ => trivial⟩
    have pt : (s.target != 0) = false := by first | (simp [qpt]; done) | (simp; omega) | exact decide_eq_true (by omega) | exact decide_eq_false (by omega)
    by_cases qpc : s.count = 0
    case neg =>
      have pc : (s.count == 0) = false := by first | (simp [qpc]; done) | (simp; omega) | exact decide_eq_true (by omega) | exact decide_eq_false (by omega)
      have HP : Hid (partsB s = false) := by rw [Hid, HD.out]; simp [qk, qpt, qpc]
      clear qpc qk qpt HD
      have c0 := M.c 0 0 rfl rfl
      have c1 := M.c 0 1 rfl rfl
      have c2 := M.c 0 2 rfl rfl
      have c3 := M.c 0 3 rfl rfl
      have c4 := M.c 0 4 rfl rfl
      have c5 := M.c 0 5 rfl rfl
      have c6 := M.c 0 6 rfl rfl
      have c7 := M.c 0 7 rfl rfl
      have c8 := M.c 0 8 rfl rfl
      have c9 := M.c 0 9 rfl rfl
      have c10 := M.c 0 10 rfl rfl
      have HM := show Hid _ from M
      rw [hW] at c0 c1 c2 c3 c4 c5 c6 c7 c8 c9 c10
      clear M
      go_enter Try.func202, Try.ntmps202
      go_wp2_with fail
      rw [← hW]
      clear hW
      have M := HM.out
      clear HM c0 c1 c2 c3 c4 c5 c6 c7 c8 c9 c10
      go_ret
      exact ⟨ret_bool (by rw [HP.out]), M.below fun _ _ => trivial⟩
    have pc : (s.count == 0) = true := by first | (simp [qpc]; done) | (simp; omega) | exact decide_eq_true (by omega) | exact decide_eq_false (by omega)
    have HP : Hid (partsB s = noneB s.index) := by rw [Hid, HD.out]; simp [qk, qpt, qpc]
    clear qpt qpc HD qk
    have c0 := M.c 0 0 rfl rfl
    have c1 := M.c 0 1 rfl rfl
    have c2 := M.c 0 2 rfl rfl
    have c3 := M.c 0 3 rfl rfl
    have c4 := M.c 0 4 rfl rfl
    have c5 := M.c 0 5 rfl rfl
    have c6 := M.c 0 6 rfl rfl
    have c7 := M.c 0 7 rfl rfl
    have c8 := M.c 0 8 rfl rfl
    have c9 := M.c 0 9 rfl rfl
    have c10 := M.c 0 10 rfl rfl
    have HM := show Hid _ from M
    rw [hW] at c0 c1 c2 c3 c4 c5 c6 c7 c8 c9 c10
    clear M
    go_enter Try.func202, Try.ntmps202
    go_wp2_with fail
    rw [← hW]
    clear hW
    have M := HM.out
    clear HM c0 c1 c2 c3 c4 c5 c6 c7 c8 c9 c10
    refine (spec_l2None s.index.kind s.index.value ai s.index.kids.length ci _ HL.out.1).mono ?_
    rintro x w1 ⟨rfl, b1⟩
    rw [show (decide (s.index.kind = 0) && decide (s.index.value = 0) && decide (s.index.kids.length = 0)) = noneB s.index from rfl]
    replace M := M.call b1
    clear b1
    have HM := show Hid _ from M
    clear M
    go_wp2_with fail
    go_ret
    exact ⟨ret_bool (by rw [HP.out]), HM.out.below fun _ _ => trivial⟩
  have qk3 := qk
  have pk3 : (s.kind == 3) = false := by simp [qk]
  clear qk
  by_cases qk : s.kind = 4
  · have pk4 : (s.kind == 4) = true := by simp [qk]
    clear qk3
    by_cases qpt : s.target = 0
    case neg =>
      have pt : (s.target != 0) = true := by first | (simp [qpt]; done) | (simp; omega) | exact decide_eq_true (by omega) | exact decide_eq_false (by omega)
      have HP : Hid (partsB s = false) := by rw [Hid, HD.out]; simp [qk, qpt]
      clear qpt qk HD
      have c0 := M.c 0 0 rfl rfl
      have c1 := M.c 0 1 rfl rfl
      have c2 := M.c 0 2 rfl rfl
      have c3 := M.c 0 3 rfl rfl
      have c4 := M.c 0 4 rfl rfl
      have c5 := M.c 0 5 rfl rfl
      have c6 := M.c 0 6 rfl rfl
      have c7 := M.c 0 7 rfl rfl
      have c8 := M.c 0 8 rfl rfl
      have c9 := M.c 0 9 rfl rfl
      have c10 := M.c 0 10 rfl rfl
      have HM := show Hid _ from M
      rw [hW] at c0 c1 c2 c3 c4 c5 c6 c7 c8 c9 c10
      clear M
      go_enter Try.func202, Try.ntmps202
      go_wp2_with fail
      rw [← hW]
      clear hW
      have M := HM.out
      clear HM c0 c1 c2 c3 c4 c5 c6 c7 c8 c9 c10
      go_ret
      exact ⟨ret_bool (by rw [HP.out]), M.below fun _ _ => trivial⟩
    have pt : (s.target != 0) = false := by first | (simp [qpt]; done) | (simp; omega) | exact decide_eq_true (by omega) | exact decide_eq_false (by omega)
    by_cases qpe : s.els.length = 0
    case neg =>
      have pe : ((s.els.length : Int) == 0) = false := by first | (simp [qpe]; done) | (simp; omega) | exact decide_eq_true (by omega) | exact decide_eq_false (by omega)
      have HP : Hid (partsB s = false) := by rw [Hid, HD.out]; simp [qk, qpt, qpe]
      clear qpe qk qpt HD
      have c0 := M.c 0 0 rfl rfl
      have c1 := M.c 0 1 rfl rfl
      have c2 := M.c 0 2 rfl rfl
      have c3 := M.c 0 3 rfl rfl
      have c4 := M.c 0 4 rfl rfl
      have c5 := M.c 0 5 rfl rfl
      have c6 := M.c 0 6 rfl rfl
      have c7 := M.c 0 7 rfl rfl
      have c8 := M.c 0 8 rfl rfl
      have c9 := M.c 0 9 rfl rfl
      have c10 := M.c 0 10 rfl rfl
      have HM := show Hid _ from M
      rw [hW] at c0 c1 c2 c3 c4 c5 c6 c7 c8 c9 c10
      clear M
      go_enter Try.func202, Try.ntmps202
      go_wp2_with fail
      rw [← hW]
      clear hW
      have M := HM.out
      clear HM c0 c1 c2 c3 c4 c5 c6 c7 c8 c9 c10
      go_ret
      exact ⟨ret_bool (by rw [HP.out]), M.below fun _ _ => trivial⟩
    have pe : ((s.els.length : Int) == 0) = true := by first | (simp [qpe]; done) | (simp; omega) | exact decide_eq_true (by omega) | exact decide_eq_false (by omega)
    by_cases qp1 : 1 ≤ s.count
    case neg =>
      have p1 : decide (1 ≤ s.count) = false := by first | (simp [qp1]; done) | (simp; omega) | exact decide_eq_true (by omega) | exact decide_eq_false (by omega)
      have HP : Hid (partsB s = false) := by rw [Hid, HD.out]; simp [qk, qpt, qpe, qp1]
      clear qp1 qk qpt qpe HD
      have c0 := M.c 0 0 rfl rfl
      have c1 := M.c 0 1 rfl rfl
      have c2 := M.c 0 2 rfl rfl
      have c3 := M.c 0 3 rfl rfl
      have c4 := M.c 0 4 rfl rfl
      have c5 := M.c 0 5 rfl rfl
      have c6 := M.c 0 6 rfl rfl
      have c7 := M.c 0 7 rfl rfl
      have c8 := M.c 0 8 rfl rfl
      have c9 := M.c 0 9 rfl rfl
      have c10 := M.c 0 10 rfl rfl
      have HM := show Hid _ from M
      rw [hW] at c0 c1 c2 c3 c4 c5 c6 c7 c8 c9 c10
      clear M
      go_enter Try.func202, Try.ntmps202
      go_wp2_with fail
      rw [← hW]
      clear hW
      have M := HM.out
      clear HM c0 c1 c2 c3 c4 c5 c6 c7 c8 c9 c10
      go_ret
      exact ⟨ret_bool (by rw [HP.out]), M.below fun _ _ => trivial⟩
    have p1 : decide (1 ≤ s.count) = true := by first | (simp [qp1]; done) | (simp; omega) | exact decide_eq_true (by omega) | exact decide_eq_false (by omega)
    by_cases qp3 : s.count ≤ 3
    case neg =>
      have p3 : decide (s.count ≤ 3) = false := by first | (simp [qp3]; done) | (simp; omega) | exact decide_eq_true (by omega) | exact decide_eq_false (by omega)
      have HP : Hid (partsB s = false) := by rw [Hid, HD.out]; simp [qk, qpt, qpe, qp1, qp3]
      clear qp3 qk qpt qpe qp1 HD
      have c0 := M.c 0 0 rfl rfl
      have c1 := M.c 0 1 rfl rfl
      have c2 := M.c 0 2 rfl rfl
      have c3 := M.c 0 3 rfl rfl
      have c4 := M.c 0 4 rfl rfl
      have c5 := M.c 0 5 rfl rfl
      have c6 := M.c 0 6 rfl rfl
      have c7 := M.c 0 7 rfl rfl
      have c8 := M.c 0 8 rfl rfl
      have c9 := M.c 0 9 rfl rfl
      have c10 := M.c 0 10 rfl rfl
      have HM := show Hid _ from M
      rw [hW] at c0 c1 c2 c3 c4 c5 c6 c7 c8 c9 c10
      clear M
      go_enter Try.func202, Try.ntmps202
      go_wp2_with fail
      rw [← hW]
      clear hW
      have M := HM.out
      clear HM c0 c1 c2 c3 c4 c5 c6 c7 c8 c9 c10
      go_ret
      exact ⟨ret_bool (by rw [HP.out]), M.below fun _ _ => trivial⟩
    have p3 : decide (s.count ≤ 3) = true := by first | (simp [qp3]; done) | (simp; omega) | exact decide_eq_true (by omega) | exact decide_eq_false (by omega)
    have HP0 : Hid (partsB s = (noneB s.index && noneB s.value)) := by rw [Hid, HD.out]; simp [qk, qpt, qpe, qp1, qp3]
    clear qpt qpe qp1 qp3 HD qk
    have c0 := M.c 0 0 rfl rfl
    have c1 := M.c 0 1 rfl rfl
    have c2 := M.c 0 2 rfl rfl
    have c3 := M.c 0 3 rfl rfl
    have c4 := M.c 0 4 rfl rfl
    have c5 := M.c 0 5 rfl rfl
    have c6 := M.c 0 6 rfl rfl
    have c7 := M.c 0 7 rfl rfl
    have c8 := M.c 0 8 rfl rfl
    have c9 := M.c 0 9 rfl rfl
    have c10 := M.c 0 10 rfl rfl
    have HM := show Hid _ from M
    rw [hW] at c0 c1 c2 c3 c4 c5 c6 c7 c8 c9 c10
    clear M
    go_enter Try.func202, Try.ntmps202
    go_wp2_with fail
    rw [← hW]
    clear hW
    have M := HM.out
    clear HM c0 c1 c2 c3 c4 c5 c6 c7 c8 c9 c10
    refine (spec_l2None s.index.kind s.index.value ai s.index.kids.length ci _ HL.out.1).mono ?_
    rintro x w1 ⟨rfl, b1⟩
    rw [show (decide (s.index.kind = 0) && decide (s.index.value = 0) && decide (s.index.kids.length = 0)) = noneB s.index from rfl]
    replace M := M.call b1
    clear b1
    obtain ⟨b, hb⟩ : ∃ b, b = noneB s.index := ⟨_, rfl⟩
    rw [← hb]
    have HB := show Hid _ from hb
    clear hb
    cases b
    · have HP : Hid (partsB s = false) := by rw [Hid, HP0.out, ← HB.out]; rfl
      clear HP0
      have HM := show Hid _ from M
      clear M
      go_wp2_with fail
      go_ret
      exact ⟨ret_bool (by rw [HP.out]), HM.out.below fun _ _ => trivial⟩
    · have HP : Hid (partsB s = noneB s.value) := by rw [Hid, HP0.out, ← HB.out]; rfl
      clear HP0
      have c5 := M.c 0 5 rfl rfl
      have c6 := M.c 0 6 rfl rfl
      have c7 := M.c 0 7 rfl rfl
      have HM := show Hid _ from M
      clear M
      go_wp2_with fail
      have M := HM.out
      clear HM c5 c6 c7
      refine (spec_l2None s.value.kind s.value.value av s.value.kids.length cv _ HL.out.2.1).mono ?_
      rintro x w1 ⟨rfl, b1⟩
      rw [show (decide (s.value.kind = 0) && decide (s.value.value = 0) && decide (s.value.kids.length = 0)) = noneB s.value from rfl]
      replace M := M.call b1
      clear b1
      have HM := show Hid _ from M
      clear M
      go_wp2_with fail
      go_ret
      exact ⟨ret_bool (by rw [HP.out]), HM.out.below fun _ _ => trivial⟩
  have qk4 := qk
  have pk4 : (s.kind == 4) = false := by simp [qk]
  clear qk
  by_cases qpb : s.body.length = 0
  case neg =>
    have pb : decide (0 < s.body.length) = true := by first | (simp [qpb]; done) | (simp; omega) | exact decide_eq_true (by omega) | exact decide_eq_false (by omega)
    have HP : Hid (partsB s = false) := by rw [Hid, HD.out]; simp [qk3, qk4, qpb]
    clear qpb qk3 qk4 HD
    have c0 := M.c 0 0 rfl rfl
    have c1 := M.c 0 1 rfl rfl
    have c2 := M.c 0 2 rfl rfl
    have c3 := M.c 0 3 rfl rfl
    have c4 := M.c 0 4 rfl rfl
    have c5 := M.c 0 5 rfl rfl
    have c6 := M.c 0 6 rfl rfl
    have c7 := M.c 0 7 rfl rfl
    have c8 := M.c 0 8 rfl rfl
    have c9 := M.c 0 9 rfl rfl
    have c10 := M.c 0 10 rfl rfl
    have HM := show Hid _ from M
    rw [hW] at c0 c1 c2 c3 c4 c5 c6 c7 c8 c9 c10
    clear M
    go_enter Try.func202, Try.ntmps202
    go_wp2_with fail
    rw [← hW]
    clear hW
    have M := HM.out
    clear HM c0 c1 c2 c3 c4 c5 c6 c7 c8 c9 c10
    go_ret
    exact ⟨ret_bool (by rw [HP.out]), M.below fun _ _ => trivial⟩
  have pb : decide (0 < s.body.length) = false := by first | (simp [qpb]; done) | (simp; omega) | exact decide_eq_true (by omega) | exact decide_eq_false (by omega)
  by_cases qpe : s.els.length = 0
  case neg =>
    have pe : decide (0 < s.els.length) = true := by first | (simp [qpe]; done) | (simp; omega) | exact decide_eq_true (by omega) | exact decide_eq_false (by omega)
    have HP : Hid (partsB s = false) := by rw [Hid, HD.out]; simp [qk3, qk4, qpb, qpe]
    clear qpe qk3 qk4 qpb HD
    have c0 := M.c 0 0 rfl rfl
    have c1 := M.c 0 1 rfl rfl
    have c2 := M.c 0 2 rfl rfl
    have c3 := M.c 0 3 rfl rfl
    have c4 := M.c 0 4 rfl rfl
    have c5 := M.c 0 5 rfl rfl
    have c6 := M.c 0 6 rfl rfl
    have c7 := M.c 0 7 rfl rfl
    have c8 := M.c 0 8 rfl rfl
    have c9 := M.c 0 9 rfl rfl
    have c10 := M.c 0 10 rfl rfl
    have HM := show Hid _ from M
    rw [hW] at c0 c1 c2 c3 c4 c5 c6 c7 c8 c9 c10
    clear M
    go_enter Try.func202, Try.ntmps202
    go_wp2_with fail
    rw [← hW]
    clear hW
    have M := HM.out
    clear HM c0 c1 c2 c3 c4 c5 c6 c7 c8 c9 c10
    go_ret
    exact ⟨ret_bool (by rw [HP.out]), M.below fun _ _ => trivial⟩
  have pe : decide (0 < s.els.length) = false := by first | (simp [qpe]; done) | (simp; omega) | exact decide_eq_true (by omega) | exact decide_eq_false (by omega)
  by_cases qpc : s.count = 0
  case neg =>
    have pc : (s.count == 0) = false := by first | (simp [qpc]; done) | (simp; omega) | exact decide_eq_true (by omega) | exact decide_eq_false (by omega)
    have HP : Hid (partsB s = false) := by rw [Hid, HD.out]; simp [qk3, qk4, qpb, qpe, qpc]
    clear qpc qk3 qk4 qpb qpe HD
    have c0 := M.c 0 0 rfl rfl
    have c1 := M.c 0 1 rfl rfl
    have c2 := M.c 0 2 rfl rfl
    have c3 := M.c 0 3 rfl rfl
    have c4 := M.c 0 4 rfl rfl
    have c5 := M.c 0 5 rfl rfl
    have c6 := M.c 0 6 rfl rfl
    have c7 := M.c 0 7 rfl rfl
    have c8 := M.c 0 8 rfl rfl
    have c9 := M.c 0 9 rfl rfl
    have c10 := M.c 0 10 rfl rfl
    have HM := show Hid _ from M
    rw [hW] at c0 c1 c2 c3 c4 c5 c6 c7 c8 c9 c10
    clear M
    go_enter Try.func202, Try.ntmps202
    go_wp2_with fail
    rw [← hW]
    clear hW
    have M := HM.out
    clear HM c0 c1 c2 c3 c4 c5 c6 c7 c8 c9 c10
    go_ret
    exact ⟨ret_bool (by rw [HP.out]), M.below fun _ _ => trivial⟩
  have pc : (s.count == 0) = true := by first | (simp [qpc]; done) | (simp; omega) | exact decide_eq_true (by omega) | exact decide_eq_false (by omega)
  by_cases qk2 : s.kind = 2
  · have pk2 : (s.kind == 2) = true := by simp [qk2]
    have HP : Hid (partsB s = true) := by rw [Hid, HD.out]; simp [qk2, qpb, qpe, qpc]
    clear qk2 qk3 qk4 qpb qpe qpc HD
    have c0 := M.c 0 0 rfl rfl
    have c1 := M.c 0 1 rfl rfl
    have c2 := M.c 0 2 rfl rfl
    have c3 := M.c 0 3 rfl rfl
    have c4 := M.c 0 4 rfl rfl
    have c5 := M.c 0 5 rfl rfl
    have c6 := M.c 0 6 rfl rfl
    have c7 := M.c 0 7 rfl rfl
    have c8 := M.c 0 8 rfl rfl
    have c9 := M.c 0 9 rfl rfl
    have c10 := M.c 0 10 rfl rfl
    have HM := show Hid _ from M
    rw [hW] at c0 c1 c2 c3 c4 c5 c6 c7 c8 c9 c10
    clear M
    go_enter Try.func202, Try.ntmps202
    go_wp2_with fail
    rw [← hW]
    clear hW
    have M := HM.out
    clear HM c0 c1 c2 c3 c4 c5 c6 c7 c8 c9 c10
    go_ret
    exact ⟨ret_bool (by rw [HP.out]), M.below fun _ _ => trivial⟩
  · have pk2 : (s.kind == 2) = false := by simp [qk2]
    have HP : Hid (partsB s = noneB s.index) := by rw [Hid, HD.out]; simp [qk2, qk3, qk4, qpb, qpe, qpc]
    clear qk2 qk3 qk4 qpb qpe qpc HD
    have c0 := M.c 0 0 rfl rfl
    have c1 := M.c 0 1 rfl rfl
    have c2 := M.c 0 2 rfl rfl
    have c3 := M.c 0 3 rfl rfl
    have c4 := M.c 0 4 rfl rfl
    have c5 := M.c 0 5 rfl rfl
    have c6 := M.c 0 6 rfl rfl
    have c7 := M.c 0 7 rfl rfl
    have c8 := M.c 0 8 rfl rfl
    have c9 := M.c 0 9 rfl rfl
    have c10 := M.c 0 10 rfl rfl
    have HM := show Hid _ from M
    rw [hW] at c0 c1 c2 c3 c4 c5 c6 c7 c8 c9 c10
    clear M
    go_enter Try.func202, Try.ntmps202
    go_wp2_with fail
    rw [← hW]
    clear hW
    have M := HM.out
    clear HM c0 c1 c2 c3 c4 c5 c6 c7 c8 c9 c10
    refine (spec_l2None s.index.kind s.index.value ai s.index.kids.length ci _ HL.out.1).mono ?_
    rintro x w1 ⟨rfl, b1⟩
    rw [show (decide (s.index.kind = 0) && decide (s.index.value = 0) && decide (s.index.kids.length = 0)) = noneB s.index from rfl]
    replace M := M.call b1
    clear b1
    have HM := show Hid _ from M
    clear M
    go_wp2_with fail
    go_ret
    exact ⟨ret_bool (by rw [HP.out]), HM.out.below fun _ _ => trivial⟩

end Go.Proofs.Ytgpkdfefgcpbiaa
