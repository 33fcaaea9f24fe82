/-
  Texts of this claim, part 3: what the functions on the way do, and plain laws. Conditions: as each statement says.
-/
import Derived.WalkSpells
import Derived.Lib.SliceRun
import Derived.Test.YtimmlkmpbmbgdaaK2

namespace Go.Proofs.Ytimmlkmpbmbgdaa
set_option linter.unusedVariables false
set_option linter.unusedSimpArgs false
open Go Go.RowKit

mutual
/-- The number n read as nil: as a slice, or (t) as a slice with all that hangs on it. -/
def AV.den (t : Bool) (n : Nat) : AV → AV
  | .v x => .v x
  | .ptr a b => .ptr a b
  | .ea a b c d => .ea a b c d
  | .ref i => if !t && natEq i n then .v (.slice none 0 0) else .ref i
  | .agg l => .agg (AV.denL t n l)
  | .tup l => .tup (AV.denL t n l)
  | .fn f l => .fn f (AV.denL t n l)
  | .bm f l => .bm f (AV.denL t n l)
  | .tref i => if t && natEq i n then .v (.slice none 0 0) else .tref i
def AV.denL (t : Bool) (n : Nat) : List AV → List AV
  | [] => []
  | x :: r => x.den t n :: AV.denL t n r
end
def It.den (t : Bool) (n : Nat) : It → It
  | .box cs => .box (AV.denL t n cs)
  | x => x
mutual
theorem AV.val_den {ρ : Nat → Value} {t : Bool} {n : Nat} {z : Value} (hz : if t then valOf z = .slice none 0 0 else z = .slice none 0 0) : ∀ (x : AV), (∀ i ∈ (x.den t n).ids, i < n) → x.val (fun j => if j = n then z else ρ j) = (x.den t n).val ρ ∧ ∀ i ∈ x.ids, i < n + 1
  | .v _, _ => ⟨rfl, fun i hi => by simp [AV.ids] at hi⟩
  | .ptr a b, h => by
    have ha : a < n := h a (by simp [AV.den, AV.ids])
    refine ⟨?_, fun i hi => by simp [AV.ids] at hi; omega⟩
    simp only [AV.den, AV.val]
    rw [if_neg (by omega)]
  | .ea a b c d, h => by
    have ha : a < n := h a (by simp [AV.den, AV.ids])
    refine ⟨?_, fun i hi => by simp [AV.ids] at hi; omega⟩
    simp only [AV.den, AV.val]
    rw [if_neg (by omega)]
  | .ref a, h => by
    by_cases e : t = false ∧ a = n
    · obtain ⟨rfl, rfl⟩ := e
      refine ⟨?_, fun i hi => by simp [AV.ids] at hi; omega⟩
      simp only [Bool.false_eq_true, if_false] at hz
      simp [AV.den, AV.val, natEq, hz]
    · have hd : (AV.ref a).den t n = .ref a := by
        simp only [AV.den]
        rw [if_neg]
        simp [natEq]; intro h1 h2; exact e ⟨h1, h2⟩
      rw [hd] at h ⊢
      have ha : a < n := h a (by simp [AV.ids])
      refine ⟨?_, fun i hi => by simp [AV.ids] at hi; omega⟩
      simp only [AV.val]
      rw [if_neg (by omega)]
  | .tref a, h => by
    by_cases e : t = true ∧ a = n
    · obtain ⟨rfl, rfl⟩ := e
      refine ⟨?_, fun i hi => by simp [AV.ids] at hi; omega⟩
      simp only [if_true] at hz
      simp [AV.den, AV.val, natEq, hz]
    · have hd : (AV.tref a).den t n = .tref a := by
        simp only [AV.den]
        rw [if_neg]
        simp [natEq]; intro h1 h2; exact e ⟨h1, h2⟩
      rw [hd] at h ⊢
      have ha : a < n := h a (by simp [AV.ids])
      refine ⟨?_, fun i hi => by simp [AV.ids] at hi; omega⟩
      simp only [AV.val]
      rw [if_neg (by omega)]
  | .agg l, h => by
    obtain ⟨h1, h2⟩ := AV.vals_den hz l (by simpa [AV.den, AV.ids] using h)
    exact ⟨by simp only [AV.den, AV.val]; rw [h1], by simpa [AV.ids] using h2⟩
  | .tup l, h => by
    obtain ⟨h1, h2⟩ := AV.vals_den hz l (by simpa [AV.den, AV.ids] using h)
    exact ⟨by simp only [AV.den, AV.val]; rw [h1], by simpa [AV.ids] using h2⟩
  | .fn f l, h => by
    obtain ⟨h1, h2⟩ := AV.vals_den hz l (by simpa [AV.den, AV.ids] using h)
    exact ⟨by simp only [AV.den, AV.val]; rw [h1], by simpa [AV.ids] using h2⟩
  | .bm f l, h => by
    obtain ⟨h1, h2⟩ := AV.vals_den hz l (by simpa [AV.den, AV.ids] using h)
    exact ⟨by simp only [AV.den, AV.val]; rw [h1], by simpa [AV.ids] using h2⟩
theorem AV.vals_den {ρ : Nat → Value} {t : Bool} {n : Nat} {z : Value} (hz : if t then valOf z = .slice none 0 0 else z = .slice none 0 0) : ∀ (l : List AV), (∀ i ∈ AV.idsL (AV.denL t n l), i < n) → AV.vals (fun j => if j = n then z else ρ j) l = AV.vals ρ (AV.denL t n l) ∧ ∀ i ∈ AV.idsL l, i < n + 1
  | [], _ => ⟨rfl, fun i hi => by simp [AV.idsL] at hi⟩
  | x :: r, h => by
    obtain ⟨h1, h2⟩ := AV.val_den hz x fun i hi => h i (by simp only [AV.denL, AV.idsL, List.mem_append]; exact .inl hi)
    obtain ⟨h3, h4⟩ := AV.vals_den hz r fun i hi => h i (by simp only [AV.denL, AV.idsL, List.mem_append]; exact .inr hi)
    refine ⟨by simp only [AV.denL, AV.vals]; rw [h1, h3], fun i hi => ?_⟩
    simp only [AV.idsL, List.mem_append] at hi
    rcases hi with hi | hi
    · exact h2 i hi
    · exact h4 i hi
end
theorem look_den {m : Bool} {n : Nat} {t : Nat} {x : AV} : ∀ {tm : List (Nat × AV)}, look tm t = some x → look (tm.map fun p => (p.1, p.2.den m n)) t = some (x.den m n)
  | [], h => by cases h
  | (k, y) :: r, h => by
    simp only [look, List.map_cons] at h ⊢
    split at h
    · rename_i e; cases h; rw [if_pos e]
    · rename_i e; rw [if_neg e]; exact look_den h

section
variable {P : Program} {ι : Type} {φ ψ : Nat → Prop} {w0 w : World} {F : ι → Rs} {ρ ρ0 : Nat → Value} {N m n : Nat} {S : List It} {tm : List (Nat × AV)} {a : Act}
theorem Gam.nilW (G : Gam φ ψ w0 F N m ρ0 ρ S tm a w) (n : Nat) (hn : S.length = n) (b : Bool) (x : It) (z : Value) (hz : if b then valOf z = .slice none 0 0 else z = .slice none 0 0) (hids : x.ids = []) (hb : ∀ g, ¬ (x.res (fun j => if j = n then z else ρ j) n).blk g)
    (hx : ∀ φ', (x.res (fun j => if j = n then z else ρ j) n).holds w φ') (S1 : List It) (tm1 : List (Nat × AV)) (hS : S = S1.map (It.den b n)) (ht : tm = tm1.map fun p => (p.1, p.2.den b n)) :
    ∃ ρ', Gam φ ψ w0 F N m ρ0 ρ' (S1 ++ [x]) tm1 a w := by
  have hl : S1.length = n := by rw [← hn, hS, List.length_map]
  have hat : ∀ j (hj : j < n), lst S j = (S1[j]'(by omega)).den b n := fun j hj => by
    rw [lst_at (show j < S.length by omega)]
    have h1 := congrArg (·[j]?) hS
    simp only [List.getElem?_map, List.getElem?_eq_getElem (show j < S.length by omega), List.getElem?_eq_getElem (show j < S1.length by omega), Option.map_some, Option.some.injEq] at h1
    exact h1
  have hnew : ∀ j (hj : j < n), lst (S1 ++ [x]) j = S1[j]'(by omega) := fun j hj => by
    simp [lst, List.getD_eq_getElem?_getD, List.getElem?_append_left (show j < S1.length by omega), List.getElem?_eq_getElem (show j < S1.length by omega)]
  have hlast : lst (S1 ++ [x]) n = x := by
    simp [lst, List.getD_eq_getElem?_getD, ← hl]
  have hout : ∀ j, n < j → lst (S1 ++ [x]) j = .none := fun j hj => lst_out (by simp; omega)
  have hbx : ∀ j (hj : j < n), ((S1[j]'(by omega)).res (fun j => if j = n then z else ρ j) j = (lst S j).res ρ j) ∧ ∀ i ∈ (S1[j]'(by omega)).ids, i < n + 1 := fun j hj => by
    rw [hat j hj]
    have hb := (G.bd j).1
    rw [hat j hj, hn] at hb
    generalize S1[j]'(by omega) = x at *
    cases x with
    | box cs =>
      obtain ⟨h1, h2⟩ := AV.vals_den (ρ := ρ) (n := n) hz cs hb
      refine ⟨?_, h2⟩
      simp only [It.res, It.den]
      rw [h1, if_neg (show ¬ j = n by omega)]
    | none => exact ⟨rfl, fun i hi => by cases hi⟩
    | dead => exact ⟨rfl, fun i hi => by cases hi⟩
    | dat d' => exact ⟨by simp only [It.res, It.den]; rw [if_neg (show ¬ j = n by omega)], fun i hi => by cases hi⟩
    | row e' d' => exact ⟨by simp only [It.res, It.den]; rw [if_neg (show ¬ j = n by omega)], fun i hi => by cases hi⟩
    | tree d' => exact ⟨by simp only [It.res, It.den]; rw [if_neg (show ¬ j = n by omega)], fun i hi => by cases hi⟩
    | kept e' d' => exact ⟨by cases e' <;> (simp only [It.res, It.den]; rw [if_neg (show ¬ j = n by omega)]), fun i hi => by cases hi⟩
  have hw : ∀ t x, look tm1 t = some x → x.val (fun j => if j = n then z else ρ j) = (x.den b n).val ρ ∧ ∀ i ∈ x.ids, i < n + 1 := fun t x hx => by
    refine AV.val_den hz x fun i hi => ?_
    have h1 : look tm t = some (x.den b n) := by rw [ht]; exact look_den hx
    have := G.tmi t _ h1 i hi
    omega
  refine ⟨fun j => if j = n then z else ρ j, ?_⟩
  refine ⟨G.size, G.defs, fun t x hx => ?_, fun t x hx i hi => ?_, fun j => ⟨fun i hi => ?_, fun hj => lst_out hj⟩, ?_, ?_, fun i hi => ?_⟩
  · have h1 : look tm t = some (x.den b n) := by rw [ht]; exact look_den hx
    rw [(hw t x hx).1]; exact G.tmv t _ h1
  · have := (hw t x hx).2 i hi
    simp; omega
  · rcases Nat.lt_trichotomy j n with h | h | h
    · rw [hnew j h] at hi
      have := (hbx j h).2 i hi
      simp; omega
    · subst h; rw [hlast, hids] at hi; cases hi
    · rw [hout j h] at hi; cases hi
  · refine MemF.put G.mem (.inr n) (fun k hk => ?_) (Kept.refl _ _) ?_ ?_
    · cases k with
      | inl i => rfl
      | inr j =>
        simp only [lay]
        rcases Nat.lt_trichotomy j n with h | h | h
        · rw [hnew j h]; exact (hbx j h).1
        · exact absurd (by rw [h]) hk
        · rw [hout j h, lst_out (show S.length ≤ j by omega)]; rfl
    · simp only [lay, hlast]; exact hx _
    · intro g hg
      simp only [lay, hlast] at hg
      exact absurd hg (hb g)
  · have := G.le; simp; omega
  · show (if i = n then _ else ρ i) = ρ0 i
    have := G.le
    rw [if_neg (by omega)]; exact G.old i hi
theorem Gam.nil (G : Gam φ ψ w0 F N m ρ0 ρ S tm a w) (n : Nat) (e : TypeId) (d : D) (k : Nat) (S1 : List It) (tm1 : List (Nat × AV)) (hn : S.length = n := by kernel_rfl) (hd : D.nil k = some d := by kernel_rfl) (hS : S = S1.map (It.den false n) := by kernel_rfl) (ht : tm = tm1.map (fun p => (p.1, p.2.den false n)) := by kernel_rfl) :
    ∃ ρ', Gam φ ψ w0 F N m ρ0 ρ' (S1 ++ [.row e d]) tm1 a w := by
  have hz := D.nil_len hd
  refine G.nilW n hn false (.row e d) (.slice none 0 0) (by simp) rfl (fun g hg => ?_) (fun φ' => ?_) S1 tm1 hS ht
  · simp only [It.res, if_true] at hg
    cases hg
  · simp only [It.res, if_true]
    refine ⟨fun xs => RW.nice d xs, [], ?_, RW.nil hz _⟩
    rw [hz]; exact World.ownsRow_nil _ _ _ _
end

inductive Ln where
  | no
  | row (e : TypeId)
  | tree
def lnAt (M : List Ln) (i : Nat) : Ln := M.getD i .no
def Ln.isT : Ln → Bool
  | .tree => true
  | _ => false
mutual
def AV.tr (M : List Ln) : AV → AV
  | .v x => .v x
  | .ptr a b => .ptr a b
  | .ea a b c d => .ea a b c d
  | .ref i => if (lnAt M i).isT then .tref i else .ref i
  | .agg l => .agg (AV.trL M l)
  | .tup l => .tup (AV.trL M l)
  | .fn f l => .fn f (AV.trL M l)
  | .bm f l => .bm f (AV.trL M l)
  | .tref i => .tref i
def AV.trL (M : List Ln) : List AV → List AV
  | [] => []
  | x :: r => x.tr M :: AV.trL M r
end
mutual
/-- No address of, and no other word for, what is lent as a tree. -/
def AV.trOk (M : List Ln) : AV → Bool
  | .v _ => true
  | .ptr a _ => !(lnAt M a).isT
  | .ea a _ _ _ => !(lnAt M a).isT
  | .ref _ => true
  | .agg l => AV.trOkL M l
  | .tup l => AV.trOkL M l
  | .fn _ l => AV.trOkL M l
  | .bm _ l => AV.trOkL M l
  | .tref i => !(lnAt M i).isT
def AV.trOkL (M : List Ln) : List AV → Bool
  | [] => true
  | x :: r => x.trOk M && AV.trOkL M r
end
mutual
theorem AV.val_tr {ρ ρ' : Nat → Value} {M : List Ln} (h : ∀ i, ρ' i = if (lnAt M i).isT then valOf (ρ i) else ρ i) : ∀ (x : AV), x.trOk M = true → (x.tr M).val ρ = x.val ρ'
  | .v _, _ => rfl
  | .ptr a _, hx => by
    simp only [AV.trOk, Bool.not_eq_true'] at hx
    simp only [AV.tr, AV.val]; rw [h a, hx]; rfl
  | .ea a _ _ _, hx => by
    simp only [AV.trOk, Bool.not_eq_true'] at hx
    simp only [AV.tr, AV.val]; rw [h a, hx]; rfl
  | .ref i, _ => by
    simp only [AV.tr]
    cases hm : (lnAt M i).isT
    · simp only [Bool.false_eq_true, if_false, AV.val]; rw [h i, hm]; rfl
    · simp only [if_true, AV.val]; rw [h i, hm]; rfl
  | .agg l, hx => by simp only [AV.tr, AV.val]; rw [AV.vals_tr h l (by simpa [AV.trOk] using hx)]
  | .tup l, hx => by simp only [AV.tr, AV.val]; rw [AV.vals_tr h l (by simpa [AV.trOk] using hx)]
  | .fn _ l, hx => by simp only [AV.tr, AV.val]; rw [AV.vals_tr h l (by simpa [AV.trOk] using hx)]
  | .bm _ l, hx => by simp only [AV.tr, AV.val]; rw [AV.vals_tr h l (by simpa [AV.trOk] using hx)]
  | .tref i, hx => by
    simp only [AV.trOk, Bool.not_eq_true'] at hx
    simp only [AV.tr, AV.val]; rw [h i, hx]; rfl
theorem AV.vals_tr {ρ ρ' : Nat → Value} {M : List Ln} (h : ∀ i, ρ' i = if (lnAt M i).isT then valOf (ρ i) else ρ i) : ∀ (l : List AV), AV.trOkL M l = true → AV.vals ρ (AV.trL M l) = AV.vals ρ' l
  | [], _ => rfl
  | x :: r, hx => by
    simp only [AV.trOkL, Bool.and_eq_true] at hx
    simp only [AV.trL, AV.vals]; rw [AV.val_tr h x hx.1, AV.vals_tr h r hx.2]
end
def lendIt (M : List Ln) : Ln → It → It
  | .row e, .dat d => .row e d
  | .tree, .dat d => .tree d
  | .no, .box cs => .box (AV.trL M cs)
  | _, x => x
def lendL (M : List Ln) (S : List It) : List It := (List.range S.length).map fun i => lendIt M (lnAt M i) (lst S i)
theorem lst_lend (M : List Ln) (S : List It) (i : Nat) : lst (lendL M S) i = lendIt M (lnAt M i) (lst S i) := by
  unfold lendL
  rcases Nat.lt_or_ge i S.length with h | h
  · conv => lhs; rw [lst, List.getD_eq_getElem?_getD, List.getElem?_map, List.getElem?_range h]
    rfl
  · rw [lst_out (by simpa using h), lst_out h]
    cases lnAt M i <;> rfl
def flatD : D → Bool
  | .rows _ => false
  | .brows _ => false
  | .exprs _ => false
  | .stmts _ => false
  | _ => true
theorem flat_rw {w w' : World} {φ φ' : Nat → Prop} {d : D} {xs : List Value} (hd : flatD d = true) (h : RW w φ d xs) : RW w' φ' d xs := by
  intro i hi j x hx
  obtain ⟨u, h1, h2⟩ := h i hi j x hx
  refine ⟨u, h1, ?_⟩
  have : ∃ y, x = .v y := by
    have hm := List.mem_of_getElem? hx
    cases d <;> simp only [flatD, Bool.false_eq_true] at hd <;> simp [D.elem, insX, eventX] at hm
    · exact ⟨_, hm⟩
    · exact ⟨_, hm⟩
    · exact ⟨_, hm⟩
    · exact ⟨_, hm⟩
    · rcases hm with h | h | h | h | h <;> exact ⟨_, h⟩
    · rcases hm with h | h <;> exact ⟨_, h⟩
  obtain ⟨y, rfl⟩ := this
  exact h2
def lnOk (M : List Ln) (l : Ln) (p x : It) : Bool :=
  match l with
  | .no => match x with
    | .dat _ => (match p with | .dat _ => true | _ => false)
    | .row _ d => flatD d
    | .box cs => AV.trOkL M cs
    | .kept _ _ => false
    | _ => true
  | .row _ => (match p, x with | .dat d, .dat _ => flatD d | _, _ => false)
  | .tree => (match p, x with | .dat d, .dat _ => (treeE d).isSome | _, _ => false)
def preLn (M : List Ln) (l : Ln) (p : It) : Bool :=
  match l, p with
  | .no, .box cs => AV.trOkL M cs
  | _, _ => true
def lendB (M : List Ln) (c : Ctr) : Bool :=
  decide (M.length ≤ c.pre.length) && decide (c.pre.length ≤ c.post.length) && AV.trOkL M c.args && c.res.trOk M && (List.range c.post.length).all (fun i => lnOk M (lnAt M i) (lst c.pre i) (lst c.post i)) && (List.range c.pre.length).all fun i => preLn M (lnAt M i) (lst c.pre i)

def Rs.snap (w : World) (r : Rs) : Rs := .own r.blk fun w' => ∀ b, r.blk b → b < w.heap.size → w'.heap[b]? = w.heap[b]?
theorem Rs.snap_holds {w : World} {φ φ' : Nat → Prop} {r : Rs} (h : r.holds w φ) : (r.snap w).holds w φ' := by
  refine ⟨fun w1 w2 h1 h2 b hb hlt => ?_, fun b _ _ => rfl, fun b hb => Rs.lt h hb⟩
  have h3 := h1 b hb hlt
  rw [h2 b hb, h3]
  have : (w1.heap[b]?).isSome = true := by rw [h3, Array.getElem?_eq_getElem hlt]; rfl
  obtain ⟨o, ho⟩ := Option.isSome_iff_exists.1 this
  exact (Array.getElem?_eq_some_iff.1 ho).1
theorem datP_at : ∀ {P X : List It} {i : Nat} {d e : D}, datP P X = datQ P X → lst P i = .dat d → lst X i = .dat e → d = e
  | P, X, i, d, e, h, h1, h2 => by
    have hp : P[i]? = some (.dat d) := by
      rcases Nat.lt_or_ge i P.length with hl | hl
      · rw [lst_at hl] at h1; rw [List.getElem?_eq_getElem hl, h1]
      · rw [lst_out hl] at h1; cases h1
    have hx : X[i]? = some (.dat e) := by
      rcases Nat.lt_or_ge i X.length with hl | hl
      · rw [lst_at hl] at h2; rw [List.getElem?_eq_getElem hl, h2]
      · rw [lst_out hl] at h2; cases h2
    exact dat_eq h hp hx

theorem Ctr.lend0 {P : Program} {c : Ctr} (hc : c.ok P) (M : List Ln) (hb : lendB M c = true) (he : datP c.pre c.post = datQ c.pre c.post) : Ctr.ok P ⟨c.f, AV.trL M c.args, lendL M c.pre, lendL M c.post, c.res.tr M⟩ := by
  simp only [lendB, Bool.and_eq_true, decide_eq_true_eq] at hb
  obtain ⟨⟨⟨⟨⟨hM, hle⟩, hargs⟩, hres⟩, hpost⟩, hpre⟩ := hb
  have hno : ∀ i, c.pre.length ≤ i → lnAt M i = .no := fun i hi => by
    unfold lnAt; rw [List.getD_eq_getElem?_getD, List.getElem?_eq_none (by omega)]; rfl
  have hpo : ∀ i, lnOk M (lnAt M i) (lst c.pre i) (lst c.post i) = true := fun i => by
    rcases Nat.lt_or_ge i c.post.length with h | h
    · exact List.all_eq_true.1 hpost i (List.mem_range.2 h)
    · rw [hno i (by omega), lst_out h]; rfl
  have hpr : ∀ i, preLn M (lnAt M i) (lst c.pre i) = true := fun i => by
    rcases Nat.lt_or_ge i c.pre.length with h | h
    · exact List.all_eq_true.1 hpre i (List.mem_range.2 h)
    · rw [hno i h, lst_out h]; rfl
  intro ι φ ψ w0 w F ρ MM
  -- what the call sees
  let ρ1 : Nat → Value := fun i => if (lnAt M i).isT then valOf (ρ i) else ρ i
  have hρ1 : ∀ i, ρ1 i = if (lnAt M i).isT then valOf (ρ i) else ρ i := fun _ => rfl
  let F1 : ι → Rs := fun i => (F i).snap w
  have hLi : ∀ i, lay F ρ (lst (lendL M c.pre)) (.inl i) = F i := fun _ => rfl
  have hLj : ∀ j, lay F ρ (lst (lendL M c.pre)) (.inr j) = (lendIt M (lnAt M j) (lst c.pre j)).res ρ j := fun j => by simp only [lay]; rw [lst_lend]
  generalize hL : lay F ρ (lst (lendL M c.pre)) = L at MM hLi hLj
  have h1j : ∀ j, lnAt M j = .no → (lst c.pre j).res ρ1 j = L (.inr j) := fun j hl => by
    rw [hLj, hl]
    have hp := hpr j
    have e : ρ1 j = ρ j := by rw [hρ1, hl]; rfl
    cases hx : lst c.pre j with
    | none => rfl
    | dead => rfl
    | dat d => simp only [lendIt, It.res]; rw [e]
    | row e' d => simp only [lendIt, It.res]; rw [e]
    | tree d => simp only [lendIt, It.res]; rw [e]
    | kept e' d => cases e' <;> (simp only [lendIt, It.res]; rw [e])
    | box cs =>
      rw [hl, hx] at hp
      simp only [preLn] at hp
      simp only [lendIt, It.res]
      rw [e, AV.vals_tr hρ1 cs hp]
  -- lent things own nothing in the call's eyes
  have hlent : ∀ j, lnAt M j ≠ .no → (∃ d, lst c.pre j = .dat d ∧ lst c.post j = .dat d ∧ ((∃ e, lnAt M j = .row e ∧ flatD d = true) ∨ lnAt M j = .tree)) := fun j hj => by
    have h := hpo j
    cases hl : lnAt M j with
    | no => exact absurd hl hj
    | row e =>
      rw [hl] at h
      simp only [lnOk] at h
      split at h
      · rename_i d d' h1 h2
        exact ⟨d, h1, by rw [h2, ← datP_at he h1 h2], .inl ⟨e, rfl, h⟩⟩
      · cases h
    | tree =>
      rw [hl] at h
      simp only [lnOk] at h
      split at h
      · rename_i d d' h1 h2
        exact ⟨d, h1, by rw [h2, ← datP_at he h1 h2], .inr rfl⟩
      · cases h
  have hsub : ∀ k b, (lay F1 ρ1 (lst c.pre) k).blk b → (L k).blk b ∧ ∀ j, k = .inr j → lnAt M j = .no := fun k b hb => by
    cases k with
    | inl i => rw [hLi]; exact ⟨hb, fun j h => by cases h⟩
    | inr j =>
      by_cases hl : lnAt M j = .no
      · simp only [lay] at hb
        rw [h1j j hl] at hb
        exact ⟨hb, fun j' h => by cases h; exact hl⟩
      · obtain ⟨d, h1, _⟩ := hlent j hl
        simp only [lay, h1, It.res] at hb
        exact hb.elim
  have hfr1 : ∀ b, FrF φ L b → FrF φ (lay F1 ρ1 (lst c.pre)) b := fun b hb => ⟨hb.1, fun k hk => hb.2 k (hsub k b hk).1⟩
  let ψ1 : Nat → Prop := fun b => ∀ k, ¬ (lay F1 ρ1 (lst c.pre) k).blk b
  have M1 : MemF φ ψ1 w w (lay F1 ρ1 (lst c.pre)) := by
    refine ⟨Kept.refl _ _, fun b hb => MM.fresh b (Nat.le_trans MM.size hb), fun k => ?_, fun k k' b hkk h1 h2 => MM.dis k k' b hkk (hsub k b h1).1 (hsub k' b h2).1, fun k b h1 => .inr fun h => h k h1, fun k b h1 => MM.ph k b (hsub k b h1).1⟩
    cases k with
    | inl i => exact Rs.snap_holds (show (F i).holds w _ from by rw [← hLi i]; exact MM.holds (.inl i))
    | inr j =>
      by_cases hl : lnAt M j = .no
      · simp only [lay]
        rw [h1j j hl]
        exact Rs.keep (MM.holds (.inr j)) (Agr.mono fun b _ hf => hfr1 b hf) fun _ _ => rfl
      · obtain ⟨d, h1, h2, h3⟩ := hlent j hl
        have hh := MM.holds (.inr j)
        have hown : ∀ b, (L (.inr j)).blk b → FrF φ (lay F1 ρ1 (lst c.pre)) b := fun b hb => ⟨MM.ph _ _ hb, fun k hk => by
          obtain ⟨q1, q2⟩ := hsub k b hk
          by_cases e : k = .inr j
          · exact hl (q2 j e)
          · exact MM.dis k (.inr j) b e q1 hb⟩
        simp only [lay, h1, It.res]
        refine ⟨RD.nice _ _, ?_⟩
        rcases h3 with ⟨e, h3, hflat⟩ | h3
        · rw [hLj, h3, h1] at hh
          simp only [lendIt, It.res] at hh
          obtain ⟨_, xs, o1, o2⟩ := hh
          have e1 : ρ1 j = ρ j := by rw [hρ1, h3]; rfl
          rw [e1]
          refine RD.make (owns_rowF o1 fun g hg => hown g ?_) (flat_rw hflat o2)
          rw [hLj, h3, h1]; exact hg
        · rw [hLj, h3, h1] at hh
          simp only [lendIt, It.res] at hh
          have e1 : ρ1 j = valOf (ρ j) := by rw [hρ1, h3]; rfl
          rw [e1]
          refine TreeO.read hh.2.1 fun b hb => hown b ?_
          rw [hLj, h3, h1]; exact hb
  simp only
  rw [AV.vals_tr hρ1 c.args hargs]
  refine (hc ι φ ψ1 w w F1 ρ1 M1).mono ?_
  rintro x w' ⟨ρ2, g1, g2, M2⟩
  have hplen : (lendL M c.pre).length = c.pre.length := by simp [lendL]
  let ρ' : Nat → Value := fun j => if j < c.pre.length then ρ j else ρ2 j
  have hρ' : ∀ j, ρ2 j = if (lnAt M j).isT then valOf (ρ' j) else ρ' j := fun j => by
    show _ = if (lnAt M j).isT then valOf (if j < c.pre.length then ρ j else ρ2 j) else (if j < c.pre.length then ρ j else ρ2 j)
    rcases Nat.lt_or_ge j c.pre.length with h | h
    · rw [if_pos h, g1 j h]
    · rw [hno j h]
      exact (if_neg (Nat.not_lt.2 h)).symm
  have hρo : ∀ j, lnAt M j ≠ .no → ρ' j = ρ j := fun j hj => by
    rcases Nat.lt_or_ge j c.pre.length with h | h
    · exact if_pos h
    · exact absurd (hno j h) hj
  refine ⟨ρ', fun i hi => if_pos (by rw [hplen] at hi; exact hi), by rw [AV.val_tr hρ' c.res hres]; exact g2, ?_⟩
  have hL'j : ∀ j, lay F ρ' (lst (lendL M c.post)) (.inr j) = (lendIt M (lnAt M j) (lst c.post j)).res ρ' j := fun j => by simp only [lay]; rw [lst_lend]
  have hL'i : ∀ i, lay F ρ' (lst (lendL M c.post)) (.inl i) = F i := fun _ => rfl
  generalize hL' : lay F ρ' (lst (lendL M c.post)) = L' at hL'j hL'i
  have hL2j : ∀ j, lnAt M j = .no → L' (.inr j) = lay F1 ρ2 (lst c.post) (.inr j) := fun j hl => by
    rw [hL'j, hl]
    have hp := hpo j
    have e : ρ2 j = ρ' j := by rw [hρ', hl]; rfl
    simp only [lay]
    cases hx : lst c.post j with
    | none => rfl
    | dead => rfl
    | dat d => simp only [lendIt, It.res]; rw [e]
    | row e' d => simp only [lendIt, It.res]; rw [e]
    | tree d => simp only [lendIt, It.res]; rw [e]
    | kept e' d => cases e' <;> (simp only [lendIt, It.res]; rw [e])
    | box cs =>
      rw [hl, hx] at hp
      simp only [lnOk] at hp
      simp only [lendIt, It.res]
      rw [e, AV.vals_tr hρ' cs hp]
  have hlj : ∀ j, lnAt M j ≠ .no → L' (.inr j) = L (.inr j) := fun j hl => by
    obtain ⟨d, h1, h2, h3⟩ := hlent j hl
    rw [hL'j, hLj, h1, h2]
    rcases h3 with ⟨e, h3, _⟩ | h3
    · rw [h3]; simp only [lendIt, It.res]; rw [hρo j hl]
    · rw [h3]; simp only [lendIt, It.res]; rw [hρo j hl]
  -- where what stands behind lies
  have hin : ∀ b, b < w.heap.size → ¬ ψ1 b → ∃ k, (L k).blk b ∧ ∀ j, k = .inr j → lnAt M j = .no := fun b _ hn => by
    obtain ⟨k, hk⟩ := Classical.not_forall.1 hn
    exact ⟨k, hsub k b (Classical.not_not.1 hk)⟩
  have hnew : ∀ k b, (∀ j, k = .inr j → lnAt M j = .no) → (lay F1 ρ2 (lst c.post) k).blk b → b < w.heap.size → ∃ k', (L k').blk b ∧ ∀ j, k' = .inr j → lnAt M j = .no := fun k b _ hb hlt => by
    rcases M2.ge k b hb with h | h
    · omega
    · exact hin b hlt h
  have hback : ∀ k b, (L' k).blk b → b < w.heap.size → ∃ k', (L k').blk b := fun k b hb hlt => by
    cases k with
    | inl i => rw [hL'i] at hb; exact ⟨.inl i, by rw [hLi]; exact hb⟩
    | inr j =>
      by_cases hl : lnAt M j = .no
      · rw [hL2j j hl] at hb
        obtain ⟨k', h1, _⟩ := hnew (.inr j) b (fun j' h => by cases h; exact hl) hb hlt
        exact ⟨k', h1⟩
      · rw [hlj j hl] at hb; exact ⟨_, hb⟩
  have hsame : ∀ b, b < w.heap.size → ψ1 b → w'.heap[b]? = w.heap[b]? := fun b h1 h2 => M2.kept.block b h1 h2
  have hagr : Agr (FrF φ L) (FrF φ L') w w' := ⟨M2.kept.size, fun b hb hf => ⟨⟨hf.1, fun k hk => let ⟨k', h1⟩ := hback k b hk hb; hf.2 k' h1⟩, hsame b hb fun k hk => (hfr1 b hf).2 k hk⟩⟩
  have hlsame : ∀ j, lnAt M j ≠ .no → ∀ b, (L (.inr j)).blk b → w'.heap[b]? = w.heap[b]? := fun j hl b hb => hsame b (MM.lt hb) fun k hk => by
    obtain ⟨q1, q2⟩ := hsub k b hk
    by_cases e : k = .inr j
    · exact hl (q2 j e)
    · exact MM.dis k (.inr j) b e q1 hb
  have hcross : ∀ j k b, lnAt M j ≠ .no → (∀ j, k = .inr j → lnAt M j = .no) → (L (.inr j)).blk b → ¬ (lay F1 ρ2 (lst c.post) k).blk b := fun j k b hl hk h1 h2 => by
    obtain ⟨k', h3, h4⟩ := hnew k b hk h2 (MM.lt h1)
    exact MM.dis k' (.inr j) b (fun e => hl (h4 j e)) h3 h1
  refine ⟨⟨M2.kept.os.trans MM.kept.os, M2.kept.tape.trans MM.kept.tape, M2.kept.output.trans MM.kept.output, Nat.le_trans MM.size M2.kept.size, fun b hb hp => (hsame b (Nat.lt_of_lt_of_le hb MM.size) fun k hk => ?_).trans (MM.kept.block b hb hp)⟩, MM.fresh, fun k => ?_, fun k k' b hkk h1 h2 => ?_, fun k b h1 => ?_, fun k b h1 => ?_⟩
  · rcases MM.ge k b (hsub k b hk).1 with h | h
    · omega
    · exact h hp
  · cases k with
    | inl i =>
      rw [hL'i, ← hLi i]
      refine Rs.keep (MM.holds (.inl i)) hagr fun b hb => ?_
      have := (M2.holds (.inl i)).2.1 b (by rw [← hLi i]; exact hb) (MM.lt hb)
      exact this
    | inr j =>
      by_cases hl : lnAt M j = .no
      · have hh := M2.holds (.inr j)
        rw [← hL2j j hl] at hh
        have hp := hpo j
        rw [hl] at hp
        cases hx : lst c.post j with
        | none => rw [hL'j, hl, hx]; exact Rs.none_holds _ _
        | dead => rw [hL'j, hl, hx]; exact Rs.none_holds _ _
        | box cs => rw [hL'j, hl, hx] at hh ⊢; exact hh
        | tree d => rw [hL'j, hl, hx] at hh ⊢; exact hh
        | kept e' d => rw [hx] at hp; exact absurd hp (by simp [lnOk])
        | row e d =>
          rw [hx] at hp
          simp only [lnOk] at hp
          rw [hL'j, hl, hx] at hh ⊢
          simp only [lendIt, It.res] at hh ⊢
          obtain ⟨_, xs, o1, o2⟩ := hh
          exact ⟨fun xs => RW.nice d xs, xs, o1, flat_rw hp o2⟩
        | dat d =>
          rw [hx] at hp
          simp only [lnOk] at hp
          split at hp
          · rename_i d' hpx
            have hd : d' = d := datP_at he hpx hx
            subst hd
            have e : L' (.inr j) = L (.inr j) := by
              rw [hL'j, hLj, hl, hx, hpx]
              simp only [lendIt, It.res]
              have : j < c.pre.length := by
                rcases Nat.lt_or_ge j c.pre.length with h | h
                · exact h
                · rw [lst_out h] at hpx; cases hpx
              rw [show ρ' j = ρ j from if_pos this]
            rw [e]
            refine Rs.keep (MM.holds (.inr j)) hagr fun b hb => ?_
            rw [hLj, hl, hpx] at hb
            exact hb.elim
          · cases hp
      · rw [hlj j hl]
        exact Rs.keep (MM.holds (.inr j)) hagr fun b hb => hlsame j hl b hb
  · have key : ∀ k, (∃ j, k = .inr j ∧ lnAt M j ≠ .no ∧ (L' k) = L k) ∨ ((∀ j, k = .inr j → lnAt M j = .no) ∧ ∀ b, (L' k).blk b → (lay F1 ρ2 (lst c.post) k).blk b) := fun k => by
      cases k with
      | inl i => exact .inr ⟨(fun j h => by cases h), fun b hb => by rw [hL'i] at hb; exact hb⟩
      | inr j =>
        by_cases hl : lnAt M j = .no
        · exact .inr ⟨fun j' h => by cases h; exact hl, fun b hb => by rw [hL2j j hl] at hb; exact hb⟩
        · exact .inl ⟨j, rfl, hl, hlj j hl⟩
    rcases key k with ⟨j, rfl, k1, k2⟩ | ⟨k1, k2⟩ <;> rcases key k' with ⟨j', rfl, k3, k4⟩ | ⟨k3, k4⟩
    · rw [k2] at h1; rw [k4] at h2; exact MM.dis _ _ b hkk h1 h2
    · rw [k2] at h1; exact hcross j k' b k1 k3 h1 (k4 b h2)
    · rw [k4] at h2; exact hcross j' k b k3 k1 h2 (k2 b h1)
    · exact M2.dis k k' b hkk (k2 b h1) (k4 b h2)
  · cases k with
    | inl i => rw [hL'i, ← hLi i] at h1; exact MM.ge _ b h1
    | inr j =>
      by_cases hl : lnAt M j = .no
      · rw [hL2j j hl] at h1
        rcases Nat.lt_or_ge b w.heap.size with hlt | hge
        · obtain ⟨k', h2, _⟩ := hnew (.inr j) b (fun j' h => by cases h; exact hl) h1 hlt
          exact MM.ge k' b h2
        · exact .inl (Nat.le_trans MM.size hge)
      · rw [hlj j hl] at h1; exact MM.ge _ b h1
  · cases k with
    | inl i => rw [hL'i, ← hLi i] at h1; exact MM.ph _ b h1
    | inr j =>
      by_cases hl : lnAt M j = .no
      · rw [hL2j j hl] at h1; exact M2.ph _ b h1
      · rw [hlj j hl] at h1; exact MM.ph _ b h1

def keepIt (M : List Ln) : Ln → It → It
  | .row e, .dat d => .kept (some e) d
  | .tree, .dat d => .kept none d
  | .no, .box cs => .box (AV.trL M cs)
  | _, x => x
def keepL (M : List Ln) (S : List It) : List It := (List.range S.length).map fun i => keepIt M (lnAt M i) (lst S i)
theorem lst_keep (M : List Ln) (S : List It) (i : Nat) : lst (keepL M S) i = keepIt M (lnAt M i) (lst S i) := by
  unfold keepL
  rcases Nat.lt_or_ge i S.length with h | h
  · conv => lhs; rw [lst, List.getD_eq_getElem?_getD, List.getElem?_map, List.getElem?_range h]
    rfl
  · rw [lst_out (by simpa using h), lst_out h]
    cases lnAt M i <;> rfl
theorem Ctr.lend {P : Program} {c : Ctr} (hc : c.ok P) (M : List Ln) (hb : lendB M c = true := by kernel_rfl) (he : datP c.pre c.post = datQ c.pre c.post := by kernel_rfl) : Ctr.ok P ⟨c.f, AV.trL M c.args, lendL M c.pre, keepL M c.post, c.res.tr M⟩ :=
  Ctr.okPost (Ctr.lend0 hc M hb he) _ fun ρ i => by
    simp only
    rw [lst_keep, lst_lend]
    cases lnAt M i <;> cases lst c.post i <;> rfl


section
variable {P : Program} {ι κ : Type} {φ ψ : Nat → Prop} {w0 w : World} {F : ι → Rs} {ρ ρ0 : Nat → Value} {N m n : Nat} {S : List It} {tm : List (Nat × AV)} {a : Act}

end
end Go.Proofs.Ytimmlkmpbmbgdaa

namespace Go.Proofs.Ytimmlkmpbmbgdaa
set_option linter.unusedVariables false
set_option linter.unusedSimpArgs false

def arity (k : Int) : Int := if k = 1 ∨ k = 2 then 0 else if k = 3 then 1 else if 4 ≤ k ∧ k ≤ 10 then 2 else if k = 11 then 3 else -1
def limit (nv na : Nat) (k : Int) : Int := if k = 1 then 256 else if k = 2 then nv else if k = 3 then na else 1
def atomB (e : LExpr) : Bool := decide (e.kind = 1) || decide (e.kind = 2)
def nodeB (nv na : Nat) (e : LExpr) : Bool := decide ((e.kids.length : Int) = arity e.kind) && decide (0 ≤ e.value) && decide (e.value < limit nv na e.kind)
def readB (e : LExpr) : Bool := decide (e.kind ≠ 3) || (match e.kids with | k :: _ => atomB k | [] => false)
def shapeB (nv na : Nat) : Nat → LExpr → Bool
  | 0, _ => false
  | d + 1, e => nodeB nv na e && e.kids.all (shapeB nv na d) && readB e
def rightB (nv na : Nat) (e : LExpr) : Bool := shapeB nv na 5 e && decide (1 + szE e ≤ 15)
theorem szE_kids (e : LExpr) : szE e = szEs e.kids := by cases e; rfl

def scanB (nv na : Nat) (d c : Nat) (e : LExpr) : Bool := shapeB nv na d e && decide (c + 1 + szE e ≤ 15)
def scanPre (nv na : Nat) (d c : Nat) (ks : List LExpr) (k : Nat) : Bool := (ks.take k).all (shapeB nv na d) && decide (c + szEs (ks.take k) ≤ 15)
theorem szEs_take {ks : List LExpr} {k : Nat} (h : k < ks.length) : szEs (ks.take (k + 1)) = szEs (ks.take k) + (1 + szE ks[k]) := by
  rw [p_take_succ _ _ h, szEs_append]
  simp [szEs]
theorem szEs_take_le (ks : List LExpr) (k : Nat) : szEs (ks.take k) ≤ szEs ks := by
  have := szEs_append (ks.take k) (ks.drop k)
  rw [List.take_append_drop] at this
  omega
theorem scanPre_succ (nv na : Nat) {d c : Nat} {ks : List LExpr} {k : Nat} (h : k < ks.length) : scanPre nv na d c ks (k + 1) = (scanPre nv na d c ks k && scanB nv na d (c + szEs (ks.take k)) ks[k]) := by
  unfold scanPre scanB
  rw [szEs_take h, p_take_succ _ _ h, List.all_append]
  simp only [List.all_cons, List.all_nil, Bool.and_true]
  rw [Bool.eq_iff_iff]
  simp only [Bool.and_eq_true, decide_eq_true_eq]
  constructor
  · rintro ⟨⟨h1, h2⟩, h3⟩; exact ⟨⟨h1, by omega⟩, h2, by omega⟩
  · rintro ⟨⟨h1, _⟩, h3, h4⟩; exact ⟨⟨h1, h3⟩, by omega⟩
theorem scanPre_fail (nv na : Nat) {d c : Nat} {ks : List LExpr} {k : Nat} (h : k < ks.length) (hs : scanB nv na d (c + szEs (ks.take k)) ks[k] = false) : (ks.all (shapeB nv na d) && decide (c + szEs ks ≤ 15)) = false := by
  rw [Bool.eq_false_iff]
  intro ht
  simp only [Bool.and_eq_true, decide_eq_true_eq, List.all_eq_true] at ht
  have h1 := ht.1 _ (List.getElem_mem h)
  have h2 := szEs_take_le ks (k + 1)
  rw [szEs_take h] at h2
  unfold scanB at hs
  rw [h1] at hs
  simp at hs
  omega

def noneB (e : LExpr) : Bool := decide (e.kind = 0) && decide (e.value = 0) && decide (e.kids.length = 0)

def partsB (s : LStmt) : Bool :=
  if (s.kind = 3 ∨ s.kind = 4) then
    decide (s.target = 0) && (if s.kind = 4 then decide (s.els.length = 0) && decide (1 ≤ s.count) && decide (s.count ≤ 3) && noneB s.index && noneB s.value
      else decide (s.count = 0) && noneB s.index)
  else decide (s.body.length = 0) && decide (s.els.length = 0) && decide (s.count = 0) && (decide (s.kind = 2) || noneB s.index)
def stmtB (nv na : Nat) : Nat → LStmt → Bool
  | 0, _ => false
  | d + 1, s => partsB s &&
    (if s.kind = 1 ∨ s.kind = 5 then decide (0 ≤ s.target) && decide (s.target < nv) && rightB nv na s.value
     else if s.kind = 2 then decide (0 ≤ s.target) && decide (s.target < na) && rightB nv na s.index && atomB s.index && rightB nv na s.value
     else if s.kind = 3 then rightB nv na s.value && s.body.all (stmtB nv na d) && s.els.all (stmtB nv na d)
     else if s.kind = 4 then s.body.all (stmtB nv na d)
     else false)
def blockB (nv na : Nat) (d : Nat) (ss : List LStmt) : Bool := ss.all (stmtB nv na d)
mutual
/-- How many statements there are. -/
def nS : LStmt → Nat
  | ⟨_, _, _, _, _, b, e⟩ => 1 + nSs b + nSs e
def nSs : List LStmt → Nat
  | [] => 0
  | s :: r => nS s + nSs r
end
def progB (p : LProg) : Bool := headsB p.vars p.arrays && blockB p.vars.length p.arrays.length 5 p.body && decide (nSs p.body ≤ 60)

end Go.Proofs.Ytimmlkmpbmbgdaa

namespace Go.Proofs.Ytimmlkmpbmbgdaa
set_option linter.unusedVariables false
set_option linter.unusedSimpArgs false
open Go Go.RowKit

def dkP (t : TypeId) : Nat :=
  if natEq t 3 then 1 else
  if natEq t 4 then 2 else
  if natEq t 5 then 3 else
  if natEq t 9 then 4 else
 if natEq t 50 then 5 else
  if natEq t 22 then 7 else
 if natEq t 58 then 9 else
 if natEq t 60 then 10 else
  0
abbrev eA (e : LExpr) (r : Nat) : AV := .agg [.v (.int .i64 e.kind), .v (.int .i64 e.value), .ref r]
abbrev eS (e : LExpr) : List It := [.dat (.exprs e.kids)]
abbrev sA (s : LStmt) (r : Nat) : AV := .agg [.v (.int .i64 s.kind), .v (.int .i64 s.target), .v (.int .i64 s.index.kind), .v (.int .i64 s.index.value), .ref r, .v (.int .i64 s.value.kind), .v (.int .i64 s.value.value), .ref (r + 1), .v (.int .i64 s.count), .ref (r + 2), .ref (r + 3)]
abbrev sS (s : LStmt) : List It := [.dat (.exprs s.index.kids), .dat (.exprs s.value.kids), .dat (.stmts s.body), .dat (.stmts s.els)]
abbrev pA (r : Nat) : AV := .agg [.ref r, .ref (r + 1), .ref (r + 2)]
abbrev pS (p : LProg) : List It := [.dat (.ints p.vars), .dat (.ints p.arrays), .dat (.stmts p.body)]
abbrev iA (n : Int) : AV := .v (.int .i64 n)
abbrev bA (b : Bool) : AV := .v (.bool b)
abbrev fnC (f : FuncId) (args : List AV) (S : List It) (res : AV) : Ctr := ⟨f, args, S, S, res⟩

abbrev dI (l : List Int) : It := .dat (.ints l)
abbrev dN (l : List LIns) : It := .dat (.instrs l)
abbrev dE (l : List LExpr) : It := .dat (.exprs l)
abbrev dT (l : List LStmt) : It := .dat (.stmts l)
abbrev eL (e : LExpr) (r : Nat) : List AV := [.v (.int .i64 e.kind), .v (.int .i64 e.value), .ref r]
abbrev sL (s : LStmt) (r : Nat) : List AV := [.v (.int .i64 s.kind), .v (.int .i64 s.target), .v (.int .i64 s.index.kind), .v (.int .i64 s.index.value), .ref r, .v (.int .i64 s.value.kind), .v (.int .i64 s.value.value), .ref (r + 1), .v (.int .i64 s.count), .ref (r + 2), .ref (r + 3)]
abbrev pL (r : Nat) : List AV := [.ref r, .ref (r + 1), .ref (r + 2)]
section
variable {P : Program} {ι : Type} {φ ψ : Nat → Prop} {w0 w w' : World} {F : ι → Rs} {ρ ρ0 : Nat → Value} {N m n : Nat} {S : List It} {tm : List (Nat × AV)} {a : Act} {Q : Exit → Act → World → Prop}
theorem rs0 {l : List Oper} {id : Nat} (G : Gam φ ψ w0 F N m ρ0 ρ S tm a w) (js : List Nat) (S1 : List It) (tm1 : List (Nat × AV)) (k : ∀ ρ' a' w', Gam φ ψ w0 F N m ρ0 ρ' S1 tm1 a' w' → Q .normal a' w')
    (hs : ((runA P dkP N l ⟨[], [], []⟩ l 0 tm (lst S) S.length).isSome && selB m js S1 tm1) = true := by kernel_rfl)
    (hc : outL (runA P dkP N l ⟨[], [], []⟩ l 0 tm (lst S) S.length) js (tm1.map (·.1)) = outR (runA P dkP N l ⟨[], [], []⟩ l 0 tm (lst S) S.length) [] js S1 tm1 := by kernel_rfl) : (Code.region id l.toArray false).wp P Q a w := rx_seq G ⟨[], [], []⟩ calls_nil trivial js S1 tm1 [] hs hc trivial k
theorem rs0s {l : List Oper} {id : Nat} (G : Gam φ ψ w0 F N m ρ0 ρ S tm a w) (tm1 : List (Nat × AV)) (k : ∀ ρ' a' w', Gam φ ψ w0 F N m ρ0 ρ' S tm1 a' w' → Q .normal a' w')
    (hs : ((runA P dkP N l ⟨[], [], []⟩ l 0 tm (lst S) S.length).isSome && selB m (List.range S.length) S tm1) = true := by kernel_rfl)
    (hc : outL (runA P dkP N l ⟨[], [], []⟩ l 0 tm (lst S) S.length) (List.range S.length) (tm1.map (·.1)) = outR (runA P dkP N l ⟨[], [], []⟩ l 0 tm (lst S) S.length) [] (List.range S.length) S tm1 := by kernel_rfl) : (Code.region id l.toArray false).wp P Q a w := rs0 G _ S tm1 k hs hc
theorem rs1s {l : List Oper} {id : Nat} (G : Gam φ ψ w0 F N m ρ0 ρ S tm a w) (H : Hint) (hH : ∀ i c τ, hcall H.calls i = some (c, τ) → c.ok P) (hF : Facts H.facts) (tm1 : List (Nat × AV)) (obs : List Prop)
    (ho : AllP obs) (k : ∀ ρ' a' w', Gam φ ψ w0 F N m ρ0 ρ' S tm1 a' w' → Q .normal a' w')
    (hs : ((runA P dkP N l H l 0 tm (lst S) S.length).isSome && selB m (List.range S.length) S tm1) = true := by kernel_rfl)
    (hc : outL (runA P dkP N l H l 0 tm (lst S) S.length) (List.range S.length) (tm1.map (·.1)) = outR (runA P dkP N l H l 0 tm (lst S) S.length) obs (List.range S.length) S tm1 := by kernel_rfl) : (Code.region id l.toArray false).wp P Q a w := rs1 G H hH hF _ S tm1 obs ho k hs hc
theorem rd1s {l : List Oper} {id : Nat} (G : Gam φ ψ w0 F N m ρ0 ρ S tm a w) (H : Hint) (hH : ∀ i c τ, hcall H.calls i = some (c, τ) → c.ok P) (hF : Facts H.facts) (ms : List Nat) (tm1 : List (Nat × AV)) (obs : List Prop)
    (ho : AllP obs) (k : ∀ ρ' a' w', Gam φ ψ w0 F N m ρ0 ρ' S tm1 a' w' → Q .normal a' w') (hm : P.follows .mixedOrders = true := by kernel_rfl)
    (hs : (drawB l ms S.length (runA P dkP N l H l 0 tm (lst S) S.length) && selB m (List.range S.length) S tm1) = true := by kernel_rfl)
    (hc : outL (runA P dkP N l H l 0 tm (lst S) S.length) (List.range S.length) (tm1.map (·.1)) = outR (runA P dkP N l H l 0 tm (lst S) S.length) obs (List.range S.length) S tm1 := by kernel_rfl) : (Code.region id l.toArray true).wp P Q a w := rd1 G H hH hF ms _ S tm1 obs ho k hm hs hc
end


theorem spec_LabelValid (l : Int) (w : World) : Calls Try.prog 90 #[.int .i64 l] w fun e w' => e = .returned (.bool (labOk l)) ∧ w = w' := by
  go_enter Try.func90, Try.ntmps90
  go_wp2
  all_goals go_ret
  all_goals exact ⟨ret_bool (by simp [labOk]; try omega), rfl⟩

set_option maxHeartbeats 1000000 in
theorem spec_l2Heads (v1 v2 v3 : Value) (vars arrays : List Int) (w : World) (h1 : Row w v1 vars.length 1 (ints vars)) (h2 : Row w v2 arrays.length 1 (ints arrays)) :
    Calls Try.prog 119 #[.agg #[v1, v2, v3]] w fun e w' => e = .returned (.bool (headsB vars arrays)) ∧ Below w.heap.size w w' := by
  have B0 : Below w.heap.size w (w.alloc (.cells #[v1, v2, v3] 31)) := by go_grown
  obtain ⟨a1, c1, rfl, -, hm1, -, hc1⟩ := (h1.below B0).open1
  obtain ⟨a2, c2, rfl, -, hm2, -, hc2⟩ := (h2.below B0).open1
  have HT : Hid (headsB vars arrays = (vars.all labOk && arrays.all labOk && decide (1 ≤ vars.length) && decide (vars.length ≤ 12) && decide (arrays.length ≤ 2))) := rfl
  clear h1 h2
  go_enter Try.func119, Try.ntmps119
  go_wp2_with fail
  go_loop [3] (fun i => ∃ k : Nat, k ≤ vars.length ∧ i = .int .i64 k ∧ (vars.take k).all labOk = true) (fun i => vars.length - (intOf i).toNat)
  case atStart => exact ⟨0, Nat.zero_le _, rfl, rfl⟩
  case round =>
    obtain ⟨k, hk, rfl, ha⟩ := hrel
    have HA := show Hid _ from ha
    clear ha
    by_cases hlt : k < vars.length
    · obtain ⟨b1, o1, rfl, hb1, hx⟩ := hc1 k hlt
      rw [ints_get _ _ hlt] at hx
      have HS := show Hid _ from all_take_succ labOk vars k hlt
      clear hc1 hc2
      cases hl : labOk vars[k]
      all_goals
        have HL := show Hid _ from hl
        clear hl
        go_wp2_with fail
        refine (spec_LabelValid _ _).mono ?_
        rintro e w1 ⟨rfl, rfl⟩
        rw [HL.out]
        go_wp2_with fail
      · go_ret
        exact ⟨ret_bool (by rw [HT.out, not_all hlt HL.out]; rfl), B0⟩
      · go_round
        case rel => exact ⟨k + 1, by omega, by go_num, by rw [HS.out, HA.out, HL.out]; rfl⟩
        case measure => simp [intOf]; omega
    · have HA' := show Hid (vars.all labOk = true) from by have := HA.out; rwa [List.take_of_length_le (by omega)] at this
      clear HA hc1
      go_wp2_with fail
      go_loop [4] (fun i => ∃ k : Nat, k ≤ arrays.length ∧ i = .int .i64 k ∧ (arrays.take k).all labOk = true) (fun i => arrays.length - (intOf i).toNat)
      case atStart => exact ⟨0, Nat.zero_le _, rfl, rfl⟩
      case round =>
        obtain ⟨j, hj, rfl, ha⟩ := hrel
        have HB := show Hid _ from ha
        clear ha
        by_cases hlj : j < arrays.length
        · obtain ⟨b1, o1, rfl, hb1, hx⟩ := hc2 j hlj
          rw [ints_get _ _ hlj] at hx
          have HS := show Hid _ from all_take_succ labOk arrays j hlj
          clear hc2
          cases hl : labOk arrays[j]
          all_goals
            have HL := show Hid _ from hl
            clear hl
            go_wp2_with fail
            refine (spec_LabelValid _ _).mono ?_
            rintro e w1 ⟨rfl, rfl⟩
            rw [HL.out]
            go_wp2_with fail
          · go_ret
            exact ⟨ret_bool (by rw [HT.out, not_all hlj HL.out]; simp), B0⟩
          · go_round
            case rel => exact ⟨j + 1, by omega, by go_num, by rw [HS.out, HB.out, HL.out]; rfl⟩
            case measure => simp [intOf]; omega
        · have HB' := show Hid (arrays.all labOk = true) from by have := HB.out; rwa [List.take_of_length_le (by omega)] at this
          clear HB hc2
          go_wp2_with fail
          all_goals go_ret
          all_goals refine ⟨ret_bool ?_, B0⟩
          all_goals rw [HT.out, HA'.out, HB'.out]
          all_goals rw [Bool.eq_iff_iff]
          all_goals simp
          all_goals omega


theorem spec_l2Arity (k : Int) (w : World) : Calls Try.prog 175 #[.int .i64 k] w fun e w' => e = .returned (.int .i64 (arity k)) ∧ w = w' := by
  go_enter Try.func175, Try.ntmps175
  go_wp2
  all_goals
    go_ret
    exact ⟨ret_int (by unfold arity; (repeat' split) <;> simp_all <;> omega), rfl⟩

theorem spec_l2Atom (k n : Int) (kv : Value) (w : World) : Calls Try.prog 165 #[.agg #[.int .i64 k, .int .i64 n, kv]] w fun e w' => e = .returned (.bool (decide (k = 1) || decide (k = 2))) ∧ Below w.heap.size w w' := by
  by_cases h1 : k = 1
  · have p1 : (k == 1) = true := by simp [h1]
    have Q := show Hid _ from h1
    clear h1
    go_enter Try.func165, Try.ntmps165
    go_wp2
    go_ret
    exact ⟨ret_bool (by simp [Q.out]), by go_grown⟩
  · have p1 : (k == 1) = false := by simp [h1]
    have Q := show Hid _ from h1
    clear h1
    by_cases h2 : k = 2
    · have p2 : (k == 2) = true := by simp [h2]
      have Q2 := show Hid _ from h2
      clear h2
      go_enter Try.func165, Try.ntmps165
      go_wp2
      go_ret
      exact ⟨ret_bool (by simp [Q2.out]), by go_grown⟩
    · have p2 : (k == 2) = false := by simp [h2]
      have Q2 := show Hid _ from h2
      clear h2
      go_enter Try.func165, Try.ntmps165
      go_wp2
      go_ret
      exact ⟨ret_bool (by rw [decide_eq_false Q.out, decide_eq_false Q2.out]; rfl), by go_grown⟩

theorem spec_l2Limit (a1 a2 : Option Addr) (nv c1 na c2 : Nat) (v3 : Value) (k : Int) (w : World) (h1 : nv ≤ 9223372036854775807) (h2 : na ≤ 9223372036854775807) :
    Calls Try.prog 176 #[.agg #[.slice a1 nv c1, .slice a2 na c2, v3], .int .i64 k] w fun e w' => e = .returned (.int .i64 (limit nv na k)) ∧ Below w.heap.size w w' := by
  go_enter Try.func176, Try.ntmps176
  go_wp2
  all_goals
    go_ret
    exact ⟨ret_int (by unfold limit; (repeat' split) <;> simp_all), by go_grown⟩


theorem readB_get {e : LExpr} (h3 : e.kind = 3) (hl : 0 < e.kids.length) : readB e = (decide (e.kids[0].kind = 1) || decide (e.kids[0].kind = 2)) := by
  rcases e with ⟨k, n, ks⟩
  cases ks with
  | nil => simp [LExpr.kids] at hl
  | cons a r =>
    have h3' : k = 3 := h3
    subst h3'
    simp only [readB, LExpr.kids, List.getElem_cons_zero, atomB]
    rw [decide_eq_false (by simp [LExpr.kind])]
    rfl

set_option maxRecDepth 100000 in
set_option maxHeartbeats 8000000 in
theorem spec_l2Shape (a1 a2 : Option Addr) (nv c1 na c2 : Nat) (v3 : Value) (h1 : nv ≤ 9223372036854775807) (h2 : na ≤ 9223372036854775807) : ∀ d : Nat, d ≤ 5 → ∀ (e : LExpr) (φ : Nat → Prop) (v : Value) (w : World), ExprV w φ v e →
    Calls Try.prog 171 #[.agg #[.slice a1 nv c1, .slice a2 na c2, v3], v, .int .i64 d] w fun x w' => x = .returned (.bool (shapeB nv na d e)) ∧ Below w.heap.size w w' := by
  intro d
  induction d with
  | zero =>
    intro _ e φ v w h
    obtain ⟨kv, rfl, hk⟩ := h
    have HS : Hid (shapeB nv na 0 e = false) := rfl
    obtain ⟨W, hW, M⟩ : ∃ W, W = (w.alloc (.cells #[.slice a1 nv c1, .slice a2 na c2, v3] 31)).alloc (.cells #[.int .i64 e.kind, .int .i64 e.value, kv] 58) ∧ Mem (fun _ => True) (fun _ => True) w W [.box w.heap.size [.slice a1 nv c1, .slice a2 na c2, v3], .box (w.heap.size + 1) [.int .i64 e.kind, .int .i64 e.value, kv]] :=
      ⟨_, rfl, ((Mem.start fun _ _ => trivial).box _ _).box' _ _ (by simp)⟩
    have HB := show Hid _ from M.below fun _ _ => trivial
    clear hk M
    go_enter Try.func171, Try.ntmps171
    go_wp2_with fail
    rw [← hW]
    clear hW
    refine wp_region_ext (by kernel_rfl) (by kernel_rfl) ?_
    repeat (any_goals (first | go_big_quiet_step (((fail))) | quiet_step (((fail)))))
    refine wpQuiet_nil ?_
    rintro _ ⟨X, rfl⟩
    go_wp2_with fail
    go_ret
    exact ⟨ret_bool HS.out.symm, HB.out.trans ((ext_below W X).mono HB.out.size)⟩
  | succ d ih =>
    intro hd5 e φ v w h
    obtain ⟨kv, rfl, hk⟩ := h
    obtain ⟨ak, ck, rfl, -, hn, -, hc⟩ := hk.open
    have hd0 : (d : Int) ≤ 5 := by omega
    have p0 : decide ((d : Int) + 1 < 1) = false := by simp; omega
    have HS : Hid (shapeB nv na (d + 1) e = (nodeB nv na e && e.kids.all (shapeB nv na d) && readB e)) := rfl
    obtain ⟨W, hW, M⟩ : ∃ W, W = (w.alloc (.cells #[.slice a1 nv c1, .slice a2 na c2, v3] 31)).alloc (.cells #[.int .i64 e.kind, .int .i64 e.value, .slice ak e.kids.length ck] 58) ∧ Mem (fun _ => True) (fun _ => True) w W [.box w.heap.size [.slice a1 nv c1, .slice a2 na c2, v3], .box (w.heap.size + 1) [.int .i64 e.kind, .int .i64 e.value, .slice ak e.kids.length ck]] :=
      ⟨_, rfl, ((Mem.start fun _ _ => trivial).box _ _).box' _ _ (by simp)⟩
    have HB := show Hid _ from M.below fun _ _ => trivial
    have HA : Hid (∀ X, Calls Try.prog 175 #[.int .i64 e.kind] (W.ext X) fun x w'' => x = .returned (.int .i64 (arity e.kind)) ∧ ∃ Y, w'' = W.ext Y) := fun X =>
      Calls.ext_of' ((spec_l2Arity e.kind _).mono fun x w' h => ⟨h.1, h.2 ▸ Below.refl _ _⟩)
    have HL : Hid (∀ X, Calls Try.prog 176 #[.agg #[.slice a1 nv c1, .slice a2 na c2, v3], .int .i64 e.kind] (W.ext X) fun x w'' => x = .returned (.int .i64 (limit nv na e.kind)) ∧ ∃ Y, w'' = W.ext Y) := fun X =>
      Calls.ext_of' (spec_l2Limit a1 a2 nv c1 na c2 v3 e.kind _ h1 h2)
    have HM := show Hid _ from M
    have HC := show Hid _ from hc
    have x0 := M.c 0 0 rfl rfl
    have x1 := M.c 0 1 rfl rfl
    have x2 := M.c 0 2 rfl rfl
    have y0 := M.c 1 0 rfl rfl
    have y1 := M.c 1 1 rfl rfl
    have y2 := M.c 1 2 rfl rfl
    have z0 := fun X => ext_cell x0 X
    have z1 := fun X => ext_cell x1 X
    have z2 := fun X => ext_cell x2 X
    have z3 := fun X => ext_cell y0 X
    have z4 := fun X => ext_cell y1 X
    have z5 := fun X => ext_cell y2 X
    clear hk M hc x0 x1 x2 y0 y1 y2
    by_cases q1 : (e.kids.length : Int) = arity e.kind
    case neg =>
      have p1 : ((e.kids.length : Int) != arity e.kind) = true := by simp [q1]
      have HN : Hid (nodeB nv na e = false) := by unfold Hid nodeB; simp [q1]
      clear q1
      go_enter Try.func171, Try.ntmps171
      go_wp2_with fail
      rw [← hW]
      clear hW
      refine wp_region_ext (by kernel_rfl) (by kernel_rfl) ?_
      repeat (any_goals (first | go_big_quiet_step (((first | (go_at_call 175; exact HA.out _) | (go_at_call 176; exact HL.out _)))) | quiet_step (((first | (go_at_call 175; exact HA.out _) | (go_at_call 176; exact HL.out _))))))
      refine wpQuiet_nil ?_
      rintro _ ⟨X, rfl⟩
      go_wp2_with fail
      go_ret
      exact ⟨ret_bool (by rw [HS.out, HN.out]; rfl), HB.out.trans ((ext_below W X).mono HB.out.size)⟩
    have p1 : ((e.kids.length : Int) != arity e.kind) = false := by simp [q1]
    by_cases q2 : e.value < 0
    case pos =>
      have p2 : decide (e.value < 0) = true := by simp [q2]
      have HN : Hid (nodeB nv na e = false) := by unfold Hid nodeB; simp; intro _ h; omega
      clear q1 q2
      go_enter Try.func171, Try.ntmps171
      go_wp2_with fail
      rw [← hW]
      clear hW
      refine wp_region_ext (by kernel_rfl) (by kernel_rfl) ?_
      repeat (any_goals (first | go_big_quiet_step (((first | (go_at_call 175; exact HA.out _) | (go_at_call 176; exact HL.out _)))) | quiet_step (((first | (go_at_call 175; exact HA.out _) | (go_at_call 176; exact HL.out _))))))
      refine wpQuiet_nil ?_
      rintro _ ⟨X, rfl⟩
      go_wp2_with fail
      go_ret
      exact ⟨ret_bool (by rw [HS.out, HN.out]; rfl), HB.out.trans ((ext_below W X).mono HB.out.size)⟩
    have p2 : decide (e.value < 0) = false := by simp; omega
    by_cases q3 : limit nv na e.kind ≤ e.value
    case pos =>
      have p3 : decide (limit nv na e.kind ≤ e.value) = true := by simp [q3]
      have HN : Hid (nodeB nv na e = false) := by unfold Hid nodeB; simp; intro _ h; omega
      clear q1 q2 q3
      go_enter Try.func171, Try.ntmps171
      go_wp2_with fail
      rw [← hW]
      clear hW
      refine wp_region_ext (by kernel_rfl) (by kernel_rfl) ?_
      repeat (any_goals (first | go_big_quiet_step (((first | (go_at_call 175; exact HA.out _) | (go_at_call 176; exact HL.out _)))) | quiet_step (((first | (go_at_call 175; exact HA.out _) | (go_at_call 176; exact HL.out _))))))
      refine wpQuiet_nil ?_
      rintro _ ⟨X, rfl⟩
      go_wp2_with fail
      go_ret
      exact ⟨ret_bool (by rw [HS.out, HN.out]; rfl), HB.out.trans ((ext_below W X).mono HB.out.size)⟩
    have p3 : decide (limit nv na e.kind ≤ e.value) = false := by simp; omega
    have HN : Hid (nodeB nv na e = true) := by unfold Hid nodeB; simp; exact ⟨⟨q1, by omega⟩, by omega⟩
    have HQ := show Hid _ from q1
    clear q1 q2 q3
    go_enter Try.func171, Try.ntmps171
    go_wp2_with fail
    rw [← hW]
    clear hW
    refine wp_region_ext (by kernel_rfl) (by kernel_rfl) ?_
    repeat (any_goals (first | go_big_quiet_step (((first | (go_at_call 175; exact HA.out _) | (go_at_call 176; exact HL.out _)))) | quiet_step (((first | (go_at_call 175; exact HA.out _) | (go_at_call 176; exact HL.out _))))))
    refine wpQuiet_nil ?_
    rintro _ ⟨X, rfl⟩
    have M := HM.out.call (ext_below W X)
    generalize W.ext X = W1 at *
    clear HA HL HM HB p1 p2 p3 z0 z1 z2 z3 z4 z5
    go_wp2_with fail
    go_loopw [7] (fun i wr => ∃ k : Nat, k ≤ e.kids.length ∧ i = .int .i64 k ∧ (e.kids.take k).all (shapeB nv na d) = true ∧ Mem (fun _ => True) (fun _ => True) w wr [.box w.heap.size [.slice a1 nv c1, .slice a2 na c2, v3], .box (w.heap.size + 1) [.int .i64 e.kind, .int .i64 e.value, .slice ak e.kids.length ck]]) (fun i _ => e.kids.length - (intOf i).toNat)
    case atStart => exact ⟨0, Nat.zero_le _, rfl, rfl, M⟩
    case round =>
      clear M
      obtain ⟨k, hk, rfl, hall, M⟩ := hrel
      have HALL := show Hid _ from hall
      clear hall
      have hB := M.below fun _ _ => trivial
      have x0 := M.c 0 0 rfl rfl
      have x1 := M.c 0 1 rfl rfl
      have x2 := M.c 0 2 rfl rfl
      have y0 := M.c 1 0 rfl rfl
      have y2 := M.c 1 2 rfl rfl
      by_cases hlt : k < e.kids.length
      · obtain ⟨b, off, kv, rfl, hbk, hf, c0, c1', c2', hkv⟩ := HC.out k hlt
        rw [← (bcell hB).1 _ _ hbk] at c0 c1' c2'
        obtain ⟨q, hq⟩ : ∃ q, q = shapeB nv na d e.kids[k] := ⟨_, rfl⟩
        have HC3 : Hid (∀ X, Calls Try.prog 171 #[.agg #[.slice a1 nv c1, .slice a2 na c2, v3], .agg #[.int .i64 e.kids[k].kind, .int .i64 e.kids[k].value, kv], .int .i64 d] (wr.ext X) fun x w'' => x = .returned (.bool q) ∧ ∃ Y, w'' = wr.ext Y) := fun X => by
          have bb := hB.trans ((ext_below wr X).mono hB.size)
          rw [hq]
          exact Calls.ext_of' (ih (by omega) _ φ _ _ ⟨kv, rfl, KidsV.nice _ _ _ _ _ _ (Agr.below bb) hkv⟩)
        have HQQ := show Hid _ from hq
        have HM := show Hid _ from M
        have j0 := fun X => ext_cell c0 X
        have j1 := fun X => ext_cell c1' X
        have j2 := fun X => ext_cell c2' X
        have z0 := fun X => ext_cell x0 X
        have z1 := fun X => ext_cell x1 X
        have z2 := fun X => ext_cell x2 X
        have z5 := fun X => ext_cell y2 X
        have hlt' : (k : Int) < e.kids.length := by omega
        clear hkv hq c0 c1' c2' x0 x1 x2 y0 M hB
        cases q
        · go_wp2_with fail
          refine wp_region_ext (by kernel_rfl) (by kernel_rfl) ?_
          repeat (any_goals (first | go_big_quiet_step (((go_at_call 171; exact HC3.out _))) | quiet_step (((go_at_call 171; exact HC3.out _)))))
          refine wpQuiet_nil ?_
          rintro _ ⟨X, rfl⟩
          go_wp2_with fail
          go_ret
          have M := HM.out.call (ext_below wr X)
          refine ⟨ret_bool ?_, M.below fun _ _ => trivial⟩
          have h9 : e.kids.all (shapeB nv na d) = false := List.all_eq_false.2 ⟨_, List.getElem_mem hlt, by rw [← HQQ.out]; simp⟩
          rw [HS.out, h9, Bool.and_false, Bool.false_and]
        · go_wp2_with fail
          refine wp_region_ext (by kernel_rfl) (by kernel_rfl) ?_
          repeat (any_goals (first | go_big_quiet_step (((go_at_call 171; exact HC3.out _))) | quiet_step (((go_at_call 171; exact HC3.out _)))))
          refine wpQuiet_nil ?_
          rintro _ ⟨X, rfl⟩
          go_wp2_with fail
          refine ⟨⟨k + 1, by omega, by go_num, ?_, HM.out.call (ext_below wr X)⟩, by simp [intOf]; omega⟩
          rw [p_take_succ _ _ hlt, List.all_append, HALL.out]
          simp [← HQQ.out]
      · have hkn : k = e.kids.length := by omega
        subst hkn
        have hall := HALL.out
        rw [List.take_of_length_le (Nat.le_refl _)] at hall
        have HAL := show Hid _ from hall
        have HB := show Hid _ from hB
        have HM := show Hid _ from M
        clear hall x0 x1 x2 M hB
        by_cases q4 : e.kind = 3
        · have p4 : (e.kind != 3) = false := by simp [q4]
          have hl1 : e.kids.length = 1 := by have := HQ.out; rw [q4] at this; simp [arity] at this; omega
          have HL1 := show Hid _ from hl1
          have hpos : 0 < (e.kids.length : Int) := by omega
          obtain ⟨b, off, kv, rfl, hbk, hf, c0, c1', c2', hkv⟩ := HC.out 0 (by omega)
          rw [← (bcell HB.out).1 _ _ hbk] at c0 c1' c2'
          simp only [Nat.zero_mul, Nat.add_zero] at c0 c1' c2'
          have HR := show Hid _ from readB_get q4 (by omega)
          clear hkv q4
          go_wp2_with fail
          refine (spec_l2Atom _ _ _ _).mono ?_
          rintro x w2 ⟨rfl, b2⟩
          have B2 := show Hid _ from HB.out.trans (b2.mono HB.out.size)
          clear b2
          go_wp2_with fail
          go_ret
          exact ⟨ret_bool (by rw [HS.out, HN.out, HAL.out, HR.out]; rfl), B2.out⟩
        · have p4 : (e.kind != 3) = true := by simp [q4]
          have HR : Hid (readB e = true) := by unfold Hid readB; simp [q4]
          clear q4
          go_wp2_with fail
          go_ret
          exact ⟨ret_bool (by rw [HS.out, HN.out, HAL.out, HR.out]; rfl), HB.out⟩


theorem arity_kids {nv na d : Nat} {e : LExpr} (h : shapeB nv na (d + 1) e = true) : e.kids.length ≤ 3 ∧ ∀ x ∈ e.kids, shapeB nv na d x = true := by
  simp only [shapeB, nodeB, Bool.and_eq_true, decide_eq_true_eq, List.all_eq_true] at h
  refine ⟨?_, h.1.2⟩
  have h1 := h.1.1.1.1
  have : arity e.kind ≤ 3 := by unfold arity; (repeat' split) <;> omega
  omega
theorem szEs_bound {ks : List LExpr} {B : Nat} (h : ∀ x ∈ ks, 1 + szE x ≤ B) : szEs ks ≤ ks.length * B := by
  induction ks with
  | nil => simp [szEs]
  | cons a r ih =>
    have h1 := h a List.mem_cons_self
    have h2 := ih fun x hx => h x (List.mem_cons_of_mem _ hx)
    simp only [szEs, List.length_cons, Nat.succ_mul]; omega
theorem shape_sz (nv na : Nat) : ∀ (d : Nat) (e : LExpr), shapeB nv na d e = true → 1 + szE e ≤ 4 ^ d := by
  intro d
  induction d with
  | zero => intro e h; simp [shapeB] at h
  | succ d ih =>
    intro e h
    obtain ⟨h1, h2⟩ := arity_kids h
    have h3 := szEs_bound (ks := e.kids) fun x hx => ih x (h2 x hx)
    have h4 : e.kids.length * 4 ^ d ≤ 3 * 4 ^ d := Nat.mul_le_mul_right _ h1
    have h5 : 0 < 4 ^ d := Nat.pos_of_ne_zero (by simp)
    rw [szE_kids, Nat.pow_succ]
    omega

set_option maxRecDepth 100000 in
set_option maxHeartbeats 4000000 in
theorem spec_l2Count (nv na : Nat) : ∀ d : Nat, d ≤ 5 → ∀ (e : LExpr) (φ : Nat → Prop) (v : Value) (w : World), ExprV w φ v e → shapeB nv na d e = true →
    Calls Try.prog 172 #[v, .int .i64 d] w fun x w' => x = .returned (.int .i64 (1 + szE e : Nat)) ∧ Below w.heap.size w w' := by
  intro d
  induction d with
  | zero => intro _ e φ v w _ hs; simp [shapeB] at hs
  | succ d ih =>
    intro hd5 e φ v w h hs
    obtain ⟨kv, rfl, hk⟩ := h
    obtain ⟨ak, ck, rfl, -, hn, -, hc⟩ := hk.open
    have hd0 : (d : Int) ≤ 5 := by omega
    have hd1 : decide (0 < (d : Int) + 1) = true := decide_eq_true (by omega)
    have hsz : szEs e.kids ≤ 1024 := by
      have h1 := shape_sz nv na (d + 1) e hs
      have h2 : 4 ^ (d + 1) ≤ 4 ^ 5 := Nat.pow_le_pow_right (by omega) hd5
      rw [szE_kids] at h1; omega
    have HK := show Hid _ from (arity_kids hs).2
    obtain ⟨W, hW, M⟩ : ∃ W, W = w.alloc (.cells #[.int .i64 e.kind, .int .i64 e.value, .slice ak e.kids.length ck] 58) ∧ Mem (fun _ => True) (fun _ => True) w W [.box w.heap.size [.int .i64 e.kind, .int .i64 e.value, .slice ak e.kids.length ck]] :=
      ⟨_, rfl, (Mem.start fun _ _ => trivial).box _ _⟩
    have HC := show Hid _ from hc
    have HSZ := show Hid _ from szE_kids e
    clear hk hc hs
    go_enter Try.func172, Try.ntmps172
    go_wp2_with fail
    rw [← hW]
    clear hW
    go_loopw [5, 6] (fun q i wr => ∃ k : Nat, k ≤ e.kids.length ∧ i = .int .i64 k ∧ q = .int .i64 (1 + szEs (e.kids.take k) : Nat) ∧ Mem (fun _ => True) (fun _ => True) w wr [.box w.heap.size [.int .i64 e.kind, .int .i64 e.value, .slice ak e.kids.length ck]]) (fun _ i _ => e.kids.length - (intOf i).toNat)
    case atStart => exact ⟨0, Nat.zero_le _, rfl, rfl, M⟩
    case round =>
      clear M
      obtain ⟨k, hk, rfl, rfl, M⟩ := hrel
      have hB := M.below fun _ _ => trivial
      have y2 := M.c 0 2 rfl rfl
      have htl := szEs_take_le e.kids k
      obtain ⟨z, hz⟩ : ∃ z, z = szEs (e.kids.take k) := ⟨_, rfl⟩
      rw [← hz] at htl ⊢
      have HZ := show Hid _ from hz
      clear hz
      by_cases hlt : k < e.kids.length
      · obtain ⟨b, off, kv, rfl, hbk, hf, c0, c1', c2', hkv⟩ := HC.out k hlt
        rw [← (bcell hB).1 _ _ hbk] at c0 c1' c2'
        have HE := show Hid (ExprV wr φ (.agg #[.int .i64 e.kids[k].kind, .int .i64 e.kids[k].value, kv]) e.kids[k]) from ⟨kv, rfl, KidsV.nice _ _ _ _ _ _ (Agr.below hB) hkv⟩
        have HM := show Hid _ from M
        have hlt' : (k : Int) < e.kids.length := by omega
        have HT := show Hid _ from szEs_take1 hlt
        have htl1 := szEs_take_le e.kids (k + 1)
        rw [HT.out, ← HZ.out] at htl1
        clear hkv M hB
        go_wp2_with fail
        refine (ih (by omega) _ φ _ _ HE.out (HK.out _ (List.getElem_mem hlt))).mono ?_
        rintro x w2 ⟨rfl, b2⟩
        have HM2 := show Hid _ from HM.out.call b2
        clear b2 y2
        go_wp2_with fail
        exact ⟨⟨k + 1, by omega, by go_num, by rw [HT.out, ← HZ.out]; go_num, HM2.out⟩, by simp [intOf]; omega⟩
      · have hkn : k = e.kids.length := by omega
        subst hkn
        have HB := show Hid _ from hB
        clear M hB
        go_wp2_with fail
        go_ret
        exact ⟨ret_int (by rw [HZ.out, List.take_of_length_le (Nat.le_refl _), HSZ.out]), HB.out⟩

set_option maxHeartbeats 1000000 in
theorem spec_l2Right (a1 a2 : Option Addr) (nv c1 na c2 : Nat) (v3 : Value) (h1 : nv ≤ 9223372036854775807) (h2 : na ≤ 9223372036854775807) (e : LExpr) (φ : Nat → Prop) (v : Value) (w : World) (h : ExprV w φ v e) :
    Calls Try.prog 164 #[.agg #[.slice a1 nv c1, .slice a2 na c2, v3], v] w fun x w' => x = .returned (.bool (rightB nv na e)) ∧ Below w.heap.size w w' := by
  obtain ⟨kv, rfl, hk⟩ := h
  have HR : Hid (rightB nv na e = (shapeB nv na 5 e && decide (1 + szE e ≤ 15))) := rfl
  obtain ⟨W, hW, M⟩ : ∃ W, W = (w.alloc (.cells #[.slice a1 nv c1, .slice a2 na c2, v3] 31)).alloc (.cells #[.int .i64 e.kind, .int .i64 e.value, kv] 58) ∧ Mem (fun _ => True) (fun _ => True) w W [.box w.heap.size [.slice a1 nv c1, .slice a2 na c2, v3], .box (w.heap.size + 1) [.int .i64 e.kind, .int .i64 e.value, kv]] :=
    ⟨_, rfl, ((Mem.start fun _ _ => trivial).box _ _).box' _ _ (by simp)⟩
  have HE := show Hid (∀ W', Below w.heap.size w W' → ExprV W' φ (.agg #[.int .i64 e.kind, .int .i64 e.value, kv]) e) from fun W' k => ⟨kv, rfl, KidsV.nice _ _ _ _ _ _ (Agr.below k) hk⟩
  clear hk
  have x0 := M.c 0 0 rfl rfl
  have x1 := M.c 0 1 rfl rfl
  have x2 := M.c 0 2 rfl rfl
  have y0 := M.c 1 0 rfl rfl
  have y1 := M.c 1 1 rfl rfl
  have y2 := M.c 1 2 rfl rfl
  rw [hW] at x0 x1 x2 y0 y1 y2
  go_enter Try.func164, Try.ntmps164
  go_wp2_with fail
  rw [← hW]
  clear hW x0 x1 x2 y0 y1 y2
  refine (spec_l2Shape a1 a2 nv c1 na c2 v3 h1 h2 5 (by omega) e φ _ _ (HE.out _ (M.below fun _ _ => trivial))).mono ?_
  rintro x w1 ⟨rfl, b1⟩
  replace M := M.call b1
  clear b1
  cases hs : shapeB nv na 5 e
  · have HB := show Hid _ from M.below fun _ _ => trivial
    have HS := show Hid _ from hs
    clear hs M
    go_wp2_with fail
    go_ret
    exact ⟨ret_bool (by rw [HR.out, HS.out]; rfl), HB.out⟩
  · have HS := show Hid _ from hs
    have hsz := shape_sz nv na 5 e hs
    have y0 := M.c 1 0 rfl rfl
    have y1 := M.c 1 1 rfl rfl
    have y2 := M.c 1 2 rfl rfl
    have HM := show Hid _ from M
    clear hs M
    go_wp2_with fail
    refine (spec_l2Count nv na 5 (by omega) e φ _ _ (HE.out _ (HM.out.below fun _ _ => trivial)) HS.out).mono ?_
    rintro x w2 ⟨rfl, b1⟩
    have HB := show Hid _ from (HM.out.call b1).below fun _ _ => trivial
    clear b1 y0 y1 y2
    go_wp2_with fail
    go_ret
    exact ⟨ret_bool (by rw [HR.out, HS.out, Bool.true_and]; exact decide_eq_decide.2 (by omega)), HB.out⟩


theorem impl_within (n lo hi : Int) (w : World) : Calls Try.prog 72 #[.int .i64 n, .int .i64 lo, .int .i64 hi] w fun e w' => e = .returned (.bool (decide (lo ≤ n) && decide (n ≤ hi))) ∧ w = w' := by
  go_enter Try.func72, Try.ntmps72
  go_wp2
  all_goals go_ret
  all_goals exact ⟨ret_bool (by simp; try omega), rfl⟩

theorem impl_LabelValid (l : Int) (w : World) : Calls Try.prog 88 #[.int .i64 l] w fun e w' => e = .returned (.bool (labOk l)) ∧ w = w' := by
  go_enter Try.func88, Try.ntmps88
  go_wp2_with fail
  refine (impl_within l 0 3 _).mono ?_
  rintro e w1 ⟨rfl, rfl⟩
  go_wp2_with fail
  go_ret
  exact ⟨rfl, rfl⟩

theorem impl_areLabels1 (l : Int) (w : World) : Calls Try.prog 141 #[.int .i64 l] w fun e w' => e = .returned (.bool (!labOk l)) ∧ w = w' := by
  go_enter Try.func141, Try.ntmps141
  go_wp2_with fail
  refine (impl_LabelValid l _).mono ?_
  rintro e w1 ⟨rfl, rfl⟩
  go_wp2_with fail
  go_ret
  exact ⟨rfl, rfl⟩

set_option maxHeartbeats 1000000 in
theorem indexFunc_int (p : Int → Bool) (f : FuncId) (v : Value) (xs : List Int) (w : World) (h : Row w v xs.length 1 (ints xs)) (he : ∀ args w, (callFunc f args).run Try.prog w = .ok (.enter f args) w)
    (hf : ∀ x w', Calls Try.prog f #[.int .i64 x] w' fun e w'' => e = .returned (.bool (p x)) ∧ w' = w'') :
    Calls Try.prog 157 #[v, .func (.func f) #[] #[]] w fun e w' => ∃ r : Int, e = .returned (.int .i64 r) ∧ decide (0 ≤ r) = xs.any p ∧ w = w' := by
  obtain ⟨a1, c1, rfl, -, hm1, -, hc1⟩ := h.open1
  have HF := show Hid _ from hf
  clear h hf
  go_enter Try.func157, Try.ntmps157
  go_wp2_with fail
  go_loop [5, 8] (fun _ i => ∃ k : Nat, k ≤ xs.length ∧ i = .int .i64 k ∧ (xs.take k).any p = false) (fun _ i => xs.length - (intOf i).toNat)
  case atStart => exact ⟨0, Nat.zero_le _, rfl, rfl⟩
  case round =>
    obtain ⟨k, hk, rfl, ha⟩ := hrel
    have HA := show Hid _ from ha
    clear ha
    by_cases hlt : k < xs.length
    · obtain ⟨b1, o1, rfl, hb1, hx⟩ := hc1 k hlt
      rw [ints_get _ _ hlt] at hx
      clear hc1
      cases hp : p xs[k]
      all_goals
        have HP := show Hid _ from hp
        clear hp
        go_wp2_with fail
        refine (HF.out xs[k] _).mono ?_
        rintro e w1 ⟨rfl, rfl⟩
        rw [HP.out]
        go_wp2_with fail
      · go_round
        case rel => exact ⟨k + 1, by omega, by go_num, by rw [take_succ_get _ _ hlt, List.any_append, HA.out]; simp [HP.out]⟩
        case measure => simp [intOf]; omega
      · go_ret
        exact ⟨_, rfl, by rw [decide_eq_true (by omega)]; symm; rw [List.any_eq_true]; exact ⟨_, List.getElem_mem hlt, HP.out⟩, rfl⟩
    · go_wp2_with fail
      go_ret
      refine ⟨_, rfl, ?_, rfl⟩
      have := HA.out
      rw [List.take_of_length_le (by omega)] at this
      rw [this]; rfl

theorem containsFunc_int (p : Int → Bool) (f : FuncId) (v : Value) (xs : List Int) (w : World) (h : Row w v xs.length 1 (ints xs)) (he : ∀ args w, (callFunc f args).run Try.prog w = .ok (.enter f args) w)
    (hf : ∀ x w', Calls Try.prog f #[.int .i64 x] w' fun e w'' => e = .returned (.bool (p x)) ∧ w' = w'') :
    Calls Try.prog 140 #[v, .func (.func f) #[] #[]] w fun e w' => e = .returned (.bool (xs.any p)) ∧ w = w' := by
  obtain ⟨a1, c1, rfl, -⟩ := h.open1
  have HF := show Hid _ from hf
  have HE := show Hid _ from he
  clear hf he
  go_enter Try.func140, Try.ntmps140
  go_wp2_with fail
  refine (indexFunc_int p f _ xs _ h HE.out HF.out).mono ?_
  rintro e w1 ⟨r, rfl, hr, rfl⟩
  have HR := show Hid _ from hr
  clear hr
  go_wp2_with fail
  go_ret
  exact ⟨ret_bool HR.out, rfl⟩

theorem any_not_all (xs : List Int) : (!xs.any fun l => !labOk l) = xs.all labOk := by
  induction xs with
  | nil => rfl
  | cons x r ih => simp only [List.any_cons, List.all_cons, ← ih]; cases labOk x <;> simp

theorem impl_areLabels (v : Value) (xs : List Int) (w : World) (h : Row w v xs.length 1 (ints xs)) :
    Calls Try.prog 109 #[v] w fun e w' => e = .returned (.bool (xs.all labOk)) ∧ w = w' := by
  obtain ⟨a1, c1, rfl, -⟩ := h.open1
  go_enter Try.func109, Try.ntmps109
  go_wp2_with fail
  refine (containsFunc_int (fun l => !labOk l) 141 _ xs _ h (enters_of Try.func141 (by kernel_rfl) rfl) (fun x w' => impl_areLabels1 x w')).mono ?_
  rintro e w1 ⟨rfl, rfl⟩
  have HN := show Hid _ from any_not_all xs
  go_wp2_with fail
  go_ret
  exact ⟨ret_bool HN.out, rfl⟩

set_option maxHeartbeats 1000000 in
theorem impl_declared (v1 v2 : Value) (vars arrays : List Int) (w : World) (h1 : Row w v1 vars.length 1 (ints vars)) (h2 : Row w v2 arrays.length 1 (ints arrays)) :
    Calls Try.prog 71 #[v1, v2] w fun e w' => e = .returned (.bool (headsB vars arrays)) ∧ w = w' := by
  obtain ⟨a1, c1, rfl, -, q1, -⟩ := h1.open1
  obtain ⟨a2, c2, rfl, -, q2, -⟩ := h2.open1
  have HT : Hid (headsB vars arrays = (vars.all labOk && arrays.all labOk && decide (1 ≤ vars.length) && decide (vars.length ≤ 12) && decide (arrays.length ≤ 2))) := rfl
  by_cases hn : (1 : Int) ≤ (vars.length : Int) ∧ (vars.length : Int) ≤ 12
  · have hb : (decide ((1 : Int) ≤ vars.length) && decide ((vars.length : Int) ≤ 12)) = true := by simpa using hn
    have HB := show Hid _ from hb
    by_cases hm : (arrays.length : Int) ≤ 2
    · cases hv : vars.all labOk
      · have HV := show Hid _ from hv
        clear hv hb hn
        go_enter Try.func71, Try.ntmps71
        go_wp2_with fail
        refine (impl_within _ 1 12 _).mono ?_
        rintro e w1 ⟨rfl, rfl⟩
        rw [HB.out]
        go_wp2_with fail
        refine (impl_areLabels _ vars _ h1).mono ?_
        rintro e w1 ⟨rfl, rfl⟩
        rw [HV.out]
        go_wp2_with fail
        go_ret
        exact ⟨ret_bool (by rw [HT.out, HV.out]; rfl), rfl⟩
      · have HV := show Hid _ from hv
        have hn' := show Hid _ from hn
        have hm' := show Hid _ from hm
        clear hv hb hn
        go_enter Try.func71, Try.ntmps71
        go_wp2_with fail
        refine (impl_within _ 1 12 _).mono ?_
        rintro e w1 ⟨rfl, rfl⟩
        rw [HB.out]
        go_wp2_with fail
        refine (impl_areLabels _ vars _ h1).mono ?_
        rintro e w1 ⟨rfl, rfl⟩
        rw [HV.out]
        go_wp2_with fail
        refine (impl_areLabels _ arrays _ h2).mono ?_
        rintro e w1 ⟨rfl, rfl⟩
        go_wp2_with fail
        go_ret
        refine ⟨ret_bool ?_, rfl⟩
        have h3 := hn'.out
        have h4 := hm'.out
        rw [HT.out, HV.out, decide_eq_true (show 1 ≤ vars.length by omega), decide_eq_true (show vars.length ≤ 12 by omega), decide_eq_true (show arrays.length ≤ 2 by omega)]
        simp
    · have hF : Hid (headsB vars arrays = false) := by unfold Hid; rw [HT.out, decide_eq_false (show ¬ arrays.length ≤ 2 by omega)]; simp
      clear hb hn
      go_enter Try.func71, Try.ntmps71
      go_wp2_with fail
      refine (impl_within _ 1 12 _).mono ?_
      rintro e w1 ⟨rfl, rfl⟩
      rw [HB.out]
      go_wp2_with fail
      go_ret
      exact ⟨ret_bool hF.out.symm, rfl⟩
  · have hb : (decide ((1 : Int) ≤ vars.length) && decide ((vars.length : Int) ≤ 12)) = false := by
      rw [Bool.eq_false_iff]; simp only [ne_eq, Bool.and_eq_true, decide_eq_true_eq]; exact hn
    have HB := show Hid _ from hb
    have hF : Hid (headsB vars arrays = false) := by
      unfold Hid; rw [HT.out]
      rcases Classical.not_and_iff_not_or_not.1 hn with h | h
      · rw [decide_eq_false (show ¬ 1 ≤ vars.length by omega)]; simp
      · rw [decide_eq_false (show ¬ vars.length ≤ 12 by omega)]; simp
    clear hb hn
    go_enter Try.func71, Try.ntmps71
    go_wp2_with fail
    refine (impl_within _ 1 12 _).mono ?_
    rintro e w1 ⟨rfl, rfl⟩
    rw [HB.out]
    go_wp2_with fail
    go_ret
    exact ⟨ret_bool hF.out.symm, rfl⟩


theorem impl_isPlain (k n : Int) (kv : Value) (w : World) : Calls Try.prog 146 #[.agg #[.int .i64 k, .int .i64 n, kv]] w fun e w' => e = .returned (.bool (decide (k = 1) || decide (k = 2))) ∧ Below w.heap.size w w' := by
  by_cases h1 : k = 1
  · have p1 : (k == 1) = true := by simp [h1]
    have Q := show Hid _ from h1
    clear h1
    go_enter Try.func146, Try.ntmps146
    go_wp2
    go_ret
    exact ⟨ret_bool (by simp [Q.out]), by go_grown⟩
  · have p1 : (k == 1) = false := by simp [h1]
    have Q := show Hid _ from h1
    clear h1
    by_cases h2 : k = 2
    · have p2 : (k == 2) = true := by simp [h2]
      have Q2 := show Hid _ from h2
      clear h2
      go_enter Try.func146, Try.ntmps146
      go_wp2
      go_ret
      exact ⟨ret_bool (by simp [Q2.out]), by go_grown⟩
    · have p2 : (k == 2) = false := by simp [h2]
      have Q2 := show Hid _ from h2
      clear h2
      go_enter Try.func146, Try.ntmps146
      go_wp2
      go_ret
      exact ⟨ret_bool (by rw [decide_eq_false Q.out, decide_eq_false Q2.out]; rfl), by go_grown⟩


theorem impl_operands (k : Int) (w : World) : Calls Try.prog 173 #[.int .i64 k] w fun e w' => e = .returned (.int .i64 (arity k)) ∧ w = w' := by
  by_cases h1 : k = 1
  · subst h1
    go_enter Try.func173, Try.ntmps173
    go_wp2_with fail
    go_ret
    exact ⟨ret_int (by simp [arity]), rfl⟩
  by_cases h2 : k = 2
  · subst h2
    go_enter Try.func173, Try.ntmps173
    go_wp2_with fail
    go_ret
    exact ⟨ret_int (by simp [arity]), rfl⟩
  by_cases h3 : k = 3
  · subst h3
    go_enter Try.func173, Try.ntmps173
    go_wp2_with fail
    go_ret
    exact ⟨ret_int (by simp [arity]), rfl⟩
  have p1 : (k == 1) = false := by simp [h1]
  have p2 : (k == 2) = false := by simp [h2]
  have p3 : (k == 3) = false := by simp [h3]
  have H := show Hid _ from And.intro h1 (And.intro h2 h3)
  clear h1 h2 h3
  go_enter Try.func173, Try.ntmps173
  go_wp2_with fail
  refine (impl_within k 4 10 _).mono ?_
  rintro x w1 ⟨rfl, rfl⟩
  by_cases h4 : 4 ≤ k ∧ k ≤ 10
  · have p4 : (decide (4 ≤ k) && decide (k ≤ 10)) = true := by simp [h4]
    rw [p4]
    have H4 := show Hid _ from h4
    clear h4 p4
    go_wp2_with fail
    go_ret
    exact ⟨ret_int (by have := H.out; have := H4.out; unfold arity; rw [if_neg (by omega), if_neg (by omega), if_pos (by omega)]), rfl⟩
  · have p4 : (decide (4 ≤ k) && decide (k ≤ 10)) = false := by simp; omega
    rw [p4]
    have H4 := show Hid _ from h4
    clear h4 p4
    by_cases h5 : k = 11
    · subst h5
      go_wp2_with fail
      go_ret
      exact ⟨ret_int (by simp [arity]), rfl⟩
    · have p5 : (k == 11) = false := by simp [h5]
      have H5 := show Hid _ from h5
      clear h5
      go_wp2_with fail
      go_ret
      exact ⟨ret_int (by have := H.out; have := H4.out; have := H5.out; unfold arity; rw [if_neg (by omega), if_neg (by omega), if_neg (by omega), if_neg (by omega)]), rfl⟩

theorem scanB_node {nv na d c : Nat} {e : LExpr} (h1 : nodeB nv na e = true) (h2 : readB e = true) : scanB nv na (d + 1) c e = scanPre nv na d (c + 1) e.kids e.kids.length := by
  unfold scanB scanPre
  rw [List.take_of_length_le (Nat.le_refl _), shapeB, h1, h2, szE_kids]
  simp
theorem scanPre_end {nv na d c k : Nat} {ks : List LExpr} (hk : k < ks.length) (hs : scanB nv na d (c + szEs (ks.take k)) ks[k] = false) : scanPre nv na d c ks ks.length = false := by
  unfold scanPre
  rw [List.take_of_length_le (Nat.le_refl _)]
  exact scanPre_fail nv na hk hs
theorem scanB_noNode {nv na d c : Nat} {e : LExpr} (h1 : nodeB nv na e = false) : scanB nv na (d + 1) c e = false := by
  unfold scanB; rw [shapeB, h1]; rfl
theorem scanB_noRead {nv na d c : Nat} {e : LExpr} (h1 : readB e = false) : scanB nv na (d + 1) c e = false := by
  unfold scanB; rw [shapeB, h1]; simp
theorem limit_high {nv na : Nat} {k n h : Int} (hh : h = limit nv na k - 1) : (decide (0 ≤ n) && decide (n ≤ h)) = (decide (0 ≤ n) && decide (n < limit nv na k)) := by
  congr 1; exact decide_eq_decide.2 (by omega)

set_option maxRecDepth 100000 in
set_option maxHeartbeats 8000000 in
theorem impl_scan (a1 a2 : Option Addr) (nv c1 na c2 : Nat) (v3 : Value) (h1 : nv ≤ 9223372036854775807) (h2 : na ≤ 9223372036854775807) : ∀ (d : Nat) (deep : Int), deep + d = 6 → 1 ≤ deep → ∀ (e : LExpr) (φ : Nat → Prop) (v : Value) (c cb : Nat) (w : World), ExprV w φ v e → ¬ φ cb → Blk w cb [.int .i64 c] → c ≤ 15 →
    Calls Try.prog 166 #[.agg #[.slice a1 nv c1, .slice a2 na c2, v3], v, .int .i64 deep, .pointer (some ⟨cb, 0, none⟩)] w fun x w' =>
      x = .returned (.bool (scanB nv na d c e)) ∧ (scanB nv na d c e = true → Blk w' cb [.int .i64 (c + 1 + szE e : Nat)]) ∧ (∃ u, Blk w' cb [u]) ∧ Kept (fun b => ¬ b = cb) w w' := by
  intro d
  induction d with
  | zero =>
    intro deep hdp hd1 e φ v c cb w h hcb hblk hc
    obtain ⟨kv, rfl, hk⟩ := h
    have HF : Hid (scanB nv na 0 c e = false) := rfl
    obtain rfl : deep = 6 := by omega
    have hl := hblk.lt
    have x0 : w.cell? ⟨cb, 0, none⟩ = some (.int .i64 c) := (hblk.cell 0).trans rfl
    have f0 := hblk.free
    obtain ⟨W, hW, M⟩ : ∃ W, W = (((w.setCell ⟨cb, 0, none⟩ (.int .i64 ((c : Int) + 1))).alloc (.cells #[.slice a1 nv c1, .slice a2 na c2, v3] 31)).alloc (.cells #[.int .i64 e.kind, .int .i64 e.value, kv] 58)) ∧ Mem (fun _ => True) (fun b => ¬ b = cb) w W [.box cb [.int .i64 ((c : Int) + 1)]] :=
      ⟨_, rfl, (((Mem.start fun _ _ => trivial).adopt (.box cb [.int .i64 c]) (fun _ ha => by cases ha) trivial hblk (fun _ ha => by cases ha) (fun g hg hn => by cases hg; exact hn rfl)).set 0 rfl 0 (.int .i64 ((c : Int) + 1))).call (by go_grown)⟩
    have y0 := M.c 0 0 rfl rfl
    have z0 := fun X => ext_cell y0 X
    clear hk y0 hblk
    by_cases q : (15 : Int) < (c : Int) + 1
    · have p : decide ((15 : Int) < (c : Int) + 1) = true := by simp; omega
      clear q
      go_enter Try.func166, Try.ntmps166
      go_wp2_with fail
      rw [← hW]
      clear hW
      refine wp_region_ext (by kernel_rfl) (by kernel_rfl) ?_
      repeat (any_goals (first | go_big_quiet_step (((fail))) | quiet_step (((fail)))))
      refine wpQuiet_nil ?_
      rintro _ ⟨X, rfl⟩
      replace M := M.call (ext_below W X)
      go_wp2_with fail
      go_ret
      exact ⟨ret_bool (by rw [HF.out]), fun h => absurd (h.symm.trans HF.out) (by simp), ⟨_, M.blk 0 rfl⟩, M.kept⟩
    · have p : decide ((15 : Int) < (c : Int) + 1) = false := by simp; omega
      clear q
      go_enter Try.func166, Try.ntmps166
      go_wp2_with fail
      rw [← hW]
      clear hW
      refine wp_region_ext (by kernel_rfl) (by kernel_rfl) ?_
      repeat (any_goals (first | go_big_quiet_step (((fail))) | quiet_step (((fail)))))
      refine wpQuiet_nil ?_
      rintro _ ⟨X, rfl⟩
      replace M := M.call (ext_below W X)
      go_wp2_with fail
      go_ret
      exact ⟨ret_bool (by rw [HF.out]), fun h => absurd (h.symm.trans HF.out) (by simp), ⟨_, M.blk 0 rfl⟩, M.kept⟩
  | succ d ih =>
    intro deep hdp hd1 e φ v c cb w h hcb hblk hc
    obtain ⟨kv, rfl, hk⟩ := h
    obtain ⟨ak, ck, rfl, -, hn, -, -⟩ := hk.open
    have hl := hblk.lt
    have hd5 : deep ≤ 5 := by omega
    obtain ⟨φ', hφ'⟩ : ∃ φ' : Nat → Prop, φ' = fun b => φ b ∨ w.heap.size ≤ b := ⟨_, rfl⟩
    have x0 : w.cell? ⟨cb, 0, none⟩ = some (.int .i64 c) := (hblk.cell 0).trans rfl
    have f0 := hblk.free
    obtain ⟨W, hW, M⟩ : ∃ W, W = (((w.setCell ⟨cb, 0, none⟩ (.int .i64 ((c : Int) + 1))).alloc (.cells #[.slice a1 nv c1, .slice a2 na c2, v3] 31)).alloc (.cells #[.int .i64 e.kind, .int .i64 e.value, .slice ak e.kids.length ck] 58)) ∧
        Mem φ' (fun b => ¬ b = cb) w W [.box cb [.int .i64 ((c : Int) + 1)], .box w.heap.size [.slice a1 nv c1, .slice a2 na c2, v3], .box (w.heap.size + 1) [.int .i64 e.kind, .int .i64 e.value, .slice ak e.kids.length ck], .dat (fun w φ => KidsV w φ (.slice ak e.kids.length ck) e.kids)] := by
      refine ⟨_, rfl, (((((Mem.start (by rw [hφ']; exact fun _ h => .inr h)).adopt (.box cb [.int .i64 c]) (fun _ ha => by cases ha) trivial hblk (fun _ ha => by cases ha) (fun g hg hn => by cases hg; exact hn rfl)).set 0 rfl 0 (.int .i64 ((c : Int) + 1))).box' _ _ (by simp)).box' _ _ (by simp)).dat (KidsV.nice _ _) (KidsV.nice _ _ _ _ _ _ ⟨by simp; omega, fun b hb hf => ⟨⟨by rw [hφ']; exact .inl hf, fun r hr he => ?_⟩, ?_⟩⟩ hk)⟩
      · simp at hr
        rcases hr with rfl | rfl | rfl
        · cases he; exact hcb hf
        · cases he; omega
        · cases he; omega
      · have hbc : b ≠ cb := fun he => hcb (he ▸ hf)
        exact (((Below.refl w.heap.size (w.setCell ⟨cb, 0, none⟩ (.int .i64 ((c : Int) + 1)))).alloc (by simp) _ |>.alloc (by simp) _).block b (by simpa using hb)).trans (Below.heap_setCell _ _ _ _ hbc)
    clear hk hblk hφ'
    have y0 := M.c 0 0 rfl rfl
    have y1 := M.c 2 0 rfl rfl
    have y2 := M.c 2 2 rfl rfl
    have z0 := fun X => ext_cell y0 X
    have z1 := fun X => ext_cell y1 X
    have z2 := fun X => ext_cell y2 X
    have HA : Hid (∀ X, Calls Try.prog 173 #[.int .i64 e.kind] (W.ext X) fun x w'' => x = .returned (.int .i64 (arity e.kind)) ∧ ∃ Y, w'' = W.ext Y) := fun X =>
      Calls.ext_of' ((impl_operands e.kind _).mono fun x w' h => ⟨h.1, h.2 ▸ Below.refl _ _⟩)
    clear y0 y1 y2
    have p2 : decide ((5 : Int) < deep) = false := decide_eq_false (by omega)
    by_cases q1 : (15 : Int) < (c : Int) + 1
    · have p1 : decide ((15 : Int) < (c : Int) + 1) = true := decide_eq_true q1
      have HF : Hid (scanB nv na (d + 1) c e = false) := by unfold Hid scanB; rw [decide_eq_false (by omega), Bool.and_false]
      clear q1
      go_enter Try.func166, Try.ntmps166
      go_wp2_with fail
      rw [← hW]
      clear hW
      refine wp_region_ext (by kernel_rfl) (by kernel_rfl) ?_
      repeat (any_goals (first | go_big_quiet_step (((go_at_call 173; exact HA.out _))) | quiet_step (((go_at_call 173; exact HA.out _)))))
      refine wpQuiet_nil ?_
      rintro _ ⟨X, rfl⟩
      replace M := M.call (ext_below W X)
      go_wp2_with fail
      go_ret
      exact ⟨ret_bool (by rw [HF.out]), fun h => absurd (h.symm.trans HF.out) (by simp), ⟨_, M.blk 0 rfl⟩, M.kept⟩
    have p1 : decide ((15 : Int) < (c : Int) + 1) = false := decide_eq_false q1
    by_cases q3 : (e.kids.length : Int) = arity e.kind
    case neg =>
      have p3 : (arity e.kind != (e.kids.length : Int)) = true := by simp; omega
      have HF : Hid (scanB nv na (d + 1) c e = false) := scanB_noNode (by unfold nodeB; rw [decide_eq_false q3]; rfl)
      clear q1 q3
      go_enter Try.func166, Try.ntmps166
      go_wp2_with fail
      rw [← hW]
      clear hW
      refine wp_region_ext (by kernel_rfl) (by kernel_rfl) ?_
      repeat (any_goals (first | go_big_quiet_step (((go_at_call 173; exact HA.out _))) | quiet_step (((go_at_call 173; exact HA.out _)))))
      refine wpQuiet_nil ?_
      rintro _ ⟨X, rfl⟩
      replace M := M.call (ext_below W X)
      go_wp2_with fail
      go_ret
      exact ⟨ret_bool (by rw [HF.out]), fun h => absurd (h.symm.trans HF.out) (by simp), ⟨_, M.blk 0 rfl⟩, M.kept⟩
    have p3 : (arity e.kind != (e.kids.length : Int)) = false := by simp; omega
    have HQ := show Hid _ from And.intro q1 q3
    clear q1 q3
    go_enter Try.func166, Try.ntmps166
    go_wp2_with fail
    rw [← hW]
    clear hW
    refine wp_region_ext (by kernel_rfl) (by kernel_rfl) ?_
    repeat (any_goals (first | go_big_quiet_step (((go_at_call 173; exact HA.out _))) | quiet_step (((go_at_call 173; exact HA.out _)))))
    refine wpQuiet_nil ?_
    rintro _ ⟨X, rfl⟩
    replace M := M.call (ext_below W X)
    generalize W.ext X = W1 at *
    clear z0 z1 z2 HA p1 p2 p3 f0 x0
    have y0 := M.c 1 0 rfl rfl
    have y1 := M.c 1 1 rfl rfl
    have y2 := M.c 2 0 rfl rfl
    have y3 := M.c 2 1 rfl rfl
    have y4 := M.c 2 2 rfl rfl
    have HM := show Hid _ from M
    clear M
    -- KINDS
    by_cases k1 : e.kind = 1
    · have qq1 : (e.kind == 1) = true := by simp [k1]
      have qq2 : (e.kind == 3) = false := by simp [k1]
      have HRD : Hid (readB e = true) := by unfold Hid readB; simp [k1]
      have hhi : (255 : Int) = limit nv na e.kind - 1 := by rw [k1]; simp [limit]
      clear k1
      have HNB := show Hid (nodeB nv na e = (decide (0 ≤ e.value) && decide (e.value ≤ 255))) from by
        unfold Hid nodeB; rw [decide_eq_true HQ.out.2, limit_high hhi]; rfl
      clear hhi
      go_wp2_with fail
      refine (impl_within e.value 0 _ _).mono ?_
      rintro x w1 ⟨rfl, rfl⟩
      have HNB2 := show Hid (nodeB nv na e = (decide (0 ≤ e.value) && decide (e.value ≤ 255))) from HNB.out
      clear HNB
      obtain ⟨qn, hqn⟩ : ∃ qn, qn = (decide (0 ≤ e.value) && decide (e.value ≤ 255)) := ⟨_, rfl⟩
      rw [← hqn]
      have HN := show Hid (nodeB nv na e = qn) from HNB2.out.trans hqn.symm
      clear hqn HNB2
      cases qn
      · have HF : Hid (scanB nv na (d + 1) c e = false) := scanB_noNode HN.out
        have M := HM.out
        clear HM
        go_wp2_with fail
        go_ret
        exact ⟨ret_bool (by rw [HF.out]), fun h => absurd (h.symm.trans HF.out) (by simp), ⟨_, M.blk 0 rfl⟩, M.kept⟩
      have HSC : Hid (scanB nv na (d + 1) c e = scanPre nv na d (c + 1) e.kids e.kids.length) := scanB_node HN.out HRD.out
      go_wp2_with fail
      clear y0 y1 y2 y3 y4
      have HST : Hid (scanPre nv na d (c + 1) e.kids 0 = true ∧ Mem φ' (fun b => ¬ b = cb) w W1 [.box cb [.int .i64 (c + 1 + szEs (e.kids.take 0) : Nat)], .box w.heap.size [.slice a1 nv c1, .slice a2 na c2, v3], .box (w.heap.size + 1) [.int .i64 e.kind, .int .i64 e.value, .slice ak e.kids.length ck], .dat (fun w φ => KidsV w φ (.slice ak e.kids.length ck) e.kids)]) := by
        refine ⟨?_, ?_⟩
        · have := HQ.out.1
          simp [scanPre, szEs]; omega
        · rw [show ((c + 1 + szEs (e.kids.take 0) : Nat) : Int) = (c : Int) + 1 by simp [szEs]]
          exact HM.out
      go_loopw [71] (fun i wr => ∃ k : Nat, k ≤ e.kids.length ∧ i = .int .i64 k ∧ scanPre nv na d (c + 1) e.kids k = true ∧ Mem φ' (fun b => ¬ b = cb) w wr [.box cb [.int .i64 (c + 1 + szEs (e.kids.take k) : Nat)], .box w.heap.size [.slice a1 nv c1, .slice a2 na c2, v3], .box (w.heap.size + 1) [.int .i64 e.kind, .int .i64 e.value, .slice ak e.kids.length ck], .dat (fun w φ => KidsV w φ (.slice ak e.kids.length ck) e.kids)]) (fun i _ => e.kids.length - (intOf i).toNat)
      case atStart => exact ⟨0, Nat.zero_le _, rfl, HST.out.1, HST.out.2⟩
      case round =>
        clear HM
        obtain ⟨k, hk, rfl, hpre, M⟩ := hrel
        have HPRE := show Hid _ from hpre
        have hle : c + 1 + szEs (e.kids.take k) ≤ 15 := by unfold scanPre at hpre; simp at hpre; exact hpre.2
        clear hpre
        by_cases hlt : k < e.kids.length
        · have hncb : ¬ Fr φ' [.box cb [.int .i64 (c + 1 + szEs (e.kids.take k) : Nat)], .box w.heap.size [.slice a1 nv c1, .slice a2 na c2, v3], .box (w.heap.size + 1) [.int .i64 e.kind, .int .i64 e.value, .slice ak e.kids.length ck], .dat (fun w φ => KidsV w φ (.slice ak e.kids.length ck) e.kids)] cb := fun h => h.2 _ List.mem_cons_self rfl
          obtain ⟨a', c', he, -, -, -, hcell⟩ := (M.d 3 rfl).open
          cases he
          obtain ⟨b, off, kv, hbo, hbk, hf, g0, g1, g2, hkk⟩ := hcell k hlt
          cases hbo
          obtain ⟨ka, kc, rfl, -, -, -, -⟩ := hkk.open
          have bz : Below wr.heap.size wr (wr.alloc (.cells #[.int .i64 e.kids[k].kind, .int .i64 e.kids[k].value, .slice ka e.kids[k].kids.length kc] 58)) := by go_grown
          have HE := show Hid _ from KidsV.nice _ _ _ _ _ _ (Agr.below bz) hkk
          have HNCB := show Hid _ from hncb
          have x0 := M.c 1 0 rfl rfl
          have x1 := M.c 1 1 rfl rfl
          have x2 := M.c 1 2 rfl rfl
          have s1 : w.heap.size < wr.heap.size := M.lt (r := .box w.heap.size [.slice a1 nv c1, .slice a2 na c2, v3]) (List.mem_cons_of_mem _ List.mem_cons_self) rfl
          have HM := show Hid _ from M.box [.int .i64 e.kids[k].kind, .int .i64 e.kids[k].value, .slice ka e.kids[k].kids.length kc] 58
          have HP := show Hid _ from scanPre_succ nv na (d := d) (c := c + 1) hlt
          have HX := show Hid (scanB nv na d (c + 1 + szEs (e.kids.take k)) e.kids[k] = false → scanB nv na (d + 1) c e = false) from fun h => HSC.out.trans (scanPre_end hlt h)
          have HT := show Hid _ from szEs_take1 hlt
          clear hcell hncb bz hkk M
          go_wp2_with fail
          refine (ih (deep + 1) (by omega) (by omega) e.kids[k] _ _ (c + 1 + szEs (e.kids.take k)) cb _ ⟨_, rfl, HE.out⟩ HNCB.out (HM.out.blk 0 rfl) hle).mono ?_
          rintro x w2 ⟨rfl, r1, ⟨u, r2⟩, kp⟩
          obtain ⟨q, hq⟩ : ∃ q, q = scanB nv na d (c + 1 + szEs (e.kids.take k)) e.kids[k] := ⟨_, rfl⟩
          rw [← hq] at r1 ⊢
          have HQ2 := show Hid _ from hq
          clear hq x0 x1 x2 g0 g1 g2
          cases q
          · have M2 := HM.out.callB 0 rfl kp r2
            have HF := show Hid _ from HX.out HQ2.out.symm
            clear r1 r2 kp
            go_wp2_with fail
            go_ret
            exact ⟨ret_bool (by rw [HF.out]), fun h => absurd (h.symm.trans HF.out) (by simp), ⟨_, M2.blk 0 rfl⟩, M2.kept⟩
          · have M2 := (HM.out.callB 0 rfl kp (r1 rfl)).take 4
            have HM2 := show Hid _ from M2
            clear r1 r2 kp M2
            go_wp2_with fail
            refine ⟨⟨k + 1, by omega, by go_num, by rw [HP.out, HPRE.out, ← HQ2.out]; rfl, ?_⟩, by simp [intOf]; omega⟩
            rw [HT.out, show c + 1 + (szEs (e.kids.take k) + (1 + szE e.kids[k])) = c + 1 + szEs (e.kids.take k) + 1 + szE e.kids[k] by omega]
            exact HM2.out
        · have hkn : k = e.kids.length := by omega
          subst hkn
          have HM := show Hid _ from M
          have HS : Hid (scanB nv na (d + 1) c e = true) := HSC.out.trans HPRE.out
          clear M
          go_wp2_with fail
          go_ret
          refine ⟨ret_bool (by rw [HS.out]), fun _ => ?_, ⟨_, HM.out.blk 0 rfl⟩, HM.out.kept⟩
          have := HM.out.blk 0 rfl
          rw [List.take_of_length_le (Nat.le_refl _)] at this
          rw [szE_kids]
          exact this
    have k1' : (e.kind == 1) = false := by simp [k1]
    by_cases k2 : e.kind = 2
    · have qq1 : (e.kind == 2) = true := by simp [k2]
      have qq2 : (e.kind == 3) = false := by simp [k2]
      have HRD : Hid (readB e = true) := by unfold Hid readB; simp [k2]
      have hhi : (nv : Int) - 1 = limit nv na e.kind - 1 := by rw [k2]; simp [limit]
      clear k1 k2
      have HNB := show Hid (nodeB nv na e = (decide (0 ≤ e.value) && decide (e.value ≤ (nv : Int) - 1))) from by
        unfold Hid nodeB; rw [decide_eq_true HQ.out.2, limit_high hhi]; rfl
      clear hhi
      go_wp2_with fail
      refine (impl_within e.value 0 _ _).mono ?_
      rintro x w1 ⟨rfl, rfl⟩
      have HNB2 := show Hid (nodeB nv na e = (decide (0 ≤ e.value) && decide (e.value ≤ (nv : Int) - 1))) from HNB.out
      clear HNB
      obtain ⟨qn, hqn⟩ : ∃ qn, qn = (decide (0 ≤ e.value) && decide (e.value ≤ (nv : Int) - 1)) := ⟨_, rfl⟩
      rw [← hqn]
      have HN := show Hid (nodeB nv na e = qn) from HNB2.out.trans hqn.symm
      clear hqn HNB2
      cases qn
      · have HF : Hid (scanB nv na (d + 1) c e = false) := scanB_noNode HN.out
        have M := HM.out
        clear HM
        go_wp2_with fail
        go_ret
        exact ⟨ret_bool (by rw [HF.out]), fun h => absurd (h.symm.trans HF.out) (by simp), ⟨_, M.blk 0 rfl⟩, M.kept⟩
      have HSC : Hid (scanB nv na (d + 1) c e = scanPre nv na d (c + 1) e.kids e.kids.length) := scanB_node HN.out HRD.out
      go_wp2_with fail
      clear y0 y1 y2 y3 y4
      have HST : Hid (scanPre nv na d (c + 1) e.kids 0 = true ∧ Mem φ' (fun b => ¬ b = cb) w W1 [.box cb [.int .i64 (c + 1 + szEs (e.kids.take 0) : Nat)], .box w.heap.size [.slice a1 nv c1, .slice a2 na c2, v3], .box (w.heap.size + 1) [.int .i64 e.kind, .int .i64 e.value, .slice ak e.kids.length ck], .dat (fun w φ => KidsV w φ (.slice ak e.kids.length ck) e.kids)]) := by
        refine ⟨?_, ?_⟩
        · have := HQ.out.1
          simp [scanPre, szEs]; omega
        · rw [show ((c + 1 + szEs (e.kids.take 0) : Nat) : Int) = (c : Int) + 1 by simp [szEs]]
          exact HM.out
      go_loopw [71] (fun i wr => ∃ k : Nat, k ≤ e.kids.length ∧ i = .int .i64 k ∧ scanPre nv na d (c + 1) e.kids k = true ∧ Mem φ' (fun b => ¬ b = cb) w wr [.box cb [.int .i64 (c + 1 + szEs (e.kids.take k) : Nat)], .box w.heap.size [.slice a1 nv c1, .slice a2 na c2, v3], .box (w.heap.size + 1) [.int .i64 e.kind, .int .i64 e.value, .slice ak e.kids.length ck], .dat (fun w φ => KidsV w φ (.slice ak e.kids.length ck) e.kids)]) (fun i _ => e.kids.length - (intOf i).toNat)
      case atStart => exact ⟨0, Nat.zero_le _, rfl, HST.out.1, HST.out.2⟩
      case round =>
        clear HM
        obtain ⟨k, hk, rfl, hpre, M⟩ := hrel
        have HPRE := show Hid _ from hpre
        have hle : c + 1 + szEs (e.kids.take k) ≤ 15 := by unfold scanPre at hpre; simp at hpre; exact hpre.2
        clear hpre
        by_cases hlt : k < e.kids.length
        · have hncb : ¬ Fr φ' [.box cb [.int .i64 (c + 1 + szEs (e.kids.take k) : Nat)], .box w.heap.size [.slice a1 nv c1, .slice a2 na c2, v3], .box (w.heap.size + 1) [.int .i64 e.kind, .int .i64 e.value, .slice ak e.kids.length ck], .dat (fun w φ => KidsV w φ (.slice ak e.kids.length ck) e.kids)] cb := fun h => h.2 _ List.mem_cons_self rfl
          obtain ⟨a', c', he, -, -, -, hcell⟩ := (M.d 3 rfl).open
          cases he
          obtain ⟨b, off, kv, hbo, hbk, hf, g0, g1, g2, hkk⟩ := hcell k hlt
          cases hbo
          obtain ⟨ka, kc, rfl, -, -, -, -⟩ := hkk.open
          have bz : Below wr.heap.size wr (wr.alloc (.cells #[.int .i64 e.kids[k].kind, .int .i64 e.kids[k].value, .slice ka e.kids[k].kids.length kc] 58)) := by go_grown
          have HE := show Hid _ from KidsV.nice _ _ _ _ _ _ (Agr.below bz) hkk
          have HNCB := show Hid _ from hncb
          have x0 := M.c 1 0 rfl rfl
          have x1 := M.c 1 1 rfl rfl
          have x2 := M.c 1 2 rfl rfl
          have s1 : w.heap.size < wr.heap.size := M.lt (r := .box w.heap.size [.slice a1 nv c1, .slice a2 na c2, v3]) (List.mem_cons_of_mem _ List.mem_cons_self) rfl
          have HM := show Hid _ from M.box [.int .i64 e.kids[k].kind, .int .i64 e.kids[k].value, .slice ka e.kids[k].kids.length kc] 58
          have HP := show Hid _ from scanPre_succ nv na (d := d) (c := c + 1) hlt
          have HX := show Hid (scanB nv na d (c + 1 + szEs (e.kids.take k)) e.kids[k] = false → scanB nv na (d + 1) c e = false) from fun h => HSC.out.trans (scanPre_end hlt h)
          have HT := show Hid _ from szEs_take1 hlt
          clear hcell hncb bz hkk M
          go_wp2_with fail
          refine (ih (deep + 1) (by omega) (by omega) e.kids[k] _ _ (c + 1 + szEs (e.kids.take k)) cb _ ⟨_, rfl, HE.out⟩ HNCB.out (HM.out.blk 0 rfl) hle).mono ?_
          rintro x w2 ⟨rfl, r1, ⟨u, r2⟩, kp⟩
          obtain ⟨q, hq⟩ : ∃ q, q = scanB nv na d (c + 1 + szEs (e.kids.take k)) e.kids[k] := ⟨_, rfl⟩
          rw [← hq] at r1 ⊢
          have HQ2 := show Hid _ from hq
          clear hq x0 x1 x2 g0 g1 g2
          cases q
          · have M2 := HM.out.callB 0 rfl kp r2
            have HF := show Hid _ from HX.out HQ2.out.symm
            clear r1 r2 kp
            go_wp2_with fail
            go_ret
            exact ⟨ret_bool (by rw [HF.out]), fun h => absurd (h.symm.trans HF.out) (by simp), ⟨_, M2.blk 0 rfl⟩, M2.kept⟩
          · have M2 := (HM.out.callB 0 rfl kp (r1 rfl)).take 4
            have HM2 := show Hid _ from M2
            clear r1 r2 kp M2
            go_wp2_with fail
            refine ⟨⟨k + 1, by omega, by go_num, by rw [HP.out, HPRE.out, ← HQ2.out]; rfl, ?_⟩, by simp [intOf]; omega⟩
            rw [HT.out, show c + 1 + (szEs (e.kids.take k) + (1 + szE e.kids[k])) = c + 1 + szEs (e.kids.take k) + 1 + szE e.kids[k] by omega]
            exact HM2.out
        · have hkn : k = e.kids.length := by omega
          subst hkn
          have HM := show Hid _ from M
          have HS : Hid (scanB nv na (d + 1) c e = true) := HSC.out.trans HPRE.out
          clear M
          go_wp2_with fail
          go_ret
          refine ⟨ret_bool (by rw [HS.out]), fun _ => ?_, ⟨_, HM.out.blk 0 rfl⟩, HM.out.kept⟩
          have := HM.out.blk 0 rfl
          rw [List.take_of_length_le (Nat.le_refl _)] at this
          rw [szE_kids]
          exact this
    have k2' : (e.kind == 2) = false := by simp [k2]
    by_cases k3 : e.kind = 3
    · have qq1 : (e.kind == 3) = true := by simp [k3]
      have qq2 := k2'
      have HRD : Hid (e.kind = 3) := k3
      have hhi : (na : Int) - 1 = limit nv na e.kind - 1 := by rw [k3]; simp [limit]
      clear k1 k2 k3
      have HNB := show Hid (nodeB nv na e = (decide (0 ≤ e.value) && decide (e.value ≤ (na : Int) - 1))) from by
        unfold Hid nodeB; rw [decide_eq_true HQ.out.2, limit_high hhi]; rfl
      clear hhi
      go_wp2_with fail
      refine (impl_within e.value 0 _ _).mono ?_
      rintro x w1 ⟨rfl, rfl⟩
      have HNB2 := show Hid (nodeB nv na e = (decide (0 ≤ e.value) && decide (e.value ≤ (na : Int) - 1))) from HNB.out
      clear HNB
      obtain ⟨qn, hqn⟩ : ∃ qn, qn = (decide (0 ≤ e.value) && decide (e.value ≤ (na : Int) - 1)) := ⟨_, rfl⟩
      rw [← hqn]
      have HN := show Hid (nodeB nv na e = qn) from HNB2.out.trans hqn.symm
      clear hqn HNB2
      cases qn
      · have HF : Hid (scanB nv na (d + 1) c e = false) := scanB_noNode HN.out
        have M := HM.out
        clear HM
        go_wp2_with fail
        go_ret
        exact ⟨ret_bool (by rw [HF.out]), fun h => absurd (h.symm.trans HF.out) (by simp), ⟨_, M.blk 0 rfl⟩, M.kept⟩
      have hl1 : e.kids.length = 1 := by have := HQ.out.2; rw [HRD.out] at this; simp [arity] at this; omega
      have hpos : 0 < (e.kids.length : Int) := by omega
      obtain ⟨a', c', he, -, -, -, hcell⟩ := (HM.out.d 3 rfl).open
      have e1 : ak = a' := by cases he; rfl
      have e2 : ck = c' := by cases he; rfl
      subst e1 e2
      obtain ⟨b, off, kv, rfl, hbk, hf, g0, g1, g2, hkk⟩ := hcell 0 (by omega)
      simp only [Nat.zero_mul, Nat.add_zero] at g0 g1 g2
      have HR := show Hid _ from readB_get HRD.out (by omega)
      clear hcell hkk
      go_wp2_with fail
      refine (impl_isPlain _ _ _ _).mono ?_
      rintro x w2 ⟨rfl, b2⟩
      replace HM := show Hid _ from HM.out.call b2
      obtain ⟨qr, hqr⟩ : ∃ qr, qr = (decide ((e.kids[0]'(by omega)).kind = 1) || decide ((e.kids[0]'(by omega)).kind = 2)) := ⟨_, rfl⟩
      rw [← hqr]
      have HRR := show Hid (readB e = qr) from HR.out.trans hqr.symm
      clear hqr b2 HR g0 g1 g2
      cases qr
      · have HF : Hid (scanB nv na (d + 1) c e = false) := scanB_noRead HRR.out
        have M := HM.out
        clear HM
        go_wp2_with fail
        go_ret
        exact ⟨ret_bool (by rw [HF.out]), fun h => absurd (h.symm.trans HF.out) (by simp), ⟨_, M.blk 0 rfl⟩, M.kept⟩
      clear y0 y1 y2 y3 y4
      have y4 := HM.out.c 2 2 rfl rfl
      have HSC : Hid (scanB nv na (d + 1) c e = scanPre nv na d (c + 1) e.kids e.kids.length) := scanB_node HN.out HRR.out
      go_wp2_with fail
      clear y4
      have HST : Hid (scanPre nv na d (c + 1) e.kids 0 = true ∧ Mem φ' (fun b => ¬ b = cb) w w2 [.box cb [.int .i64 (c + 1 + szEs (e.kids.take 0) : Nat)], .box w.heap.size [.slice a1 nv c1, .slice a2 na c2, v3], .box (w.heap.size + 1) [.int .i64 e.kind, .int .i64 e.value, .slice (some ⟨b, off, none⟩) e.kids.length ck], .dat (fun w φ => KidsV w φ (.slice (some ⟨b, off, none⟩) e.kids.length ck) e.kids)]) := by
        refine ⟨?_, ?_⟩
        · have := HQ.out.1
          simp [scanPre, szEs]; omega
        · rw [show ((c + 1 + szEs (e.kids.take 0) : Nat) : Int) = (c : Int) + 1 by simp [szEs]]
          exact HM.out
      go_loopw [71] (fun i wr => ∃ k : Nat, k ≤ e.kids.length ∧ i = .int .i64 k ∧ scanPre nv na d (c + 1) e.kids k = true ∧ Mem φ' (fun b => ¬ b = cb) w wr [.box cb [.int .i64 (c + 1 + szEs (e.kids.take k) : Nat)], .box w.heap.size [.slice a1 nv c1, .slice a2 na c2, v3], .box (w.heap.size + 1) [.int .i64 e.kind, .int .i64 e.value, .slice (some ⟨b, off, none⟩) e.kids.length ck], .dat (fun w φ => KidsV w φ (.slice (some ⟨b, off, none⟩) e.kids.length ck) e.kids)]) (fun i _ => e.kids.length - (intOf i).toNat)
      case atStart => exact ⟨0, Nat.zero_le _, rfl, HST.out.1, HST.out.2⟩
      case round =>
        clear HM
        obtain ⟨k, hk, rfl, hpre, M⟩ := hrel
        have HPRE := show Hid _ from hpre
        have hle : c + 1 + szEs (e.kids.take k) ≤ 15 := by unfold scanPre at hpre; simp at hpre; exact hpre.2
        clear hpre
        by_cases hlt : k < e.kids.length
        · have hncb : ¬ Fr φ' [.box cb [.int .i64 (c + 1 + szEs (e.kids.take k) : Nat)], .box w.heap.size [.slice a1 nv c1, .slice a2 na c2, v3], .box (w.heap.size + 1) [.int .i64 e.kind, .int .i64 e.value, .slice (some ⟨b, off, none⟩) e.kids.length ck], .dat (fun w φ => KidsV w φ (.slice (some ⟨b, off, none⟩) e.kids.length ck) e.kids)] cb := fun h => h.2 _ List.mem_cons_self rfl
          obtain ⟨a', c', he, -, -, -, hcell⟩ := (M.d 3 rfl).open
          cases he
          obtain ⟨b, off, kv, hbo, hbk, hf, g0, g1, g2, hkk⟩ := hcell k hlt
          cases hbo
          obtain ⟨ka, kc, rfl, -, -, -, -⟩ := hkk.open
          have bz : Below wr.heap.size wr (wr.alloc (.cells #[.int .i64 e.kids[k].kind, .int .i64 e.kids[k].value, .slice ka e.kids[k].kids.length kc] 58)) := by go_grown
          have HE := show Hid _ from KidsV.nice _ _ _ _ _ _ (Agr.below bz) hkk
          have HNCB := show Hid _ from hncb
          have x0 := M.c 1 0 rfl rfl
          have x1 := M.c 1 1 rfl rfl
          have x2 := M.c 1 2 rfl rfl
          have s1 : w.heap.size < wr.heap.size := M.lt (r := .box w.heap.size [.slice a1 nv c1, .slice a2 na c2, v3]) (List.mem_cons_of_mem _ List.mem_cons_self) rfl
          have HM := show Hid _ from M.box [.int .i64 e.kids[k].kind, .int .i64 e.kids[k].value, .slice ka e.kids[k].kids.length kc] 58
          have HP := show Hid _ from scanPre_succ nv na (d := d) (c := c + 1) hlt
          have HX := show Hid (scanB nv na d (c + 1 + szEs (e.kids.take k)) e.kids[k] = false → scanB nv na (d + 1) c e = false) from fun h => HSC.out.trans (scanPre_end hlt h)
          have HT := show Hid _ from szEs_take1 hlt
          clear hcell hncb bz hkk M
          go_wp2_with fail
          refine (ih (deep + 1) (by omega) (by omega) e.kids[k] _ _ (c + 1 + szEs (e.kids.take k)) cb _ ⟨_, rfl, HE.out⟩ HNCB.out (HM.out.blk 0 rfl) hle).mono ?_
          rintro x w2 ⟨rfl, r1, ⟨u, r2⟩, kp⟩
          obtain ⟨q, hq⟩ : ∃ q, q = scanB nv na d (c + 1 + szEs (e.kids.take k)) e.kids[k] := ⟨_, rfl⟩
          rw [← hq] at r1 ⊢
          have HQ2 := show Hid _ from hq
          clear hq x0 x1 x2 g0 g1 g2
          cases q
          · have M2 := HM.out.callB 0 rfl kp r2
            have HF := show Hid _ from HX.out HQ2.out.symm
            clear r1 r2 kp
            go_wp2_with fail
            go_ret
            exact ⟨ret_bool (by rw [HF.out]), fun h => absurd (h.symm.trans HF.out) (by simp), ⟨_, M2.blk 0 rfl⟩, M2.kept⟩
          · have M2 := (HM.out.callB 0 rfl kp (r1 rfl)).take 4
            have HM2 := show Hid _ from M2
            clear r1 r2 kp M2
            go_wp2_with fail
            refine ⟨⟨k + 1, by omega, by go_num, by rw [HP.out, HPRE.out, ← HQ2.out]; rfl, ?_⟩, by simp [intOf]; omega⟩
            rw [HT.out, show c + 1 + (szEs (e.kids.take k) + (1 + szE e.kids[k])) = c + 1 + szEs (e.kids.take k) + 1 + szE e.kids[k] by omega]
            exact HM2.out
        · have hkn : k = e.kids.length := by omega
          subst hkn
          have HM := show Hid _ from M
          have HS : Hid (scanB nv na (d + 1) c e = true) := HSC.out.trans HPRE.out
          clear M
          go_wp2_with fail
          go_ret
          refine ⟨ret_bool (by rw [HS.out]), fun _ => ?_, ⟨_, HM.out.blk 0 rfl⟩, HM.out.kept⟩
          have := HM.out.blk 0 rfl
          rw [List.take_of_length_le (Nat.le_refl _)] at this
          rw [szE_kids]
          exact this
    have qq1 : (e.kind == 3) = false := by simp [k3]
    have qq2 := qq1
    have HRD : Hid (readB e = true) := by unfold Hid readB; simp [k3]
    have hhi : (0 : Int) = limit nv na e.kind - 1 := by unfold limit; rw [if_neg k1, if_neg k2, if_neg k3]; rfl
    clear k1 k2 k3
    have HNB := show Hid (nodeB nv na e = (decide (0 ≤ e.value) && decide (e.value ≤ 0))) from by
      unfold Hid nodeB; rw [decide_eq_true HQ.out.2, limit_high hhi]; rfl
    clear hhi
    go_wp2_with fail
    refine (impl_within e.value 0 _ _).mono ?_
    rintro x w1 ⟨rfl, rfl⟩
    have HNB2 := show Hid (nodeB nv na e = (decide (0 ≤ e.value) && decide (e.value ≤ 0))) from HNB.out
    clear HNB
    obtain ⟨qn, hqn⟩ : ∃ qn, qn = (decide (0 ≤ e.value) && decide (e.value ≤ 0)) := ⟨_, rfl⟩
    rw [← hqn]
    have HN := show Hid (nodeB nv na e = qn) from HNB2.out.trans hqn.symm
    clear hqn HNB2
    cases qn
    · have HF : Hid (scanB nv na (d + 1) c e = false) := scanB_noNode HN.out
      have M := HM.out
      clear HM
      go_wp2_with fail
      go_ret
      exact ⟨ret_bool (by rw [HF.out]), fun h => absurd (h.symm.trans HF.out) (by simp), ⟨_, M.blk 0 rfl⟩, M.kept⟩
    have HSC : Hid (scanB nv na (d + 1) c e = scanPre nv na d (c + 1) e.kids e.kids.length) := scanB_node HN.out HRD.out
    go_wp2_with fail
    clear y0 y1 y2 y3 y4
    have HST : Hid (scanPre nv na d (c + 1) e.kids 0 = true ∧ Mem φ' (fun b => ¬ b = cb) w W1 [.box cb [.int .i64 (c + 1 + szEs (e.kids.take 0) : Nat)], .box w.heap.size [.slice a1 nv c1, .slice a2 na c2, v3], .box (w.heap.size + 1) [.int .i64 e.kind, .int .i64 e.value, .slice ak e.kids.length ck], .dat (fun w φ => KidsV w φ (.slice ak e.kids.length ck) e.kids)]) := by
      refine ⟨?_, ?_⟩
      · have := HQ.out.1
        simp [scanPre, szEs]; omega
      · rw [show ((c + 1 + szEs (e.kids.take 0) : Nat) : Int) = (c : Int) + 1 by simp [szEs]]
        exact HM.out
    go_loopw [71] (fun i wr => ∃ k : Nat, k ≤ e.kids.length ∧ i = .int .i64 k ∧ scanPre nv na d (c + 1) e.kids k = true ∧ Mem φ' (fun b => ¬ b = cb) w wr [.box cb [.int .i64 (c + 1 + szEs (e.kids.take k) : Nat)], .box w.heap.size [.slice a1 nv c1, .slice a2 na c2, v3], .box (w.heap.size + 1) [.int .i64 e.kind, .int .i64 e.value, .slice ak e.kids.length ck], .dat (fun w φ => KidsV w φ (.slice ak e.kids.length ck) e.kids)]) (fun i _ => e.kids.length - (intOf i).toNat)
    case atStart => exact ⟨0, Nat.zero_le _, rfl, HST.out.1, HST.out.2⟩
    case round =>
      clear HM
      obtain ⟨k, hk, rfl, hpre, M⟩ := hrel
      have HPRE := show Hid _ from hpre
      have hle : c + 1 + szEs (e.kids.take k) ≤ 15 := by unfold scanPre at hpre; simp at hpre; exact hpre.2
      clear hpre
      by_cases hlt : k < e.kids.length
      · have hncb : ¬ Fr φ' [.box cb [.int .i64 (c + 1 + szEs (e.kids.take k) : Nat)], .box w.heap.size [.slice a1 nv c1, .slice a2 na c2, v3], .box (w.heap.size + 1) [.int .i64 e.kind, .int .i64 e.value, .slice ak e.kids.length ck], .dat (fun w φ => KidsV w φ (.slice ak e.kids.length ck) e.kids)] cb := fun h => h.2 _ List.mem_cons_self rfl
        obtain ⟨a', c', he, -, -, -, hcell⟩ := (M.d 3 rfl).open
        cases he
        obtain ⟨b, off, kv, hbo, hbk, hf, g0, g1, g2, hkk⟩ := hcell k hlt
        cases hbo
        obtain ⟨ka, kc, rfl, -, -, -, -⟩ := hkk.open
        have bz : Below wr.heap.size wr (wr.alloc (.cells #[.int .i64 e.kids[k].kind, .int .i64 e.kids[k].value, .slice ka e.kids[k].kids.length kc] 58)) := by go_grown
        have HE := show Hid _ from KidsV.nice _ _ _ _ _ _ (Agr.below bz) hkk
        have HNCB := show Hid _ from hncb
        have x0 := M.c 1 0 rfl rfl
        have x1 := M.c 1 1 rfl rfl
        have x2 := M.c 1 2 rfl rfl
        have s1 : w.heap.size < wr.heap.size := M.lt (r := .box w.heap.size [.slice a1 nv c1, .slice a2 na c2, v3]) (List.mem_cons_of_mem _ List.mem_cons_self) rfl
        have HM := show Hid _ from M.box [.int .i64 e.kids[k].kind, .int .i64 e.kids[k].value, .slice ka e.kids[k].kids.length kc] 58
        have HP := show Hid _ from scanPre_succ nv na (d := d) (c := c + 1) hlt
        have HX := show Hid (scanB nv na d (c + 1 + szEs (e.kids.take k)) e.kids[k] = false → scanB nv na (d + 1) c e = false) from fun h => HSC.out.trans (scanPre_end hlt h)
        have HT := show Hid _ from szEs_take1 hlt
        clear hcell hncb bz hkk M
        go_wp2_with fail
        refine (ih (deep + 1) (by omega) (by omega) e.kids[k] _ _ (c + 1 + szEs (e.kids.take k)) cb _ ⟨_, rfl, HE.out⟩ HNCB.out (HM.out.blk 0 rfl) hle).mono ?_
        rintro x w2 ⟨rfl, r1, ⟨u, r2⟩, kp⟩
        obtain ⟨q, hq⟩ : ∃ q, q = scanB nv na d (c + 1 + szEs (e.kids.take k)) e.kids[k] := ⟨_, rfl⟩
        rw [← hq] at r1 ⊢
        have HQ2 := show Hid _ from hq
        clear hq x0 x1 x2 g0 g1 g2
        cases q
        · have M2 := HM.out.callB 0 rfl kp r2
          have HF := show Hid _ from HX.out HQ2.out.symm
          clear r1 r2 kp
          go_wp2_with fail
          go_ret
          exact ⟨ret_bool (by rw [HF.out]), fun h => absurd (h.symm.trans HF.out) (by simp), ⟨_, M2.blk 0 rfl⟩, M2.kept⟩
        · have M2 := (HM.out.callB 0 rfl kp (r1 rfl)).take 4
          have HM2 := show Hid _ from M2
          clear r1 r2 kp M2
          go_wp2_with fail
          refine ⟨⟨k + 1, by omega, by go_num, by rw [HP.out, HPRE.out, ← HQ2.out]; rfl, ?_⟩, by simp [intOf]; omega⟩
          rw [HT.out, show c + 1 + (szEs (e.kids.take k) + (1 + szE e.kids[k])) = c + 1 + szEs (e.kids.take k) + 1 + szE e.kids[k] by omega]
          exact HM2.out
      · have hkn : k = e.kids.length := by omega
        subst hkn
        have HM := show Hid _ from M
        have HS : Hid (scanB nv na (d + 1) c e = true) := HSC.out.trans HPRE.out
        clear M
        go_wp2_with fail
        go_ret
        refine ⟨ret_bool (by rw [HS.out]), fun _ => ?_, ⟨_, HM.out.blk 0 rfl⟩, HM.out.kept⟩
        have := HM.out.blk 0 rfl
        rw [List.take_of_length_le (Nat.le_refl _)] at this
        rw [szE_kids]
        exact this


theorem scan_right (nv na : Nat) (e : LExpr) : scanB nv na 5 0 e = rightB nv na e := by
  have h : (0 + 1 + szE e ≤ 15) = (1 + szE e ≤ 15) := by rw [Nat.zero_add]
  unfold scanB rightB
  simp only [h]

set_option maxHeartbeats 1000000 in
theorem impl_expr (a1 a2 : Option Addr) (nv c1 na c2 : Nat) (v3 : Value) (h1 : nv ≤ 9223372036854775807) (h2 : na ≤ 9223372036854775807) (e : LExpr) (φ : Nat → Prop) (v : Value) (w : World) (h : ExprV w φ v e) :
    Calls Try.prog 145 #[.agg #[.slice a1 nv c1, .slice a2 na c2, v3], v] w fun x w' => x = .returned (.bool (rightB nv na e)) ∧ Below w.heap.size w w' := by
  obtain ⟨kv, rfl, hk⟩ := h
  obtain ⟨W, hW, M⟩ : ∃ W, W = ((w.alloc (.cells #[.slice a1 nv c1, .slice a2 na c2, v3] 31)).alloc (.cells #[.int .i64 e.kind, .int .i64 e.value, kv] 58)).alloc (.cells #[.int .i64 0] 3) ∧ Mem (fun _ => True) (fun _ => True) w W [.box w.heap.size [.slice a1 nv c1, .slice a2 na c2, v3], .box (w.heap.size + 1) [.int .i64 e.kind, .int .i64 e.value, kv], .box (w.heap.size + 1 + 1) [.int .i64 0]] :=
    ⟨_, rfl, (((Mem.start fun _ _ => trivial).box _ _).box' _ _ (by simp)).box' _ _ (by simp)⟩
  have hb := M.below fun _ _ => trivial
  have HK := show Hid _ from KidsV.nice _ _ _ _ φ (fun b => φ b ∧ b < w.heap.size) ⟨hb.size, fun b hl hf => ⟨⟨hf, hl⟩, hb.block b hl⟩⟩ hk
  clear hb hk
  have x0 := M.c 0 0 rfl rfl
  have x1 := M.c 0 1 rfl rfl
  have x2 := M.c 0 2 rfl rfl
  have y0 := M.c 1 0 rfl rfl
  have y1 := M.c 1 1 rfl rfl
  have y2 := M.c 1 2 rfl rfl
  have HM := show Hid _ from M
  rw [hW] at x0 x1 x2 y0 y1 y2
  clear M
  go_enter Try.func145, Try.ntmps145
  go_wp2_with fail
  rw [← hW]
  clear hW x0 x1 x2 y0 y1 y2
  refine (impl_scan a1 a2 nv c1 na c2 v3 h1 h2 5 1 (by omega) (by omega) e _ _ 0 _ _ ⟨kv, rfl, HK.out⟩ (fun h => by have := h.2; omega) (HM.out.blk 2 rfl) (by omega)).mono ?_
  rintro x w1 ⟨rfl, -, ⟨u, r2⟩, kp⟩
  rw [scan_right]
  have M := HM.out.callB 2 rfl kp r2
  have HB := show Hid _ from M.below fun _ _ => trivial
  clear kp r2 M
  go_wp2_with fail
  go_ret
  exact ⟨rfl, HB.out⟩


set_option maxHeartbeats 400000 in
theorem spec_l2None (k n : Int) (a : Option Addr) (len c : Nat) (w : World) (hl : len ≤ 9223372036854775807) : Calls Try.prog 170 #[.agg #[.int .i64 k, .int .i64 n, .slice a len c]] w fun e w' => e = .returned (.bool (decide (k = 0) && decide (n = 0) && decide (len = 0))) ∧ Below w.heap.size w w' := by
  by_cases q1 : k = 0
  case neg =>
    have p1 : (k == 0) = false := by simp [q1]
    have HQ := show Hid _ from q1
    clear q1
    go_enter Try.func170, Try.ntmps170
    go_wp2_with fail
    go_ret
    exact ⟨ret_bool (by rw [decide_eq_false HQ.out]; rfl), by go_grown⟩
  have p1 : (k == 0) = true := by simp [q1]
  have HQ := show Hid _ from q1
  clear q1
  by_cases q2 : n = 0
  case neg =>
    have p2 : (n == 0) = false := by simp [q2]
    have HQ2 := show Hid _ from q2
    clear q2
    go_enter Try.func170, Try.ntmps170
    go_wp2_with fail
    go_ret
    exact ⟨ret_bool (by rw [decide_eq_true HQ.out, decide_eq_false HQ2.out]; rfl), by go_grown⟩
  have p2 : (n == 0) = true := by simp [q2]
  have HQ2 := show Hid _ from q2
  clear q2
  by_cases q3 : len = 0
  case neg =>
    have p3 : ((len : Int) == 0) = false := by simp [q3]
    have HQ3 := show Hid _ from q3
    clear q3
    go_enter Try.func170, Try.ntmps170
    go_wp2_with fail
    go_ret
    exact ⟨ret_bool (by rw [decide_eq_true HQ.out, decide_eq_true HQ2.out, decide_eq_false HQ3.out]; rfl), by go_grown⟩
  have p3 : ((len : Int) == 0) = true := by simp [q3]
  have HQ3 := show Hid _ from q3
  clear q3
  go_enter Try.func170, Try.ntmps170
  go_wp2_with fail
  go_ret
  exact ⟨ret_bool (by rw [decide_eq_true HQ.out, decide_eq_true HQ2.out, decide_eq_true HQ3.out]; rfl), by go_grown⟩

theorem StmtV.form {w : World} {φ : Nat → Prop} {v : Value} {s : LStmt} (h : StmtV w φ v s) : ∃ ai ci av cv ab cb ae ce, v = .agg #[.int .i64 s.kind, .int .i64 s.target, .int .i64 s.index.kind, .int .i64 s.index.value, .slice ai s.index.kids.length ci, .int .i64 s.value.kind, .int .i64 s.value.value, .slice av s.value.kids.length cv, .int .i64 s.count, .slice ab s.body.length cb, .slice ae s.els.length ce] ∧
    (KidsV w φ (.slice ai s.index.kids.length ci) s.index.kids ∧ KidsV w φ (.slice av s.value.kids.length cv) s.value.kids ∧ BlockV w φ (.slice ab s.body.length cb) s.body ∧ BlockV w φ (.slice ae s.els.length ce) s.els) ∧
    (s.index.kids.length ≤ 9223372036854775807 ∧ s.value.kids.length ≤ 9223372036854775807 ∧ s.body.length ≤ 9223372036854775807 ∧ s.els.length ≤ 9223372036854775807) := by
  obtain ⟨iv, vv, bv, ev, rfl, h1, h2, h3, h4⟩ := h
  obtain ⟨ai, ci, rfl, -, l1, -⟩ := h1.open
  obtain ⟨av, cv, rfl, -, l2, -⟩ := h2.open
  obtain ⟨ab, cb, rfl, -, l3, -⟩ := h3.open
  obtain ⟨ae, ce, rfl, -, l4, -⟩ := h4.open
  exact ⟨ai, ci, av, cv, ab, cb, ae, ce, rfl, ⟨h1, h2, h3, h4⟩, l1, l2, l3, l4⟩

set_option maxHeartbeats 4000000 in
theorem spec_l2Parts (φ : Nat → Prop) (v : Value) (s : LStmt) (w : World) (h : StmtV w φ v s) :
    Calls Try.prog 163 #[v] w fun x w' => x = .returned (.bool (partsB s)) ∧ Below w.heap.size w w' := by
  obtain ⟨ai, ci, av, cv, ab, cb, ae, ce, rfl, -, hl⟩ := h.form
  have HL := show Hid _ from hl
  have hl3 := hl.2.2.1
  have hl4 := hl.2.2.2
  clear h hl
  have HD : Hid (partsB s = if (s.kind = 3 ∨ s.kind = 4) then decide (s.target = 0) && (if s.kind = 4 then decide (s.els.length = 0) && decide (1 ≤ s.count) && decide (s.count ≤ 3) && noneB s.index && noneB s.value else decide (s.count = 0) && noneB s.index)
      else decide (s.body.length = 0) && decide (s.els.length = 0) && decide (s.count = 0) && (decide (s.kind = 2) || noneB s.index)) := rfl
  obtain ⟨W, hW, M⟩ : ∃ W, W = w.alloc (.cells #[.int .i64 s.kind, .int .i64 s.target, .int .i64 s.index.kind, .int .i64 s.index.value, .slice ai s.index.kids.length ci, .int .i64 s.value.kind, .int .i64 s.value.value, .slice av s.value.kids.length cv, .int .i64 s.count, .slice ab s.body.length cb, .slice ae s.els.length ce] 60) ∧ Mem (fun _ => True) (fun _ => True) w W [.box w.heap.size [.int .i64 s.kind, .int .i64 s.target, .int .i64 s.index.kind, .int .i64 s.index.value, .slice ai s.index.kids.length ci, .int .i64 s.value.kind, .int .i64 s.value.value, .slice av s.value.kids.length cv, .int .i64 s.count, .slice ab s.body.length cb, .slice ae s.els.length ce]] :=
    ⟨_, rfl, (Mem.start fun _ _ => trivial).box _ _⟩
  by_cases qk : s.kind = 3
  · have pk : (s.kind == 3) = true := by simp [qk]
    have pk4 : (s.kind == 4) = false := by simp [qk]
    have pk2 : (s.kind == 2) = false := by simp [qk]
    by_cases qpt : s.target = 0
    case neg =>
      have pt : (s.target != 0) = true := by first | (simp [qpt]; done) | (simp; omega) | exact decide_eq_true (by omega) | exact decide_eq_false (by omega)
      have HP : Hid (partsB s = false) := by rw [Hid, HD.out]; simp [qk, qpt]
      clear qpt qk HD
      have c0 := M.c 0 0 rfl rfl
      have c1 := M.c 0 1 rfl rfl
      have c2 := M.c 0 2 rfl rfl
      have c3 := M.c 0 3 rfl rfl
      have c4 := M.c 0 4 rfl rfl
      have c5 := M.c 0 5 rfl rfl
      have c6 := M.c 0 6 rfl rfl
      have c7 := M.c 0 7 rfl rfl
      have c8 := M.c 0 8 rfl rfl
      have c9 := M.c 0 9 rfl rfl
      have c10 := M.c 0 10 rfl rfl
      have HM := show Hid _ from M
      rw [hW] at c0 c1 c2 c3 c4 c5 c6 c7 c8 c9 c10
      clear M
      go_enter Try.func163, Try.ntmps163
      go_wp2_with fail
      rw [← hW]
      clear hW
      have M := HM.out
      clear HM c0 c1 c2 c3 c4 c5 c6 c7 c8 c9 c10
      go_ret
      exact ⟨ret_bool (by rw [HP.out]), M.below fun _ _ => trivial⟩
    have pt : (s.target != 0) = false := by first | (simp [qpt]; done) | (simp; omega) | exact decide_eq_true (by omega) | exact decide_eq_false (by omega)
    by_cases qpc : s.count = 0
    case neg =>
      have pc : (s.count == 0) = false := by first | (simp [qpc]; done) | (simp; omega) | exact decide_eq_true (by omega) | exact decide_eq_false (by omega)
      have HP : Hid (partsB s = false) := by rw [Hid, HD.out]; simp [qk, qpt, qpc]
      clear qpc qk qpt HD
      have c0 := M.c 0 0 rfl rfl
      have c1 := M.c 0 1 rfl rfl
      have c2 := M.c 0 2 rfl rfl
      have c3 := M.c 0 3 rfl rfl
      have c4 := M.c 0 4 rfl rfl
      have c5 := M.c 0 5 rfl rfl
      have c6 := M.c 0 6 rfl rfl
      have c7 := M.c 0 7 rfl rfl
      have c8 := M.c 0 8 rfl rfl
      have c9 := M.c 0 9 rfl rfl
      have c10 := M.c 0 10 rfl rfl
      have HM := show Hid _ from M
      rw [hW] at c0 c1 c2 c3 c4 c5 c6 c7 c8 c9 c10
      clear M
      go_enter Try.func163, Try.ntmps163
      go_wp2_with fail
      rw [← hW]
      clear hW
      have M := HM.out
      clear HM c0 c1 c2 c3 c4 c5 c6 c7 c8 c9 c10
      go_ret
      exact ⟨ret_bool (by rw [HP.out]), M.below fun _ _ => trivial⟩
    have pc : (s.count == 0) = true := by first | (simp [qpc]; done) | (simp; omega) | exact decide_eq_true (by omega) | exact decide_eq_false (by omega)
    have HP : Hid (partsB s = noneB s.index) := by rw [Hid, HD.out]; simp [qk, qpt, qpc]
    clear qpt qpc HD qk
    have c0 := M.c 0 0 rfl rfl
    have c1 := M.c 0 1 rfl rfl
    have c2 := M.c 0 2 rfl rfl
    have c3 := M.c 0 3 rfl rfl
    have c4 := M.c 0 4 rfl rfl
    have c5 := M.c 0 5 rfl rfl
    have c6 := M.c 0 6 rfl rfl
    have c7 := M.c 0 7 rfl rfl
    have c8 := M.c 0 8 rfl rfl
    have c9 := M.c 0 9 rfl rfl
    have c10 := M.c 0 10 rfl rfl
    have HM := show Hid _ from M
    rw [hW] at c0 c1 c2 c3 c4 c5 c6 c7 c8 c9 c10
    clear M
    go_enter Try.func163, Try.ntmps163
    go_wp2_with fail
    rw [← hW]
    clear hW
    have M := HM.out
    clear HM c0 c1 c2 c3 c4 c5 c6 c7 c8 c9 c10
    refine (spec_l2None s.index.kind s.index.value ai s.index.kids.length ci _ HL.out.1).mono ?_
    rintro x w1 ⟨rfl, b1⟩
    rw [show (decide (s.index.kind = 0) && decide (s.index.value = 0) && decide (s.index.kids.length = 0)) = noneB s.index from rfl]
    replace M := M.call b1
    clear b1
    have HM := show Hid _ from M
    clear M
    go_wp2_with fail
    go_ret
    exact ⟨ret_bool (by rw [HP.out]), HM.out.below fun _ _ => trivial⟩
  have qk3 := qk
  have pk3 : (s.kind == 3) = false := by simp [qk]
  clear qk
  by_cases qk : s.kind = 4
  · have pk4 : (s.kind == 4) = true := by simp [qk]
    clear qk3
    by_cases qpt : s.target = 0
    case neg =>
      have pt : (s.target != 0) = true := by first | (simp [qpt]; done) | (simp; omega) | exact decide_eq_true (by omega) | exact decide_eq_false (by omega)
      have HP : Hid (partsB s = false) := by rw [Hid, HD.out]; simp [qk, qpt]
      clear qpt qk HD
      have c0 := M.c 0 0 rfl rfl
      have c1 := M.c 0 1 rfl rfl
      have c2 := M.c 0 2 rfl rfl
      have c3 := M.c 0 3 rfl rfl
      have c4 := M.c 0 4 rfl rfl
      have c5 := M.c 0 5 rfl rfl
      have c6 := M.c 0 6 rfl rfl
      have c7 := M.c 0 7 rfl rfl
      have c8 := M.c 0 8 rfl rfl
      have c9 := M.c 0 9 rfl rfl
      have c10 := M.c 0 10 rfl rfl
      have HM := show Hid _ from M
      rw [hW] at c0 c1 c2 c3 c4 c5 c6 c7 c8 c9 c10
      clear M
      go_enter Try.func163, Try.ntmps163
      go_wp2_with fail
      rw [← hW]
      clear hW
      have M := HM.out
      clear HM c0 c1 c2 c3 c4 c5 c6 c7 c8 c9 c10
      go_ret
      exact ⟨ret_bool (by rw [HP.out]), M.below fun _ _ => trivial⟩
    have pt : (s.target != 0) = false := by first | (simp [qpt]; done) | (simp; omega) | exact decide_eq_true (by omega) | exact decide_eq_false (by omega)
    by_cases qpe : s.els.length = 0
    case neg =>
      have pe : ((s.els.length : Int) == 0) = false := by first | (simp [qpe]; done) | (simp; omega) | exact decide_eq_true (by omega) | exact decide_eq_false (by omega)
      have HP : Hid (partsB s = false) := by rw [Hid, HD.out]; simp [qk, qpt, qpe]
      clear qpe qk qpt HD
      have c0 := M.c 0 0 rfl rfl
      have c1 := M.c 0 1 rfl rfl
      have c2 := M.c 0 2 rfl rfl
      have c3 := M.c 0 3 rfl rfl
      have c4 := M.c 0 4 rfl rfl
      have c5 := M.c 0 5 rfl rfl
      have c6 := M.c 0 6 rfl rfl
      have c7 := M.c 0 7 rfl rfl
      have c8 := M.c 0 8 rfl rfl
      have c9 := M.c 0 9 rfl rfl
      have c10 := M.c 0 10 rfl rfl
      have HM := show Hid _ from M
      rw [hW] at c0 c1 c2 c3 c4 c5 c6 c7 c8 c9 c10
      clear M
      go_enter Try.func163, Try.ntmps163
      go_wp2_with fail
      rw [← hW]
      clear hW
      have M := HM.out
      clear HM c0 c1 c2 c3 c4 c5 c6 c7 c8 c9 c10
      go_ret
      exact ⟨ret_bool (by rw [HP.out]), M.below fun _ _ => trivial⟩
    have pe : ((s.els.length : Int) == 0) = true := by first | (simp [qpe]; done) | (simp; omega) | exact decide_eq_true (by omega) | exact decide_eq_false (by omega)
    by_cases qp1 : 1 ≤ s.count
    case neg =>
      have p1 : decide (1 ≤ s.count) = false := by first | (simp [qp1]; done) | (simp; omega) | exact decide_eq_true (by omega) | exact decide_eq_false (by omega)
      have HP : Hid (partsB s = false) := by rw [Hid, HD.out]; simp [qk, qpt, qpe, qp1]
      clear qp1 qk qpt qpe HD
      have c0 := M.c 0 0 rfl rfl
      have c1 := M.c 0 1 rfl rfl
      have c2 := M.c 0 2 rfl rfl
      have c3 := M.c 0 3 rfl rfl
      have c4 := M.c 0 4 rfl rfl
      have c5 := M.c 0 5 rfl rfl
      have c6 := M.c 0 6 rfl rfl
      have c7 := M.c 0 7 rfl rfl
      have c8 := M.c 0 8 rfl rfl
      have c9 := M.c 0 9 rfl rfl
      have c10 := M.c 0 10 rfl rfl
      have HM := show Hid _ from M
      rw [hW] at c0 c1 c2 c3 c4 c5 c6 c7 c8 c9 c10
      clear M
      go_enter Try.func163, Try.ntmps163
      go_wp2_with fail
      rw [← hW]
      clear hW
      have M := HM.out
      clear HM c0 c1 c2 c3 c4 c5 c6 c7 c8 c9 c10
      go_ret
      exact ⟨ret_bool (by rw [HP.out]), M.below fun _ _ => trivial⟩
    have p1 : decide (1 ≤ s.count) = true := by first | (simp [qp1]; done) | (simp; omega) | exact decide_eq_true (by omega) | exact decide_eq_false (by omega)
    by_cases qp3 : s.count ≤ 3
    case neg =>
      have p3 : decide (s.count ≤ 3) = false := by first | (simp [qp3]; done) | (simp; omega) | exact decide_eq_true (by omega) | exact decide_eq_false (by omega)
      have HP : Hid (partsB s = false) := by rw [Hid, HD.out]; simp [qk, qpt, qpe, qp1, qp3]
      clear qp3 qk qpt qpe qp1 HD
      have c0 := M.c 0 0 rfl rfl
      have c1 := M.c 0 1 rfl rfl
      have c2 := M.c 0 2 rfl rfl
      have c3 := M.c 0 3 rfl rfl
      have c4 := M.c 0 4 rfl rfl
      have c5 := M.c 0 5 rfl rfl
      have c6 := M.c 0 6 rfl rfl
      have c7 := M.c 0 7 rfl rfl
      have c8 := M.c 0 8 rfl rfl
      have c9 := M.c 0 9 rfl rfl
      have c10 := M.c 0 10 rfl rfl
      have HM := show Hid _ from M
      rw [hW] at c0 c1 c2 c3 c4 c5 c6 c7 c8 c9 c10
      clear M
      go_enter Try.func163, Try.ntmps163
      go_wp2_with fail
      rw [← hW]
      clear hW
      have M := HM.out
      clear HM c0 c1 c2 c3 c4 c5 c6 c7 c8 c9 c10
      go_ret
      exact ⟨ret_bool (by rw [HP.out]), M.below fun _ _ => trivial⟩
    have p3 : decide (s.count ≤ 3) = true := by first | (simp [qp3]; done) | (simp; omega) | exact decide_eq_true (by omega) | exact decide_eq_false (by omega)
    have HP0 : Hid (partsB s = (noneB s.index && noneB s.value)) := by rw [Hid, HD.out]; simp [qk, qpt, qpe, qp1, qp3]
    clear qpt qpe qp1 qp3 HD qk
    have c0 := M.c 0 0 rfl rfl
    have c1 := M.c 0 1 rfl rfl
    have c2 := M.c 0 2 rfl rfl
    have c3 := M.c 0 3 rfl rfl
    have c4 := M.c 0 4 rfl rfl
    have c5 := M.c 0 5 rfl rfl
    have c6 := M.c 0 6 rfl rfl
    have c7 := M.c 0 7 rfl rfl
    have c8 := M.c 0 8 rfl rfl
    have c9 := M.c 0 9 rfl rfl
    have c10 := M.c 0 10 rfl rfl
    have HM := show Hid _ from M
    rw [hW] at c0 c1 c2 c3 c4 c5 c6 c7 c8 c9 c10
    clear M
    go_enter Try.func163, Try.ntmps163
    go_wp2_with fail
    rw [← hW]
    clear hW
    have M := HM.out
    clear HM c0 c1 c2 c3 c4 c5 c6 c7 c8 c9 c10
    refine (spec_l2None s.index.kind s.index.value ai s.index.kids.length ci _ HL.out.1).mono ?_
    rintro x w1 ⟨rfl, b1⟩
    rw [show (decide (s.index.kind = 0) && decide (s.index.value = 0) && decide (s.index.kids.length = 0)) = noneB s.index from rfl]
    replace M := M.call b1
    clear b1
    obtain ⟨b, hb⟩ : ∃ b, b = noneB s.index := ⟨_, rfl⟩
    rw [← hb]
    have HB := show Hid _ from hb
    clear hb
    cases b
    · have HP : Hid (partsB s = false) := by rw [Hid, HP0.out, ← HB.out]; rfl
      clear HP0
      have HM := show Hid _ from M
      clear M
      go_wp2_with fail
      go_ret
      exact ⟨ret_bool (by rw [HP.out]), HM.out.below fun _ _ => trivial⟩
    · have HP : Hid (partsB s = noneB s.value) := by rw [Hid, HP0.out, ← HB.out]; rfl
      clear HP0
      have c5 := M.c 0 5 rfl rfl
      have c6 := M.c 0 6 rfl rfl
      have c7 := M.c 0 7 rfl rfl
      have HM := show Hid _ from M
      clear M
      go_wp2_with fail
      have M := HM.out
      clear HM c5 c6 c7
      refine (spec_l2None s.value.kind s.value.value av s.value.kids.length cv _ HL.out.2.1).mono ?_
      rintro x w1 ⟨rfl, b1⟩
      rw [show (decide (s.value.kind = 0) && decide (s.value.value = 0) && decide (s.value.kids.length = 0)) = noneB s.value from rfl]
      replace M := M.call b1
      clear b1
      have HM := show Hid _ from M
      clear M
      go_wp2_with fail
      go_ret
      exact ⟨ret_bool (by rw [HP.out]), HM.out.below fun _ _ => trivial⟩
  have qk4 := qk
  have pk4 : (s.kind == 4) = false := by simp [qk]
  clear qk
  by_cases qpb : s.body.length = 0
  case neg =>
    have pb : decide (0 < s.body.length) = true := by first | (simp [qpb]; done) | (simp; omega) | exact decide_eq_true (by omega) | exact decide_eq_false (by omega)
    have HP : Hid (partsB s = false) := by rw [Hid, HD.out]; simp [qk3, qk4, qpb]
    clear qpb qk3 qk4 HD
    have c0 := M.c 0 0 rfl rfl
    have c1 := M.c 0 1 rfl rfl
    have c2 := M.c 0 2 rfl rfl
    have c3 := M.c 0 3 rfl rfl
    have c4 := M.c 0 4 rfl rfl
    have c5 := M.c 0 5 rfl rfl
    have c6 := M.c 0 6 rfl rfl
    have c7 := M.c 0 7 rfl rfl
    have c8 := M.c 0 8 rfl rfl
    have c9 := M.c 0 9 rfl rfl
    have c10 := M.c 0 10 rfl rfl
    have HM := show Hid _ from M
    rw [hW] at c0 c1 c2 c3 c4 c5 c6 c7 c8 c9 c10
    clear M
    go_enter Try.func163, Try.ntmps163
    go_wp2_with fail
    rw [← hW]
    clear hW
    have M := HM.out
    clear HM c0 c1 c2 c3 c4 c5 c6 c7 c8 c9 c10
    go_ret
    exact ⟨ret_bool (by rw [HP.out]), M.below fun _ _ => trivial⟩
  have pb : decide (0 < s.body.length) = false := by first | (simp [qpb]; done) | (simp; omega) | exact decide_eq_true (by omega) | exact decide_eq_false (by omega)
  by_cases qpe : s.els.length = 0
  case neg =>
    have pe : decide (0 < s.els.length) = true := by first | (simp [qpe]; done) | (simp; omega) | exact decide_eq_true (by omega) | exact decide_eq_false (by omega)
    have HP : Hid (partsB s = false) := by rw [Hid, HD.out]; simp [qk3, qk4, qpb, qpe]
    clear qpe qk3 qk4 qpb HD
    have c0 := M.c 0 0 rfl rfl
    have c1 := M.c 0 1 rfl rfl
    have c2 := M.c 0 2 rfl rfl
    have c3 := M.c 0 3 rfl rfl
    have c4 := M.c 0 4 rfl rfl
    have c5 := M.c 0 5 rfl rfl
    have c6 := M.c 0 6 rfl rfl
    have c7 := M.c 0 7 rfl rfl
    have c8 := M.c 0 8 rfl rfl
    have c9 := M.c 0 9 rfl rfl
    have c10 := M.c 0 10 rfl rfl
    have HM := show Hid _ from M
    rw [hW] at c0 c1 c2 c3 c4 c5 c6 c7 c8 c9 c10
    clear M
    go_enter Try.func163, Try.ntmps163
    go_wp2_with fail
    rw [← hW]
    clear hW
    have M := HM.out
    clear HM c0 c1 c2 c3 c4 c5 c6 c7 c8 c9 c10
    go_ret
    exact ⟨ret_bool (by rw [HP.out]), M.below fun _ _ => trivial⟩
  have pe : decide (0 < s.els.length) = false := by first | (simp [qpe]; done) | (simp; omega) | exact decide_eq_true (by omega) | exact decide_eq_false (by omega)
  by_cases qpc : s.count = 0
  case neg =>
    have pc : (s.count == 0) = false := by first | (simp [qpc]; done) | (simp; omega) | exact decide_eq_true (by omega) | exact decide_eq_false (by omega)
    have HP : Hid (partsB s = false) := by rw [Hid, HD.out]; simp [qk3, qk4, qpb, qpe, qpc]
    clear qpc qk3 qk4 qpb qpe HD
    have c0 := M.c 0 0 rfl rfl
    have c1 := M.c 0 1 rfl rfl
    have c2 := M.c 0 2 rfl rfl
    have c3 := M.c 0 3 rfl rfl
    have c4 := M.c 0 4 rfl rfl
    have c5 := M.c 0 5 rfl rfl
    have c6 := M.c 0 6 rfl rfl
    have c7 := M.c 0 7 rfl rfl
    have c8 := M.c 0 8 rfl rfl
    have c9 := M.c 0 9 rfl rfl
    have c10 := M.c 0 10 rfl rfl
    have HM := show Hid _ from M
    rw [hW] at c0 c1 c2 c3 c4 c5 c6 c7 c8 c9 c10
    clear M
    go_enter Try.func163, Try.ntmps163
    go_wp2_with fail
    rw [← hW]
    clear hW
    have M := HM.out
    clear HM c0 c1 c2 c3 c4 c5 c6 c7 c8 c9 c10
    go_ret
    exact ⟨ret_bool (by rw [HP.out]), M.below fun _ _ => trivial⟩
  have pc : (s.count == 0) = true := by first | (simp [qpc]; done) | (simp; omega) | exact decide_eq_true (by omega) | exact decide_eq_false (by omega)
  by_cases qk2 : s.kind = 2
  · have pk2 : (s.kind == 2) = true := by simp [qk2]
    have HP : Hid (partsB s = true) := by rw [Hid, HD.out]; simp [qk2, qpb, qpe, qpc]
    clear qk2 qk3 qk4 qpb qpe qpc HD
    have c0 := M.c 0 0 rfl rfl
    have c1 := M.c 0 1 rfl rfl
    have c2 := M.c 0 2 rfl rfl
    have c3 := M.c 0 3 rfl rfl
    have c4 := M.c 0 4 rfl rfl
    have c5 := M.c 0 5 rfl rfl
    have c6 := M.c 0 6 rfl rfl
    have c7 := M.c 0 7 rfl rfl
    have c8 := M.c 0 8 rfl rfl
    have c9 := M.c 0 9 rfl rfl
    have c10 := M.c 0 10 rfl rfl
    have HM := show Hid _ from M
    rw [hW] at c0 c1 c2 c3 c4 c5 c6 c7 c8 c9 c10
    clear M
    go_enter Try.func163, Try.ntmps163
    go_wp2_with fail
    rw [← hW]
    clear hW
    have M := HM.out
    clear HM c0 c1 c2 c3 c4 c5 c6 c7 c8 c9 c10
    go_ret
    exact ⟨ret_bool (by rw [HP.out]), M.below fun _ _ => trivial⟩
  · have pk2 : (s.kind == 2) = false := by simp [qk2]
    have HP : Hid (partsB s = noneB s.index) := by rw [Hid, HD.out]; simp [qk2, qk3, qk4, qpb, qpe, qpc]
    clear qk2 qk3 qk4 qpb qpe qpc HD
    have c0 := M.c 0 0 rfl rfl
    have c1 := M.c 0 1 rfl rfl
    have c2 := M.c 0 2 rfl rfl
    have c3 := M.c 0 3 rfl rfl
    have c4 := M.c 0 4 rfl rfl
    have c5 := M.c 0 5 rfl rfl
    have c6 := M.c 0 6 rfl rfl
    have c7 := M.c 0 7 rfl rfl
    have c8 := M.c 0 8 rfl rfl
    have c9 := M.c 0 9 rfl rfl
    have c10 := M.c 0 10 rfl rfl
    have HM := show Hid _ from M
    rw [hW] at c0 c1 c2 c3 c4 c5 c6 c7 c8 c9 c10
    clear M
    go_enter Try.func163, Try.ntmps163
    go_wp2_with fail
    rw [← hW]
    clear hW
    have M := HM.out
    clear HM c0 c1 c2 c3 c4 c5 c6 c7 c8 c9 c10
    refine (spec_l2None s.index.kind s.index.value ai s.index.kids.length ci _ HL.out.1).mono ?_
    rintro x w1 ⟨rfl, b1⟩
    rw [show (decide (s.index.kind = 0) && decide (s.index.value = 0) && decide (s.index.kids.length = 0)) = noneB s.index from rfl]
    replace M := M.call b1
    clear b1
    have HM := show Hid _ from M
    clear M
    go_wp2_with fail
    go_ret
    exact ⟨ret_bool (by rw [HP.out]), HM.out.below fun _ _ => trivial⟩


def StB (a1 a2 : Option Addr) (nv c1 na c2 : Nat) (v3 : Value) (d : Nat) : Prop := ∀ (s : LStmt) (φ : Nat → Prop) (v : Value) (w : World), StmtV w φ v s →
  Calls Try.prog 144 #[.agg #[.slice a1 nv c1, .slice a2 na c2, v3], v, .int .i64 d] w fun x w' => x = .returned (.bool (stmtB nv na d s)) ∧ Below w.heap.size w w'
def BlB (a1 a2 : Option Addr) (nv c1 na c2 : Nat) (v3 : Value) (d : Nat) : Prop := ∀ (ss : List LStmt) (φ : Nat → Prop) (v : Value) (w : World), BlockV w φ v ss →
  Calls Try.prog 120 #[.agg #[.slice a1 nv c1, .slice a2 na c2, v3], v, .int .i64 d] w fun x w' => x = .returned (.bool (ss.all (stmtB nv na d))) ∧ Below w.heap.size w w'

set_option maxHeartbeats 2000000 in
theorem l2Block_of (a1 a2 : Option Addr) (nv c1 na c2 : Nat) (v3 : Value) (d : Nat) (hd : d ≤ 5) (ih : StB a1 a2 nv c1 na c2 v3 d) : BlB a1 a2 nv c1 na c2 v3 d := by
  intro ss φ v w h
  obtain ⟨ak, ck, rfl, -, hn, -, hc⟩ := h.open
  obtain ⟨W, hW, M⟩ : ∃ W, W = w.alloc (.cells #[.slice a1 nv c1, .slice a2 na c2, v3] 31) ∧ Mem (fun _ => True) (fun _ => True) w W [.box w.heap.size [.slice a1 nv c1, .slice a2 na c2, v3]] :=
    ⟨_, rfl, (Mem.start fun _ _ => trivial).box _ _⟩
  have HC := show Hid _ from hc
  clear h hc
  go_enter Try.func120, Try.ntmps120
  go_wp2_with fail
  rw [← hW]
  clear hW
  go_loopw [7] (fun i wr => ∃ k : Nat, k ≤ ss.length ∧ i = .int .i64 k ∧ (ss.take k).all (stmtB nv na d) = true ∧ Mem (fun _ => True) (fun _ => True) w wr [.box w.heap.size [.slice a1 nv c1, .slice a2 na c2, v3]]) (fun i _ => ss.length - (intOf i).toNat)
  case atStart => exact ⟨0, Nat.zero_le _, rfl, rfl, M⟩
  case round =>
    clear M
    obtain ⟨k, hk, rfl, hall, M⟩ := hrel
    have HALL := show Hid _ from hall
    clear hall
    have hB := M.below fun _ _ => trivial
    have x0 := M.c 0 0 rfl rfl
    have x1 := M.c 0 1 rfl rfl
    have x2 := M.c 0 2 rfl rfl
    by_cases hlt : k < ss.length
    · obtain ⟨b, off, iv, vv, bv, ev, rfl, hbk, hf, ⟨e0, e1, e2, e3, e4, e5, e6, e7, e8, e9, e10⟩, g1, g2, g3, g4⟩ := HC.out k hlt
      rw [← (bcell hB).1 _ _ hbk] at e0 e1 e2 e3 e4 e5 e6 e7 e8 e9 e10
      obtain ⟨q, hq⟩ : ∃ q, q = stmtB nv na d ss[k] := ⟨_, rfl⟩
      have HC3 : Hid (∀ X, Calls Try.prog 144 #[.agg #[.slice a1 nv c1, .slice a2 na c2, v3], .agg #[.int .i64 ss[k].kind, .int .i64 ss[k].target, .int .i64 ss[k].index.kind, .int .i64 ss[k].index.value, iv, .int .i64 ss[k].value.kind, .int .i64 ss[k].value.value, vv, .int .i64 ss[k].count, bv, ev], .int .i64 d] (wr.ext X) fun x w'' => x = .returned (.bool q) ∧ ∃ Y, w'' = wr.ext Y) := fun X => by
        have bb := hB.trans ((ext_below wr X).mono hB.size)
        rw [hq]
        exact Calls.ext_of' (ih _ φ _ _ (StmtV.nice _ _ _ _ _ _ (Agr.below bb) ⟨iv, vv, bv, ev, rfl, g1, g2, g3, g4⟩))
      have HQQ := show Hid _ from hq
      have HM := show Hid _ from M
      have j0 := fun X => ext_cell e0 X
      have j1 := fun X => ext_cell e1 X
      have j2 := fun X => ext_cell e2 X
      have j3 := fun X => ext_cell e3 X
      have j4 := fun X => ext_cell e4 X
      have j5 := fun X => ext_cell e5 X
      have j6 := fun X => ext_cell e6 X
      have j7 := fun X => ext_cell e7 X
      have j8 := fun X => ext_cell e8 X
      have j9 := fun X => ext_cell e9 X
      have j10 := fun X => ext_cell e10 X
      have z0 := fun X => ext_cell x0 X
      have z1 := fun X => ext_cell x1 X
      have z2 := fun X => ext_cell x2 X
      have hlt' : (k : Int) < ss.length := by omega
      clear g1 g2 g3 g4 hq e0 e1 e2 e3 e4 e5 e6 e7 e8 e9 e10 x0 x1 x2 M hB
      cases q
      · go_wp2_with fail
        refine wp_region_ext (by kernel_rfl) (by kernel_rfl) ?_
        repeat (any_goals (first | go_big_quiet_step (((go_at_call 144; exact HC3.out _))) | quiet_step (((go_at_call 144; exact HC3.out _)))))
        refine wpQuiet_nil ?_
        rintro _ ⟨X, rfl⟩
        go_wp2_with fail
        go_ret
        exact ⟨ret_bool (by symm; exact List.all_eq_false.2 ⟨_, List.getElem_mem hlt, by rw [← HQQ.out]; simp⟩), (HM.out.call (ext_below wr X)).below fun _ _ => trivial⟩
      · go_wp2_with fail
        refine wp_region_ext (by kernel_rfl) (by kernel_rfl) ?_
        repeat (any_goals (first | go_big_quiet_step (((go_at_call 144; exact HC3.out _))) | quiet_step (((go_at_call 144; exact HC3.out _)))))
        refine wpQuiet_nil ?_
        rintro _ ⟨X, rfl⟩
        go_wp2_with fail
        refine ⟨⟨k + 1, by omega, by go_num, ?_, HM.out.call (ext_below wr X)⟩, by simp [intOf]; omega⟩
        rw [p_take_succ _ _ hlt, List.all_append, HALL.out]
        simp [← HQQ.out]
    · have hkn : k = ss.length := by omega
      subst hkn
      have hall := HALL.out
      rw [List.take_of_length_le (Nat.le_refl _)] at hall
      have HAL := show Hid _ from hall
      have HB := show Hid _ from hB
      clear hall x0 x1 x2 M hB
      go_wp2_with fail
      go_ret
      exact ⟨ret_bool HAL.out.symm, HB.out⟩

set_option maxRecDepth 100000 in
set_option maxHeartbeats 8000000 in
theorem l2Stmt_of (a1 a2 : Option Addr) (nv c1 na c2 : Nat) (v3 : Value) (h1 : nv ≤ 9223372036854775807) (h2 : na ≤ 9223372036854775807) : ∀ d : Nat, d ≤ 5 → StB a1 a2 nv c1 na c2 v3 d := by
  intro d
  induction d with
  | zero =>
    intro _ s φ v w h
    obtain ⟨ai, ci, av, cv, ab, cb, ae, ce, rfl, -, -⟩ := h.form
    have HP : Hid (stmtB nv na 0 s = false) := rfl
    clear h
    go_enter Try.func144, Try.ntmps144
    go_wp2_with fail
    go_ret
    exact ⟨ret_bool HP.out.symm, by go_grown⟩
  | succ d ih0 =>
    intro hd5 s φ v w h
    have ih := ih0 (by omega)
    clear ih0
    have hfull := h
    obtain ⟨ai, ci, av, cv, ab, cb, ae, ce, rfl, ⟨g1, g2, g3, g4⟩, -⟩ := h.form
    have hd0 : (d : Int) ≤ 5 := by omega
    have p9 : decide ((d : Int) + 1 < 1) = false := decide_eq_false (by omega)
    have HD0 : Hid (stmtB nv na (d + 1) s = (partsB s && (if s.kind = 1 ∨ s.kind = 5 then decide (0 ≤ s.target) && decide (s.target < (nv : Int)) && rightB nv na s.value else if s.kind = 2 then decide (0 ≤ s.target) && decide (s.target < (na : Int)) && rightB nv na s.index && atomB s.index && rightB nv na s.value
      else if s.kind = 3 then rightB nv na s.value && s.body.all (stmtB nv na d) && s.els.all (stmtB nv na d) else if s.kind = 4 then s.body.all (stmtB nv na d) else false))) := rfl
    have HG : Hid (∀ W, Below w.heap.size w W → ExprV W φ (.agg #[.int .i64 s.index.kind, .int .i64 s.index.value, .slice ai s.index.kids.length ci]) s.index ∧ ExprV W φ (.agg #[.int .i64 s.value.kind, .int .i64 s.value.value, .slice av s.value.kids.length cv]) s.value ∧ BlockV W φ (.slice ab s.body.length cb) s.body ∧ BlockV W φ (.slice ae s.els.length ce) s.els) := fun W k =>
      ⟨⟨_, rfl, KidsV.nice _ _ _ _ _ _ (Agr.below k) g1⟩, ⟨_, rfl, KidsV.nice _ _ _ _ _ _ (Agr.below k) g2⟩, BlockV.nice _ _ _ _ _ _ (Agr.below k) g3, BlockV.nice _ _ _ _ _ _ (Agr.below k) g4⟩
    have HF : Hid (∀ W, Below w.heap.size w W → StmtV W φ (.agg #[.int .i64 s.kind, .int .i64 s.target, .int .i64 s.index.kind, .int .i64 s.index.value, .slice ai s.index.kids.length ci, .int .i64 s.value.kind, .int .i64 s.value.value, .slice av s.value.kids.length cv, .int .i64 s.count, .slice ab s.body.length cb, .slice ae s.els.length ce]) s) := fun W k => StmtV.nice _ _ _ _ _ _ (Agr.below k) hfull
    obtain ⟨W, hW, M⟩ : ∃ W, W = (w.alloc (.cells #[.slice a1 nv c1, .slice a2 na c2, v3] 31)).alloc (.cells #[.int .i64 s.kind, .int .i64 s.target, .int .i64 s.index.kind, .int .i64 s.index.value, .slice ai s.index.kids.length ci, .int .i64 s.value.kind, .int .i64 s.value.value, .slice av s.value.kids.length cv, .int .i64 s.count, .slice ab s.body.length cb, .slice ae s.els.length ce] 60) ∧ Mem (fun _ => True) (fun _ => True) w W [.box w.heap.size [.slice a1 nv c1, .slice a2 na c2, v3], .box (w.heap.size + 1) [.int .i64 s.kind, .int .i64 s.target, .int .i64 s.index.kind, .int .i64 s.index.value, .slice ai s.index.kids.length ci, .int .i64 s.value.kind, .int .i64 s.value.value, .slice av s.value.kids.length cv, .int .i64 s.count, .slice ab s.body.length cb, .slice ae s.els.length ce]] :=
      ⟨_, rfl, ((Mem.start fun _ _ => trivial).box _ _).box' _ _ (by simp)⟩
    clear g1 g2 g3 g4 h hfull
    have c0 := M.c 1 0 rfl rfl
    have c1 := M.c 1 1 rfl rfl
    have c2 := M.c 1 2 rfl rfl
    have c3 := M.c 1 3 rfl rfl
    have c4 := M.c 1 4 rfl rfl
    have c5 := M.c 1 5 rfl rfl
    have c6 := M.c 1 6 rfl rfl
    have c7 := M.c 1 7 rfl rfl
    have c8 := M.c 1 8 rfl rfl
    have c9 := M.c 1 9 rfl rfl
    have c10 := M.c 1 10 rfl rfl
    have x0 := M.c 0 0 rfl rfl
    have x1 := M.c 0 1 rfl rfl
    have x2 := M.c 0 2 rfl rfl
    have HM := show Hid _ from M
    rw [hW] at c0 c1 c2 c3 c4 c5 c6 c7 c8 c9 c10 x0 x1 x2
    clear M
    go_enter Try.func144, Try.ntmps144
    go_wp2_with fail
    rw [← hW]
    clear hW
    have M := HM.out
    clear HM c0 c1 c2 c3 c4 c5 c6 c7 c8 c9 c10 x0 x1 x2
    refine (spec_l2Parts φ _ s _ (HF.out _ (M.below fun _ _ => trivial))).mono ?_
    rintro x w1 ⟨rfl, b1⟩
    replace M := M.call b1
    clear b1
    obtain ⟨b, hb⟩ : ∃ b, b = partsB s := ⟨_, rfl⟩
    rw [← hb]
    have HB := show Hid _ from hb
    clear hb
    cases b
    · have HP : Hid (stmtB nv na (d + 1) s = false) := by rw [Hid, HD0.out, ← HB.out]; rfl
      clear HD0 HB
      have c0 := M.c 1 0 rfl rfl
      have c1 := M.c 1 1 rfl rfl
      have c2 := M.c 1 2 rfl rfl
      have c3 := M.c 1 3 rfl rfl
      have c4 := M.c 1 4 rfl rfl
      have c5 := M.c 1 5 rfl rfl
      have c6 := M.c 1 6 rfl rfl
      have c7 := M.c 1 7 rfl rfl
      have c8 := M.c 1 8 rfl rfl
      have c9 := M.c 1 9 rfl rfl
      have c10 := M.c 1 10 rfl rfl
      have x0 := M.c 0 0 rfl rfl
      have x1 := M.c 0 1 rfl rfl
      have x2 := M.c 0 2 rfl rfl
      have HM := show Hid _ from M
      clear M
      go_wp2_with fail
      go_ret
      exact ⟨ret_bool (by rw [HP.out]), HM.out.below fun _ _ => trivial⟩
    have HD := show Hid (stmtB nv na (d + 1) s = (if s.kind = 1 ∨ s.kind = 5 then decide (0 ≤ s.target) && decide (s.target < (nv : Int)) && rightB nv na s.value else if s.kind = 2 then decide (0 ≤ s.target) && decide (s.target < (na : Int)) && rightB nv na s.index && atomB s.index && rightB nv na s.value
      else if s.kind = 3 then rightB nv na s.value && s.body.all (stmtB nv na d) && s.els.all (stmtB nv na d) else if s.kind = 4 then s.body.all (stmtB nv na d) else false)) from by rw [Hid, HD0.out, ← HB.out]; rfl
    clear HD0 HB
    by_cases qk : s.kind = 1
    · have k1 : (s.kind == 1) = true := by simp [qk]
      have k5 : (s.kind == 5) = false := by simp [qk]
      have k2 : (s.kind == 2) = false := by simp [qk]
      have k3 : (s.kind == 3) = false := by simp [qk]
      have k4 : (s.kind == 4) = false := by simp [qk]
      have HP1 := show Hid (stmtB nv na (d + 1) s = (decide (0 ≤ s.target) && decide (s.target < (nv : Int)) && rightB nv na s.value)) from by rw [Hid, HD.out, if_pos (.inl qk)]
      clear qk
      have HP0 := show Hid (stmtB nv na (d + 1) s = (decide (0 ≤ s.target) && decide (s.target < (nv : Int)) && rightB nv na s.value)) from HP1.out
      clear HP1
      by_cases t0 : 0 ≤ s.target
      case neg =>
        have p0 : decide (0 ≤ s.target) = false := decide_eq_false t0
        have HP : Hid (stmtB nv na (d + 1) s = false) := by rw [Hid, HP0.out, p0]; rfl
        clear HP0 t0
        have c0 := M.c 1 0 rfl rfl
        have c1 := M.c 1 1 rfl rfl
        have c2 := M.c 1 2 rfl rfl
        have c3 := M.c 1 3 rfl rfl
        have c4 := M.c 1 4 rfl rfl
        have c5 := M.c 1 5 rfl rfl
        have c6 := M.c 1 6 rfl rfl
        have c7 := M.c 1 7 rfl rfl
        have c8 := M.c 1 8 rfl rfl
        have c9 := M.c 1 9 rfl rfl
        have c10 := M.c 1 10 rfl rfl
        have x0 := M.c 0 0 rfl rfl
        have x1 := M.c 0 1 rfl rfl
        have x2 := M.c 0 2 rfl rfl
        have HM := show Hid _ from M
        clear M
        go_wp2_with fail
        go_ret
        exact ⟨ret_bool (by rw [HP.out]), HM.out.below fun _ _ => trivial⟩
      have p0 : decide (0 ≤ s.target) = true := decide_eq_true t0
      by_cases t1 : s.target < (nv : Int)
      case neg =>
        have p1 : decide (s.target < (nv : Int)) = false := decide_eq_false t1
        have HP : Hid (stmtB nv na (d + 1) s = false) := by rw [Hid, HP0.out, p0, p1]; rfl
        clear HP0 t0 t1
        have c0 := M.c 1 0 rfl rfl
        have c1 := M.c 1 1 rfl rfl
        have c2 := M.c 1 2 rfl rfl
        have c3 := M.c 1 3 rfl rfl
        have c4 := M.c 1 4 rfl rfl
        have c5 := M.c 1 5 rfl rfl
        have c6 := M.c 1 6 rfl rfl
        have c7 := M.c 1 7 rfl rfl
        have c8 := M.c 1 8 rfl rfl
        have c9 := M.c 1 9 rfl rfl
        have c10 := M.c 1 10 rfl rfl
        have x0 := M.c 0 0 rfl rfl
        have x1 := M.c 0 1 rfl rfl
        have x2 := M.c 0 2 rfl rfl
        have HM := show Hid _ from M
        clear M
        go_wp2_with fail
        go_ret
        exact ⟨ret_bool (by rw [HP.out]), HM.out.below fun _ _ => trivial⟩
      have p1 : decide (s.target < (nv : Int)) = true := decide_eq_true t1
      have HP1 := show Hid (stmtB nv na (d + 1) s = (rightB nv na s.value)) from by rw [Hid, HP0.out, p0, p1]; rfl
      clear HP0 t0 t1
      have HP0 := show Hid (stmtB nv na (d + 1) s = (rightB nv na s.value)) from HP1.out
      clear HP1
      have c0 := M.c 1 0 rfl rfl
      have c1 := M.c 1 1 rfl rfl
      have c2 := M.c 1 2 rfl rfl
      have c3 := M.c 1 3 rfl rfl
      have c4 := M.c 1 4 rfl rfl
      have c5 := M.c 1 5 rfl rfl
      have c6 := M.c 1 6 rfl rfl
      have c7 := M.c 1 7 rfl rfl
      have c8 := M.c 1 8 rfl rfl
      have c9 := M.c 1 9 rfl rfl
      have c10 := M.c 1 10 rfl rfl
      have x0 := M.c 0 0 rfl rfl
      have x1 := M.c 0 1 rfl rfl
      have x2 := M.c 0 2 rfl rfl
      have HM := show Hid _ from M
      clear M
      go_wp2_with fail
      have M := HM.out
      clear HM c0 c1 c2 c3 c4 c5 c6 c7 c8 c9 c10 x0 x1 x2
      refine (spec_l2Right a1 a2 nv c1 na c2 v3 h1 h2 s.value φ _ _ (HG.out _ (M.below fun _ _ => trivial)).2.1).mono ?_
      rintro x w1 ⟨rfl, b1⟩
      replace M := M.call b1
      clear b1
      have HP : Hid (stmtB nv na (d + 1) s = rightB nv na s.value) := HP0.out
      clear HP0
      have HM := show Hid _ from M
      clear M
      go_wp2_with fail
      go_ret
      exact ⟨ret_bool (by rw [HP.out]), HM.out.below fun _ _ => trivial⟩
    have qn1 := qk
    clear qk
    by_cases qk : s.kind = 5
    · have k1 : (s.kind == 1) = false := by simp [qk]
      have k5 : (s.kind == 5) = true := by simp [qk]
      have k2 : (s.kind == 2) = false := by simp [qk]
      have k3 : (s.kind == 3) = false := by simp [qk]
      have k4 : (s.kind == 4) = false := by simp [qk]
      have HP1 := show Hid (stmtB nv na (d + 1) s = (decide (0 ≤ s.target) && decide (s.target < (nv : Int)) && rightB nv na s.value)) from by rw [Hid, HD.out, if_pos (.inr qk)]
      clear qk
      have HP0 := show Hid (stmtB nv na (d + 1) s = (decide (0 ≤ s.target) && decide (s.target < (nv : Int)) && rightB nv na s.value)) from HP1.out
      clear HP1
      by_cases t0 : 0 ≤ s.target
      case neg =>
        have p0 : decide (0 ≤ s.target) = false := decide_eq_false t0
        have HP : Hid (stmtB nv na (d + 1) s = false) := by rw [Hid, HP0.out, p0]; rfl
        clear HP0 t0
        have c0 := M.c 1 0 rfl rfl
        have c1 := M.c 1 1 rfl rfl
        have c2 := M.c 1 2 rfl rfl
        have c3 := M.c 1 3 rfl rfl
        have c4 := M.c 1 4 rfl rfl
        have c5 := M.c 1 5 rfl rfl
        have c6 := M.c 1 6 rfl rfl
        have c7 := M.c 1 7 rfl rfl
        have c8 := M.c 1 8 rfl rfl
        have c9 := M.c 1 9 rfl rfl
        have c10 := M.c 1 10 rfl rfl
        have x0 := M.c 0 0 rfl rfl
        have x1 := M.c 0 1 rfl rfl
        have x2 := M.c 0 2 rfl rfl
        have HM := show Hid _ from M
        clear M
        go_wp2_with fail
        go_ret
        exact ⟨ret_bool (by rw [HP.out]), HM.out.below fun _ _ => trivial⟩
      have p0 : decide (0 ≤ s.target) = true := decide_eq_true t0
      by_cases t1 : s.target < (nv : Int)
      case neg =>
        have p1 : decide (s.target < (nv : Int)) = false := decide_eq_false t1
        have HP : Hid (stmtB nv na (d + 1) s = false) := by rw [Hid, HP0.out, p0, p1]; rfl
        clear HP0 t0 t1
        have c0 := M.c 1 0 rfl rfl
        have c1 := M.c 1 1 rfl rfl
        have c2 := M.c 1 2 rfl rfl
        have c3 := M.c 1 3 rfl rfl
        have c4 := M.c 1 4 rfl rfl
        have c5 := M.c 1 5 rfl rfl
        have c6 := M.c 1 6 rfl rfl
        have c7 := M.c 1 7 rfl rfl
        have c8 := M.c 1 8 rfl rfl
        have c9 := M.c 1 9 rfl rfl
        have c10 := M.c 1 10 rfl rfl
        have x0 := M.c 0 0 rfl rfl
        have x1 := M.c 0 1 rfl rfl
        have x2 := M.c 0 2 rfl rfl
        have HM := show Hid _ from M
        clear M
        go_wp2_with fail
        go_ret
        exact ⟨ret_bool (by rw [HP.out]), HM.out.below fun _ _ => trivial⟩
      have p1 : decide (s.target < (nv : Int)) = true := decide_eq_true t1
      have HP1 := show Hid (stmtB nv na (d + 1) s = (rightB nv na s.value)) from by rw [Hid, HP0.out, p0, p1]; rfl
      clear HP0 t0 t1
      have HP0 := show Hid (stmtB nv na (d + 1) s = (rightB nv na s.value)) from HP1.out
      clear HP1
      have c0 := M.c 1 0 rfl rfl
      have c1 := M.c 1 1 rfl rfl
      have c2 := M.c 1 2 rfl rfl
      have c3 := M.c 1 3 rfl rfl
      have c4 := M.c 1 4 rfl rfl
      have c5 := M.c 1 5 rfl rfl
      have c6 := M.c 1 6 rfl rfl
      have c7 := M.c 1 7 rfl rfl
      have c8 := M.c 1 8 rfl rfl
      have c9 := M.c 1 9 rfl rfl
      have c10 := M.c 1 10 rfl rfl
      have x0 := M.c 0 0 rfl rfl
      have x1 := M.c 0 1 rfl rfl
      have x2 := M.c 0 2 rfl rfl
      have HM := show Hid _ from M
      clear M
      go_wp2_with fail
      have M := HM.out
      clear HM c0 c1 c2 c3 c4 c5 c6 c7 c8 c9 c10 x0 x1 x2
      refine (spec_l2Right a1 a2 nv c1 na c2 v3 h1 h2 s.value φ _ _ (HG.out _ (M.below fun _ _ => trivial)).2.1).mono ?_
      rintro x w1 ⟨rfl, b1⟩
      replace M := M.call b1
      clear b1
      have HP : Hid (stmtB nv na (d + 1) s = rightB nv na s.value) := HP0.out
      clear HP0
      have HM := show Hid _ from M
      clear M
      go_wp2_with fail
      go_ret
      exact ⟨ret_bool (by rw [HP.out]), HM.out.below fun _ _ => trivial⟩
    have qn5 := qk
    clear qk
    by_cases qk : s.kind = 2
    · have k1 : (s.kind == 1) = false := by simp [qk]
      have k5 : (s.kind == 5) = false := by simp [qk]
      have k2 : (s.kind == 2) = true := by simp [qk]
      have k3 : (s.kind == 3) = false := by simp [qk]
      have k4 : (s.kind == 4) = false := by simp [qk]
      have HP1 := show Hid (stmtB nv na (d + 1) s = (decide (0 ≤ s.target) && decide (s.target < (na : Int)) && rightB nv na s.index && atomB s.index && rightB nv na s.value)) from by rw [Hid, HD.out, if_neg (by omega), if_pos qk]
      clear qk
      have HP0 := show Hid (stmtB nv na (d + 1) s = (decide (0 ≤ s.target) && decide (s.target < (na : Int)) && rightB nv na s.index && atomB s.index && rightB nv na s.value)) from HP1.out
      clear HP1
      by_cases t0 : 0 ≤ s.target
      case neg =>
        have p0 : decide (0 ≤ s.target) = false := decide_eq_false t0
        have HP : Hid (stmtB nv na (d + 1) s = false) := by rw [Hid, HP0.out, p0]; rfl
        clear HP0 t0
        have c0 := M.c 1 0 rfl rfl
        have c1 := M.c 1 1 rfl rfl
        have c2 := M.c 1 2 rfl rfl
        have c3 := M.c 1 3 rfl rfl
        have c4 := M.c 1 4 rfl rfl
        have c5 := M.c 1 5 rfl rfl
        have c6 := M.c 1 6 rfl rfl
        have c7 := M.c 1 7 rfl rfl
        have c8 := M.c 1 8 rfl rfl
        have c9 := M.c 1 9 rfl rfl
        have c10 := M.c 1 10 rfl rfl
        have x0 := M.c 0 0 rfl rfl
        have x1 := M.c 0 1 rfl rfl
        have x2 := M.c 0 2 rfl rfl
        have HM := show Hid _ from M
        clear M
        go_wp2_with fail
        go_ret
        exact ⟨ret_bool (by rw [HP.out]), HM.out.below fun _ _ => trivial⟩
      have p0 : decide (0 ≤ s.target) = true := decide_eq_true t0
      by_cases t1 : s.target < (na : Int)
      case neg =>
        have p1 : decide (s.target < (na : Int)) = false := decide_eq_false t1
        have HP : Hid (stmtB nv na (d + 1) s = false) := by rw [Hid, HP0.out, p0, p1]; rfl
        clear HP0 t0 t1
        have c0 := M.c 1 0 rfl rfl
        have c1 := M.c 1 1 rfl rfl
        have c2 := M.c 1 2 rfl rfl
        have c3 := M.c 1 3 rfl rfl
        have c4 := M.c 1 4 rfl rfl
        have c5 := M.c 1 5 rfl rfl
        have c6 := M.c 1 6 rfl rfl
        have c7 := M.c 1 7 rfl rfl
        have c8 := M.c 1 8 rfl rfl
        have c9 := M.c 1 9 rfl rfl
        have c10 := M.c 1 10 rfl rfl
        have x0 := M.c 0 0 rfl rfl
        have x1 := M.c 0 1 rfl rfl
        have x2 := M.c 0 2 rfl rfl
        have HM := show Hid _ from M
        clear M
        go_wp2_with fail
        go_ret
        exact ⟨ret_bool (by rw [HP.out]), HM.out.below fun _ _ => trivial⟩
      have p1 : decide (s.target < (na : Int)) = true := decide_eq_true t1
      have HP1 := show Hid (stmtB nv na (d + 1) s = (rightB nv na s.index && atomB s.index && rightB nv na s.value)) from by rw [Hid, HP0.out, p0, p1]; rfl
      clear HP0 t0 t1
      have HP0 := show Hid (stmtB nv na (d + 1) s = (rightB nv na s.index && atomB s.index && rightB nv na s.value)) from HP1.out
      clear HP1
      have c0 := M.c 1 0 rfl rfl
      have c1 := M.c 1 1 rfl rfl
      have c2 := M.c 1 2 rfl rfl
      have c3 := M.c 1 3 rfl rfl
      have c4 := M.c 1 4 rfl rfl
      have c5 := M.c 1 5 rfl rfl
      have c6 := M.c 1 6 rfl rfl
      have c7 := M.c 1 7 rfl rfl
      have c8 := M.c 1 8 rfl rfl
      have c9 := M.c 1 9 rfl rfl
      have c10 := M.c 1 10 rfl rfl
      have x0 := M.c 0 0 rfl rfl
      have x1 := M.c 0 1 rfl rfl
      have x2 := M.c 0 2 rfl rfl
      have HM := show Hid _ from M
      clear M
      go_wp2_with fail
      have M := HM.out
      clear HM c0 c1 c2 c3 c4 c5 c6 c7 c8 c9 c10 x0 x1 x2
      refine (spec_l2Right a1 a2 nv c1 na c2 v3 h1 h2 s.index φ _ _ (HG.out _ (M.below fun _ _ => trivial)).1).mono ?_
      rintro x w1 ⟨rfl, b1⟩
      replace M := M.call b1
      clear b1
      obtain ⟨b, hb⟩ : ∃ b, b = rightB nv na s.index := ⟨_, rfl⟩
      rw [← hb]
      have HB := show Hid _ from hb
      clear hb
      cases b
      · have HP : Hid (stmtB nv na (d + 1) s = false) := by rw [Hid, HP0.out, ← HB.out]; rfl
        clear HP0
        have c0 := M.c 1 0 rfl rfl
        have c1 := M.c 1 1 rfl rfl
        have c2 := M.c 1 2 rfl rfl
        have c3 := M.c 1 3 rfl rfl
        have c4 := M.c 1 4 rfl rfl
        have c5 := M.c 1 5 rfl rfl
        have c6 := M.c 1 6 rfl rfl
        have c7 := M.c 1 7 rfl rfl
        have c8 := M.c 1 8 rfl rfl
        have c9 := M.c 1 9 rfl rfl
        have c10 := M.c 1 10 rfl rfl
        have x0 := M.c 0 0 rfl rfl
        have x1 := M.c 0 1 rfl rfl
        have x2 := M.c 0 2 rfl rfl
        have HM := show Hid _ from M
        clear M
        go_wp2_with fail
        go_ret
        exact ⟨ret_bool (by rw [HP.out]), HM.out.below fun _ _ => trivial⟩
      · have HP1 := show Hid (stmtB nv na (d + 1) s = (atomB s.index && rightB nv na s.value)) from by rw [Hid, HP0.out, ← HB.out]; rfl
        clear HP0 HB
        have HP0 := show Hid (stmtB nv na (d + 1) s = (atomB s.index && rightB nv na s.value)) from HP1.out
        clear HP1
        have c0 := M.c 1 0 rfl rfl
        have c1 := M.c 1 1 rfl rfl
        have c2 := M.c 1 2 rfl rfl
        have c3 := M.c 1 3 rfl rfl
        have c4 := M.c 1 4 rfl rfl
        have c5 := M.c 1 5 rfl rfl
        have c6 := M.c 1 6 rfl rfl
        have c7 := M.c 1 7 rfl rfl
        have c8 := M.c 1 8 rfl rfl
        have c9 := M.c 1 9 rfl rfl
        have c10 := M.c 1 10 rfl rfl
        have x0 := M.c 0 0 rfl rfl
        have x1 := M.c 0 1 rfl rfl
        have x2 := M.c 0 2 rfl rfl
        have HM := show Hid _ from M
        clear M
        go_wp2_with fail
        have M := HM.out
        clear HM c0 c1 c2 c3 c4 c5 c6 c7 c8 c9 c10 x0 x1 x2
        refine (spec_l2Atom _ _ _ _).mono ?_
        rintro x w1 ⟨rfl, b1⟩
        replace M := M.call b1
        clear b1
        rw [show (decide (s.index.kind = 1) || decide (s.index.kind = 2)) = atomB s.index from rfl]
        obtain ⟨b, hb⟩ : ∃ b, b = atomB s.index := ⟨_, rfl⟩
        rw [← hb]
        have HB := show Hid _ from hb
        clear hb
        cases b
        · have HP : Hid (stmtB nv na (d + 1) s = false) := by rw [Hid, HP0.out, ← HB.out]; rfl
          clear HP0
          have c0 := M.c 1 0 rfl rfl
          have c1 := M.c 1 1 rfl rfl
          have c2 := M.c 1 2 rfl rfl
          have c3 := M.c 1 3 rfl rfl
          have c4 := M.c 1 4 rfl rfl
          have c5 := M.c 1 5 rfl rfl
          have c6 := M.c 1 6 rfl rfl
          have c7 := M.c 1 7 rfl rfl
          have c8 := M.c 1 8 rfl rfl
          have c9 := M.c 1 9 rfl rfl
          have c10 := M.c 1 10 rfl rfl
          have x0 := M.c 0 0 rfl rfl
          have x1 := M.c 0 1 rfl rfl
          have x2 := M.c 0 2 rfl rfl
          have HM := show Hid _ from M
          clear M
          go_wp2_with fail
          go_ret
          exact ⟨ret_bool (by rw [HP.out]), HM.out.below fun _ _ => trivial⟩
        · have HP1 := show Hid (stmtB nv na (d + 1) s = (rightB nv na s.value)) from by rw [Hid, HP0.out, ← HB.out]; rfl
          clear HP0 HB
          have HP0 := show Hid (stmtB nv na (d + 1) s = (rightB nv na s.value)) from HP1.out
          clear HP1
          have c0 := M.c 1 0 rfl rfl
          have c1 := M.c 1 1 rfl rfl
          have c2 := M.c 1 2 rfl rfl
          have c3 := M.c 1 3 rfl rfl
          have c4 := M.c 1 4 rfl rfl
          have c5 := M.c 1 5 rfl rfl
          have c6 := M.c 1 6 rfl rfl
          have c7 := M.c 1 7 rfl rfl
          have c8 := M.c 1 8 rfl rfl
          have c9 := M.c 1 9 rfl rfl
          have c10 := M.c 1 10 rfl rfl
          have x0 := M.c 0 0 rfl rfl
          have x1 := M.c 0 1 rfl rfl
          have x2 := M.c 0 2 rfl rfl
          have HM := show Hid _ from M
          clear M
          go_wp2_with fail
          have M := HM.out
          clear HM c0 c1 c2 c3 c4 c5 c6 c7 c8 c9 c10 x0 x1 x2
          refine (spec_l2Right a1 a2 nv c1 na c2 v3 h1 h2 s.value φ _ _ (HG.out _ (M.below fun _ _ => trivial)).2.1).mono ?_
          rintro x w1 ⟨rfl, b1⟩
          replace M := M.call b1
          clear b1
          have HP : Hid (stmtB nv na (d + 1) s = rightB nv na s.value) := HP0.out
          clear HP0
          have HM := show Hid _ from M
          clear M
          go_wp2_with fail
          go_ret
          exact ⟨ret_bool (by rw [HP.out]), HM.out.below fun _ _ => trivial⟩
    have qn2 := qk
    clear qk
    by_cases qk : s.kind = 3
    · have k1 : (s.kind == 1) = false := by simp [qk]
      have k5 : (s.kind == 5) = false := by simp [qk]
      have k2 : (s.kind == 2) = false := by simp [qk]
      have k3 : (s.kind == 3) = true := by simp [qk]
      have k4 : (s.kind == 4) = false := by simp [qk]
      have HP1 := show Hid (stmtB nv na (d + 1) s = (rightB nv na s.value && s.body.all (stmtB nv na d) && s.els.all (stmtB nv na d))) from by rw [Hid, HD.out, if_neg (by omega), if_neg (by omega), if_pos qk]
      clear qk
      have HP0 := show Hid (stmtB nv na (d + 1) s = (rightB nv na s.value && s.body.all (stmtB nv na d) && s.els.all (stmtB nv na d))) from HP1.out
      clear HP1
      have c0 := M.c 1 0 rfl rfl
      have c1 := M.c 1 1 rfl rfl
      have c2 := M.c 1 2 rfl rfl
      have c3 := M.c 1 3 rfl rfl
      have c4 := M.c 1 4 rfl rfl
      have c5 := M.c 1 5 rfl rfl
      have c6 := M.c 1 6 rfl rfl
      have c7 := M.c 1 7 rfl rfl
      have c8 := M.c 1 8 rfl rfl
      have c9 := M.c 1 9 rfl rfl
      have c10 := M.c 1 10 rfl rfl
      have x0 := M.c 0 0 rfl rfl
      have x1 := M.c 0 1 rfl rfl
      have x2 := M.c 0 2 rfl rfl
      have HM := show Hid _ from M
      clear M
      go_wp2_with fail
      have M := HM.out
      clear HM c0 c1 c2 c3 c4 c5 c6 c7 c8 c9 c10 x0 x1 x2
      refine (spec_l2Right a1 a2 nv c1 na c2 v3 h1 h2 s.value φ _ _ (HG.out _ (M.below fun _ _ => trivial)).2.1).mono ?_
      rintro x w1 ⟨rfl, b1⟩
      replace M := M.call b1
      clear b1
      obtain ⟨b, hb⟩ : ∃ b, b = rightB nv na s.value := ⟨_, rfl⟩
      rw [← hb]
      have HB := show Hid _ from hb
      clear hb
      cases b
      · have HP : Hid (stmtB nv na (d + 1) s = false) := by rw [Hid, HP0.out, ← HB.out]; rfl
        clear HP0
        have c0 := M.c 1 0 rfl rfl
        have c1 := M.c 1 1 rfl rfl
        have c2 := M.c 1 2 rfl rfl
        have c3 := M.c 1 3 rfl rfl
        have c4 := M.c 1 4 rfl rfl
        have c5 := M.c 1 5 rfl rfl
        have c6 := M.c 1 6 rfl rfl
        have c7 := M.c 1 7 rfl rfl
        have c8 := M.c 1 8 rfl rfl
        have c9 := M.c 1 9 rfl rfl
        have c10 := M.c 1 10 rfl rfl
        have x0 := M.c 0 0 rfl rfl
        have x1 := M.c 0 1 rfl rfl
        have x2 := M.c 0 2 rfl rfl
        have HM := show Hid _ from M
        clear M
        go_wp2_with fail
        go_ret
        exact ⟨ret_bool (by rw [HP.out]), HM.out.below fun _ _ => trivial⟩
      · have HP1 := show Hid (stmtB nv na (d + 1) s = (s.body.all (stmtB nv na d) && s.els.all (stmtB nv na d))) from by rw [Hid, HP0.out, ← HB.out]; rfl
        clear HP0 HB
        have HP0 := show Hid (stmtB nv na (d + 1) s = (s.body.all (stmtB nv na d) && s.els.all (stmtB nv na d))) from HP1.out
        clear HP1
        have c0 := M.c 1 0 rfl rfl
        have c1 := M.c 1 1 rfl rfl
        have c2 := M.c 1 2 rfl rfl
        have c3 := M.c 1 3 rfl rfl
        have c4 := M.c 1 4 rfl rfl
        have c5 := M.c 1 5 rfl rfl
        have c6 := M.c 1 6 rfl rfl
        have c7 := M.c 1 7 rfl rfl
        have c8 := M.c 1 8 rfl rfl
        have c9 := M.c 1 9 rfl rfl
        have c10 := M.c 1 10 rfl rfl
        have x0 := M.c 0 0 rfl rfl
        have x1 := M.c 0 1 rfl rfl
        have x2 := M.c 0 2 rfl rfl
        have HM := show Hid _ from M
        clear M
        go_wp2_with fail
        have M := HM.out
        clear HM c0 c1 c2 c3 c4 c5 c6 c7 c8 c9 c10 x0 x1 x2
        refine (l2Block_of a1 a2 nv c1 na c2 v3 d (by omega) ih s.body φ _ _ (HG.out _ (M.below fun _ _ => trivial)).2.2.1).mono ?_
        rintro x w1 ⟨rfl, b1⟩
        replace M := M.call b1
        clear b1
        obtain ⟨b, hb⟩ : ∃ b, b = s.body.all (stmtB nv na d) := ⟨_, rfl⟩
        rw [← hb]
        have HB := show Hid _ from hb
        clear hb
        cases b
        · have HP : Hid (stmtB nv na (d + 1) s = false) := by rw [Hid, HP0.out, ← HB.out]; rfl
          clear HP0
          have c0 := M.c 1 0 rfl rfl
          have c1 := M.c 1 1 rfl rfl
          have c2 := M.c 1 2 rfl rfl
          have c3 := M.c 1 3 rfl rfl
          have c4 := M.c 1 4 rfl rfl
          have c5 := M.c 1 5 rfl rfl
          have c6 := M.c 1 6 rfl rfl
          have c7 := M.c 1 7 rfl rfl
          have c8 := M.c 1 8 rfl rfl
          have c9 := M.c 1 9 rfl rfl
          have c10 := M.c 1 10 rfl rfl
          have x0 := M.c 0 0 rfl rfl
          have x1 := M.c 0 1 rfl rfl
          have x2 := M.c 0 2 rfl rfl
          have HM := show Hid _ from M
          clear M
          go_wp2_with fail
          go_ret
          exact ⟨ret_bool (by rw [HP.out]), HM.out.below fun _ _ => trivial⟩
        · have HP1 := show Hid (stmtB nv na (d + 1) s = (s.els.all (stmtB nv na d))) from by rw [Hid, HP0.out, ← HB.out]; rfl
          clear HP0 HB
          have HP0 := show Hid (stmtB nv na (d + 1) s = (s.els.all (stmtB nv na d))) from HP1.out
          clear HP1
          have c0 := M.c 1 0 rfl rfl
          have c1 := M.c 1 1 rfl rfl
          have c2 := M.c 1 2 rfl rfl
          have c3 := M.c 1 3 rfl rfl
          have c4 := M.c 1 4 rfl rfl
          have c5 := M.c 1 5 rfl rfl
          have c6 := M.c 1 6 rfl rfl
          have c7 := M.c 1 7 rfl rfl
          have c8 := M.c 1 8 rfl rfl
          have c9 := M.c 1 9 rfl rfl
          have c10 := M.c 1 10 rfl rfl
          have x0 := M.c 0 0 rfl rfl
          have x1 := M.c 0 1 rfl rfl
          have x2 := M.c 0 2 rfl rfl
          have HM := show Hid _ from M
          clear M
          go_wp2_with fail
          have M := HM.out
          clear HM c0 c1 c2 c3 c4 c5 c6 c7 c8 c9 c10 x0 x1 x2
          refine (l2Block_of a1 a2 nv c1 na c2 v3 d (by omega) ih s.els φ _ _ (HG.out _ (M.below fun _ _ => trivial)).2.2.2).mono ?_
          rintro x w1 ⟨rfl, b1⟩
          replace M := M.call b1
          clear b1
          have HP : Hid (stmtB nv na (d + 1) s = (s.els.all (stmtB nv na d))) := HP0.out
          clear HP0
          have HM := show Hid _ from M
          clear M
          go_wp2_with fail
          go_ret
          exact ⟨ret_bool (by rw [HP.out]), HM.out.below fun _ _ => trivial⟩
    have qn3 := qk
    clear qk
    by_cases qk : s.kind = 4
    · have k1 : (s.kind == 1) = false := by simp [qk]
      have k5 : (s.kind == 5) = false := by simp [qk]
      have k2 : (s.kind == 2) = false := by simp [qk]
      have k3 : (s.kind == 3) = false := by simp [qk]
      have k4 : (s.kind == 4) = true := by simp [qk]
      have HP1 := show Hid (stmtB nv na (d + 1) s = ((s.body.all (stmtB nv na d)))) from by rw [Hid, HD.out, if_neg (by omega), if_neg (by omega), if_neg (by omega), if_pos qk]
      clear qk
      have HP0 := show Hid (stmtB nv na (d + 1) s = ((s.body.all (stmtB nv na d)))) from HP1.out
      clear HP1
      have c0 := M.c 1 0 rfl rfl
      have c1 := M.c 1 1 rfl rfl
      have c2 := M.c 1 2 rfl rfl
      have c3 := M.c 1 3 rfl rfl
      have c4 := M.c 1 4 rfl rfl
      have c5 := M.c 1 5 rfl rfl
      have c6 := M.c 1 6 rfl rfl
      have c7 := M.c 1 7 rfl rfl
      have c8 := M.c 1 8 rfl rfl
      have c9 := M.c 1 9 rfl rfl
      have c10 := M.c 1 10 rfl rfl
      have x0 := M.c 0 0 rfl rfl
      have x1 := M.c 0 1 rfl rfl
      have x2 := M.c 0 2 rfl rfl
      have HM := show Hid _ from M
      clear M
      go_wp2_with fail
      have M := HM.out
      clear HM c0 c1 c2 c3 c4 c5 c6 c7 c8 c9 c10 x0 x1 x2
      refine (l2Block_of a1 a2 nv c1 na c2 v3 d (by omega) ih s.body φ _ _ (HG.out _ (M.below fun _ _ => trivial)).2.2.1).mono ?_
      rintro x w1 ⟨rfl, b1⟩
      replace M := M.call b1
      clear b1
      have HP : Hid (stmtB nv na (d + 1) s = (s.body.all (stmtB nv na d))) := HP0.out
      clear HP0
      have HM := show Hid _ from M
      clear M
      go_wp2_with fail
      go_ret
      exact ⟨ret_bool (by rw [HP.out]), HM.out.below fun _ _ => trivial⟩
    have HP : Hid (stmtB nv na (d + 1) s = false) := by rw [Hid, HD.out, if_neg (by omega), if_neg qn2, if_neg qn3, if_neg qk]
    have k1 : (s.kind == 1) = false := by simp [qn1]
    have k5 : (s.kind == 5) = false := by simp [qn5]
    have k2 : (s.kind == 2) = false := by simp [qn2]
    have k3 : (s.kind == 3) = false := by simp [qn3]
    have k4 : (s.kind == 4) = false := by simp [qk]
    clear HD qn1 qn5 qn2 qn3 qk
    have c0 := M.c 1 0 rfl rfl
    have c1 := M.c 1 1 rfl rfl
    have c2 := M.c 1 2 rfl rfl
    have c3 := M.c 1 3 rfl rfl
    have c4 := M.c 1 4 rfl rfl
    have c5 := M.c 1 5 rfl rfl
    have c6 := M.c 1 6 rfl rfl
    have c7 := M.c 1 7 rfl rfl
    have c8 := M.c 1 8 rfl rfl
    have c9 := M.c 1 9 rfl rfl
    have c10 := M.c 1 10 rfl rfl
    have x0 := M.c 0 0 rfl rfl
    have x1 := M.c 0 1 rfl rfl
    have x2 := M.c 0 2 rfl rfl
    have HM := show Hid _ from M
    clear M
    go_wp2_with fail
    go_ret
    exact ⟨ret_bool (by rw [HP.out]), HM.out.below fun _ _ => trivial⟩


section
variable {P : Program} {f : FuncId}

theorem old_ok {args : List AV} {S : List It} {x : Value} (h : ∀ (φ : Nat → Prop) (w : World) (ρ : Nat → Value), (∀ i d, lst S i = .dat d → RD w φ d (ρ i)) → Calls P f (AV.vals ρ args).toArray w fun e w' => e = .returned x ∧ Below w.heap.size w w') : Ctr.ok P (fnC f args S (.v x)) := by
  intro ι φ ψ w0 w F ρ M
  refine (h (FrF φ (lay F ρ (lst S))) w ρ fun i d hi => M.datAt hi).mono ?_
  rintro e w' ⟨rfl, hb⟩
  exact ⟨ρ, fun _ _ => rfl, rfl, M.call hb⟩
end
theorem rd_form {w : World} {φ : Nat → Prop} {d : D} {v : Value} (h : RD w φ d v) : ∃ a cap, v = .slice a d.len cap ∧ d.len ≤ 9223372036854775807 := by
  obtain ⟨a, cap, h1, h2, h3, _⟩ := h.open
  unfold maxLen at h3
  exact ⟨a, cap, h1, by omega⟩

theorem c_within (n lo hi : Int) : Ctr.ok Try.prog (fnC 72 [iA n, iA lo, iA hi] [] (bA (decide (lo ≤ n) && decide (n ≤ hi)))) :=
  old_ok fun φ w ρ _ => (impl_within n lo hi w).mono fun e w' h => ⟨h.1, h.2 ▸ Below.refl _ _⟩
theorem c_l2Heads (p : LProg) : Ctr.ok Try.prog (fnC 119 [pA 0] (pS p) (bA (headsB p.vars p.arrays))) :=
  old_ok fun φ w ρ h => spec_l2Heads (ρ 0) (ρ 1) (ρ 2) _ _ w (RowF.row (h 0 _ rfl)) (RowF.row (h 1 _ rfl))
theorem c_declared (vs ars : List Int) : Ctr.ok Try.prog (fnC 71 [.ref 0, .ref 1] [.dat (.ints vs), .dat (.ints ars)] (bA (headsB vs ars))) :=
  old_ok fun φ w ρ h => (impl_declared (ρ 0) (ρ 1) _ _ w (RowF.row (h 0 _ rfl)) (RowF.row (h 1 _ rfl))).mono fun e w' h => ⟨h.1, h.2 ▸ Below.refl _ _⟩
theorem c_expr (p : LProg) (e : LExpr) : Ctr.ok Try.prog (fnC 145 [pA 0, eA e 3] (pS p ++ eS e) (bA (rightB p.vars.length p.arrays.length e))) :=
  old_ok fun φ w ρ h => by
    obtain ⟨a1, c1, h1, l1⟩ := rd_form (h 0 _ rfl)
    obtain ⟨a2, c2, h2, l2⟩ := rd_form (h 1 _ rfl)
    simp only [AV.vals, AV.val, h1, h2]
    exact impl_expr a1 a2 _ c1 _ c2 (ρ 2) l1 l2 e φ _ w ⟨_, rfl, h 3 _ rfl⟩
theorem c_l2Block (p : LProg) (ss : List LStmt) (n : Int) (hn : n = 5) : Ctr.ok Try.prog (fnC 120 [pA 0, .ref 3, iA n] (pS p ++ [.dat (.stmts ss)]) (bA (blockB p.vars.length p.arrays.length 5 ss))) :=
  old_ok fun φ w ρ h => by
    subst hn
    obtain ⟨a1, c1, h1, l1⟩ := rd_form (h 0 _ rfl)
    obtain ⟨a2, c2, h2, l2⟩ := rd_form (h 1 _ rfl)
    simp only [AV.vals, AV.val, h1, h2]
    exact l2Block_of a1 a2 _ c1 _ c2 (ρ 2) 5 (by omega) (l2Stmt_of a1 a2 _ c1 _ c2 (ρ 2) l1 l2 5 (by omega)) ss φ _ w (h 3 _ rfl)
theorem c_isPlain (e : LExpr) : Ctr.ok Try.prog (fnC 146 [eA e 0] (eS e) (bA (atomB e))) :=
  old_ok fun φ w ρ h => impl_isPlain e.kind e.value (ρ 0) w

mutual
theorem nS_sz : ∀ s : LStmt, nS s ≤ 1 + szS s
  | ⟨_, _, _, _, _, b, e⟩ => by
    have h1 := nSs_sz b
    have h2 := nSs_sz e
    simp only [nS, szS]; omega
theorem nSs_sz : ∀ ss : List LStmt, nSs ss ≤ szSs ss
  | [] => Nat.le_refl _
  | s :: r => by
    have h1 := nS_sz s
    have h2 := nSs_sz r
    simp only [nSs, szSs]; omega
end
theorem nSs_append (a b : List LStmt) : nSs (a ++ b) = nSs a + nSs b := by
  induction a with
  | nil => simp [nSs]
  | cons x r ih => simp [nSs, ih]; omega
theorem nS_def (s : LStmt) : nS s = 1 + nSs s.body + nSs s.els := by cases s; simp only [nS]; rfl
theorem stmtB_blocks {nv na d : Nat} {s : LStmt} (h : stmtB nv na (d + 1) s = true) : s.body.all (stmtB nv na d) = true ∧ s.els.all (stmtB nv na d) = true := by
  rw [stmtB, Bool.and_eq_true] at h
  obtain ⟨h1, h2⟩ := h
  unfold partsB at h1
  by_cases k3 : s.kind = 3
  · rw [if_neg (by omega), if_neg (by omega), if_pos k3] at h2
    simp only [Bool.and_eq_true] at h2
    exact ⟨h2.1.2, h2.2⟩
  by_cases k4 : s.kind = 4
  · rw [if_neg (by omega), if_neg (by omega), if_neg (by omega), if_pos k4] at h2
    rw [if_pos (.inr k4), if_pos k4] at h1
    simp only [Bool.and_eq_true, decide_eq_true_eq] at h1
    exact ⟨h2, by rw [List.eq_nil_of_length_eq_zero h1.2.1.1.1.1]; rfl⟩
  · rw [if_neg (by omega)] at h1
    simp only [Bool.and_eq_true, decide_eq_true_eq] at h1
    exact ⟨by rw [List.eq_nil_of_length_eq_zero h1.1.1.1]; rfl, by rw [List.eq_nil_of_length_eq_zero h1.1.1.2]; rfl⟩

theorem szS_parts (s : LStmt) : szSs s.body ≤ szS s ∧ szSs s.els ≤ szS s := by
  rcases s with ⟨_, _, _, _, _, b, e⟩
  simp only [szS, LStmt.body, LStmt.els]
  omega
theorem flat_nSs {nv na : Nat} : ∀ {ss : List LStmt}, (∀ s ∈ ss, stmtB nv na 1 s = true) → nSs ss = ss.length
  | [], _ => rfl
  | s :: r, h => by
    have h1 := stmtB_blocks (h s List.mem_cons_self)
    have key : ∀ l : List LStmt, l.all (stmtB nv na 0) = true → l = [] := fun l hl => by
      cases l with
      | nil => rfl
      | cons a r => simp [stmtB] at hl
    have h2 := flat_nSs (ss := r) fun x hx => h x (List.mem_cons_of_mem _ hx)
    rw [nSs, nS_def, key _ h1.1, key _ h1.2, h2]
    simp [nSs]; omega


theorem Ctr.dup {P : Program} {f : FuncId} {args args' : List AV} {S S' : List It} {d : D} {res : AV} {i : Nat} (hc : Ctr.ok P ⟨f, args, S ++ [.dat d], S' ++ [.dat d], res⟩) (hi : S[i]? = some (.dat d)) (hl : S'.length = S.length)
    (hS : S.all (fun x => ltAll S.length x.ids) = true) (ha : ∀ ρ : Nat → Value, ρ S.length = ρ i → AV.vals ρ args = AV.vals ρ args') (hg : ltAll S.length (AV.idsL args') = true) : Ctr.ok P ⟨f, args', S, S', res⟩ := by
  intro ι φ ψ w0 w F ρ M
  have hi' : lst S i = .dat d := by simp [lst, hi]
  have hlt : i < S.length := (List.getElem?_eq_some_iff.1 hi).1
  have hinv : Inv (lst S) ρ [S.length] := fun ρ' h j => by
    by_cases hj : j < S.length
    · refine It.res_congr _ (fun k hk => h k ?_) (.inr (.inr (h j (by simp; omega))))
      have h1 := ltAll_iff (List.all_eq_true.1 hS (S[j]) (List.getElem_mem hj)) k (by simpa [lst, List.getD_eq_getElem?_getD, List.getElem?_eq_getElem hj] using hk)
      simp; omega
    · rw [show lst S j = .none by simp only [lst, List.getD_eq_getElem?_getD, List.getElem?_eq_none (Nat.le_of_not_lt hj)]; rfl]; rfl
  obtain ⟨ρ', h1, M1, h2⟩ := M.newDat (id := S.length) (by simp [lst]) hinv (M.datAt hi')
  have e : updS (lst S) [(S.length, .dat d)] = lst (S ++ [.dat d]) := by
    funext j
    simp only [updS, lst, List.getD_eq_getElem?_getD]
    by_cases hj : j = S.length
    · subst hj; simp
    · rw [if_neg hj]
      by_cases hj2 : j < S.length
      · rw [List.getElem?_append_left hj2]
      · rw [List.getElem?_eq_none (by omega), List.getElem?_eq_none (by simp; omega)]
  rw [e] at M1
  have hρ : ρ' i = ρ i := h1 i (by simp; omega)
  have ea : AV.vals ρ args' = AV.vals ρ' args := by
    rw [ha ρ' (by rw [← h2, hρ])]
    exact (AV.vals_congr _ fun k hk => by
      have := ltAll_iff hg k hk
      exact h1 k (by simp; omega)).symm
  simp only
  rw [ea]
  refine (hc ι φ ψ w0 w F ρ' M1).mono ?_
  rintro x w' ⟨ρ2, g1, g2, M2⟩
  refine ⟨ρ2, fun k hk => ?_, g2, ?_⟩
  · rw [g1 k (by simp; omega)]; exact h1 k (by simp; omega)
  · refine M2.map (fun k => match k with | .inl i => some (.inl i) | .inr j => if j < S'.length then some (.inr j) else none) ?_ ?_
    · intro k k' x h1 h2
      match k, k' with
      | .inl i, .inl i' => simp at h1 h2; rw [h1, h2]
      | .inl i, .inr j => simp at h1; subst h1; simp at h2
      | .inr j, .inl i => simp at h2; subst h2; simp at h1
      | .inr j, .inr j' => simp at h1 h2; rw [← h1.2] at h2; rw [Sum.inr.inj h2.2]
    · intro k
      match k with
      | .inl i => exact .inl ⟨.inl i, rfl, rfl⟩
      | .inr j =>
        by_cases hj : j < S'.length
        · refine .inl ⟨.inr j, by simp [hj], ?_⟩
          simp only [lay, lst, List.getD_eq_getElem?_getD, List.getElem?_append_left hj]
        · refine .inr ?_
          simp only [lay, lst, List.getD_eq_getElem?_getD, List.getElem?_eq_none (Nat.le_of_not_lt hj)]
          rfl


theorem sameEs_at {ks ls : List LExpr} {k : Nat} (h1 : k < ks.length) (h2 : k < ls.length) (h : sameE ks[k] ls[k] = false) : sameEs ks ls = false := by
  cases hs : sameEs ks ls
  · rfl
  · have := (sameEs_eq ks ls).1 hs
    subst this
    rw [(sameE_eq _ _).2 rfl] at h; cases h
theorem sameSs_at {ks ls : List LStmt} {k : Nat} (h1 : k < ks.length) (h2 : k < ls.length) (h : sameS ks[k] ls[k] = false) : sameSs ks ls = false := by
  cases hs : sameSs ks ls
  · rfl
  · have := (sameSs_eq ks ls).1 hs
    subst this
    rw [(sameS_eq _ _).2 rfl] at h; cases h

def EqE (e : LExpr) : Prop := ∀ (φ φ' : Nat → Prop) (v u : Value) (e' : LExpr) (w : World), ExprV w φ v e → ExprV w φ' u e' →
  Calls Try.prog 138 #[v, u] w fun x w' => x = .returned (.bool (sameE e e')) ∧ Below w.heap.size w w'

set_option maxHeartbeats 1000000 in
theorem eqExprS_of (ks : List LExpr) (ih : ∀ e ∈ ks, EqE e) (φ φ' : Nat → Prop) (v u : Value) (ls : List LExpr) (w : World) (h : KidsV w φ v ks) (h' : KidsV w φ' u ls) :
    Calls Try.prog 155 #[v, u] w fun x w' => x = .returned (.bool (sameEs ks ls)) ∧ Below w.heap.size w w' := by
  obtain ⟨a, cap, rfl, -, hn, -, hc⟩ := h.open
  obtain ⟨a', cap', rfl, -, hn', -, hc'⟩ := h'.open
  have HC := show Hid _ from hc
  have HC' := show Hid _ from hc'
  clear hc hc' h h'
  by_cases hl : ks.length = ls.length
  · have heq : ((ks.length : Int) == (ls.length : Int)) = true := by simp; omega
    have HL := show Hid _ from hl
    clear hl
    go_enter Try.func155, Try.ntmps155
    go_wp2
    go_loopw [5] (fun i wr => ∃ k : Nat, k ≤ ks.length ∧ i = .int .i64 k ∧ ks.take k = ls.take k ∧ Below w.heap.size w wr) (fun i _ => ks.length - (intOf i).toNat)
    case atStart => exact ⟨0, Nat.zero_le _, rfl, rfl, Below.refl _ _⟩
    case round =>
      obtain ⟨k, hk, rfl, ht, hb⟩ := hrel
      have HT := show Hid _ from ht
      have HB := show Hid _ from hb
      clear ht hb
      by_cases hlt : k < ks.length
      · have hlt2 : k < ls.length := by have := HL.out; omega
        obtain ⟨b, off, kv, rfl, hbk, hf, c0, c1, c2, hkv⟩ := HC.out k hlt
        obtain ⟨b', off', kv', rfl, hbk', hf', d0, d1, d2, hkv'⟩ := HC'.out k hlt2
        rw [← (bcell HB.out).1 _ _ hbk] at c0 c1 c2
        rw [← (bcell HB.out).1 _ _ hbk'] at d0 d1 d2
        obtain ⟨q, hq⟩ : ∃ q, q = sameE ks[k] ls[k] := ⟨_, rfl⟩
        have HC3 : Hid (∀ X, Calls Try.prog 138 #[.agg #[.int .i64 ks[k].kind, .int .i64 ks[k].value, kv], .agg #[.int .i64 ls[k].kind, .int .i64 ls[k].value, kv']] (wr.ext X) fun e w'' => e = .returned (.bool q) ∧ ∃ Y, w'' = wr.ext Y) := fun X => by
          have bb := HB.out.trans ((ext_below wr X).mono HB.out.size)
          rw [hq]
          exact Calls.ext_of' (ih _ (List.getElem_mem hlt) φ φ' _ _ _ _ ⟨kv, rfl, KidsV.nice _ _ _ _ _ _ (Agr.below bb) hkv⟩ ⟨kv', rfl, KidsV.nice _ _ _ _ _ _ (Agr.below bb) hkv'⟩)
        have HQ := show Hid _ from hq
        have j0 := fun X => ext_cell c0 X
        have j1 := fun X => ext_cell c1 X
        have j2 := fun X => ext_cell c2 X
        have i0 := fun X => ext_cell d0 X
        have i1 := fun X => ext_cell d1 X
        have i2 := fun X => ext_cell d2 X
        clear hkv hkv' hq c0 c1 c2 d0 d1 d2
        cases q
        · go_wp2_with fail
          refine wp_region_ext (by kernel_rfl) (by kernel_rfl) ?_
          repeat (any_goals (first | go_big_quiet_step (((go_at_call 138; exact HC3.out _))) | quiet_step (((go_at_call 138; exact HC3.out _)))))
          refine wpQuiet_nil ?_
          rintro _ ⟨X, rfl⟩
          go_wp2_with fail
          go_ret
          exact ⟨ret_bool (sameEs_at hlt hlt2 HQ.out.symm).symm, HB.out.trans ((ext_below wr X).mono HB.out.size)⟩
        · go_wp2_with fail
          refine wp_region_ext (by kernel_rfl) (by kernel_rfl) ?_
          repeat (any_goals (first | go_big_quiet_step (((go_at_call 138; exact HC3.out _))) | quiet_step (((go_at_call 138; exact HC3.out _)))))
          refine wpQuiet_nil ?_
          rintro _ ⟨X, rfl⟩
          go_wp2_with fail
          exact ⟨⟨k + 1, by omega, by go_num, take_eq_succ HT.out hlt hlt2 ((sameE_eq _ _).1 HQ.out.symm), HB.out.trans ((ext_below wr X).mono HB.out.size)⟩, by simp [intOf]; omega⟩
      · have hge : ¬ ((k : Int) < (ks.length : Int)) := by omega
        go_wp2_with fail
        go_ret
        exact ⟨ret_bool (by rw [take_eq_all HT.out (by omega) (by have := HL.out; omega)]; exact ((sameEs_eq _ _).2 rfl).symm), HB.out⟩
  · have hne : ((ks.length : Int) == (ls.length : Int)) = false := by simp; omega
    have HL := show Hid _ from hl
    clear hl
    go_enter Try.func155, Try.ntmps155
    go_wp2
    go_ret
    exact ⟨ret_bool (sameEs_len HL.out).symm, Below.refl _ _⟩

set_option maxHeartbeats 1000000 in
theorem eqExpr_all (e : LExpr) : EqE e := by
  refine LExpr.ind (P := EqE) (fun k n ks ih => ?_) e
  intro φ φ' v u e' w h h'
  obtain ⟨kv, rfl, hk⟩ := h
  obtain ⟨ku, rfl, hk'⟩ := h'
  simp only [LExpr.kind, LExpr.value, LExpr.kids] at hk ⊢
  cases e' with
  | mk k' n' ks' =>
  have HS : Hid (sameE ⟨k, n, ks⟩ ⟨k', n', ks'⟩ = (decide (k = k') && decide (n = n') && sameEs ks ks')) := rfl
  simp only [LExpr.kind, LExpr.value, LExpr.kids] at hk' ⊢
  obtain ⟨W, hW, M⟩ : ∃ W, W = (w.alloc (.cells #[.int .i64 k, .int .i64 n, kv] 58)).alloc (.cells #[.int .i64 k', .int .i64 n', ku] 58) ∧ Mem (fun _ => True) (fun _ => True) w W [.box w.heap.size [.int .i64 k, .int .i64 n, kv], .box (w.heap.size + 1) [.int .i64 k', .int .i64 n', ku]] :=
    ⟨_, rfl, ((Mem.start fun _ _ => trivial).box _ _).box' _ _ (by simp)⟩
  have HK := show Hid (KidsV W φ kv ks ∧ KidsV W φ' ku ks') from ⟨KidsV.nice _ _ _ _ _ _ (Agr.below (M.below fun _ _ => trivial)) hk, KidsV.nice _ _ _ _ _ _ (Agr.below (M.below fun _ _ => trivial)) hk'⟩
  have HB := show Hid _ from M.below fun _ _ => trivial
  have c0 := M.c 0 0 rfl rfl
  have c1 := M.c 0 1 rfl rfl
  have c2 := M.c 0 2 rfl rfl
  have d0 := M.c 1 0 rfl rfl
  have d1 := M.c 1 1 rfl rfl
  have d2 := M.c 1 2 rfl rfl
  rw [hW] at c0 c1 c2 d0 d1 d2
  clear hk hk' M
  by_cases q0 : k = k'
  · have p0 : (k == k') = true := by simp [q0]
    by_cases q1 : n = n'
    · have p1 : (n == n') = true := by simp [q1]
      have Q := show Hid _ from And.intro q0 q1
      clear q0 q1
      go_enter Try.func138, Try.ntmps138
      go_wp2_with fail
      rw [← hW]
      clear hW c0 c1 c2 d0 d1 d2
      refine (eqExprS_of ks ih φ φ' kv ku ks' _ HK.out.1 HK.out.2).mono ?_
      rintro x w1 ⟨rfl, b1⟩
      have B1 := show Hid _ from HB.out.trans (b1.mono HB.out.size)
      obtain ⟨q, hq⟩ : ∃ q, q = sameEs ks ks' := ⟨_, rfl⟩
      rw [← hq]
      have HQ := show Hid _ from hq
      clear hq
      cases q
      · go_wp2_with fail
        go_ret
        exact ⟨ret_bool (by rw [HS.out, ← HQ.out]; simp), B1.out⟩
      · go_wp2_with fail
        go_ret
        exact ⟨ret_bool (by rw [HS.out, ← HQ.out]; simp [Q.out.1, Q.out.2]), B1.out⟩
    · have p1 : (n == n') = false := by simp [q1]
      have Q := show Hid _ from q1
      clear q0 q1
      go_enter Try.func138, Try.ntmps138
      go_wp2_with fail
      go_ret
      exact ⟨ret_bool (by rw [HS.out, show decide (n = n') = false from decide_eq_false Q.out]; simp), by rw [← hW]; exact HB.out⟩
  · have p0 : (k == k') = false := by simp [q0]
    have Q := show Hid _ from q0
    clear q0
    go_enter Try.func138, Try.ntmps138
    go_wp2_with fail
    go_ret
    exact ⟨ret_bool (by rw [HS.out, show decide (k = k') = false from decide_eq_false Q.out]; simp), by rw [← hW]; exact HB.out⟩

def EqS (e : LStmt) : Prop := ∀ (φ φ' : Nat → Prop) (v u : Value) (e' : LStmt) (w : World), StmtV w φ v e → StmtV w φ' u e' →
  Calls Try.prog 104 #[v, u] w fun x w' => x = .returned (.bool (sameS e e')) ∧ Below w.heap.size w w'

set_option maxHeartbeats 1000000 in
theorem eqStmtS_of (ks : List LStmt) (ih : ∀ e ∈ ks, EqS e) (φ φ' : Nat → Prop) (v u : Value) (ls : List LStmt) (w : World) (h : BlockV w φ v ks) (h' : BlockV w φ' u ls) :
    Calls Try.prog 60 #[v, u] w fun x w' => x = .returned (.bool (sameSs ks ls)) ∧ Below w.heap.size w w' := by
  obtain ⟨a, cap, rfl, -, hn, -, hc⟩ := h.open
  obtain ⟨a', cap', rfl, -, hn', -, hc'⟩ := h'.open
  have HC := show Hid _ from hc
  have HC' := show Hid _ from hc'
  clear hc hc' h h'
  by_cases hl : ks.length = ls.length
  · have heq : ((ks.length : Int) == (ls.length : Int)) = true := by simp; omega
    have HL := show Hid _ from hl
    clear hl
    go_enter Try.func60, Try.ntmps60
    go_wp2
    go_loopw [5] (fun i wr => ∃ k : Nat, k ≤ ks.length ∧ i = .int .i64 k ∧ ks.take k = ls.take k ∧ Below w.heap.size w wr) (fun i _ => ks.length - (intOf i).toNat)
    case atStart => exact ⟨0, Nat.zero_le _, rfl, rfl, Below.refl _ _⟩
    case round =>
      obtain ⟨k, hk, rfl, ht, hb⟩ := hrel
      have HT := show Hid _ from ht
      have HB := show Hid _ from hb
      clear ht hb
      by_cases hlt : k < ks.length
      · have hlt2 : k < ls.length := by have := HL.out; omega
        obtain ⟨b, off, iv, vv, bv, ev, rfl, hbk, hf, ⟨c0, c1, c2, c3, c4, c5, c6, c7, c8, c9, c10⟩, g1, g2, g3, g4⟩ := HC.out k hlt
        obtain ⟨b', off', iv', vv', bv', ev', rfl, hbk', hf', ⟨d0, d1, d2, d3, d4, d5, d6, d7, d8, d9, d10⟩, g1', g2', g3', g4'⟩ := HC'.out k hlt2
        rw [← (bcell HB.out).1 _ _ hbk] at c0 c1 c2 c3 c4 c5 c6 c7 c8 c9 c10
        rw [← (bcell HB.out).1 _ _ hbk'] at d0 d1 d2 d3 d4 d5 d6 d7 d8 d9 d10
        obtain ⟨q, hq⟩ : ∃ q, q = sameS ks[k] ls[k] := ⟨_, rfl⟩
        have HC3 : Hid (∀ X, Calls Try.prog 104 #[.agg #[.int .i64 ks[k].kind, .int .i64 ks[k].target, .int .i64 ks[k].index.kind, .int .i64 ks[k].index.value, iv, .int .i64 ks[k].value.kind, .int .i64 ks[k].value.value, vv, .int .i64 ks[k].count, bv, ev], .agg #[.int .i64 ls[k].kind, .int .i64 ls[k].target, .int .i64 ls[k].index.kind, .int .i64 ls[k].index.value, iv', .int .i64 ls[k].value.kind, .int .i64 ls[k].value.value, vv', .int .i64 ls[k].count, bv', ev']] (wr.ext X) fun e w'' => e = .returned (.bool q) ∧ ∃ Y, w'' = wr.ext Y) := fun X => by
          have bb := HB.out.trans ((ext_below wr X).mono HB.out.size)
          rw [hq]
          exact Calls.ext_of' (ih _ (List.getElem_mem hlt) φ φ' _ _ _ _ (StmtV.nice _ _ _ _ _ _ (Agr.below bb) ⟨iv, vv, bv, ev, rfl, g1, g2, g3, g4⟩) (StmtV.nice _ _ _ _ _ _ (Agr.below bb) ⟨iv', vv', bv', ev', rfl, g1', g2', g3', g4'⟩))
        have HQ := show Hid _ from hq
        have j0 := fun X => ext_cell c0 X
        have j1 := fun X => ext_cell c1 X
        have j2 := fun X => ext_cell c2 X
        have j3 := fun X => ext_cell c3 X
        have j4 := fun X => ext_cell c4 X
        have j5 := fun X => ext_cell c5 X
        have j6 := fun X => ext_cell c6 X
        have j7 := fun X => ext_cell c7 X
        have j8 := fun X => ext_cell c8 X
        have j9 := fun X => ext_cell c9 X
        have j10 := fun X => ext_cell c10 X
        have i0 := fun X => ext_cell d0 X
        have i1 := fun X => ext_cell d1 X
        have i2 := fun X => ext_cell d2 X
        have i3 := fun X => ext_cell d3 X
        have i4 := fun X => ext_cell d4 X
        have i5 := fun X => ext_cell d5 X
        have i6 := fun X => ext_cell d6 X
        have i7 := fun X => ext_cell d7 X
        have i8 := fun X => ext_cell d8 X
        have i9 := fun X => ext_cell d9 X
        have i10 := fun X => ext_cell d10 X
        clear g1 g2 g3 g4 g1' g2' g3' g4' hq c0 d0 c1 d1 c2 d2 c3 d3 c4 d4 c5 d5 c6 d6 c7 d7 c8 d8 c9 d9 c10 d10
        cases q
        · go_wp2_with fail
          refine wp_region_ext (by kernel_rfl) (by kernel_rfl) ?_
          repeat (any_goals (first | go_big_quiet_step (((go_at_call 104; exact HC3.out _))) | quiet_step (((go_at_call 104; exact HC3.out _)))))
          refine wpQuiet_nil ?_
          rintro _ ⟨X, rfl⟩
          go_wp2_with fail
          go_ret
          exact ⟨ret_bool (sameSs_at hlt hlt2 HQ.out.symm).symm, HB.out.trans ((ext_below wr X).mono HB.out.size)⟩
        · go_wp2_with fail
          refine wp_region_ext (by kernel_rfl) (by kernel_rfl) ?_
          repeat (any_goals (first | go_big_quiet_step (((go_at_call 104; exact HC3.out _))) | quiet_step (((go_at_call 104; exact HC3.out _)))))
          refine wpQuiet_nil ?_
          rintro _ ⟨X, rfl⟩
          go_wp2_with fail
          exact ⟨⟨k + 1, by omega, by go_num, take_eq_succ HT.out hlt hlt2 ((sameS_eq _ _).1 HQ.out.symm), HB.out.trans ((ext_below wr X).mono HB.out.size)⟩, by simp [intOf]; omega⟩
      · have hge : ¬ ((k : Int) < (ks.length : Int)) := by omega
        go_wp2_with fail
        go_ret
        exact ⟨ret_bool (by rw [take_eq_all HT.out (by omega) (by have := HL.out; omega)]; exact ((sameSs_eq _ _).2 rfl).symm), HB.out⟩
  · have hne : ((ks.length : Int) == (ls.length : Int)) = false := by simp; omega
    have HL := show Hid _ from hl
    clear hl
    go_enter Try.func60, Try.ntmps60
    go_wp2
    go_ret
    exact ⟨ret_bool (sameSs_len HL.out).symm, Below.refl _ _⟩

set_option maxHeartbeats 4000000 in
theorem eqStmt_all (s : LStmt) : EqS s := by
  refine LStmt.ind (P := EqS) (fun k t i v c b e ihb ihe => ?_) s
  intro φ φ' x u s' w h h'
  obtain ⟨iv, vv, bv, ev, rfl, g1, g2, g3, g4⟩ := h
  obtain ⟨iv', vv', bv', ev', rfl, g1', g2', g3', g4'⟩ := h'
  cases s' with
  | mk k' t' i' v' c' b' e' =>
  have HS : Hid (sameS ⟨k, t, i, v, c, b, e⟩ ⟨k', t', i', v', c', b', e'⟩ = (decide (k = k') && decide (t = t') && sameE i i' && sameE v v' && decide (c = c') && sameSs b b' && sameSs e e')) := rfl
  simp only [LStmt.index, LStmt.value, LStmt.body, LStmt.els, LStmt.kind, LStmt.target, LStmt.count] at g1 g2 g3 g4 g1' g2' g3' g4' ⊢
  obtain ⟨W, hW, M⟩ : ∃ W, W = (w.alloc (.cells #[.int .i64 k, .int .i64 t, .int .i64 i.kind, .int .i64 i.value, iv, .int .i64 v.kind, .int .i64 v.value, vv, .int .i64 c, bv, ev] 60)).alloc (.cells #[.int .i64 k', .int .i64 t', .int .i64 i'.kind, .int .i64 i'.value, iv', .int .i64 v'.kind, .int .i64 v'.value, vv', .int .i64 c', bv', ev'] 60) ∧ Mem (fun _ => True) (fun _ => True) w W [.box w.heap.size [.int .i64 k, .int .i64 t, .int .i64 i.kind, .int .i64 i.value, iv, .int .i64 v.kind, .int .i64 v.value, vv, .int .i64 c, bv, ev], .box (w.heap.size + 1) [.int .i64 k', .int .i64 t', .int .i64 i'.kind, .int .i64 i'.value, iv', .int .i64 v'.kind, .int .i64 v'.value, vv', .int .i64 c', bv', ev']] :=
    ⟨_, rfl, ((Mem.start fun _ _ => trivial).box _ _).box' _ _ (by simp)⟩
  have HG := show Hid (∀ W', Below w.heap.size w W' → ExprV W' φ (.agg #[.int .i64 i.kind, .int .i64 i.value, iv]) i ∧ ExprV W' φ (.agg #[.int .i64 v.kind, .int .i64 v.value, vv]) v ∧ BlockV W' φ bv b ∧ BlockV W' φ ev e) from fun W' k =>
    ⟨⟨iv, rfl, KidsV.nice _ _ _ _ _ _ (Agr.below k) g1⟩, ⟨vv, rfl, KidsV.nice _ _ _ _ _ _ (Agr.below k) g2⟩, BlockV.nice _ _ _ _ _ _ (Agr.below k) g3, BlockV.nice _ _ _ _ _ _ (Agr.below k) g4⟩
  have HG' := show Hid (∀ W', Below w.heap.size w W' → ExprV W' φ' (.agg #[.int .i64 i'.kind, .int .i64 i'.value, iv']) i' ∧ ExprV W' φ' (.agg #[.int .i64 v'.kind, .int .i64 v'.value, vv']) v' ∧ BlockV W' φ' bv' b' ∧ BlockV W' φ' ev' e') from fun W' k =>
    ⟨⟨iv', rfl, KidsV.nice _ _ _ _ _ _ (Agr.below k) g1'⟩, ⟨vv', rfl, KidsV.nice _ _ _ _ _ _ (Agr.below k) g2'⟩, BlockV.nice _ _ _ _ _ _ (Agr.below k) g3', BlockV.nice _ _ _ _ _ _ (Agr.below k) g4'⟩
  clear g1 g2 g3 g4 g1' g2' g3' g4'
  have c0 := M.c 0 0 rfl rfl
  have d0 := M.c 1 0 rfl rfl
  have c1 := M.c 0 1 rfl rfl
  have d1 := M.c 1 1 rfl rfl
  have c2 := M.c 0 2 rfl rfl
  have d2 := M.c 1 2 rfl rfl
  have c3 := M.c 0 3 rfl rfl
  have d3 := M.c 1 3 rfl rfl
  have c4 := M.c 0 4 rfl rfl
  have d4 := M.c 1 4 rfl rfl
  rw [hW] at c0 d0 c1 d1 c2 d2 c3 d3 c4 d4
  have HB0 := show Hid _ from M.below fun _ _ => trivial
  have HM := show Hid _ from M
  clear M
  by_cases q0 : k = k'
  rotate_left
  · have p0 : (k == k') = false := by simp [q0]
    have Q := show Hid _ from q0
    clear q0
    go_enter Try.func104, Try.ntmps104
    go_wp2_with fail
    go_ret
    exact ⟨ret_bool (by rw [HS.out, show decide (k = k') = false from decide_eq_false Q.out]; simp), by rw [← hW]; exact HB0.out⟩
  have p0 : (k == k') = true := by simp [q0]
  by_cases q1 : t = t'
  rotate_left
  · have p1 : (t == t') = false := by simp [q1]
    have Q := show Hid _ from q1
    clear q0 q1
    go_enter Try.func104, Try.ntmps104
    go_wp2_with fail
    go_ret
    exact ⟨ret_bool (by rw [HS.out, show decide (t = t') = false from decide_eq_false Q.out]; simp), by rw [← hW]; exact HB0.out⟩
  have p1 : (t == t') = true := by simp [q1]
  have Q0 := show Hid _ from And.intro q0 q1
  clear q0 q1
  go_enter Try.func104, Try.ntmps104
  go_wp2_with fail
  rw [← hW]
  have M := HM.out
  clear hW HM p0 p1 c0 d0 c1 d1 c2 d2 c3 d3 c4 d4
  refine (eqExpr_all i φ φ' _ _ i' _ (HG.out _ (M.below fun _ _ => trivial)).1 (HG'.out _ (M.below fun _ _ => trivial)).1).mono ?_
  rintro x w1 ⟨rfl, b1⟩
  replace M := M.call b1
  clear b1
  obtain ⟨r1, hq⟩ : ∃ q, q = sameE i i' := ⟨_, rfl⟩
  rw [← hq]
  have Hr1 := show Hid _ from hq
  clear hq
  have HB := show Hid _ from M.below fun _ _ => trivial
  have c5 := M.c 0 5 rfl rfl
  have d5 := M.c 1 5 rfl rfl
  have c6 := M.c 0 6 rfl rfl
  have d6 := M.c 1 6 rfl rfl
  have c7 := M.c 0 7 rfl rfl
  have d7 := M.c 1 7 rfl rfl
  have HM := show Hid _ from M
  clear M
  cases r1
  · go_wp2_with fail
    go_ret
    exact ⟨ret_bool (by rw [HS.out, ← Hr1.out]; simp), HB.out⟩
  go_wp2_with fail
  have M := HM.out
  clear HM HB c5 d5 c6 d6 c7 d7
  refine (eqExpr_all v φ φ' _ _ v' _ (HG.out _ (M.below fun _ _ => trivial)).2.1 (HG'.out _ (M.below fun _ _ => trivial)).2.1).mono ?_
  rintro x w1 ⟨rfl, b1⟩
  replace M := M.call b1
  clear b1
  obtain ⟨r2, hq⟩ : ∃ q, q = sameE v v' := ⟨_, rfl⟩
  rw [← hq]
  have Hr2 := show Hid _ from hq
  clear hq
  have HB := show Hid _ from M.below fun _ _ => trivial
  have c8 := M.c 0 8 rfl rfl
  have d8 := M.c 1 8 rfl rfl
  have c9 := M.c 0 9 rfl rfl
  have d9 := M.c 1 9 rfl rfl
  have HM := show Hid _ from M
  clear M
  cases r2
  · go_wp2_with fail
    go_ret
    exact ⟨ret_bool (by rw [HS.out, ← Hr2.out]; simp), HB.out⟩
  by_cases q4 : c = c'
  rotate_left
  · have p4 : (c == c') = false := by simp [q4]
    have Q := show Hid _ from q4
    clear q4
    go_wp2_with fail
    go_ret
    exact ⟨ret_bool (by rw [HS.out, show decide (c = c') = false from decide_eq_false Q.out]; simp), HB.out⟩
  have p4 : (c == c') = true := by simp [q4]
  have Q4 := show Hid _ from q4
  clear q4
  go_wp2_with fail
  have M := HM.out
  clear HM HB p4 c8 d8 c9 d9
  refine (eqStmtS_of b ihb φ φ' bv bv' b' _ (HG.out _ (M.below fun _ _ => trivial)).2.2.1 (HG'.out _ (M.below fun _ _ => trivial)).2.2.1).mono ?_
  rintro x w1 ⟨rfl, b1⟩
  replace M := M.call b1
  clear b1
  obtain ⟨r3, hq⟩ : ∃ q, q = sameSs b b' := ⟨_, rfl⟩
  rw [← hq]
  have Hr3 := show Hid _ from hq
  clear hq
  have HB := show Hid _ from M.below fun _ _ => trivial
  have c10 := M.c 0 10 rfl rfl
  have d10 := M.c 1 10 rfl rfl
  have HM := show Hid _ from M
  clear M
  cases r3
  · go_wp2_with fail
    go_ret
    exact ⟨ret_bool (by rw [HS.out, ← Hr3.out]; simp), HB.out⟩
  go_wp2_with fail
  have M := HM.out
  clear HM HB c10 d10
  refine (eqStmtS_of e ihe φ φ' ev ev' e' _ (HG.out _ (M.below fun _ _ => trivial)).2.2.2 (HG'.out _ (M.below fun _ _ => trivial)).2.2.2).mono ?_
  rintro x w1 ⟨rfl, b1⟩
  replace M := M.call b1
  clear b1
  obtain ⟨r4, hq⟩ : ∃ q, q = sameSs e e' := ⟨_, rfl⟩
  rw [← hq]
  have Hr4 := show Hid _ from hq
  clear hq
  have HB := show Hid _ from M.below fun _ _ => trivial
  have HM := show Hid _ from M
  clear M
  cases r4
  · go_wp2_with fail
    go_ret
    exact ⟨ret_bool (by rw [HS.out, ← Hr4.out]; simp), HB.out⟩
  go_wp2_with fail
  go_ret
  exact ⟨ret_bool (by rw [HS.out, ← Hr1.out, ← Hr2.out, ← Hr3.out, ← Hr4.out, decide_eq_true Q0.out.1, decide_eq_true Q0.out.2, decide_eq_true Q4.out]; rfl), HB.out⟩

set_option maxHeartbeats 2000000 in
theorem eqProgram_any (φ φ' : Nat → Prop) (x u : Value) (p q : LProg) (w : World) (h : ProgV w φ x p) (h' : ProgV w φ' u q) :
    Calls Try.prog 20 #[x, u] w fun e w' => e = .returned (.bool (p.same q)) ∧ Below w.heap.size w w' := by
  obtain ⟨v1, v2, v3, rfl, h1, h2, h3⟩ := h
  obtain ⟨u1, u2, u3, rfl, k1, k2, k3⟩ := h'
  have HS : Hid (p.same q = (decide (p.vars = q.vars) && decide (p.arrays = q.arrays) && sameSs p.body q.body)) := rfl
  obtain ⟨W, hW, M⟩ : ∃ W, W = (w.alloc (.cells #[v1, v2, v3] 31)).alloc (.cells #[u1, u2, u3] 31) ∧ Mem (fun _ => True) (fun _ => True) w W [.box w.heap.size [v1, v2, v3], .box (w.heap.size + 1) [u1, u2, u3]] :=
    ⟨_, rfl, ((Mem.start fun _ _ => trivial).box _ _).box' _ _ (by simp)⟩
  have HG := show Hid (∀ W', Below w.heap.size w W' → (Row W' v1 p.vars.length 1 (ints p.vars) ∧ Row W' v2 p.arrays.length 1 (ints p.arrays) ∧ BlockV W' φ v3 p.body) ∧ (Row W' u1 q.vars.length 1 (ints q.vars) ∧ Row W' u2 q.arrays.length 1 (ints q.arrays) ∧ BlockV W' φ' u3 q.body)) from fun W' k =>
    ⟨⟨h1.row.below k, h2.row.below k, BlockV.nice _ _ _ _ _ _ (Agr.below k) h3⟩, k1.row.below k, k2.row.below k, BlockV.nice _ _ _ _ _ _ (Agr.below k) k3⟩
  clear h1 h2 h3 k1 k2 k3
  have c0 := M.c 0 0 rfl rfl
  have d0 := M.c 1 0 rfl rfl
  rw [hW] at c0 d0
  have HM := show Hid _ from M
  clear M
  go_enter Try.func20, Try.ntmps20
  go_wp2_with fail
  rw [← hW]
  have M := HM.out
  clear hW HM c0 d0
  refine (eqIntS_any _ _ p.vars q.vars _ (HG.out _ (M.below fun _ _ => trivial)).1.1 (HG.out _ (M.below fun _ _ => trivial)).2.1).mono ?_
  rintro x w1 ⟨rfl, n1, rfl⟩
  replace M := M.call (below_drewN (Below.refl _ _) n1)
  obtain ⟨r1, hq⟩ : ∃ r, r = decide (p.vars = q.vars) := ⟨_, rfl⟩
  rw [← hq]
  have Hr1 := show Hid _ from hq
  clear hq
  have HB := show Hid _ from M.below fun _ _ => trivial
  have c1 := M.c 0 1 rfl rfl
  have d1 := M.c 1 1 rfl rfl
  have HM := show Hid _ from M
  clear M
  cases r1
  · go_wp2_with fail
    go_ret
    exact ⟨ret_bool (by rw [HS.out, ← Hr1.out]; simp), HB.out⟩
  go_wp2_with fail
  have M := HM.out
  clear HM HB c1 d1
  refine (eqIntS_any _ _ p.arrays q.arrays _ (HG.out _ (M.below fun _ _ => trivial)).1.2.1 (HG.out _ (M.below fun _ _ => trivial)).2.2.1).mono ?_
  rintro x w1 ⟨rfl, n2, rfl⟩
  replace M := M.call (below_drewN (Below.refl _ _) n2)
  rw [World.drewN_drewN] at M
  obtain ⟨r2, hq⟩ : ∃ r, r = decide (p.arrays = q.arrays) := ⟨_, rfl⟩
  rw [← hq]
  have Hr2 := show Hid _ from hq
  clear hq
  have HB := show Hid _ from M.below fun _ _ => trivial
  have c2 := M.c 0 2 rfl rfl
  have d2 := M.c 1 2 rfl rfl
  have HM := show Hid _ from M
  clear M
  cases r2
  · go_wp2_with fail
    go_ret
    exact ⟨ret_bool (by rw [HS.out, ← Hr2.out]; simp), HB.out⟩
  go_wp2_with fail
  have M := HM.out
  clear HM HB c2 d2
  refine (eqStmtS_of p.body (fun s _ => eqStmt_all s) φ φ' v3 u3 q.body _ (HG.out _ (M.below fun _ _ => trivial)).1.2.2 (HG.out _ (M.below fun _ _ => trivial)).2.2.2).mono ?_
  rintro x w1 ⟨rfl, b1⟩
  replace M := M.call b1
  clear b1
  obtain ⟨r3, hq⟩ : ∃ r, r = sameSs p.body q.body := ⟨_, rfl⟩
  rw [← hq]
  have Hr3 := show Hid _ from hq
  clear hq
  have HB := show Hid _ from M.below fun _ _ => trivial
  clear M
  cases r3
  · go_wp2_with fail
    go_ret
    exact ⟨ret_bool (by rw [HS.out, ← Hr3.out]; simp), HB.out⟩
  go_wp2_with fail
  go_ret
  exact ⟨ret_bool (by rw [HS.out, ← Hr1.out, ← Hr2.out, ← Hr3.out]; rfl), HB.out⟩


theorem c_szProgram (p : LProg) (m : Int) (hm : 0 ≤ m) (hm2 : m ≤ 1048576) : Ctr.ok Try.prog (fnC 15 [pA 0, iA m] (pS p) (iA (szRes m p.size))) :=
  old_ok fun φ w ρ h => szProgram_any φ _ p m w ⟨ρ 0, ρ 1, ρ 2, rfl, h 0 _ rfl, h 1 _ rfl, h 2 _ rfl⟩ hm hm2
theorem c_eqProgram (p q : LProg) : Ctr.ok Try.prog (fnC 20 [pA 0, pA 3] (pS p ++ pS q) (bA (p.same q))) :=
  old_ok fun φ w ρ h => eqProgram_any φ φ _ _ p q w ⟨ρ 0, ρ 1, ρ 2, rfl, h 0 _ rfl, h 1 _ rfl, h 2 _ rfl⟩ ⟨ρ 3, ρ 4, ρ 5, rfl, h 3 _ rfl, h 4 _ rfl, h 5 _ rfl⟩

theorem prog_law {P : Program} {f : FuncId} {x : Value} {p : LProg} {post : List It} (hc : Ctr.ok P ⟨f, [pA 0], pS p, post, .v x⟩) (u : Value) (w : World) (hp : ProgV w (fun _ => True) u p) :
    Calls P f #[u] w fun e w' => e = .returned x ∧ Below w.heap.size w w' := by
  obtain ⟨v1, v2, v3, rfl, h1, h2, h3⟩ := hp
  have M0 : MemF (fun _ => True) (fun _ => True) w w (lay (fun _ : Empty => Rs.none) (fun _ => undef) (lst [])) := by
    refine (MemF.start (ι := Empty ⊕ Nat) (w0 := w) (φ := fun _ => True) (ψ := fun _ => True) fun _ _ => trivial).map (fun k => some k) (fun k k' i a b => by cases a; cases b; rfl) fun k => ?_
    cases k with
    | inl e => exact e.elim
    | inr j => exact .inr rfl
  have ha : Agr (fun _ => True) (FrF (fun _ => True) (lay (fun _ : Empty => Rs.none) (fun _ => undef) (lst []))) w w := Agr.mono fun b _ _ => ⟨trivial, fun i => by
    cases i with
    | inl e => exact e.elim
    | inr j => exact fun h => h.elim⟩
  obtain ⟨ρ', g1, M2, g2⟩ := MemF.dats [.sl (.ints p.vars), .sl (.ints p.arrays), .sl (.stmts p.body)] [v1, v2, v3] 0 M0
    ⟨RD.nice (.ints p.vars) _ _ _ _ _ ha h1, RD.nice (.ints p.arrays) _ _ _ _ _ ha h2, RD.nice (.stmts p.body) _ _ _ _ _ ha h3, trivial⟩ (fun _ _ => rfl) (fun _ _ _ => rfl)
  have e : updS (lst []) (xnew [.sl (.ints p.vars), .sl (.ints p.arrays), .sl (.stmts p.body)] 0) = lst (pS p) := by
    funext j
    match j with
    | 0 => rfl
    | 1 => rfl
    | 2 => rfl
    | j + 3 => simp [xnew, updS, lst]
  rw [e] at M2
  simp only [xav, AV.vals, AV.val, List.cons.injEq, and_true] at g2
  obtain ⟨rfl, rfl, rfl⟩ := g2
  refine (hc Empty _ _ w w _ ρ' M2).mono ?_
  rintro e w' ⟨ρ2, -, rfl, M3⟩
  exact ⟨rfl, M3.below fun _ _ => trivial⟩


theorem markIntS_row (v : Value) (xs : List Int) (K : Nat) (w : World) (h : w.ownsRow 0 3 1 v xs.length (ints xs)) (hK : K + xs.length ≤ 9000000000000000000) :
    Calls Try.prog 22 #[v, .int .i64 K] w fun e w' => e = .returned (.int .i64 (K + xs.length : Nat)) ∧ w'.ownsRow 0 3 1 v xs.length (ints (marksI K xs.length)) ∧ Kept (fun b => ¬ v.ownBlock = some b) w w' := by
  obtain ⟨lo, hi, _, _, ho, hb⟩ := (Own.mk' h).tight
  refine (markIntS_any v xs K lo hi w ho hK).mono ?_
  rintro e w1 ⟨rfl, h1, h2⟩
  refine ⟨rfl, owns_base h1.1 (Nat.zero_le _), h2.os, h2.tape, h2.output, h2.size, fun b hb1 hb2 => h2.block b hb1 ?_⟩
  rcases Nat.lt_or_ge b lo with h3 | h3
  · exact .inl h3
  · rcases Nat.lt_or_ge b hi with h4 | h4
    · exact absurd (hb b h3 h4) hb2
    · exact .inr h4
theorem Mem.turnRow {φ ψ : Nat → Prop} {w0 w w' : World} {L : List Res} (M : Mem φ ψ w0 w L) (i : Nat) {e : TypeId} {sz : Nat} {v : Value} {n : Nat} {xs xs' : List Value} (hi : L[i]? = some (.row e sz v n xs)) (hk : Kept (fun b => ¬ v.ownBlock = some b) w w') (h : w'.ownsRow 0 e sz v n xs') : Mem φ ψ w0 w' (L.set i (.row e sz v n xs')) :=
  M.put hi _ hk h fun _ hg => .inl hg

def mkP (p : LProg) (k : Nat) : LProg := ⟨marksI k p.vars.length, marksI (k + p.vars.length) p.arrays.length, mkSs p.body ((k + p.vars.length + p.arrays.length : Nat) : Int)⟩
def mkPN (p : LProg) : Int := p.vars.length + p.arrays.length + mkN p.body

set_option maxHeartbeats 1000000 in
theorem markProgram_any (v : Value) (p : LProg) (k : Nat) (w : World) (S : Nat → Prop) (h : ProgO w v p S) (hb : k + mkPN p ≤ 9000000000000000000) :
    Calls Try.prog 21 #[v, .int .i64 k] w fun x w' => x = .returned (.int .i64 (k + mkPN p)) ∧ ProgO w' v (mkP p k) S ∧ Kept (fun b => ¬ S b) w w' := by
  obtain ⟨v1, v2, v3, S3, rfl, h1, h2, h3, d1, d2, d3⟩ := h
  have hnn := (mkN_nonneg p.body).1
  have hbb : (k : Int) + p.vars.length + p.arrays.length + mkN p.body ≤ 9000000000000000000 := by unfold mkPN at hb; omega
  obtain ⟨W, hW, M⟩ : ∃ W, W = w.alloc (.cells #[v1, v2, v3] 31) ∧ Mem (fun _ => True) (fun b => ¬ S b) w W [.box w.heap.size [v1, v2, v3], .row 3 1 v1 p.vars.length (ints p.vars), .row 3 1 v2 p.arrays.length (ints p.arrays), .own (fun b => S3 b ∧ b < w.heap.size) (fun w' => BlockO w' v3 p.body (fun b => S3 b ∧ b < w.heap.size))] := by
    refine ⟨_, rfl, (((((Mem.start fun _ _ => trivial).box [v1, v2, v3] 31).adopt (.row 3 1 v1 p.vars.length (ints p.vars)) ?_ trivial (owns_same h1 fun g hg => ?_) ?_ ?_).adopt (.row 3 1 v2 p.arrays.length (ints p.arrays)) ?_ trivial (owns_same h2 fun g hg => ?_) ?_ ?_).adopt (.own (fun b => S3 b ∧ b < w.heap.size) (fun w' => BlockO w' v3 p.body (fun b => S3 b ∧ b < w.heap.size))) ?_ trivial ⟨fun _ _ h hs => BlockO.same h hs, h3.cut.same fun b hb hl => ?_, fun b hb => ?_⟩ ?_ ?_)⟩
    · intro a ha; simp at ha; subst ha; trivial
    · exact (Below.refl _ _ |>.alloc (Nat.le_refl _) _).block g (World.ownsRow.lt h1 g hg).2
    · intro a ha g hg h; simp at ha; subst ha; cases h; have := (World.ownsRow.lt h1 _ hg).2; omega
    · intro g hg hn; exact hn (d1 g hg).1
    · intro a ha; simp at ha; rcases ha with rfl | rfl <;> trivial
    · exact (Below.refl _ _ |>.alloc (Nat.le_refl _) _).block g (World.ownsRow.lt h2 g hg).2
    · intro a ha g hg h; simp at ha; rcases ha with rfl | rfl
      · cases h; have := (World.ownsRow.lt h2 _ hg).2; omega
      · exact (d1 g h).2.2 hg
    · intro g hg hn; exact hn (d2 g hg).1
    · intro a ha; simp at ha; rcases ha with rfl | rfl | rfl <;> trivial
    · exact (Below.refl _ _ |>.alloc (Nat.le_refl _) _).block b hb.2
    · simp; have := hb.2; omega
    · intro a ha g hg h; simp at ha; rcases ha with rfl | rfl | rfl
      · cases h; have := hg.2; omega
      · exact (d1 g h).2.1 hg.1
      · exact (d2 g h).2 hg.1
    · intro g hg hn; exact hn (d3 g hg.1)
  have HD := show Hid _ from And.intro d1 (And.intro d2 d3)
  clear h1 h2 h3 d1 d2 d3
  have c0 := M.c 0 0 rfl rfl
  rw [hW] at c0
  go_enter Try.func21, Try.ntmps21
  go_wp2_with fail
  rw [← hW]
  clear hW c0
  refine (markIntS_row v1 p.vars k _ (M.r 1 rfl) (by omega)).mono ?_
  rintro x w1 ⟨rfl, k1, kp1⟩
  replace M := M.turnRow 1 rfl kp1 k1
  clear k1 kp1
  have c1 := M.c 0 1 rfl rfl
  have HM := show Hid _ from M
  clear M
  go_wp2_with fail
  have M := HM.out
  clear HM c1
  refine (markIntS_row v2 p.arrays (k + p.vars.length) _ (M.r 2 rfl) (by omega)).mono ?_
  rintro x w2 ⟨rfl, k1, kp1⟩
  replace M := M.turnRow 2 rfl kp1 k1
  clear k1 kp1
  have c2 := M.c 0 2 rfl rfl
  have HM := show Hid _ from M
  clear M
  go_wp2_with fail
  have M := HM.out
  clear HM c2
  refine (markStmtS_any p.body v3 ((k + p.vars.length + p.arrays.length : Nat) : Int) _ _ (M.o 3 rfl) (by omega) (by omega)).mono ?_
  rintro x w3 ⟨rfl, k1, kp1⟩
  replace M := M.turn 3 rfl kp1 (fun _ _ h hs => BlockO.same h hs) k1
  clear k1 kp1
  have HM := show Hid _ from M
  clear M
  go_wp2_with fail
  go_ret
  have M := HM.out
  obtain ⟨d1, d2, d3⟩ := HD.out
  refine ⟨ret_int (by unfold mkPN; omega), ⟨v1, v2, v3, S3, rfl, ?_, ?_, (show BlockO _ v3 (mkSs p.body _) _ from M.o 3 rfl).mono fun _ h => h.1, d1, d2, d3⟩, M.kept⟩
  · rw [show (mkP p k).vars = marksI k p.vars.length from rfl, marksI_len]; exact M.r 1 rfl
  · rw [show (mkP p k).arrays = marksI (k + p.vars.length) p.arrays.length from rfl, marksI_len]; exact M.r 2 rfl


section
variable {P : Program} {ι κ : Type} {φ ψ : Nat → Prop} {w0 w w' : World} {F : ι → Rs} {ρ ρ0 : Nat → Value}
theorem MemF.turns {L L' : κ → Rs} (M : MemF φ ψ w0 w L) (hblk : ∀ k b, (L' k).blk b ↔ (L k).blk b) (K : κ → Prop) (ho : ∀ k, ¬ K k → L' k = L k) (hk : Kept (fun b => ¬ ∃ k, K k ∧ (L k).blk b) w w') (h : ∀ k, K k → (L' k).holds w' (FrF φ L')) : MemF φ ψ w0 w' L' := by
  have hfr : ∀ b, FrF φ L b → FrF φ L' b := fun b hb => ⟨hb.1, fun k hk => hb.2 k ((hblk k b).1 hk)⟩
  refine ⟨⟨hk.os.trans M.kept.os, hk.tape.trans M.kept.tape, hk.output.trans M.kept.output, Nat.le_trans M.size hk.size, fun b hb hp => (hk.block b (Nat.lt_of_lt_of_le hb M.size) ?_).trans (M.kept.block b hb hp)⟩, M.fresh, fun k => ?_, fun i j g hij h1 h2 => M.dis i j g hij ((hblk i g).1 h1) ((hblk j g).1 h2), fun i b hb => M.ge i b ((hblk i b).1 hb), fun i b hb => M.ph i b ((hblk i b).1 hb)⟩
  · rintro ⟨k, _, h2⟩
    rcases M.ge k b h2 with h | h
    · omega
    · exact h hp
  · by_cases e : K k
    · exact h k e
    · rw [ho k e]
      refine Rs.keep (M.holds k) ⟨hk.size, fun b hb hf => ⟨hfr b hf, hk.block b hb fun ⟨j, _, h2⟩ => hf.2 j h2⟩⟩ fun g hg => hk.block g (M.lt hg) ?_
      rintro ⟨j, h1, h2⟩
      exact M.dis j k g (fun h => e (h ▸ h1)) h2 hg
theorem MemF.grow {L L' : κ → Rs} (M : MemF φ ψ w0 w L) (hb : Below w.heap.size w w') (K : κ → Prop) (ho : ∀ k, ¬ K k → L' k = L k) (hg : ∀ k, K k → ∀ b, (L' k).blk b → w.heap.size ≤ b) (hd : ∀ j k b, j ≠ k → K j → K k → (L' j).blk b → ¬ (L' k).blk b) (h : ∀ k, K k → (L' k).holds w' (FrF φ L')) : MemF φ ψ w0 w' L' := by
  have M1 := M.call hb
  have old : ∀ k, ¬ K k → ∀ b, (L' k).blk b → b < w.heap.size := fun k hk b h1 => by rw [ho k hk] at h1; exact M.lt h1
  refine ⟨M1.kept, M.fresh, fun k => ?_, fun i j g hij h1 h2 => ?_, fun i b h1 => ?_, fun i b h1 => ?_⟩
  · by_cases e : K k
    · exact h k e
    · rw [ho k e]
      refine Rs.keep (M.holds k) ⟨hb.size, fun b hl hf => ⟨⟨hf.1, fun j hj => ?_⟩, hb.block b hl⟩⟩ fun g hgx => hb.block g (M.lt hgx)
      by_cases e2 : K j
      · have := hg j e2 b hj; omega
      · rw [ho j e2] at hj; exact hf.2 j hj
  · by_cases e1 : K i <;> by_cases e2 : K j
    · exact hd i j g hij e1 e2 h1 h2
    · have := hg i e1 g h1; have := old j e2 g h2; omega
    · have := hg j e2 g h2; have := old i e1 g h1; omega
    · rw [ho i e1] at h1; rw [ho j e2] at h2; exact M.dis i j g hij h1 h2
  · by_cases e : K i
    · exact .inl (Nat.le_trans M.size (hg i e b h1))
    · rw [ho i e] at h1; exact M.ge i b h1
  · by_cases e : K i
    · exact M.fresh b (Nat.le_trans M.size (hg i e b h1))
    · rw [ho i e] at h1; exact M.ph i b h1
end

abbrev oP (p : LProg) : List It := [.row 3 (.ints p.vars), .row 3 (.ints p.arrays), .tree (.stmts p.body)]
abbrev oA (r : Nat) : AV := .agg [.ref r, .ref (r + 1), .tref (r + 2)]
theorem row_holds {w : World} {φ : Nat → Prop} {v : Value} {l : List Int} (h : w.ownsRow 0 3 1 v l.length (ints l)) : (Rs.row 3 (D.ints l).sz v (D.ints l).len fun xs w φ => RW w φ (.ints l) xs).holds w φ := by
  refine ⟨fun xs => RW.nice (.ints l) xs, ints l, h, fun i hi j x hx => ?_⟩
  have hi' : i < l.length := hi
  simp only [D.elem] at hx
  have hj : j = 0 := by
    cases j with
    | zero => rfl
    | succ j => simp at hx
  subst hj
  simp at hx
  subst hx
  refine ⟨_, ?_, rfl⟩
  simp only [D.sz]
  rw [Nat.mul_one, Nat.add_zero]
  simp [ints, hi']
theorem row_of {w : World} {φ : Nat → Prop} {v : Value} {l : List Int} (h : (Rs.row 3 (D.ints l).sz v (D.ints l).len fun xs w φ => RW w φ (.ints l) xs).holds w φ) : w.ownsRow 0 3 1 v l.length (ints l) := by
  obtain ⟨_, xs, h1, h2⟩ := h
  have h3 : xs.length = l.length := by have := h1.1; simpa [D.len, D.sz] using this
  rw [rw_ints h3 h2] at h1
  exact h1

theorem t_toProgram (p : LProg) (hb : p.size ≤ 1048576) : Ctr.ok Try.prog ⟨17, [pA 0], pS p, pS p ++ oP p, oA 3⟩ := by
  intro ι φ ψ w0 w F ρ M
  refine (toProgram_any (FrF φ (lay F ρ (lst (pS p)))) _ p w ⟨ρ 0, ρ 1, ρ 2, rfl, M.datAt (id := 0) rfl, M.datAt (id := 1) rfl, M.datAt (id := 2) rfl⟩ hb).mono ?_
  rintro e w' ⟨a1, k1, a2, k2, a3, k3, S, rfl, hO, hS, hbl⟩
  obtain ⟨v1, v2, v3, S3, hv, h1, h2, h3, d1, d2, d3⟩ := hO
  cases hv
  obtain ⟨z, hz1, hz2⟩ := enc_exists (.slice a3 p.body.length k3) (fun b => S3 b ∧ b < w'.heap.size) w'.heap.size fun b h => h.2
  refine ⟨fun i => if i = 3 then .slice a1 p.vars.length k1 else if i = 4 then .slice a2 p.arrays.length k2 else if i = 5 then z else ρ i, fun i hi => ?_, ?_, ?_⟩
  · have : i < 3 := hi
    simp only [if_neg (show ¬ i = 3 by omega), if_neg (show ¬ i = 4 by omega), if_neg (show ¬ i = 5 by omega)]
  · simp [AV.val, AV.vals, hz1]
  · have hlt : ∀ j, 6 ≤ j → lst (pS p ++ oP p) j = .none ∧ lst (pS p) j = .none := fun j hj => ⟨lst_out (by simp; omega), lst_out (by simp; omega)⟩
    refine M.grow hbl (fun k => k = .inr 3 ∨ k = .inr 4 ∨ k = .inr 5) (fun k hk => ?_) ?_ ?_ ?_
    · cases k with
      | inl i => rfl
      | inr j =>
        have n3 : j ≠ 3 := fun e => hk (.inl (by rw [e]))
        have n4 : j ≠ 4 := fun e => hk (.inr (.inl (by rw [e])))
        have n5 : j ≠ 5 := fun e => hk (.inr (.inr (by rw [e])))
        match j, n3, n4, n5 with
        | 0, _, _, _ => rfl
        | 1, _, _, _ => rfl
        | 2, _, _, _ => rfl
        | 3, h, _, _ => exact absurd rfl h
        | 4, _, h, _ => exact absurd rfl h
        | 5, _, _, h => exact absurd rfl h
        | j + 6, _, _, _ => simp only [lay, (hlt (j + 6) (by omega)).1, (hlt (j + 6) (by omega)).2]; rfl
    · rintro k (rfl | rfl | rfl) b hbk
      · exact (hS b (d1 b hbk).1).1
      · exact (hS b (d2 b hbk).1).1
      · exact (hS b (d3 b ((hz2 b).1 hbk).1)).1
    · have x1 : ∀ b, (Value.slice a1 p.vars.length k1).ownBlock = some b → ¬ (Value.slice a2 p.arrays.length k2).ownBlock = some b := fun b hb => (d1 b hb).2.2
      rintro j k b hjk (rfl | rfl | rfl) (rfl | rfl | rfl) hj hk
      · exact hjk rfl
      · exact (d1 b hj).2.2 hk
      · exact (d1 b hj).2.1 ((hz2 b).1 hk).1
      · exact (d1 b hk).2.2 hj
      · exact hjk rfl
      · exact (d2 b hj).2 ((hz2 b).1 hk).1
      · exact (d1 b hk).2.1 ((hz2 b).1 hj).1
      · exact (d2 b hk).2 ((hz2 b).1 hj).1
      · exact hjk rfl
    · rintro k (rfl | rfl | rfl)
      · exact row_holds h1
      · exact row_holds h2
      · have e : blksOf z = fun b => S3 b ∧ b < w'.heap.size := funext fun b => propext (hz2 b)
        show (Rs.own (blksOf z) fun w => TreeO w (blksOf z) (.stmts p.body) (valOf z)).holds _ _
        rw [hz1, e]
        exact ⟨fun _ _ h hs => h.same hs, (TreeO.block.2 h3).cut, fun b hb => hb.2⟩

theorem c_markProgram (p : LProg) (k : Nat) (hb : k + mkPN p ≤ 9000000000000000000) : Ctr.ok Try.prog ⟨21, [oA 0, iA k], oP p, oP (mkP p k), iA (k + mkPN p)⟩ := by
  intro ι φ ψ w0 w F ρ M
  have r1 := row_of (M.holds (.inr 0))
  have r2 := row_of (M.holds (.inr 1))
  have r3 := (M.holds (.inr 2)).2.1
  have hO : ProgO w (.agg #[ρ 0, ρ 1, valOf (ρ 2)]) p (fun b => (ρ 0).ownBlock = some b ∨ (ρ 1).ownBlock = some b ∨ blksOf (ρ 2) b) :=
    ⟨_, _, _, blksOf (ρ 2), rfl, r1, r2, TreeO.block.1 r3,
      fun g hg => ⟨.inl hg, fun h => M.dis (.inr 0) (.inr 2) g (by simp) hg h, fun h => M.dis (.inr 0) (.inr 1) g (by simp) hg h⟩,
      fun g hg => ⟨.inr (.inl hg), fun h => M.dis (.inr 1) (.inr 2) g (by simp) hg h⟩, fun b hb => .inr (.inr hb)⟩
  refine (markProgram_any _ p k w _ hO hb).mono ?_
  rintro e w' ⟨rfl, hO', hk⟩
  obtain ⟨v1, v2, v3, S3, hv, h1, h2, h3, d1, d2, d3⟩ := hO'
  cases hv
  have hS3 : ∀ b, S3 b → blksOf (ρ 2) b := fun b hb => by
    rcases d3 b hb with h | h | h
    · exact ((d1 b h).2.1 hb).elim
    · exact ((d2 b h).2 hb).elim
    · exact h
  refine ⟨ρ, fun _ _ => rfl, rfl, M.turns (fun k b => ?_) (fun k => k = .inr 0 ∨ k = .inr 1 ∨ k = .inr 2) (fun k hk => ?_) ?_ ?_⟩
  · cases k with
    | inl i => rfl
    | inr j =>
      match j with
      | 0 => exact Iff.rfl
      | 1 => exact Iff.rfl
      | 2 => exact Iff.rfl
      | j + 3 => simp only [lay]; rw [lst_out (show (oP (mkP p _)).length ≤ j + 3 by simp), lst_out (show (oP p).length ≤ j + 3 by simp)]
  · cases k with
    | inl i => rfl
    | inr j =>
      match j, hk with
      | 0, h => exact absurd (.inl rfl) h
      | 1, h => exact absurd (.inr (.inl rfl)) h
      | 2, h => exact absurd (.inr (.inr rfl)) h
      | j + 3, _ => simp only [lay]; rw [lst_out (show (oP (mkP p _)).length ≤ j + 3 by simp), lst_out (show (oP p).length ≤ j + 3 by simp)]
  · refine ⟨hk.os, hk.tape, hk.output, hk.size, fun b hb hn => hk.block b hb ?_⟩
    rintro (h | h | h)
    · exact hn ⟨_, .inl rfl, h⟩
    · exact hn ⟨_, .inr (.inl rfl), h⟩
    · exact hn ⟨_, .inr (.inr rfl), h⟩
  · rintro k (rfl | rfl | rfl)
    · exact row_holds h1
    · exact row_holds h2
    · exact ⟨fun _ _ h hs => h.same hs, TreeO.block.2 (h3.mono hS3), fun b hb => Nat.lt_of_lt_of_le (M.lt (i := .inr 2) hb) hk.size⟩


set_option maxRecDepth 100000 in
theorem clone_ints (v : Value) (t : List Int) (w : World) (h : Row w v t.length 1 (ints t)) (hb : t.length ≤ 1000000000000) :
    Calls Try.prog 62 #[v] w fun e w' => ∃ u, e = .returned u ∧ Own w' w.heap.size w'.heap.size 3 1 u t.length (ints t) ∧ Below w.heap.size w w' := by
  obtain ⟨a, cap, rfl, hc1, hc2, hc3, -⟩ := h.open
  have hnil := fun w => Lib.run_eql_slice_nil (P := Try.prog) w 22 3 a t.length cap 0 0 Try.underlying22
  rcases a with _ | a
  · have hn : t.length = 0 := by
      rcases Nat.eq_zero_or_pos t.length with h0 | h0
      · exact h0
      · obtain ⟨_, a, c, he, _, _, hx⟩ := h
        cases he
        obtain ⟨_, _, he, _⟩ := hx h0
        cases he
    have ht : t = [] := List.eq_nil_of_length_eq_zero hn
    subst ht
    simp only [List.length_nil, Option.isNone_none] at hnil
    go_enter Try.func62, Try.ntmps62
    go_wp2_with fail
    go_ret
    exact ⟨_, rfl, ⟨World.ownsRow_nil _ _ _ _, fun g hg => by cases hg⟩, Below.refl _ _⟩
  · go_enter Try.func62, Try.ntmps62
    simp only [Option.isNone_some] at hnil
    have ba := (Below.refl w.heap.size w).alloc (Nat.le_refl _) (.cells #[] 3)
    go_wp2_with (at_builtin; refine wpList_app rfl _ _ rfl Try.underlying22 infoI rfl (by omega) rfl (own_built w #[] 0 1 _ rfl rfl (by omega)).1 rfl (h.below ba) ints_one (by omega) (by omega) (by simp) ?_; rintro a4 q4 w4 o4 b4 - -)
    go_ret
    refine ⟨_, rfl, Own.mk' (by simpa using o4), ba.trans b4⟩

theorem c_cloneInts (l : List Int) (hb : l.length ≤ 1000000000000) : Ctr.ok Try.prog ⟨62, [.ref 0], [.dat (.ints l)], [.dat (.ints l), .row 3 (.ints l)], .ref 1⟩ := by
  intro ι φ ψ w0 w F ρ M
  have hr := M.datAt (id := 0) (d := .ints l) rfl
  refine (clone_ints (ρ 0) l w (RowF.row hr) hb).mono ?_
  rintro e w' ⟨u, rfl, ⟨ho, hg⟩, hbl⟩
  refine ⟨fun i => if i = 1 then u else ρ i, fun i hi => if_neg (show ¬ i = 1 by have : i < 1 := hi; omega), by simp [AV.val], ?_⟩
  refine M.grow hbl (fun k => k = .inr 1) (fun k hk => ?_) ?_ ?_ ?_
  · cases k with
    | inl i => rfl
    | inr j =>
      match j, hk with
      | 0, _ => rfl
      | 1, h => exact absurd rfl h
      | j + 2, _ => rfl
  · rintro k rfl b hb; exact (World.ownsRow.lt ho b hb).1
  · rintro j k b hjk rfl rfl; exact absurd rfl hjk
  · rintro k rfl; exact row_holds (owns_base ho (Nat.zero_le _))

set_option maxRecDepth 100000 in
theorem c_isNone (e : LExpr) : Ctr.ok Try.prog ⟨147, [.agg [.v (.int .i64 e.kind), .v (.int .i64 e.value), .ref 0]], [.dat (.exprs e.kids)], [.dat (.exprs e.kids)], .v (.bool (noneB e))⟩ := by
  refine rx_enter 17 Try.func147 (by rfl) (by kernel_rfl) (by kernel_rfl) ?_; intro ι φ ψ w0 w F ρ0 ρ a G; replace G := Gam.at G [dE e.kids] [(0, eA e 0)]; refine wp_seq ?_; refine rs0 G [0, 1] [dE e.kids, .box (eL e 0)] [(1, .ptr 1 0), (2, bA false)] fun ρ a w G => th_n (wp_seq ?_); cases h0 : (e.kind == (0 : Int))
  · have q0 : ¬ (e.kind = 0) := ne_of_beq_false h0; refine rs1 (dk := dkP) G ⟨[], [(e.kind == (0 : Int), false), (false, false)], us [(4, 6, 0), (1007, 1007, 0), (9, 12, 1), (1013, 1013, 1)]⟩ calls_nil ⟨(by assumption), (by kernel_rfl), trivial⟩ [0] [dE e.kids] [(2, bA false)] [] trivial fun ρ a w G => th_n (wp_ret ?_); exact rx_ret (v := bA false) G [0] (by kernel_rfl) (by kernel_rfl) (by kernel_rfl) (by have e1 : (noneB e : Bool) = (false) := (by rw [Bool.eq_iff_iff]; simp [noneB, h0, q0]; done); (first | rw [e1] | simp only [e1]) <;> rfl)
  ·
   have q0 : e.kind = 0 := eq_of_beq h0; cases h1 : (e.value == (0 : Int))
   · have q1 : ¬ (e.value = 0) := ne_of_beq_false h1; refine rs1 (dk := dkP) G ⟨[], [(e.kind == (0 : Int), true), (e.value == (0 : Int), false)], us [(4, 6, 0), (1007, 1007, 0), (9, 12, 1), (1013, 1013, 1)]⟩ calls_nil ⟨(by assumption), (by assumption), trivial⟩ [0] [dE e.kids] [(2, bA false)] [] trivial fun ρ a w G => th_n (wp_ret ?_); exact rx_ret (v := bA false) G [0] (by kernel_rfl) (by kernel_rfl) (by kernel_rfl) (by have e1 : (noneB e : Bool) = (false) := (by rw [Bool.eq_iff_iff]; simp [noneB, h0, q0, h1, q1]; done); (first | rw [e1] | simp only [e1]) <;> rfl)
   · have q1 : e.value = 0 := eq_of_beq h1; refine rs1 (dk := dkP) G ⟨[], [(e.kind == (0 : Int), true), (e.value == (0 : Int), true)], us [(4, 6, 0), (1007, 1007, 0), (9, 12, 1), (1013, 1013, 1)]⟩ calls_nil ⟨(by assumption), (by assumption), trivial⟩ [0] [dE e.kids] [(2, bA ((↑e.kids.length : Int) == 0))] [] trivial fun ρ a w G => th_n (wp_ret ?_); exact rx_ret (v := bA ((↑e.kids.length : Int) == 0)) G [0] (by kernel_rfl) (by kernel_rfl) (by kernel_rfl) (by have e1 : (noneB e : Bool) = ((↑e.kids.length : Int) == 0) := (by rw [Bool.eq_iff_iff]; simp [noneB, h0, q0, h1, q1]; done); (first | rw [e1] | simp only [e1]) <;> rfl)


section
variable {nv na d : Nat} {e : LExpr}
end


def sizeD : Nat → List LStmt → Nat
  | 0, ss => ss.length
  | d + 1, ss => ss.length + (ss.map fun s => sizeD d s.body + sizeD d s.els).sum
def szP (d : Nat) (ss : List LStmt) (k : Nat) : Nat := ss.length + ((ss.take k).map fun s => sizeD d s.body + sizeD d s.els).sum
theorem szP_all (d : Nat) (ss : List LStmt) {k : Nat} (h : ss.length ≤ k) : szP d ss k = sizeD (d + 1) ss := by unfold szP; rw [List.take_of_length_le h, sizeD]
theorem szP_succ {d : Nat} {ss : List LStmt} {k : Nat} (h : k < ss.length) : szP d ss (k + 1) = szP d ss k + (sizeD d (ss.getD k default).body + sizeD d (ss.getD k default).els) := by
  unfold szP
  rw [p_take_succ ss k h, List.map_append, List.sum_append, getD_lt h]
  simp; omega
theorem sizeD_le : ∀ (d : Nat) (ss : List LStmt), sizeD d ss ≤ szSs ss := by
  intro d
  induction d with
  | zero => intro ss; exact szSs_len ss
  | succ d ih =>
    intro ss
    induction ss with
    | nil => simp [sizeD]
    | cons s r ihr =>
      have h1 := ih s.body
      have h2 := ih s.els
      have h3 := szS_parts s
      simp only [sizeD, List.map_cons, List.sum_cons, List.length_cons, szSs] at ihr ⊢
      have h4 : szSs s.body + szSs s.els ≤ szS s := by
        rcases s with ⟨_, _, _, _, _, b, e⟩
        simp only [szS, LStmt.body, LStmt.els]; omega
      omega
theorem szP_le {d : Nat} {ss : List LStmt} {k : Nat} : szP d ss k ≤ szSs ss := by
  refine Nat.le_trans ?_ (sizeD_le (d + 1) ss)
  unfold szP
  rw [sizeD]
  have : ∀ (l : List Nat) (k : Nat), (l.take k).sum ≤ l.sum := fun l k => by
    have := List.sum_append (l₁ := l.take k) (l₂ := l.drop k)
    rw [List.take_append_drop] at this; omega
  have h := this (ss.map fun s => sizeD d s.body + sizeD d s.els) k
  rw [← List.map_take] at h
  omega
theorem body_le {ss : List LStmt} {k B : Nat} (h : szSs ss ≤ B) (hk : k < ss.length) : szSs (ss.getD k default).body ≤ B ∧ szSs (ss.getD k default).els ≤ B := by
  rw [getD_lt hk]
  have h1 := szS_mem (List.getElem_mem hk)
  have h2 := szS_parts ss[k]
  omega

set_option maxRecDepth 100000 in
theorem c_l2Size0 (ss : List LStmt) (n : Int) (hn : n = 1) (hb : szSs ss ≤ 1048576) : Ctr.ok Try.prog (fnC 121 [.ref 0, iA n] [.dat (.stmts ss)] (iA (sizeD 0 ss : Nat))) := by
  have h100 : decide (n > 1) = false := by simp; omega
  refine rx_enter 39 Try.func121 (by rfl) (by kernel_rfl) (by kernel_rfl) ?_; intro ι φ ψ w0 w F ρ0 ρ a G; replace G := Gam.at G [dT ss] [(0, .ref 0), (1, iA n)]; refine wp_seq ?_; refine rs0s G [(0, .ref 0), (1, iA n), (4, iA 0)] fun ρ a w G => th_n (wp_seq ?_); refine rs0s G [(0, .ref 0), (1, iA n), (4, iA 0), (5, iA (↑ss.length : Int))] fun ρ a w G => th_n (wp_seq (wp_seq ?_)); refine rs0s G [(0, .ref 0), (1, iA n), (4, iA 0), (5, iA (↑ss.length : Int)), (6, iA 0)] fun ρ a w G => th_n (wp_block ?_); refine rx_for (κ := Nat) (fun k => k = 0) (fun k => 0) (fun k => [dT ss]) (fun k => [(0, .ref 0), (1, iA n), (4, iA 0), (5, iA (ss.length : Nat)), (6, iA k)]) (0) (by kernel_rfl) (Gam.at G _ _) ?_; clear G; intro k ρ a w hp G; replace G := Gam.at G [dT ss] [(0, .ref 0), (1, iA n), (4, iA 0), (5, iA (↑ss.length : Int)), (6, iA (↑k : Int))]; refine wp_seq (wp_seq ?_); cases h0 : (decide ((↑k : Int) < (↑ss.length : Int)))
  · have q0 : ¬ ((↑k : Int) < (↑ss.length : Int)) := dFf h0; refine rs1s G ⟨[], [(decide ((↑k : Int) < (↑ss.length : Int)), false)], [(5, 0), (6, 0), (1007, 0)]⟩ calls_nil ⟨(by assumption), trivial⟩ [(0, .ref 0), (1, iA n), (4, iA 0), (5, iA (↑ss.length : Int)), (6, iA (↑k : Int)), (16, bA false)] [] trivial fun ρ a w G => th_n ?_; refine rF G (false) (by kernel_rfl) ?_; refine wp_exit (th_e (th_e (bl_hit (th_n (wp_seq ?_))))); refine rs0s G [(4, iA (↑ss.length : Int))] fun ρ a w G => th_n (wp_ret ?_); exact rx_ret (v := iA (↑ss.length : Int)) G [0] (by kernel_rfl) (by kernel_rfl) (by kernel_rfl) (by kernel_rfl)
  · have q0 : (↑k : Int) < (↑ss.length : Int) := dTt h0; refine rs1s G ⟨[], [(decide ((↑k : Int) < (↑ss.length : Int)), true)], [(5, 0), (6, 0), (1007, 0)]⟩ calls_nil ⟨(by assumption), trivial⟩ [(0, .ref 0), (1, iA n), (4, iA 0), (5, iA (↑ss.length : Int)), (6, iA (↑k : Int)), (16, bA (decide (n > 1)))] [] trivial fun ρ a w G => th_n ?_; refine rF G (decide (n > (1 : Int))) (by assumption) ?_; refine wp_exit (th_e (th_e (bl_hit (th_n (wp_seq ?_))))); refine rs0s G [(4, iA (↑ss.length : Int))] fun ρ a w G => th_n (wp_ret ?_); exact rx_ret (v := iA (↑ss.length : Int)) G [0] (by kernel_rfl) (by kernel_rfl) (by kernel_rfl) (by kernel_rfl)

set_option maxRecDepth 100000 in
theorem c_l2SizeS (d : Nat) (hd : d ≤ 5) (ih : ∀ (ss : List LStmt) (n : Int), n = (d + 1 : Nat) → szSs ss ≤ 1048576 → Ctr.ok Try.prog (fnC 121 [.ref 0, iA n] [.dat (.stmts ss)] (iA (sizeD d ss : Nat))))
    (ss : List LStmt) (n : Int) (hn : n = (d + 2 : Nat)) (hb : szSs ss ≤ 1048576) : Ctr.ok Try.prog (fnC 121 [.ref 0, iA n] [.dat (.stmts ss)] (iA (sizeD (d + 1) ss : Nat))) := by
  have h100 : decide (n > 1) = true := by simp; omega
  refine rx_enter 39 Try.func121 (by rfl) (by kernel_rfl) (by kernel_rfl) ?_; intro ι φ ψ w0 w F ρ0 ρ a G; replace G := Gam.at G [dT ss] [(0, .ref 0), (1, iA n)]; refine wp_seq ?_; refine rs0s G [(0, .ref 0), (1, iA n), (4, iA 0)] fun ρ a w G => th_n (wp_seq ?_); refine rs0s G [(0, .ref 0), (1, iA n), (4, iA 0), (5, iA (↑ss.length : Int))] fun ρ a w G => th_n (wp_seq (wp_seq ?_)); refine rs0s G [(0, .ref 0), (1, iA n), (4, iA 0), (5, iA (↑ss.length : Int)), (6, iA 0)] fun ρ a w G => th_n (wp_block ?_); refine rx_for (κ := Nat) (fun k => k ≤ ss.length) (fun k => ss.length - k) (fun k => [dT ss]) (fun k => [(0, .ref 0), (1, iA n), (4, iA 0), (5, iA (szP d ss k : Nat)), (6, iA k)]) (0) (by simp [h100]) (Gam.at G _ _) ?_; clear G; intro k ρ a w hp G; replace G := Gam.at G [dT ss] [(0, .ref 0), (1, iA n), (4, iA 0), (5, iA (↑(szP d ss k) : Int)), (6, iA (↑k : Int))]; have hlen := szSs_len ss; refine wp_seq (wp_seq ?_); cases h0 : (decide ((↑k : Int) < (↑ss.length : Int)))
  · have q0 : ¬ ((↑k : Int) < (↑ss.length : Int)) := dFf h0; refine rs1s G ⟨[], [(decide ((↑k : Int) < (↑ss.length : Int)), false)], [(5, 0), (6, 0), (1007, 0)]⟩ calls_nil ⟨(by assumption), trivial⟩ [(0, .ref 0), (1, iA n), (4, iA 0), (5, iA (↑(szP d ss k) : Int)), (6, iA (↑k : Int)), (16, bA false)] [] trivial fun ρ a w G => th_n ?_; refine rF G (false) (by kernel_rfl) ?_; refine wp_exit (th_e (th_e (bl_hit (th_n (wp_seq ?_))))); refine rs0s G [(4, iA (↑(szP d ss k) : Int))] fun ρ a w G => th_n (wp_ret ?_); exact rx_ret (v := iA (↑(szP d ss k) : Int)) G [0] (by kernel_rfl) (by kernel_rfl) (by kernel_rfl) (by have e1 : ((↑(sizeD (d + 1) ss) : Int) : Int) = ((↑(szP d ss k) : Int)) := (by have h1 := szP_all d ss (k := k) (by omega); omega); (first | rw [e1] | simp only [e1]) <;> rfl)
  · have q0 : (↑k : Int) < (↑ss.length : Int) := dTt h0; refine rs1s G ⟨[], [(decide ((↑k : Int) < (↑ss.length : Int)), true)], [(5, 0), (6, 0), (1007, 0)]⟩ calls_nil ⟨(by assumption), trivial⟩ [(0, .ref 0), (1, iA n), (4, iA 0), (5, iA (↑(szP d ss k) : Int)), (6, iA (↑k : Int)), (16, bA (decide (n > 1)))] [] trivial fun ρ a w G => th_n ?_; refine rT G (decide (n > (1 : Int))) (by assumption) ?_; refine wp_skip (th_n (wp_seq (wp_block ?_))); refine rd1s G ⟨[(8, _, [41]), (17, _, [113])], [], []⟩ (calls_cons (ih ((ss.getD k default).body) (n - 1) (by have h1 := szP_succ (d := d) (ss := ss) (k := k) (by omega); have h2 := szP_le (d := d) (ss := ss) (k := k + 1); omega) (by exact (body_le hb (by omega)).1)) (calls_cons (ih ((ss.getD k default).els) (n - 1) (by have h1 := szP_succ (d := d) (ss := ss) (k := k) (by omega); have h2 := szP_le (d := d) (ss := ss) (k := k + 1); omega) (by exact (body_le hb (by omega)).2)) calls_nil)) trivial [0, 0, 0, 6, 14, 30, 0, 64, 254, 511, 0, 0, 3072, 7168, 15360, 0, 32768, 130558, 262143, 524287] [(0, .ref 0), (1, iA n), (4, iA 0), (5, iA ((↑(szP d ss k) : Int) + (↑(sizeD d (ss.getD k default).body) : Int) + (↑(sizeD d (ss.getD k default).els) : Int))), (6, iA (↑k : Int))] [(0 : Int) ≤ (↑k : Int), (↑k : Int) < (↑ss.length : Int), k < ss.length, IntKind.i64.wrap (n - (1 : Int)) = n - (1 : Int), IntKind.i64.wrap ((↑(szP d ss k) : Int) + (↑(sizeD d (ss.getD k default).body) : Int)) = (↑(szP d ss k) : Int) + (↑(sizeD d (ss.getD k default).body) : Int), (0 : Int) ≤ (↑k : Int), (↑k : Int) < (↑ss.length : Int), k < ss.length, IntKind.i64.wrap (n - (1 : Int)) = n - (1 : Int), IntKind.i64.wrap ((↑(szP d ss k) : Int) + (↑(sizeD d (ss.getD k default).body) : Int) + (↑(sizeD d (ss.getD k default).els) : Int)) = (↑(szP d ss k) : Int) + (↑(sizeD d (ss.getD k default).body) : Int) + (↑(sizeD d (ss.getD k default).els) : Int)] ⟨(by simp [h100, h0]), (by assumption), (by have h1 := szP_succ (d := d) (ss := ss) (k := k) (by omega); have h2 := szP_le (d := d) (ss := ss) (k := k + 1); omega), (by have h1 := szP_succ (d := d) (ss := ss) (k := k) (by omega); have h2 := szP_le (d := d) (ss := ss) (k := k + 1); exact w64 (by omega) (by omega)), (by have h1 := szP_succ (d := d) (ss := ss) (k := k) (by omega); have h2 := szP_le (d := d) (ss := ss) (k := k + 1); exact w64 (by omega) (by omega)), (by simp [h100, h0]), (by assumption), (by have h1 := szP_succ (d := d) (ss := ss) (k := k) (by omega); have h2 := szP_le (d := d) (ss := ss) (k := k + 1); omega), (by have h1 := szP_succ (d := d) (ss := ss) (k := k) (by omega); have h2 := szP_le (d := d) (ss := ss) (k := k + 1); exact w64 (by omega) (by omega)), (by have h1 := szP_succ (d := d) (ss := ss) (k := k) (by omega); have h2 := szP_le (d := d) (ss := ss) (k := k + 1); exact w64 (by omega) (by omega)), trivial⟩ ?_; intro ρ a w G; refine bl_n ?_; refine th_n ?_; refine rs1s G ⟨[], [], []⟩ calls_nil trivial [(0, .ref 0), (1, iA n), (4, iA 0), (5, iA ((↑(szP d ss k) : Int) + (↑(sizeD d (ss.getD k default).body) : Int) + (↑(sizeD d (ss.getD k default).els) : Int))), (6, iA ((↑k : Int) + 1))] [IntKind.i64.wrap ((↑k : Int) + (1 : Int)) = (↑k : Int) + (1 : Int)] ⟨(by have h1 := szP_succ (d := d) (ss := ss) (k := k) (by omega); have h2 := szP_le (d := d) (ss := ss) (k := k + 1); exact w64 (by omega) (by omega)), trivial⟩ fun ρ a w G => th_n ?_; exact rx_next G (k + 1) (by have h1 := szP_succ (d := d) (ss := ss) (k := k) (by omega); have h2 := szP_le (d := d) (ss := ss) (k := k + 1); omega) (by have h1 := szP_succ (d := d) (ss := ss) (k := k) (by omega); have h2 := szP_le (d := d) (ss := ss) (k := k + 1); omega) [0] [dT ss] [(0, .ref 0), (1, iA n), (4, iA 0), (5, iA (↑(szP d ss (k + 1)) : Int)), (6, iA (↑(k + 1) : Int))] (by kernel_rfl) (by kernel_rfl) (by kernel_rfl) (by kernel_rfl) (by have e1 : ((↑(szP d ss (k + 1)) : Int) : Int) = ((↑(szP d ss k) : Int) + (↑(sizeD d (ss.getD k default).body) : Int) + (↑(sizeD d (ss.getD k default).els) : Int)) := (by have h1 := szP_succ (d := d) (ss := ss) (k := k) (by omega); have h2 := szP_le (d := d) (ss := ss) (k := k + 1); omega); (first | rw [e1] | simp only [e1]) <;> rfl)


theorem c_l2SizeD : ∀ d, d ≤ 5 → ∀ (ss : List LStmt) (n : Int), n = (d + 1 : Nat) → szSs ss ≤ 1048576 → Ctr.ok Try.prog (fnC 121 [.ref 0, iA n] [.dat (.stmts ss)] (iA (sizeD d ss : Nat))) := by
  intro d
  induction d with
  | zero => intro _ ss n hn hb; exact c_l2Size0 ss n (by omega) hb
  | succ d ih => intro hd ss n hn hb; exact c_l2SizeS d (by omega) (fun ss n hn hb => ih (by omega) ss n hn hb) ss n (by omega) hb
theorem c_l2Size (ss : List LStmt) (n : Int) (hn : n = 5) (hb : szSs ss ≤ 1048576) : Ctr.ok Try.prog (fnC 121 [.ref 0, iA n] [.dat (.stmts ss)] (iA (sizeD 4 ss : Nat))) :=
  c_l2SizeD 4 (by omega) ss n (by omega) hb
theorem sizeD_eq {nv na : Nat} : ∀ (d : Nat) (ss : List LStmt), (∀ s ∈ ss, stmtB nv na (d + 1) s = true) → sizeD d ss = nSs ss := by
  intro d
  induction d with
  | zero => intro ss h; rw [flat_nSs h]; rfl
  | succ d ih =>
    intro ss
    induction ss with
    | nil => intro _; rfl
    | cons s r ihr =>
      intro h
      have h1 := stmtB_blocks (h s List.mem_cons_self)
      have h2 := ih s.body fun x hx => List.all_eq_true.1 h1.1 x hx
      have h3 := ih s.els fun x hx => List.all_eq_true.1 h1.2 x hx
      have h4 := ihr fun x hx => h x (List.mem_cons_of_mem _ hx)
      rw [nSs, nS_def, ← h2, ← h3, ← h4]
      simp [sizeD]; omega
theorem progB_heads {p : LProg} (h : headsB p.vars p.arrays = false) : progB p = false := by simp [progB, h]
theorem progB_block {p : LProg} (h : blockB p.vars.length p.arrays.length 5 p.body = false) : progB p = false := by simp [progB, h]
theorem progB_size {p : LProg} (h1 : headsB p.vars p.arrays = true) (h2 : blockB p.vars.length p.arrays.length 5 p.body = true) : progB p = decide ((sizeD 4 p.body : Int) ≤ 60) := by
  have h3 := sizeD_eq (nv := p.vars.length) (na := p.arrays.length) 4 p.body (fun x hx => List.all_eq_true.1 h2 x hx)
  rw [progB, h1, h2, h3]
  simp
  exact ⟨fun h => by omega, fun h => by omega⟩

theorem c_l2Body (p : LProg) (n : Int) (hn : n = 5) : Ctr.ok Try.prog (fnC 120 [pA 0, .ref 2, iA n] (pS p) (bA (blockB p.vars.length p.arrays.length 5 p.body))) :=
  Ctr.dup (S := pS p) (S' := pS p) (d := .stmts p.body) (i := 2) (c_l2Block p p.body n hn) rfl rfl rfl (fun ρ h => by simp only [AV.vals, AV.val]; rw [show ρ 3 = ρ 2 from h]) rfl

set_option maxRecDepth 100000 in
theorem c_ProgramValid (p : LProg) (hb : szSs p.body ≤ 1048576) : Ctr.ok Try.prog (fnC 81 [pA 0] (pS p) (bA (progB p))) := by
  refine rx_enter 17 Try.func81 (by rfl) (by kernel_rfl) (by kernel_rfl) ?_; intro ι φ ψ w0 w F ρ0 ρ a G; replace G := Gam.at G [dI p.vars, dI p.arrays, dT p.body] [(0, pA 0)]; refine wp_seq ?_; refine rs0 G (rg 4) [dI p.vars, dI p.arrays, dT p.body, .box (pL 0)] [(1, .ptr 3 0), (2, bA false)] fun ρ a w G => th_n (wp_seq ?_); cases h0 : (headsB p.vars p.arrays)
  · refine rs1 (dk := dkP) G ⟨[(1, _, [0, 1, 2])], [(headsB p.vars p.arrays, false), (false, false)], us [(3, 6, 0), (1007, 1007, 0), (9, 12, 1), (1013, 1013, 1)]⟩ (calls_cons (c_l2Heads (p)) calls_nil) ⟨(by assumption), (by kernel_rfl), trivial⟩ [0, 1, 2] [dI p.vars, dI p.arrays, dT p.body] [(2, bA false)] [] trivial fun ρ a w G => th_n (wp_ret ?_); exact rx_ret (v := bA false) G [0, 1, 2] (by kernel_rfl) (by kernel_rfl) (by kernel_rfl) (by have e1 : (progB p : Bool) = (false) := (by exact progB_heads (by assumption)); (first | rw [e1] | simp only [e1]) <;> rfl)
  ·
   cases h1 : (blockB p.vars.length p.arrays.length (5 : Nat) p.body)
   · refine rs1 (dk := dkP) G ⟨[(1, _, [0, 1, 2]), (6, _, [0, 1, 2])], [(headsB p.vars p.arrays, true), (blockB p.vars.length p.arrays.length (5 : Nat) p.body, false)], us [(3, 6, 0), (1007, 1007, 0), (9, 12, 1), (1013, 1013, 1)]⟩ (calls_cons (c_l2Heads (p)) (calls_cons (c_l2Body (p) (5) (by kernel_rfl)) calls_nil)) ⟨(by assumption), (by assumption), trivial⟩ [0, 1, 2] [dI p.vars, dI p.arrays, dT p.body] [(2, bA false)] [] trivial fun ρ a w G => th_n (wp_ret ?_); exact rx_ret (v := bA false) G [0, 1, 2] (by kernel_rfl) (by kernel_rfl) (by kernel_rfl) (by have e1 : (progB p : Bool) = (false) := (by exact progB_block (by assumption)); (first | rw [e1] | simp only [e1]) <;> rfl)
   · refine rs1 (dk := dkP) G ⟨[(1, _, [0, 1, 2]), (6, _, [0, 1, 2]), (11, _, [2])], [(headsB p.vars p.arrays, true), (blockB p.vars.length p.arrays.length (5 : Nat) p.body, true)], us [(3, 6, 0), (1007, 1007, 0), (9, 12, 1), (1013, 1013, 1)]⟩ (calls_cons (c_l2Heads (p)) (calls_cons (c_l2Body (p) (5) (by kernel_rfl)) (calls_cons (c_l2Size (p.body) (5) (by kernel_rfl) (by assumption)) calls_nil))) ⟨(by assumption), (by assumption), trivial⟩ [0, 1, 2] [dI p.vars, dI p.arrays, dT p.body] [(2, bA (decide ((↑(sizeD 4 p.body) : Int) ≤ 60)))] [] trivial fun ρ a w G => th_n (wp_ret ?_); exact rx_ret (v := bA (decide ((↑(sizeD 4 p.body) : Int) ≤ 60))) G [0, 1, 2] (by kernel_rfl) (by kernel_rfl) (by kernel_rfl) (by have e1 : (progB p : Bool) = (decide ((↑(sizeD 4 p.body) : Int) ≤ 60)) := (by exact progB_size (by assumption) (by assumption)); (first | rw [e1] | simp only [e1]) <;> rfl)

def headB (nv na : Nat) (s : LStmt) : Bool := partsB s &&
    (if s.kind = 1 ∨ s.kind = 5 then decide (0 ≤ s.target) && decide (s.target < nv) && rightB nv na s.value
     else if s.kind = 2 then decide (0 ≤ s.target) && decide (s.target < na) && rightB nv na s.index && atomB s.index && rightB nv na s.value
     else if s.kind = 3 then rightB nv na s.value
     else decide (s.kind = 4))
theorem stmtB_head {nv na d : Nat} {s : LStmt} : stmtB nv na (d + 1) s = (headB nv na s && (s.body.all (stmtB nv na d) && s.els.all (stmtB nv na d))) := by
  rw [Bool.eq_iff_iff]
  constructor
  · intro h
    have h1 := stmtB_blocks h
    rw [h1.1, h1.2, Bool.and_true, Bool.and_true]
    rw [stmtB, Bool.and_eq_true] at h
    rw [headB, h.1, Bool.true_and]
    obtain ⟨-, h⟩ := h
    split at h
    · rw [if_pos (by assumption)]; exact h
    split at h
    · rw [if_neg (by assumption), if_pos (by assumption)]; exact h
    split at h
    · rw [if_neg (by assumption), if_neg (by assumption), if_pos (by assumption)]
      simp only [Bool.and_eq_true] at h; exact h.1.1
    split at h
    · rw [if_neg (by assumption), if_neg (by assumption), if_neg (by assumption)]; simp [*]
    · simp at h
  · intro h
    simp only [Bool.and_eq_true] at h
    obtain ⟨h, hb, he⟩ := h
    rw [headB, Bool.and_eq_true] at h
    obtain ⟨h0, h⟩ := h
    rw [stmtB, h0, Bool.true_and]
    split at h
    · rw [if_pos (by assumption)]; exact h
    split at h
    · rw [if_neg (by assumption), if_pos (by assumption)]; exact h
    split at h
    · rw [if_neg (by assumption), if_neg (by assumption), if_pos (by assumption), h, hb, he]; rfl
    · rw [if_neg (by assumption), if_neg (by assumption), if_neg (by assumption), if_pos (by simpa using h), hb]
def foldF (F : Nat → LStmt → Bool × Nat) : Nat → List LStmt → Bool × Nat
  | c, [] => (true, c)
  | c, s :: r => if (F c s).1 then foldF F (F c s).2 r else F c s
def stmtF (nv na : Nat) : Nat → Nat → LStmt → Bool × Nat
  | 0, c, _ => (false, c + 1)
  | d + 1, c, s => if 60 < c + 1 then (false, c + 1) else if headB nv na s then
      (if (foldF (stmtF nv na d) (c + 1) s.body).1 then foldF (stmtF nv na d) (foldF (stmtF nv na d) (c + 1) s.body).2 s.els else foldF (stmtF nv na d) (c + 1) s.body)
      else (false, c + 1)
abbrev stmtsF (nv na d c : Nat) (ss : List LStmt) : Bool × Nat := foldF (stmtF nv na d) c ss
theorem foldF_append (F : Nat → LStmt → Bool × Nat) : ∀ (a b : List LStmt) (c : Nat), foldF F c (a ++ b) = if (foldF F c a).1 then foldF F (foldF F c a).2 b else foldF F c a
  | [], b, c => by simp [foldF]
  | x :: r, b, c => by
    simp only [List.cons_append, foldF]
    by_cases h : (F c x).1 = true
    · simp only [h, if_true]; exact foldF_append F r b _
    · simp [h]
theorem foldF_next {F : Nat → LStmt → Bool × Nat} {c k : Nat} {ss : List LStmt} (h : (foldF F c (ss.take k)).1 = true) (hk : k < ss.length) : foldF F c (ss.take (k + 1)) = F (foldF F c (ss.take k)).2 (ss.getD k default) := by
  rw [take_succ_get _ _ hk, foldF_append, if_pos h, getD_lt hk]
  simp only [foldF]
  split
  · rename_i h; exact Prod.ext h.symm rfl
  · rfl
theorem foldF_stop {F : Nat → LStmt → Bool × Nat} {c k : Nat} {ss : List LStmt} (h : (foldF F c (ss.take k)).1 = true) (hk : k < ss.length) (hf : (F (foldF F c (ss.take k)).2 (ss.getD k default)).1 = false) : foldF F c ss = F (foldF F c (ss.take k)).2 (ss.getD k default) := by
  conv => lhs; rw [← List.take_append_drop (k + 1) ss]
  rw [foldF_append, foldF_next h hk, hf]
  rfl
theorem foldF_full {F : Nat → LStmt → Bool × Nat} {c k : Nat} {ss : List LStmt} (hk : ss.length ≤ k) : foldF F c (ss.take k) = foldF F c ss := by rw [List.take_of_length_le hk]
theorem foldF_le {F : Nat → LStmt → Bool × Nat} (hF : ∀ c s, c ≤ 60 → (F c s).2 ≤ 61 ∧ ((F c s).1 = true → (F c s).2 ≤ 60)) : ∀ (ss : List LStmt) (c : Nat), c ≤ 60 → (foldF F c ss).2 ≤ 61 ∧ ((foldF F c ss).1 = true → (foldF F c ss).2 ≤ 60)
  | [], c, h => ⟨by simp only [foldF]; omega, fun _ => by simp only [foldF]; omega⟩
  | s :: r, c, h => by
    simp only [foldF]
    by_cases h1 : (F c s).1 = true
    · rw [if_pos h1]; exact foldF_le hF r _ ((hF c s h).2 h1)
    · rw [if_neg h1]; exact hF c s h
theorem stmtF_le {nv na : Nat} : ∀ (d c : Nat) (s : LStmt), c ≤ 60 → (stmtF nv na d c s).2 ≤ 61 ∧ ((stmtF nv na d c s).1 = true → (stmtF nv na d c s).2 ≤ 60)
  | 0, c, s, h => by simp [stmtF]; omega
  | d + 1, c, s, h => by
    rw [stmtF]
    by_cases h1 : 60 < c + 1
    · rw [if_pos h1]; simp; omega
    rw [if_neg h1]
    by_cases h2 : headB nv na s = true
    · rw [if_pos h2]
      have h3 := foldF_le (stmtF_le (nv := nv) (na := na) d) s.body (c + 1) (by omega)
      by_cases h4 : (foldF (stmtF nv na d) (c + 1) s.body).1 = true
      · rw [if_pos h4]; exact foldF_le (stmtF_le d) s.els _ (h3.2 h4)
      · rw [if_neg h4]; exact h3
    · rw [if_neg h2]; simp; omega
theorem stmtsF_le {nv na d c : Nat} {ss : List LStmt} (h : c ≤ 60) (h1 : (stmtsF nv na d c ss).1 = true) : (stmtsF nv na d c ss).2 ≤ 60 := (foldF_le (stmtF_le d) ss c h).2 h1
section
variable {nv na d c : Nat} {s : LStmt}
theorem stmtF_over (h : 60 < c + 1) : stmtF nv na d c s = (false, c + 1) := by cases d with
  | zero => rfl
  | succ d => rw [stmtF, if_pos h]
theorem stmtF_bad (h : headB nv na s = false) : stmtF nv na d c s = (false, c + 1) := by cases d with
  | zero => rfl
  | succ d => rw [stmtF, h]; simp
theorem stmtF_body (h1 : c + 1 ≤ 60) (h : headB nv na s = true) (h2 : (stmtsF nv na d (c + 1) s.body).1 = false) : stmtF nv na (d + 1) c s = stmtsF nv na d (c + 1) s.body := by
  rw [stmtF, if_neg (by omega), if_pos h, if_neg (by simp [h2])]
theorem stmtF_els (h1 : c + 1 ≤ 60) (h : headB nv na s = true) (h2 : (stmtsF nv na d (c + 1) s.body).1 = true) : stmtF nv na (d + 1) c s = stmtsF nv na d (stmtsF nv na d (c + 1) s.body).2 s.els := by
  rw [stmtF, if_neg (by omega), if_pos h, if_pos h2]
end
theorem foldF_eq {nv na d : Nat} (hF : ∀ c s, c ≤ 60 → ((stmtF nv na d c s).1 = (stmtB nv na d s && decide (c + nS s ≤ 60))) ∧ ((stmtF nv na d c s).1 = true → (stmtF nv na d c s).2 = c + nS s)) : ∀ (ss : List LStmt) (c : Nat), c ≤ 60 → ((stmtsF nv na d c ss).1 = (ss.all (stmtB nv na d) && decide (c + nSs ss ≤ 60))) ∧ ((stmtsF nv na d c ss).1 = true → (stmtsF nv na d c ss).2 = c + nSs ss)
  | [], c, h => by simp [foldF, nSs, h]
  | s :: r, c, h => by
    obtain ⟨h1, h2⟩ := hF c s h
    simp only [stmtsF, foldF]
    by_cases h3 : (stmtF nv na d c s).1 = true
    · rw [if_pos h3]
      have e := h2 h3
      have l := (stmtF_le d c s h).2 h3
      obtain ⟨h4, h5⟩ := foldF_eq hF r (stmtF nv na d c s).2 l
      rw [h1, Bool.and_eq_true] at h3
      constructor
      · rw [show foldF (stmtF nv na d) (stmtF nv na d c s).2 r = stmtsF nv na d (stmtF nv na d c s).2 r from rfl, h4, List.all_cons, h3.1, Bool.true_and, e, nSs, Nat.add_assoc]
      · intro h6; rw [show foldF (stmtF nv na d) (stmtF nv na d c s).2 r = stmtsF nv na d (stmtF nv na d c s).2 r from rfl, h5 h6, e, nSs]; omega
    · rw [if_neg h3]
      refine ⟨?_, fun h => absurd h h3⟩
      have h4 := h3
      rw [h1] at h4
      rw [Bool.eq_false_iff.2 h3, List.all_cons, nSs]
      cases ha : stmtB nv na d s
      · simp
      · rw [ha, Bool.true_and, decide_eq_true_eq] at h4
        rw [Bool.true_and, show decide (c + (nS s + nSs r) ≤ 60) = false from decide_eq_false (by omega), Bool.and_false]
theorem stmtF_eq {nv na : Nat} : ∀ (d c : Nat) (s : LStmt), c ≤ 60 → ((stmtF nv na d c s).1 = (stmtB nv na d s && decide (c + nS s ≤ 60))) ∧ ((stmtF nv na d c s).1 = true → (stmtF nv na d c s).2 = c + nS s)
  | 0, c, s, h => by simp [stmtF, stmtB]
  | d + 1, c, s, h => by
    have hs := nS_def s
    by_cases h1 : 60 < c + 1
    · rw [stmtF_over h1, show decide (c + nS s ≤ 60) = false from decide_eq_false (by omega), Bool.and_false]; simp
    cases h2 : headB nv na s
    · rw [stmtF_bad h2, stmtB_head, h2]; simp
    obtain ⟨b1, b2⟩ := foldF_eq (stmtF_eq (nv := nv) (na := na) d) s.body (c + 1) (by omega)
    rw [stmtB_head, h2, Bool.true_and]
    cases h3 : (stmtsF nv na d (c + 1) s.body).1
    · rw [stmtF_body (by omega) h2 h3, h3]
      refine ⟨?_, fun h => by simp at h⟩
      rw [h3] at b1
      cases h4 : s.body.all (stmtB nv na d)
      · simp
      · rw [h4, Bool.true_and] at b1
        have := of_decide_eq_false b1.symm
        rw [show decide (c + nS s ≤ 60) = false from decide_eq_false (by omega), Bool.and_false]
    · rw [stmtF_els (by omega) h2 h3]
      have e := b2 h3
      have l := stmtsF_le (nv := nv) (na := na) (d := d) (c := c + 1) (by omega) h3
      obtain ⟨e1, e2⟩ := foldF_eq (stmtF_eq (nv := nv) (na := na) d) s.els _ l
      rw [h3] at b1
      have b3 := b1.symm
      rw [Bool.and_eq_true] at b3
      rw [b3.1, Bool.true_and, e1, e]
      refine ⟨by rw [show c + 1 + nSs s.body + nSs s.els = c + nS s by omega], fun h => ?_⟩
      have h' : (stmtsF nv na d (stmtsF nv na d (c + 1) s.body).2 s.els).1 = true := by rw [e1, e]; exact h
      have := e2 h'
      rw [e] at this
      rw [this]; omega
theorem stmtsF_prog {p : LProg} (h : headsB p.vars p.arrays = true) : (stmtsF p.vars.length p.arrays.length 5 0 p.body).1 = progB p := by
  rw [(foldF_eq (stmtF_eq 5) p.body 0 (by omega)).1, progB, h, Bool.true_and, blockB]; simp

set_option maxRecDepth 100000 in
theorem c_stmt0 (p : LProg) (s : LStmt) (c : Nat) (hc : c ≤ 60) (n : Int) (hn : n = 6) : Ctr.ok Try.prog ⟨122, [pA 0, sA s 4, iA n, .ptr 3 0], pS p ++ [.box [iA c]] ++ sS s, pS p ++ [.box [iA (stmtF p.vars.length p.arrays.length 0 c s).2]] ++ sS s, bA false⟩ := by
  have h100 : decide (n > 5) = true := by simp; omega
  refine rx_enter 149 Try.func122 (by rfl) (by kernel_rfl) (by kernel_rfl) ?_; intro ι φ ψ w0 w F ρ0 ρ a G; replace G := Gam.at G [dI p.vars, dI p.arrays, dT p.body, .box [iA (↑c : Int)], dE s.index.kids, dE s.value.kids, dT s.body, dT s.els] [(0, pA 0), (1, sA s 4), (2, iA n), (3, .ptr 3 0)]; refine wp_seq ?_; refine rs0 G [0, 1, 2, 3, 4, 5, 6, 7, 8, 16] [dI p.vars, dI p.arrays, dT p.body, .box [iA (↑c : Int)], dE s.index.kids, dE s.value.kids, dT s.body, dT s.els, .box (pL 0), .box (sL s 4)] [(2, iA n), (3, .ptr 3 0), (4, .ptr 8 0), (5, .ptr 9 0), (8, bA false)] fun ρ a w G => th_n (wp_seq ?_); refine rs1 (dk := dkP) G ⟨[], [], []⟩ calls_nil trivial (rg 10) [dI p.vars, dI p.arrays, dT p.body, .box [iA ((↑c : Int) + 1)], dE s.index.kids, dE s.value.kids, dT s.body, dT s.els, .box (pL 0), .box (sL s 4)] [(2, iA n), (3, .ptr 3 0), (4, .ptr 8 0), (5, .ptr 9 0), (8, bA false)] [IntKind.i64.wrap ((↑c : Int) + (1 : Int)) = (↑c : Int) + (1 : Int)] ⟨(by exact w64 (by omega) (by omega)), trivial⟩ fun ρ a w G => th_n (wp_seq (wp_seq ?_)); cases h0 : (decide ((↑c : Int) + (1 : Int) > (60 : Int)))
  · have q0 : ¬ ((↑c : Int) + 1 > 60) := dFf h0; refine rs1s G ⟨[], [(decide ((↑c : Int) + (1 : Int) > (60 : Int)), false)], [(5, 0), (6, 0), (1007, 0)]⟩ calls_nil ⟨(by assumption), trivial⟩ [(2, iA n), (3, .ptr 3 0), (4, .ptr 8 0), (5, .ptr 9 0), (8, bA false), (27, bA (decide (n > 5)))] [] trivial fun ρ a w G => th_n ?_; refine rT G (decide (n > (5 : Int))) (by assumption) ?_; refine wp_seq ?_; refine rs0s G [(2, iA n), (3, .ptr 3 0), (4, .ptr 8 0), (5, .ptr 9 0), (8, bA false)] fun ρ a w G => th_n (wp_ret (th_r ?_)); exact rx_ret (v := bA false) G (rg 8) (by kernel_rfl) (by kernel_rfl) (by kernel_rfl) (by kernel_rfl)
  · have q0 : (↑c : Int) + 1 > 60 := dTt h0; refine rs1s G ⟨[], [(decide ((↑c : Int) + (1 : Int) > (60 : Int)), true)], [(5, 0), (6, 0), (1007, 0)]⟩ calls_nil ⟨(by assumption), trivial⟩ [(2, iA n), (3, .ptr 3 0), (4, .ptr 8 0), (5, .ptr 9 0), (8, bA false), (27, bA true)] [] trivial fun ρ a w G => th_n ?_; refine rT G (true) (by kernel_rfl) ?_; refine wp_seq ?_; refine rs0s G [(2, iA n), (3, .ptr 3 0), (4, .ptr 8 0), (5, .ptr 9 0), (8, bA false)] fun ρ a w G => th_n (wp_ret (th_r ?_)); exact rx_ret (v := bA false) G (rg 8) (by kernel_rfl) (by kernel_rfl) (by kernel_rfl) (by kernel_rfl)

end Go.Proofs.Ytimmlkmpbmbgdaa
