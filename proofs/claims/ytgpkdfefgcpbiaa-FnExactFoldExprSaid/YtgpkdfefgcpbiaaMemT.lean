/-
  Owned trees in memory as a list of resources: two owned things become one; a tree more in an owned row. Conditions: none.
-/
import Derived.Test.YtgpkdfefgcpbiaaTreeMark
namespace Go.Proofs.Ytgpkdfefgcpbiaa
set_option linter.unusedVariables false
set_option linter.unusedSimpArgs false
open Go Go.RowKit

section
variable {φ ψ : Nat → Prop} {w0 w w' : World} {L : List Res}

/-- The last two become one. -/
theorem Mem.fuse {a b : Res} (M : Mem φ ψ w0 w (L ++ [a, b])) (c : Res) (hb : ∀ g, c.blk g → a.blk g ∨ b.blk g)
    (hc : (∀ g, a.blk g → ¬ b.blk g) → a.holds w (Fr φ (L ++ [a, b])) → b.holds w (Fr φ (L ++ [a, b])) → c.holds w (Fr φ (L ++ [c]))) : Mem φ ψ w0 w (L ++ [c]) := by
  have ga : (L ++ [a, b])[L.length]? = some a := by simp
  have gb : (L ++ [a, b])[L.length + 1]? = some b := by simp
  have gl : ∀ (i : Nat) (x : Res), L[i]? = some x → (L ++ [a, b])[i]? = some x := fun i x h => by
    have := (List.getElem?_eq_some_iff.1 h).1
    rw [List.getElem?_append_left this]; exact h
  have get : ∀ (i : Nat) (x : Res), (L ++ [c])[i]? = some x → (i < L.length ∧ L[i]? = some x) ∨ (i = L.length ∧ x = c) := by
    intro k z hz
    rcases Nat.lt_or_ge k L.length with hk | hk
    · rw [List.getElem?_append_left hk] at hz; exact .inl ⟨hk, hz⟩
    · rw [List.getElem?_append_right hk] at hz
      have : k - L.length = 0 := by
        rcases Nat.eq_zero_or_pos (k - L.length) with h | h
        · exact h
        · rw [List.getElem?_eq_none (by rw [List.length_singleton]; exact h)] at hz; cases hz
      rw [this] at hz; simp at hz
      exact .inr ⟨by omega, hz.symm⟩
  refine ⟨M.kept, M.fresh, fun r hr => ?_, fun i j x y g hi hj hij hx hy => ?_, fun r g hr hg => ?_⟩
  · rcases List.mem_append.1 hr with hr | hr
    · refine Res.keep (M.holds r (by simp [hr])) (Agr.mono fun g _ hf => ⟨hf.1, fun x hx he => ?_⟩) fun _ _ => rfl
      rcases List.mem_append.1 hx with hx | hx
      · exact hf.2 x (by simp [hx]) he
      · rw [List.mem_singleton] at hx; subst hx
        rcases hb g he with h | h
        · exact hf.2 a (by simp) h
        · exact hf.2 b (by simp) h
    · rw [List.mem_singleton] at hr; subst hr
      exact hc (fun g h1 h2 => M.dis _ _ a b g ga gb (by omega) h1 h2) (M.holds a (by simp)) (M.holds b (by simp))
  · rcases get i x hi with ⟨hi1, hi2⟩ | ⟨hi1, rfl⟩ <;> rcases get j y hj with ⟨hj1, hj2⟩ | ⟨hj1, rfl⟩
    · exact M.dis i j x y g (gl i x hi2) (gl j y hj2) hij hx hy
    · rcases hb g hy with h | h
      · exact M.dis i _ x a g (gl i x hi2) ga (by omega) hx h
      · exact M.dis i _ x b g (gl i x hi2) gb (by omega) hx h
    · rcases hb g hx with h | h
      · exact M.dis j _ y a g (gl j y hj2) ga (by omega) hy h
      · exact M.dis j _ y b g (gl j y hj2) gb (by omega) hy h
    · omega
  · rcases List.mem_append.1 hr with hr | hr
    · exact M.ge r g (by simp [hr]) hg
    · rw [List.mem_singleton] at hr; subst hr
      rcases hb g hg with h | h
      · exact M.ge a g (by simp) h
      · exact M.ge b g (by simp) h
/-- A tree more among the elements of an owned row. -/
theorem Mem.joinE {S T : Nat → Prop} {ks : List LExpr} {xs : List Value} {e : LExpr} {kv : Value} (M : Mem φ ψ w0 w (L ++ [.own S (fun w => ExprsO w ks S xs), .own T (fun w => KidsO w kv e.kids T)])) :
    Mem φ ψ w0 w (L ++ [.own (fun b => S b ∨ T b) (fun w => ExprsO w (ks ++ [e]) (fun b => S b ∨ T b) (xs ++ [.int .i64 e.kind, .int .i64 e.value, kv]))]) :=
  M.fuse _ (fun _ h => h) fun hd h1 h2 => ⟨fun _ _ h hs => ExprsO.same _ _ _ h hs, ExprsO.snoc h1.2.1 ((ExprO.iff _ _ _).2 ⟨kv, rfl, h2.2.1⟩) (fun b hb => ⟨.inl hb, hd b hb⟩) (fun _ hb => .inr hb), fun b hb => hb.elim (h1.2.2 b) (h2.2.2 b)⟩
/-- A row and what its elements own. -/
theorem Mem.joinK {S : Nat → Prop} {ks : List LExpr} {n : Nat} {xs : List Value} {v : Value} (M : Mem φ ψ w0 w (L ++ [.row 41 3 v n xs, .own S (fun w => ExprsO w ks S xs)])) (hn : n = ks.length) :
    Mem φ ψ w0 w (L ++ [.own (fun b => v.ownBlock = some b ∨ S b) (fun w => KidsO w v ks (fun b => v.ownBlock = some b ∨ S b))]) := by
  subst hn
  exact M.fuse _ (fun _ h => h) fun hd h1 h2 => ⟨fun _ _ h hs => KidsO.same h hs, ⟨xs, S, h1, fun g hg => ⟨.inl hg, hd g hg⟩, fun _ hb => .inr hb, h2.2.1⟩, fun b hb => hb.elim (fun h => (World.ownsRow.lt h1 b h).2) (h2.2.2 b)⟩
/-- Nothing owned. -/
theorem Mem.noneE (M : Mem φ ψ w0 w L) : Mem φ ψ w0 w (L ++ [.own (fun _ => False) (fun w => ExprsO w [] (fun _ => False) [])]) :=
  M.callO (Below.refl _ _) (fun _ _ _ _ => rfl) rfl fun _ h => h.elim

theorem ExprsO.at : ∀ {ks : List LExpr} {S : Nat → Prop} {xs : List Value}, ExprsO w ks S xs → ∀ (i : Nat) (hi : i < ks.length), ∃ kv, xs[i * 3]? = some (.int .i64 ks[i].kind) ∧ xs[i * 3 + 1]? = some (.int .i64 ks[i].value) ∧ xs[i * 3 + 2]? = some kv ∧ KidsO w kv ks[i].kids S
  | [], _, _, _, i, hi => by simp at hi
  | e :: r, S, _, ⟨c, ys, S1, S2, h1, h2, h3, h4, h5⟩, i, hi => by
    obtain ⟨kv, rfl, hk⟩ := (ExprO.iff e S1 c).1 h4
    subst h1
    cases i with
    | zero => exact ⟨kv, rfl, rfl, rfl, hk.mono fun b hb => (h2 b hb).1⟩
    | succ i =>
      obtain ⟨kv', a, b, d, f⟩ := ExprsO.at h5 i (by simpa using hi)
      refine ⟨kv', ?_, ?_, ?_, f.mono h3⟩ <;> (rw [Nat.succ_mul]; simpa [Nat.add_assoc] using by assumption)
/-- An owned slice of expressions, opened. -/
theorem KidsO.open {v : Value} {ks : List LExpr} {S : Nat → Prop} (h : KidsO w v ks S) : ∃ a cap, v = .slice a ks.length cap ∧ ks.length ≤ cap ∧ ks.length ≤ 9223372036854775807 ∧ cap ≤ 9223372036854775807 ∧
    ∀ i (hi : i < ks.length), ∃ b off kv, a = some ⟨b, off, none⟩ ∧ b < w.heap.size ∧ S b ∧ w.cell? ⟨b, off + i * 3, none⟩ = some (.int .i64 ks[i].kind) ∧ w.cell? ⟨b, off + i * 3 + 1, none⟩ = some (.int .i64 ks[i].value) ∧ w.cell? ⟨b, off + i * 3 + 2, none⟩ = some kv ∧ KidsO w kv ks[i].kids S := by
  obtain ⟨xs, S', h2, h3, h4, h5⟩ := h
  obtain ⟨hl, a, cap, hv, n1, n2, n3⟩ := owns_rowF (φ := fun g => S g ∧ ¬ S' g) h2 h3
  unfold maxLen at n2
  refine ⟨a, cap, hv, n1, by omega, by omega, fun i hi => ?_⟩
  obtain ⟨b, off, he, hb, hf, hc⟩ := n3 (by omega)
  obtain ⟨kv, e0, e1, e2, hk⟩ := h5.at i hi
  exact ⟨b, off, kv, he, hb, hf.1, hc _ _ e0, hc _ _ e1, hc _ _ e2, hk.mono h4⟩
theorem KidsO.nil (w : World) (S : Nat → Prop) : KidsO w (.slice none 0 0) [] S := ⟨[], fun _ => False, World.ownsRow_nil _ _ _ _, (fun g hg => by cases hg), fun _ h => h.elim, rfl⟩

end
end Go.Proofs.Ytgpkdfefgcpbiaa
