/-
  Trees in memory: expressions, statements and programs that a value reads as. Conditions: none.
-/
import Derived.Test.YtgpkdfefgcpbiaaMem
import Derived.Test.YtgpkdfefgcpbiaaLawInt
import Derived.Test.YtgpkdfefgcpbiaaTree0
namespace Go.Proofs.Ytgpkdfefgcpbiaa
set_option linter.unusedVariables false
set_option linter.unusedSimpArgs false
open Go Go.RowKit

section
mutual
def ExprC (w : World) (φ : Nat → Prop) : LExpr → List Value → Prop
  | ⟨k, n, ks⟩, cs => ∃ v xs, cs = [.int .i64 k, .int .i64 n, v] ∧ RowF w φ v ks.length 3 xs ∧ ExprsC w φ ks xs
def ExprsC (w : World) (φ : Nat → Prop) : List LExpr → List Value → Prop
  | [], xs => xs = []
  | e :: r, xs => ∃ c ys, xs = c ++ ys ∧ ExprC w φ e c ∧ ExprsC w φ r ys
end
/-- A slice of expressions. -/
def KidsV (w : World) (φ : Nat → Prop) (v : Value) (ks : List LExpr) : Prop := ∃ xs, RowF w φ v ks.length 3 xs ∧ ExprsC w φ ks xs
/-- An expression. -/
def ExprV (w : World) (φ : Nat → Prop) (v : Value) (e : LExpr) : Prop := ∃ kv, v = .agg #[.int .i64 e.kind, .int .i64 e.value, kv] ∧ KidsV w φ kv e.kids
mutual
def StmtC (w : World) (φ : Nat → Prop) : LStmt → List Value → Prop
  | ⟨k, t, i, v, c, b, e⟩, cs => ∃ iv vv bv ev xb xe, cs = [.int .i64 k, .int .i64 t, .int .i64 i.kind, .int .i64 i.value, iv, .int .i64 v.kind, .int .i64 v.value, vv, .int .i64 c, bv, ev] ∧
      KidsV w φ iv i.kids ∧ KidsV w φ vv v.kids ∧ RowF w φ bv b.length 11 xb ∧ StmtsC w φ b xb ∧ RowF w φ ev e.length 11 xe ∧ StmtsC w φ e xe
def StmtsC (w : World) (φ : Nat → Prop) : List LStmt → List Value → Prop
  | [], xs => xs = []
  | s :: r, xs => ∃ c ys, xs = c ++ ys ∧ StmtC w φ s c ∧ StmtsC w φ r ys
end
/-- A slice of statements. -/
def BlockV (w : World) (φ : Nat → Prop) (v : Value) (ss : List LStmt) : Prop := ∃ xs, RowF w φ v ss.length 11 xs ∧ StmtsC w φ ss xs
/-- A statement. -/
def StmtV (w : World) (φ : Nat → Prop) (v : Value) (s : LStmt) : Prop :=
  ∃ iv vv bv ev, v = .agg #[.int .i64 s.kind, .int .i64 s.target, .int .i64 s.index.kind, .int .i64 s.index.value, iv, .int .i64 s.value.kind, .int .i64 s.value.value, vv, .int .i64 s.count, bv, ev] ∧
    KidsV w φ iv s.index.kids ∧ KidsV w φ vv s.value.kids ∧ BlockV w φ bv s.body ∧ BlockV w φ ev s.els
/-- A program. -/
def ProgV (w : World) (φ : Nat → Prop) (v : Value) (p : LProg) : Prop :=
  ∃ v1 v2 v3, v = .agg #[v1, v2, v3] ∧ RowF w φ v1 p.vars.length 1 (ints p.vars) ∧ RowF w φ v2 p.arrays.length 1 (ints p.arrays) ∧ BlockV w φ v3 p.body

variable {w w' : World} {φ φ' : Nat → Prop}
mutual
theorem ExprC.agr (ha : Agr φ φ' w w') : ∀ (e : LExpr) (cs : List Value), ExprC w φ e cs → ExprC w' φ' e cs
  | ⟨_, _, ks⟩, _, ⟨v, xs, h1, h2, h3⟩ => ⟨v, xs, h1, RowF.nice _ _ _ _ _ _ _ _ ha h2, ExprsC.agr ha ks xs h3⟩
theorem ExprsC.agr (ha : Agr φ φ' w w') : ∀ (ks : List LExpr) (xs : List Value), ExprsC w φ ks xs → ExprsC w' φ' ks xs
  | [], _, h => h
  | e :: r, _, ⟨c, ys, h1, h2, h3⟩ => ⟨c, ys, h1, ExprC.agr ha e c h2, ExprsC.agr ha r ys h3⟩
end
theorem ExprsC.nice (ks : List LExpr) (xs : List Value) : Nice fun w φ => ExprsC w φ ks xs := fun _ _ _ _ ha h => ExprsC.agr ha ks xs h
theorem KidsV.nice (v : Value) (ks : List LExpr) : Nice fun w φ => KidsV w φ v ks := fun _ _ _ _ ha ⟨xs, h1, h2⟩ => ⟨xs, RowF.nice _ _ _ _ _ _ _ _ ha h1, ExprsC.agr ha ks xs h2⟩
theorem ExprV.nice (v : Value) (e : LExpr) : Nice fun w φ => ExprV w φ v e := fun _ _ _ _ ha ⟨kv, h1, h2⟩ => ⟨kv, h1, KidsV.nice _ _ _ _ _ _ ha h2⟩
mutual
theorem StmtC.agr (ha : Agr φ φ' w w') : ∀ (s : LStmt) (cs : List Value), StmtC w φ s cs → StmtC w' φ' s cs
  | ⟨_, _, _, _, _, b, e⟩, _, ⟨iv, vv, bv, ev, xb, xe, h1, h2, h3, h4, h5, h6, h7⟩ =>
    ⟨iv, vv, bv, ev, xb, xe, h1, KidsV.nice _ _ _ _ _ _ ha h2, KidsV.nice _ _ _ _ _ _ ha h3, RowF.nice _ _ _ _ _ _ _ _ ha h4, StmtsC.agr ha b xb h5, RowF.nice _ _ _ _ _ _ _ _ ha h6, StmtsC.agr ha e xe h7⟩
theorem StmtsC.agr (ha : Agr φ φ' w w') : ∀ (ss : List LStmt) (xs : List Value), StmtsC w φ ss xs → StmtsC w' φ' ss xs
  | [], _, h => h
  | s :: r, _, ⟨c, ys, h1, h2, h3⟩ => ⟨c, ys, h1, StmtC.agr ha s c h2, StmtsC.agr ha r ys h3⟩
end
theorem StmtsC.nice (ss : List LStmt) (xs : List Value) : Nice fun w φ => StmtsC w φ ss xs := fun _ _ _ _ ha h => StmtsC.agr ha ss xs h
theorem BlockV.nice (v : Value) (ss : List LStmt) : Nice fun w φ => BlockV w φ v ss := fun _ _ _ _ ha ⟨xs, h1, h2⟩ => ⟨xs, RowF.nice _ _ _ _ _ _ _ _ ha h1, StmtsC.agr ha ss xs h2⟩
theorem StmtV.nice (v : Value) (s : LStmt) : Nice fun w φ => StmtV w φ v s := fun _ _ _ _ ha ⟨iv, vv, bv, ev, h1, h2, h3, h4, h5⟩ =>
  ⟨iv, vv, bv, ev, h1, KidsV.nice _ _ _ _ _ _ ha h2, KidsV.nice _ _ _ _ _ _ ha h3, BlockV.nice _ _ _ _ _ _ ha h4, BlockV.nice _ _ _ _ _ _ ha h5⟩
theorem ProgV.nice (v : Value) (p : LProg) : Nice fun w φ => ProgV w φ v p := fun _ _ _ _ ha ⟨v1, v2, v3, h1, h2, h3, h4⟩ =>
  ⟨v1, v2, v3, h1, RowF.nice _ _ _ _ _ _ _ _ ha h2, RowF.nice _ _ _ _ _ _ _ _ ha h3, BlockV.nice _ _ _ _ _ _ ha h4⟩

theorem ExprC.iff (e : LExpr) (cs : List Value) : ExprC w φ e cs ↔ ∃ kv, cs = [.int .i64 e.kind, .int .i64 e.value, kv] ∧ KidsV w φ kv e.kids := by
  cases e with
  | mk k n ks => exact ⟨fun ⟨v, xs, h1, h2, h3⟩ => ⟨v, h1, xs, h2, h3⟩, fun ⟨v, h1, xs, h2, h3⟩ => ⟨v, xs, h1, h2, h3⟩⟩
theorem StmtC.iff (s : LStmt) (cs : List Value) : StmtC w φ s cs ↔ ∃ iv vv bv ev, cs = [.int .i64 s.kind, .int .i64 s.target, .int .i64 s.index.kind, .int .i64 s.index.value, iv, .int .i64 s.value.kind, .int .i64 s.value.value, vv, .int .i64 s.count, bv, ev] ∧
    KidsV w φ iv s.index.kids ∧ KidsV w φ vv s.value.kids ∧ BlockV w φ bv s.body ∧ BlockV w φ ev s.els := by
  cases s with
  | mk k t i v c b e =>
    exact ⟨fun ⟨iv, vv, bv, ev, xb, xe, h1, h2, h3, h4, h5, h6, h7⟩ => ⟨iv, vv, bv, ev, h1, h2, h3, ⟨xb, h4, h5⟩, ⟨xe, h6, h7⟩⟩,
      fun ⟨iv, vv, bv, ev, h1, h2, h3, ⟨xb, h4, h5⟩, ⟨xe, h6, h7⟩⟩ => ⟨iv, vv, bv, ev, xb, xe, h1, h2, h3, h4, h5, h6, h7⟩⟩
theorem ExprV.iff {v : Value} {e : LExpr} : ExprV w φ v e ↔ ∃ cs : List Value, v = .agg cs.toArray ∧ ExprC w φ e cs :=
  ⟨fun ⟨kv, h1, h2⟩ => ⟨_, h1, (ExprC.iff e _).2 ⟨kv, rfl, h2⟩⟩, fun ⟨cs, h1, h2⟩ => by obtain ⟨kv, rfl, h3⟩ := (ExprC.iff e cs).1 h2; exact ⟨kv, h1, h3⟩⟩
theorem StmtV.iff {v : Value} {s : LStmt} : StmtV w φ v s ↔ ∃ cs : List Value, v = .agg cs.toArray ∧ StmtC w φ s cs :=
  ⟨fun ⟨iv, vv, bv, ev, h1, h2⟩ => ⟨_, h1, (StmtC.iff s _).2 ⟨iv, vv, bv, ev, rfl, h2⟩⟩, fun ⟨cs, h1, h2⟩ => by obtain ⟨iv, vv, bv, ev, rfl, h3⟩ := (StmtC.iff s cs).1 h2; exact ⟨iv, vv, bv, ev, h1, h3⟩⟩

theorem ExprsC.len : ∀ {ks : List LExpr} {xs : List Value}, ExprsC w φ ks xs → xs.length = ks.length * 3
  | [], _, h => by rw [show _ = [] from h]; rfl
  | e :: r, _, ⟨c, ys, h1, h2, h3⟩ => by
    obtain ⟨kv, rfl, _⟩ := (ExprC.iff e c).1 h2
    rw [h1, List.length_append, ExprsC.len h3, List.length_cons]; simp; omega
theorem StmtsC.len : ∀ {ss : List LStmt} {xs : List Value}, StmtsC w φ ss xs → xs.length = ss.length * 11
  | [], _, h => by rw [show _ = [] from h]; rfl
  | s :: r, _, ⟨c, ys, h1, h2, h3⟩ => by
    obtain ⟨iv, vv, bv, ev, rfl, _⟩ := (StmtC.iff s c).1 h2
    rw [h1, List.length_append, StmtsC.len h3, List.length_cons]; simp; omega
theorem ExprsC.at : ∀ {ks : List LExpr} {xs : List Value}, ExprsC w φ ks xs → ∀ (i : Nat) (hi : i < ks.length), ∃ kv, xs[i * 3]? = some (.int .i64 ks[i].kind) ∧ xs[i * 3 + 1]? = some (.int .i64 ks[i].value) ∧ xs[i * 3 + 2]? = some kv ∧ KidsV w φ kv ks[i].kids
  | [], _, _, i, hi => by simp at hi
  | e :: r, _, ⟨c, ys, h1, h2, h3⟩, i, hi => by
    obtain ⟨kv, rfl, hk⟩ := (ExprC.iff e c).1 h2
    subst h1
    cases i with
    | zero => exact ⟨kv, rfl, rfl, rfl, hk⟩
    | succ i =>
      obtain ⟨kv', a, b, d, f⟩ := ExprsC.at h3 i (by simpa using hi)
      refine ⟨kv', ?_, ?_, ?_, f⟩ <;> (rw [Nat.succ_mul]; simpa [Nat.add_assoc] using by assumption)
theorem StmtsC.at : ∀ {ss : List LStmt} {xs : List Value}, StmtsC w φ ss xs → ∀ (i : Nat) (hi : i < ss.length), ∃ cs : List Value, cs.length = 11 ∧ StmtC w φ ss[i] cs ∧ ∀ j, j < 11 → xs[i * 11 + j]? = cs[j]?
  | [], _, _, i, hi => by simp at hi
  | s :: r, _, ⟨c, ys, h1, h2, h3⟩, i, hi => by
    have hc : c.length = 11 := by obtain ⟨iv, vv, bv, ev, rfl, _⟩ := (StmtC.iff s c).1 h2; rfl
    subst h1
    cases i with
    | zero => exact ⟨c, hc, h2, fun j hj => by rw [List.getElem?_append_left (by omega)]; simp⟩
    | succ i =>
      obtain ⟨cs, a, b, d⟩ := StmtsC.at h3 i (by simpa using hi)
      refine ⟨cs, a, b, fun j hj => ?_⟩
      rw [List.getElem?_append_right (by rw [hc, Nat.succ_mul]; omega), ← d j hj]
      congr 1
      rw [hc, Nat.succ_mul]; omega
theorem ExprsC.append : ∀ {ks : List LExpr} {xs : List Value} {ls : List LExpr} {ys : List Value}, ExprsC w φ ks xs → ExprsC w φ ls ys → ExprsC w φ (ks ++ ls) (xs ++ ys)
  | [], _, _, _, h, k => by rw [show _ = [] from h]; exact k
  | e :: r, _, _, _, ⟨c, zs, h1, h2, h3⟩, k => ⟨c, zs ++ _, by rw [h1, List.append_assoc], h2, ExprsC.append h3 k⟩
theorem ExprsC.one {e : LExpr} {c : List Value} (h : ExprC w φ e c) : ExprsC w φ [e] c := ⟨c, [], by simp, h, rfl⟩
theorem StmtsC.append : ∀ {ks : List LStmt} {xs : List Value} {ls : List LStmt} {ys : List Value}, StmtsC w φ ks xs → StmtsC w φ ls ys → StmtsC w φ (ks ++ ls) (xs ++ ys)
  | [], _, _, _, h, k => by rw [show _ = [] from h]; exact k
  | e :: r, _, _, _, ⟨c, zs, h1, h2, h3⟩, k => ⟨c, zs ++ _, by rw [h1, List.append_assoc], h2, StmtsC.append h3 k⟩
theorem StmtsC.one {s : LStmt} {c : List Value} (h : StmtC w φ s c) : StmtsC w φ [s] c := ⟨c, [], by simp, h, rfl⟩

/-- A slice of expressions, opened. -/
theorem KidsV.open {v : Value} {ks : List LExpr} (h : KidsV w φ v ks) : ∃ a cap, v = .slice a ks.length cap ∧ ks.length ≤ cap ∧ ks.length ≤ 9223372036854775807 ∧ cap ≤ 9223372036854775807 ∧
    ∀ i (hi : i < ks.length), ∃ b off kv, a = some ⟨b, off, none⟩ ∧ b < w.heap.size ∧ φ b ∧ w.cell? ⟨b, off + i * 3, none⟩ = some (.int .i64 ks[i].kind) ∧ w.cell? ⟨b, off + i * 3 + 1, none⟩ = some (.int .i64 ks[i].value) ∧ w.cell? ⟨b, off + i * 3 + 2, none⟩ = some kv ∧ KidsV w φ kv ks[i].kids := by
  obtain ⟨xs, ⟨hl, a, cap, rfl, h1, h2, h3⟩, hx⟩ := h
  unfold maxLen at h2
  refine ⟨a, cap, rfl, h1, by omega, by omega, fun i hi => ?_⟩
  obtain ⟨b, off, rfl, hb, hf, hc⟩ := h3 (by omega)
  obtain ⟨kv, e0, e1, e2, hk⟩ := hx.at i hi
  exact ⟨b, off, kv, rfl, hb, hf, hc _ _ e0, hc _ _ e1, hc _ _ e2, hk⟩
/-- A slice of statements, opened. -/
theorem BlockV.open {v : Value} {ss : List LStmt} (h : BlockV w φ v ss) : ∃ a cap, v = .slice a ss.length cap ∧ ss.length ≤ cap ∧ ss.length ≤ 9223372036854775807 ∧ cap ≤ 9223372036854775807 ∧
    ∀ i (hi : i < ss.length), ∃ b off iv vv bv ev, a = some ⟨b, off, none⟩ ∧ b < w.heap.size ∧ φ b ∧
      (w.cell? ⟨b, off + i * 11, none⟩ = some (.int .i64 ss[i].kind) ∧ w.cell? ⟨b, off + i * 11 + 1, none⟩ = some (.int .i64 ss[i].target) ∧ w.cell? ⟨b, off + i * 11 + 2, none⟩ = some (.int .i64 ss[i].index.kind) ∧ w.cell? ⟨b, off + i * 11 + 3, none⟩ = some (.int .i64 ss[i].index.value) ∧ w.cell? ⟨b, off + i * 11 + 4, none⟩ = some iv ∧
        w.cell? ⟨b, off + i * 11 + 5, none⟩ = some (.int .i64 ss[i].value.kind) ∧ w.cell? ⟨b, off + i * 11 + 6, none⟩ = some (.int .i64 ss[i].value.value) ∧ w.cell? ⟨b, off + i * 11 + 7, none⟩ = some vv ∧ w.cell? ⟨b, off + i * 11 + 8, none⟩ = some (.int .i64 ss[i].count) ∧ w.cell? ⟨b, off + i * 11 + 9, none⟩ = some bv ∧ w.cell? ⟨b, off + i * 11 + 10, none⟩ = some ev) ∧
      KidsV w φ iv ss[i].index.kids ∧ KidsV w φ vv ss[i].value.kids ∧ BlockV w φ bv ss[i].body ∧ BlockV w φ ev ss[i].els := by
  obtain ⟨xs, ⟨hl, a, cap, rfl, h1, h2, h3⟩, hx⟩ := h
  unfold maxLen at h2
  refine ⟨a, cap, rfl, h1, by omega, by omega, fun i hi => ?_⟩
  obtain ⟨b, off, rfl, hb, hf, hc⟩ := h3 (by omega)
  obtain ⟨cs, hl2, hs, hj⟩ := hx.at i hi
  obtain ⟨iv, vv, bv, ev, rfl, k1, k2, k3, k4⟩ := (StmtC.iff _ _).1 hs
  refine ⟨b, off, iv, vv, bv, ev, rfl, hb, hf, ⟨?_, ?_, ?_, ?_, ?_, ?_, ?_, ?_, ?_, ?_, ?_⟩, k1, k2, k3, k4⟩
  · have := hc (i * 11 + 0) _ ((hj 0 (by omega)).trans rfl); simpa using this
  · exact hc (i * 11 + 1) _ ((hj 1 (by omega)).trans rfl)
  · exact hc (i * 11 + 2) _ ((hj 2 (by omega)).trans rfl)
  · exact hc (i * 11 + 3) _ ((hj 3 (by omega)).trans rfl)
  · exact hc (i * 11 + 4) _ ((hj 4 (by omega)).trans rfl)
  · exact hc (i * 11 + 5) _ ((hj 5 (by omega)).trans rfl)
  · exact hc (i * 11 + 6) _ ((hj 6 (by omega)).trans rfl)
  · exact hc (i * 11 + 7) _ ((hj 7 (by omega)).trans rfl)
  · exact hc (i * 11 + 8) _ ((hj 8 (by omega)).trans rfl)
  · exact hc (i * 11 + 9) _ ((hj 9 (by omega)).trans rfl)
  · exact hc (i * 11 + 10) _ ((hj 10 (by omega)).trans rfl)
theorem KidsV.nil (w : World) (φ : Nat → Prop) : KidsV w φ (.slice none 0 0) [] := ⟨[], RowF.nil _ _ _, rfl⟩
theorem BlockV.nil (w : World) (φ : Nat → Prop) : BlockV w φ (.slice none 0 0) [] := ⟨[], RowF.nil _ _ _, rfl⟩

end
end Go.Proofs.Ytgpkdfefgcpbiaa
