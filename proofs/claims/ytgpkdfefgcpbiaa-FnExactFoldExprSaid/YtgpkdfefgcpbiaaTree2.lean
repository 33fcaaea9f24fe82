/-
  Trees of a call's own: each row in a block of its own, all apart. Conditions: none.
-/
import Derived.Test.YtgpkdfefgcpbiaaTree1
namespace Go.Proofs.Ytgpkdfefgcpbiaa
set_option linter.unusedVariables false
set_option linter.unusedSimpArgs false
open Go Go.RowKit

section
mutual
def ExprO (w : World) : LExpr → (Nat → Prop) → List Value → Prop
  | ⟨k, n, ks⟩, S, cs => ∃ (v : Value) (xs : List Value) (S' : Nat → Prop), cs = [.int .i64 k, .int .i64 n, v] ∧ w.ownsRow 0 41 3 v ks.length xs ∧ (∀ g, v.ownBlock = some g → S g ∧ ¬ S' g) ∧ (∀ b, S' b → S b) ∧ ExprsO w ks S' xs
def ExprsO (w : World) : List LExpr → (Nat → Prop) → List Value → Prop
  | [], _, xs => xs = []
  | e :: r, S, xs => ∃ (c ys : List Value) (S1 S2 : Nat → Prop), xs = c ++ ys ∧ (∀ b, S1 b → S b ∧ ¬ S2 b) ∧ (∀ b, S2 b → S b) ∧ ExprO w e S1 c ∧ ExprsO w r S2 ys
end
/-- A slice of expressions of the call's own. -/
def KidsO (w : World) (v : Value) (ks : List LExpr) (S : Nat → Prop) : Prop :=
  ∃ (xs : List Value) (S' : Nat → Prop), w.ownsRow 0 41 3 v ks.length xs ∧ (∀ g, v.ownBlock = some g → S g ∧ ¬ S' g) ∧ (∀ b, S' b → S b) ∧ ExprsO w ks S' xs
mutual
def StmtO (w : World) : LStmt → (Nat → Prop) → List Value → Prop
  | ⟨k, t, i, v, c, b, e⟩, S, cs => ∃ (iv vv bv ev : Value) (xb xe : List Value) (Si Sv Sb Se Sb' Se' : Nat → Prop), cs = [.int .i64 k, .int .i64 t, .int .i64 i.kind, .int .i64 i.value, iv, .int .i64 v.kind, .int .i64 v.value, vv, .int .i64 c, bv, ev] ∧
      ((∀ b, Si b → S b ∧ ¬ Sv b ∧ ¬ Sb b ∧ ¬ Se b) ∧ (∀ b, Sv b → S b ∧ ¬ Sb b ∧ ¬ Se b) ∧ (∀ b, Sb b → S b ∧ ¬ Se b) ∧ (∀ b, Se b → S b)) ∧ KidsO w iv i.kids Si ∧ KidsO w vv v.kids Sv ∧
      (w.ownsRow 0 135 11 bv b.length xb ∧ (∀ g, bv.ownBlock = some g → Sb g ∧ ¬ Sb' g) ∧ (∀ b, Sb' b → Sb b) ∧ StmtsO w b Sb' xb) ∧
      (w.ownsRow 0 135 11 ev e.length xe ∧ (∀ g, ev.ownBlock = some g → Se g ∧ ¬ Se' g) ∧ (∀ b, Se' b → Se b) ∧ StmtsO w e Se' xe)
def StmtsO (w : World) : List LStmt → (Nat → Prop) → List Value → Prop
  | [], _, xs => xs = []
  | s :: r, S, xs => ∃ (c ys : List Value) (S1 S2 : Nat → Prop), xs = c ++ ys ∧ (∀ b, S1 b → S b ∧ ¬ S2 b) ∧ (∀ b, S2 b → S b) ∧ StmtO w s S1 c ∧ StmtsO w r S2 ys
end
/-- A slice of statements of the call's own. -/
def BlockO (w : World) (v : Value) (ss : List LStmt) (S : Nat → Prop) : Prop :=
  ∃ (xs : List Value) (S' : Nat → Prop), w.ownsRow 0 135 11 v ss.length xs ∧ (∀ g, v.ownBlock = some g → S g ∧ ¬ S' g) ∧ (∀ b, S' b → S b) ∧ StmtsO w ss S' xs
/-- A program of the call's own. -/
def ProgO (w : World) (v : Value) (p : LProg) (S : Nat → Prop) : Prop :=
  ∃ (v1 v2 v3 : Value) (S3 : Nat → Prop), v = .agg #[v1, v2, v3] ∧ w.ownsRow 0 3 1 v1 p.vars.length (ints p.vars) ∧ w.ownsRow 0 3 1 v2 p.arrays.length (ints p.arrays) ∧ BlockO w v3 p.body S3 ∧
    (∀ g, v1.ownBlock = some g → S g ∧ ¬ S3 g ∧ v2.ownBlock ≠ some g) ∧ (∀ g, v2.ownBlock = some g → S g ∧ ¬ S3 g) ∧ (∀ b, S3 b → S b)

variable {w w' : World} {S S' φ : Nat → Prop}
theorem owns_same {e : TypeId} {sz : Nat} {v : Value} {n : Nat} {xs : List Value} (h : w.ownsRow 0 e sz v n xs) (hs : ∀ g, v.ownBlock = some g → w'.heap[g]? = w.heap[g]?) : w'.ownsRow 0 e sz v n xs :=
  (Own.same (Own.mk' h) hs).1
mutual
theorem ExprO.same : ∀ (e : LExpr) (S : Nat → Prop) (cs : List Value), ExprO w e S cs → (∀ b, S b → b < w.heap.size → w'.heap[b]? = w.heap[b]?) → ExprO w' e S cs
  | ⟨_, _, ks⟩, S, _, ⟨v, xs, S', h1, h2, h3, h4, h5⟩, hs => ⟨v, xs, S', h1, owns_same h2 fun g hg => hs g (h3 g hg).1 (World.ownsRow.lt h2 g hg).2, h3, h4, ExprsO.same ks S' xs h5 fun b hb => hs b (h4 b hb)⟩
theorem ExprsO.same : ∀ (ks : List LExpr) (S : Nat → Prop) (xs : List Value), ExprsO w ks S xs → (∀ b, S b → b < w.heap.size → w'.heap[b]? = w.heap[b]?) → ExprsO w' ks S xs
  | [], _, _, h, _ => h
  | e :: r, S, _, ⟨c, ys, S1, S2, h1, h2, h3, h4, h5⟩, hs => ⟨c, ys, S1, S2, h1, h2, h3, ExprO.same e S1 c h4 fun b hb => hs b (h2 b hb).1, ExprsO.same r S2 ys h5 fun b hb => hs b (h3 b hb)⟩
end
theorem KidsO.same {v : Value} {ks : List LExpr} (h : KidsO w v ks S) (hs : ∀ b, S b → b < w.heap.size → w'.heap[b]? = w.heap[b]?) : KidsO w' v ks S := by
  obtain ⟨xs, S', h2, h3, h4, h5⟩ := h
  exact ⟨xs, S', owns_same h2 fun g hg => hs g (h3 g hg).1 (World.ownsRow.lt h2 g hg).2, h3, h4, ExprsO.same ks S' xs h5 fun b hb => hs b (h4 b hb)⟩
mutual
theorem StmtO.same : ∀ (s : LStmt) (S : Nat → Prop) (cs : List Value), StmtO w s S cs → (∀ b, S b → b < w.heap.size → w'.heap[b]? = w.heap[b]?) → StmtO w' s S cs
  | ⟨_, _, _, _, _, b, e⟩, S, _, ⟨iv, vv, bv, ev, xb, xe, Si, Sv, Sb, Se, Sb', Se', h1, ⟨d1, d2, d3, d4⟩, h2, h3, ⟨b1, b2, b3, b4⟩, ⟨e1, e2, e3, e4⟩⟩, hs =>
    ⟨iv, vv, bv, ev, xb, xe, Si, Sv, Sb, Se, Sb', Se', h1, ⟨d1, d2, d3, d4⟩, h2.same fun b hb => hs b (d1 b hb).1, h3.same fun b hb => hs b (d2 b hb).1,
      ⟨owns_same b1 fun g hg => hs g (d3 g (b2 g hg).1).1 (World.ownsRow.lt b1 g hg).2, b2, b3, StmtsO.same b Sb' xb b4 fun x hx => hs x (d3 x (b3 x hx)).1⟩,
      ⟨owns_same e1 fun g hg => hs g (d4 g (e2 g hg).1) (World.ownsRow.lt e1 g hg).2, e2, e3, StmtsO.same e Se' xe e4 fun x hx => hs x (d4 x (e3 x hx))⟩⟩
theorem StmtsO.same : ∀ (ss : List LStmt) (S : Nat → Prop) (xs : List Value), StmtsO w ss S xs → (∀ b, S b → b < w.heap.size → w'.heap[b]? = w.heap[b]?) → StmtsO w' ss S xs
  | [], _, _, h, _ => h
  | s :: r, S, _, ⟨c, ys, S1, S2, h1, h2, h3, h4, h5⟩, hs => ⟨c, ys, S1, S2, h1, h2, h3, StmtO.same s S1 c h4 fun b hb => hs b (h2 b hb).1, StmtsO.same r S2 ys h5 fun b hb => hs b (h3 b hb)⟩
end
theorem BlockO.same {v : Value} {ss : List LStmt} (h : BlockO w v ss S) (hs : ∀ b, S b → b < w.heap.size → w'.heap[b]? = w.heap[b]?) : BlockO w' v ss S := by
  obtain ⟨xs, S', h2, h3, h4, h5⟩ := h
  exact ⟨xs, S', owns_same h2 fun g hg => hs g (h3 g hg).1 (World.ownsRow.lt h2 g hg).2, h3, h4, StmtsO.same ss S' xs h5 fun b hb => hs b (h4 b hb)⟩
theorem ProgO.same {v : Value} {p : LProg} (h : ProgO w v p S) (hs : ∀ b, S b → b < w.heap.size → w'.heap[b]? = w.heap[b]?) : ProgO w' v p S := by
  obtain ⟨v1, v2, v3, S3, rfl, h1, h2, h3, d1, d2, d3⟩ := h
  exact ⟨v1, v2, v3, S3, rfl, owns_same h1 fun g hg => hs g (d1 g hg).1 (World.ownsRow.lt h1 g hg).2, owns_same h2 fun g hg => hs g (d2 g hg).1 (World.ownsRow.lt h2 g hg).2, h3.same fun b hb => hs b (d3 b hb), d1, d2, d3⟩
theorem KidsO.mono {v : Value} {ks : List LExpr} (h : KidsO w v ks S) (hs : ∀ b, S b → S' b) : KidsO w v ks S' := by
  obtain ⟨xs, T, h2, h3, h4, h5⟩ := h
  exact ⟨xs, T, h2, fun g hg => ⟨hs g (h3 g hg).1, (h3 g hg).2⟩, fun b hb => hs b (h4 b hb), h5⟩
theorem BlockO.mono {v : Value} {ss : List LStmt} (h : BlockO w v ss S) (hs : ∀ b, S b → S' b) : BlockO w v ss S' := by
  obtain ⟨xs, T, h2, h3, h4, h5⟩ := h
  exact ⟨xs, T, h2, fun g hg => ⟨hs g (h3 g hg).1, (h3 g hg).2⟩, fun b hb => hs b (h4 b hb), h5⟩
theorem ProgO.mono {v : Value} {p : LProg} (h : ProgO w v p S) (hs : ∀ b, S b → S' b) : ProgO w v p S' := by
  obtain ⟨v1, v2, v3, S3, rfl, h1, h2, h3, d1, d2, d3⟩ := h
  exact ⟨v1, v2, v3, S3, rfl, h1, h2, h3, fun g hg => ⟨hs g (d1 g hg).1, (d1 g hg).2⟩, fun g hg => ⟨hs g (d2 g hg).1, (d2 g hg).2⟩, fun b hb => hs b (d3 b hb)⟩

/-! What is owned can be read. -/
mutual
theorem ExprO.read : ∀ (e : LExpr) (S : Nat → Prop) (cs : List Value), ExprO w e S cs → (∀ b, S b → φ b) → ExprC w φ e cs
  | ⟨_, _, ks⟩, S, _, ⟨v, xs, S', h1, h2, h3, h4, h5⟩, hs => ⟨v, xs, h1, owns_rowF h2 fun g hg => hs g (h3 g hg).1, ExprsO.read ks S' xs h5 fun b hb => hs b (h4 b hb)⟩
theorem ExprsO.read : ∀ (ks : List LExpr) (S : Nat → Prop) (xs : List Value), ExprsO w ks S xs → (∀ b, S b → φ b) → ExprsC w φ ks xs
  | [], _, _, h, _ => h
  | e :: r, S, _, ⟨c, ys, S1, S2, h1, h2, h3, h4, h5⟩, hs => ⟨c, ys, h1, ExprO.read e S1 c h4 fun b hb => hs b (h2 b hb).1, ExprsO.read r S2 ys h5 fun b hb => hs b (h3 b hb)⟩
end
theorem KidsO.read {v : Value} {ks : List LExpr} (h : KidsO w v ks S) (hs : ∀ b, S b → φ b) : KidsV w φ v ks := by
  obtain ⟨xs, T, h2, h3, h4, h5⟩ := h
  exact ⟨xs, owns_rowF h2 fun g hg => hs g (h3 g hg).1, ExprsO.read ks T xs h5 fun b hb => hs b (h4 b hb)⟩
mutual
theorem StmtO.read : ∀ (s : LStmt) (S : Nat → Prop) (cs : List Value), StmtO w s S cs → (∀ b, S b → φ b) → StmtC w φ s cs
  | ⟨_, _, _, _, _, b, e⟩, S, _, ⟨iv, vv, bv, ev, xb, xe, Si, Sv, Sb, Se, Sb', Se', h1, ⟨d1, d2, d3, d4⟩, h2, h3, ⟨b1, b2, b3, b4⟩, ⟨e1, e2, e3, e4⟩⟩, hs =>
    ⟨iv, vv, bv, ev, xb, xe, h1, h2.read fun b hb => hs b (d1 b hb).1, h3.read fun b hb => hs b (d2 b hb).1,
      owns_rowF b1 fun g hg => hs g (d3 g (b2 g hg).1).1, StmtsO.read b Sb' xb b4 fun x hx => hs x (d3 x (b3 x hx)).1,
      owns_rowF e1 fun g hg => hs g (d4 g (e2 g hg).1), StmtsO.read e Se' xe e4 fun x hx => hs x (d4 x (e3 x hx))⟩
theorem StmtsO.read : ∀ (ss : List LStmt) (S : Nat → Prop) (xs : List Value), StmtsO w ss S xs → (∀ b, S b → φ b) → StmtsC w φ ss xs
  | [], _, _, h, _ => h
  | s :: r, S, _, ⟨c, ys, S1, S2, h1, h2, h3, h4, h5⟩, hs => ⟨c, ys, h1, StmtO.read s S1 c h4 fun b hb => hs b (h2 b hb).1, StmtsO.read r S2 ys h5 fun b hb => hs b (h3 b hb)⟩
end
theorem BlockO.read {v : Value} {ss : List LStmt} (h : BlockO w v ss S) (hs : ∀ b, S b → φ b) : BlockV w φ v ss := by
  obtain ⟨xs, T, h2, h3, h4, h5⟩ := h
  exact ⟨xs, owns_rowF h2 fun g hg => hs g (h3 g hg).1, StmtsO.read ss T xs h5 fun b hb => hs b (h4 b hb)⟩
theorem ProgO.read {v : Value} {p : LProg} (h : ProgO w v p S) (hs : ∀ b, S b → φ b) : ProgV w φ v p := by
  obtain ⟨v1, v2, v3, S3, rfl, h1, h2, h3, d1, d2, d3⟩ := h
  exact ⟨v1, v2, v3, rfl, owns_rowF h1 fun g hg => hs g (d1 g hg).1, owns_rowF h2 fun g hg => hs g (d2 g hg).1, h3.read fun b hb => hs b (d3 b hb)⟩

/-- Owned, as data: all its blocks are there. -/
def OwnD (R : World → (Nat → Prop) → Prop) (S : Nat → Prop) : World → (Nat → Prop) → Prop := fun w φ => R w S ∧ ∀ b, S b → b < w.heap.size ∧ φ b
theorem OwnD.nice {R : World → (Nat → Prop) → Prop} (S : Nat → Prop) (hR : ∀ w w' : World, R w S → (∀ b, S b → b < w.heap.size → w'.heap[b]? = w.heap[b]?) → R w' S) : Nice (OwnD R S) :=
  fun w w' _ _ ha ⟨h1, h2⟩ => ⟨hR w w' h1 fun b hb hlt => (ha.2 b hlt (h2 b hb).2).2, fun b hb => ⟨Nat.lt_of_lt_of_le (h2 b hb).1 ha.1, (ha.2 b (h2 b hb).1 (h2 b hb).2).1⟩⟩
theorem ExprsO.mono : ∀ {ks : List LExpr} {S S' : Nat → Prop} {xs : List Value}, ExprsO w ks S xs → (∀ b, S b → S' b) → ExprsO w ks S' xs
  | [], _, _, _, h, _ => h
  | _ :: _, _, _, _, ⟨c, ys, S1, S2, h1, h2, h3, h4, h5⟩, hs => ⟨c, ys, S1, S2, h1, fun b hb => ⟨hs b (h2 b hb).1, (h2 b hb).2⟩, fun b hb => hs b (h3 b hb), h4, h5⟩
theorem StmtsO.mono : ∀ {ks : List LStmt} {S S' : Nat → Prop} {xs : List Value}, StmtsO w ks S xs → (∀ b, S b → S' b) → StmtsO w ks S' xs
  | [], _, _, _, h, _ => h
  | _ :: _, _, _, _, ⟨c, ys, S1, S2, h1, h2, h3, h4, h5⟩, hs => ⟨c, ys, S1, S2, h1, fun b hb => ⟨hs b (h2 b hb).1, (h2 b hb).2⟩, fun b hb => hs b (h3 b hb), h4, h5⟩
/-- One expression more. -/
theorem ExprsO.snoc : ∀ {ks : List LExpr} {S S' T : Nat → Prop} {xs c : List Value} {e : LExpr}, ExprsO w ks S xs → ExprO w e T c → (∀ b, S b → S' b ∧ ¬ T b) → (∀ b, T b → S' b) → ExprsO w (ks ++ [e]) S' (xs ++ c)
  | [], S, S', T, xs, c, e, h, k, d, f => by
    rw [show xs = [] from h]
    exact ⟨c, [], T, fun _ => False, by simp, fun b hb => ⟨f b hb, fun h => h⟩, fun b hb => hb.elim, k, rfl⟩
  | a :: r, S, S', T, _, c, e, ⟨x, ys, S1, S2, h1, h2, h3, h4, h5⟩, k, d, f =>
    ⟨x, ys ++ c, S1, fun b => S2 b ∨ T b, by rw [h1, List.append_assoc], fun b hb => ⟨(d b (h2 b hb).1).1, fun h => h.elim (h2 b hb).2 (d b (h2 b hb).1).2⟩, fun b hb => hb.elim (fun h => (d b (h3 b h)).1) (f b), h4,
      ExprsO.snoc h5 k (fun b hb => ⟨.inl hb, (d b (h3 b hb)).2⟩) fun b hb => .inr hb⟩
theorem StmtsO.snoc : ∀ {ks : List LStmt} {S S' T : Nat → Prop} {xs c : List Value} {e : LStmt}, StmtsO w ks S xs → StmtO w e T c → (∀ b, S b → S' b ∧ ¬ T b) → (∀ b, T b → S' b) → StmtsO w (ks ++ [e]) S' (xs ++ c)
  | [], S, S', T, xs, c, e, h, k, d, f => by
    rw [show xs = [] from h]
    exact ⟨c, [], T, fun _ => False, by simp, fun b hb => ⟨f b hb, fun h => h⟩, fun b hb => hb.elim, k, rfl⟩
  | a :: r, S, S', T, _, c, e, ⟨x, ys, S1, S2, h1, h2, h3, h4, h5⟩, k, d, f =>
    ⟨x, ys ++ c, S1, fun b => S2 b ∨ T b, by rw [h1, List.append_assoc], fun b hb => ⟨(d b (h2 b hb).1).1, fun h => h.elim (h2 b hb).2 (d b (h2 b hb).1).2⟩, fun b hb => hb.elim (fun h => (d b (h3 b h)).1) (f b), h4,
      StmtsO.snoc h5 k (fun b hb => ⟨.inl hb, (d b (h3 b hb)).2⟩) fun b hb => .inr hb⟩
theorem ExprO.iff (e : LExpr) (S : Nat → Prop) (cs : List Value) : ExprO w e S cs ↔ ∃ kv, cs = [.int .i64 e.kind, .int .i64 e.value, kv] ∧ KidsO w kv e.kids S := by
  cases e with
  | mk k n ks => exact ⟨fun ⟨v, xs, T, h1, h2⟩ => ⟨v, h1, xs, T, h2⟩, fun ⟨v, h1, xs, T, h2⟩ => ⟨v, xs, T, h1, h2⟩⟩
theorem StmtO.iff (s : LStmt) (S : Nat → Prop) (cs : List Value) : StmtO w s S cs ↔ ∃ (iv vv bv ev : Value) (Si Sv Sb Se : Nat → Prop), cs = [.int .i64 s.kind, .int .i64 s.target, .int .i64 s.index.kind, .int .i64 s.index.value, iv, .int .i64 s.value.kind, .int .i64 s.value.value, vv, .int .i64 s.count, bv, ev] ∧
    ((∀ b, Si b → S b ∧ ¬ Sv b ∧ ¬ Sb b ∧ ¬ Se b) ∧ (∀ b, Sv b → S b ∧ ¬ Sb b ∧ ¬ Se b) ∧ (∀ b, Sb b → S b ∧ ¬ Se b) ∧ (∀ b, Se b → S b)) ∧ KidsO w iv s.index.kids Si ∧ KidsO w vv s.value.kids Sv ∧ BlockO w bv s.body Sb ∧ BlockO w ev s.els Se := by
  cases s with
  | mk k t i v c b e =>
    exact ⟨fun ⟨iv, vv, bv, ev, xb, xe, Si, Sv, Sb, Se, Sb', Se', h1, h2, h3, h4, h5, h6⟩ => ⟨iv, vv, bv, ev, Si, Sv, Sb, Se, h1, h2, h3, h4, ⟨xb, Sb', h5⟩, ⟨xe, Se', h6⟩⟩,
      fun ⟨iv, vv, bv, ev, Si, Sv, Sb, Se, h1, h2, h3, h4, ⟨xb, Sb', h5⟩, ⟨xe, Se', h6⟩⟩ => ⟨iv, vv, bv, ev, xb, xe, Si, Sv, Sb, Se, Sb', Se', h1, h2, h3, h4, h5, h6⟩⟩
end
end Go.Proofs.Ytgpkdfefgcpbiaa
