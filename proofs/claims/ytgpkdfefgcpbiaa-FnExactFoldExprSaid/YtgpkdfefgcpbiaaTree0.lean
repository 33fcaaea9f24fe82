/-
  Expressions, statements and programs as plain data. No program in sight. Conditions: none.
-/
namespace Go.Proofs.Ytgpkdfefgcpbiaa
set_option linter.unusedVariables false
set_option linter.unusedSimpArgs false

inductive LExpr where
  | mk (kind value : Int) (kids : List LExpr)
def LExpr.kind : LExpr → Int | ⟨k, _, _⟩ => k
def LExpr.value : LExpr → Int | ⟨_, n, _⟩ => n
def LExpr.kids : LExpr → List LExpr | ⟨_, _, ks⟩ => ks
inductive LStmt where
  | mk (kind target : Int) (index value : LExpr) (count : Int) (body els : List LStmt)
def LStmt.kind : LStmt → Int | ⟨k, _, _, _, _, _, _⟩ => k
def LStmt.target : LStmt → Int | ⟨_, t, _, _, _, _, _⟩ => t
def LStmt.index : LStmt → LExpr | ⟨_, _, i, _, _, _, _⟩ => i
def LStmt.value : LStmt → LExpr | ⟨_, _, _, v, _, _, _⟩ => v
def LStmt.count : LStmt → Int | ⟨_, _, _, _, c, _, _⟩ => c
def LStmt.body : LStmt → List LStmt | ⟨_, _, _, _, _, b, _⟩ => b
def LStmt.els : LStmt → List LStmt | ⟨_, _, _, _, _, _, e⟩ => e
structure LProg where
  vars : List Int
  arrays : List Int
  body : List LStmt

mutual
theorem LExpr.ind {P : LExpr → Prop} (h : ∀ k n ks, (∀ e ∈ ks, P e) → P ⟨k, n, ks⟩) : ∀ e : LExpr, P e
  | ⟨k, n, ks⟩ => h k n ks (LExpr.indL h ks)
theorem LExpr.indL {P : LExpr → Prop} (h : ∀ k n ks, (∀ e ∈ ks, P e) → P ⟨k, n, ks⟩) : ∀ ks : List LExpr, ∀ e ∈ ks, P e
  | [] => fun _ hm => by cases hm
  | a :: r => fun _ hm => (List.mem_cons.1 hm).elim (fun he => he ▸ LExpr.ind h a) fun hm => LExpr.indL h r _ hm
end
mutual
theorem LStmt.ind {P : LStmt → Prop} (h : ∀ k t i v c b e, (∀ s ∈ b, P s) → (∀ s ∈ e, P s) → P ⟨k, t, i, v, c, b, e⟩) : ∀ s : LStmt, P s
  | ⟨k, t, i, v, c, b, e⟩ => h k t i v c b e (LStmt.indL h b) (LStmt.indL h e)
theorem LStmt.indL {P : LStmt → Prop} (h : ∀ k t i v c b e, (∀ s ∈ b, P s) → (∀ s ∈ e, P s) → P ⟨k, t, i, v, c, b, e⟩) : ∀ ss : List LStmt, ∀ s ∈ ss, P s
  | [] => fun _ hm => by cases hm
  | a :: r => fun _ hm => (List.mem_cons.1 hm).elim (fun he => he ▸ LStmt.ind h a) fun hm => LStmt.indL h r _ hm
end

/-! How much a tree takes. -/
mutual
def szE : LExpr → Nat
  | ⟨_, _, ks⟩ => szEs ks
def szEs : List LExpr → Nat
  | [] => 0
  | e :: r => 1 + szE e + szEs r
end
mutual
def szS : LStmt → Nat
  | ⟨_, _, i, v, _, b, e⟩ => szE i + szE v + szSs b + szSs e
def szSs : List LStmt → Nat
  | [] => 0
  | s :: r => 1 + szS s + szSs r
end
def LProg.size (p : LProg) : Nat := p.vars.length + p.arrays.length + szSs p.body
theorem szEs_append (a b : List LExpr) : szEs (a ++ b) = szEs a + szEs b := by
  induction a with
  | nil => simp [szEs]
  | cons x r ih => simp [szEs, ih]; omega
theorem szSs_append (a b : List LStmt) : szSs (a ++ b) = szSs a + szSs b := by
  induction a with
  | nil => simp [szSs]
  | cons x r ih => simp [szSs, ih]; omega
theorem szEs_len (a : List LExpr) : a.length ≤ szEs a := by
  induction a with
  | nil => simp
  | cons x r ih => simp only [szEs, List.length_cons]; omega
theorem szSs_len (a : List LStmt) : a.length ≤ szSs a := by
  induction a with
  | nil => simp
  | cons x r ih => simp only [szSs, List.length_cons]; omega
theorem szE_mem {e : LExpr} {ks : List LExpr} (h : e ∈ ks) : szE e < szEs ks := by
  induction ks with
  | nil => cases h
  | cons x r ih =>
    simp only [szEs]
    rcases List.mem_cons.1 h with rfl | h
    · omega
    · have := ih h; omega
theorem szS_mem {s : LStmt} {ss : List LStmt} (h : s ∈ ss) : szS s < szSs ss := by
  induction ss with
  | nil => cases h
  | cons x r ih =>
    simp only [szSs]
    rcases List.mem_cons.1 h with rfl | h
    · omega
    · have := ih h; omega

/-! Two trees are one. -/
mutual
def sameE : LExpr → LExpr → Bool
  | ⟨k, n, ks⟩, ⟨k', n', ks'⟩ => decide (k = k') && decide (n = n') && sameEs ks ks'
def sameEs : List LExpr → List LExpr → Bool
  | [], [] => true
  | e :: r, e' :: r' => sameE e e' && sameEs r r'
  | _, _ => false
end
mutual
def sameS : LStmt → LStmt → Bool
  | ⟨k, t, i, v, c, b, e⟩, ⟨k', t', i', v', c', b', e'⟩ => decide (k = k') && decide (t = t') && sameE i i' && sameE v v' && decide (c = c') && sameSs b b' && sameSs e e'
def sameSs : List LStmt → List LStmt → Bool
  | [], [] => true
  | s :: r, s' :: r' => sameS s s' && sameSs r r'
  | _, _ => false
end
mutual
theorem sameE_eq : ∀ (a b : LExpr), sameE a b = true ↔ a = b
  | ⟨k, n, ks⟩, ⟨k', n', ks'⟩ => by
    simp only [sameE, Bool.and_eq_true, decide_eq_true_eq, LExpr.mk.injEq, sameEs_eq ks ks', and_assoc]
theorem sameEs_eq : ∀ (a b : List LExpr), sameEs a b = true ↔ a = b
  | [], [] => by simp [sameEs]
  | [], _ :: _ => by simp [sameEs]
  | _ :: _, [] => by simp [sameEs]
  | e :: r, e' :: r' => by simp only [sameEs, Bool.and_eq_true, List.cons.injEq, sameE_eq e e', sameEs_eq r r']
end
mutual
theorem sameS_eq : ∀ (a b : LStmt), sameS a b = true ↔ a = b
  | ⟨k, t, i, v, c, b, e⟩, ⟨k', t', i', v', c', b', e'⟩ => by
    simp only [sameS, Bool.and_eq_true, decide_eq_true_eq, LStmt.mk.injEq, sameE_eq i i', sameE_eq v v', sameSs_eq b b', sameSs_eq e e', and_assoc]
theorem sameSs_eq : ∀ (a b : List LStmt), sameSs a b = true ↔ a = b
  | [], [] => by simp [sameSs]
  | [], _ :: _ => by simp [sameSs]
  | _ :: _, [] => by simp [sameSs]
  | e :: r, e' :: r' => by simp only [sameSs, Bool.and_eq_true, List.cons.injEq, sameS_eq e e', sameSs_eq r r']
end
def LProg.same (p q : LProg) : Bool := decide (p.vars = q.vars) && decide (p.arrays = q.arrays) && sameSs p.body q.body
theorem LProg.same_eq {p q : LProg} : p.same q = true ↔ p = q := by
  cases p; cases q
  simp only [LProg.same, Bool.and_eq_true, decide_eq_true_eq, LProg.mk.injEq, sameSs_eq, and_assoc]
theorem sameEs_len {a b : List LExpr} (h : a.length ≠ b.length) : sameEs a b = false := by
  cases hs : sameEs a b
  · rfl
  · exact absurd (congrArg List.length ((sameEs_eq a b).1 hs)) h
theorem sameSs_len {a b : List LStmt} (h : a.length ≠ b.length) : sameSs a b = false := by
  cases hs : sameSs a b
  · rfl
  · exact absurd (congrArg List.length ((sameSs_eq a b).1 hs)) h

/-! Marks on a tree: every int of it, one behind the other. -/
mutual
def mkE : LExpr → Int → LExpr
  | ⟨_, _, ks⟩, k => ⟨k, k + 1, mkEs ks (k + 2)⟩
def mkEs : List LExpr → Int → List LExpr
  | [], _ => []
  | e :: r, k => mkE e k :: mkEs r (k + 2 + 2 * szE e)
end
mutual
def mkS : LStmt → Int → LStmt
  | ⟨_, _, i, v, _, b, e⟩, k => ⟨k, k + 1, mkE i (k + 2), mkE v (k + 4 + 2 * szE i), k + 6 + 2 * szE i + 2 * szE v, mkSs b (k + 7 + 2 * szE i + 2 * szE v), mkSs e (k + 7 + 2 * szE i + 2 * szE v + mkN b)⟩
def mkSs : List LStmt → Int → List LStmt
  | [], _ => []
  | s :: r, k => mkS s k :: mkSs r (k + mkN1 s)
/-- How many marks. -/
def mkN1 : LStmt → Int
  | ⟨_, _, i, v, _, b, e⟩ => 7 + 2 * szE i + 2 * szE v + mkN b + mkN e
def mkN : List LStmt → Int
  | [] => 0
  | s :: r => mkN1 s + mkN r
end

end Go.Proofs.Ytgpkdfefgcpbiaa
