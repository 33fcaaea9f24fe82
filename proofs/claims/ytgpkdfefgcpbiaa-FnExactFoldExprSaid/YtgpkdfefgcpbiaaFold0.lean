/-
  Folding of expressions, as plain functions. No program in sight. Conditions: none.
-/
import Derived.Test.YtgpkdfefgcpbiaaValid0
namespace Go.Proofs.Ytgpkdfefgcpbiaa
set_option linter.unusedVariables false
set_option linter.unusedSimpArgs false

mutual
/-- As many operands as the kind has; constants are values. -/
def goodE : LExpr → Bool
  | ⟨k, n, ks⟩ => decide ((ks.length : Int) = arity k) && (decide (k ≠ 1) || (decide (0 ≤ n) && decide (n ≤ 255))) && goodEs ks
def goodEs : List LExpr → Bool
  | [] => true
  | e :: r => goodE e && goodEs r
end
theorem goodEs_iff (ks : List LExpr) : goodEs ks = true ↔ ∀ e ∈ ks, goodE e = true := by
  induction ks with
  | nil => simp [goodEs]
  | cons a r ih => simp [goodEs, ih]
theorem goodE_def (e : LExpr) : goodE e = (decide ((e.kids.length : Int) = arity e.kind) && (decide (e.kind ≠ 1) || (decide (0 ≤ e.value) && decide (e.value ≤ 255))) && goodEs e.kids) := by cases e; rfl
theorem goodE_len {e : LExpr} (h : goodE e = true) : (e.kids.length : Int) = arity e.kind := by rw [goodE_def] at h; simp at h; exact h.1.1
theorem goodE_val {e : LExpr} (h : goodE e = true) (hk : e.kind = 1) : 0 ≤ e.value ∧ e.value ≤ 255 := by rw [goodE_def] at h; simp [hk] at h; exact h.1.2
theorem goodE_kids {e : LExpr} (h : goodE e = true) : goodEs e.kids = true := by rw [goodE_def] at h; simp at h; exact h.2
theorem good_shape (nv na : Nat) : ∀ (d : Nat) (e : LExpr), shapeB nv na d e = true → goodE e = true := by
  intro d
  induction d with
  | zero => intro e h; simp [shapeB] at h
  | succ d ih =>
    intro e h
    simp only [shapeB, nodeB, Bool.and_eq_true, decide_eq_true_eq, List.all_eq_true] at h
    obtain ⟨⟨⟨⟨h1, h2⟩, h3⟩, h4⟩, h5⟩ := h
    rw [goodE_def]
    simp only [Bool.and_eq_true, Bool.or_eq_true, decide_eq_true_eq]
    refine ⟨⟨h1, ?_⟩, (goodEs_iff _).2 fun x hx => ih x (h4 x hx)⟩
    by_cases hk : e.kind = 1
    · right; rw [hk] at h3; simp [limit] at h3; omega
    · exact .inl hk
theorem arity_le (k : Int) : arity k ≤ 3 := by unfold arity; (repeat' split) <;> omega

mutual
/-- No array is read. -/
def quietE : LExpr → Bool
  | ⟨k, _, ks⟩ => decide (k ≠ 3) && quietEs ks
def quietEs : List LExpr → Bool
  | [] => true
  | e :: r => quietE e && quietEs r
end
theorem quietEs_all (ks : List LExpr) : quietEs ks = ks.all quietE := by
  induction ks with
  | nil => rfl
  | cons a r ih => simp [quietEs, ih]
theorem quietE_def (e : LExpr) : quietE e = (decide (e.kind ≠ 3) && e.kids.all quietE) := by cases e; simp only [quietE, quietEs_all]; rfl

def boolV (b : Bool) : Int := if b then 1 else 0
/-- What an operator gives. -/
def binV (k a b : Int) : Int :=
  if k = 4 then (a + b).tmod 256 else if k = 5 then (a - b + 256).tmod 256 else if k = 6 then (a * b).tmod 256
  else if k = 7 then ((a.toNat &&& b.toNat : Nat) : Int) else if k = 8 then ((a.toNat ^^^ b.toNat : Nat) : Int) else if k = 9 then boolV (decide (a = b)) else boolV (decide (a < b))
theorem boolV_bound (b : Bool) : 0 ≤ boolV b ∧ boolV b ≤ 255 := by cases b <;> simp [boolV]
theorem binV_bound {k a b : Int} (h1 : 0 ≤ a) (h2 : a ≤ 255) (h3 : 0 ≤ b) (h4 : b ≤ 255) : 0 ≤ binV k a b ∧ binV k a b ≤ 255 := by
  unfold binV
  have hm : 0 ≤ a * b := Int.mul_nonneg h1 h3
  have ha : a.toNat < 2 ^ 8 := by omega
  have hb : b.toNat < 2 ^ 8 := by omega
  have hand : a.toNat &&& b.toNat < 2 ^ 8 := Nat.and_lt_two_pow _ hb
  have hxor : a.toNat ^^^ b.toNat < 2 ^ 8 := Nat.xor_lt_two_pow ha hb
  split
  · rw [Int.tmod_eq_emod_of_nonneg (by omega)]; omega
  split
  · rw [Int.tmod_eq_emod_of_nonneg (by omega)]; omega
  split
  · rw [Int.tmod_eq_emod_of_nonneg hm]; omega
  split
  · omega
  split
  · omega
  split
  · exact boolV_bound _
  · exact boolV_bound _

def constE (n : Int) : LExpr := ⟨1, n, []⟩
def knownB (e : LExpr) (n : Int) : Bool := decide (e.kind = 1) && decide (e.value = n)
/-- An operator with simplified operands. -/
def nodeE (e : LExpr) : LExpr :=
  match e.kids with
  | [a, b] =>
    if a.kind = 1 ∧ b.kind = 1 then constE (binV e.kind a.value b.value)
    else if ((e.kind = 4 ∨ e.kind = 8) ∧ knownB a 0 = true) ∨ (e.kind = 6 ∧ knownB a 1 = true) then b
    else if ((e.kind = 4 ∨ e.kind = 8 ∨ e.kind = 5) ∧ knownB b 0 = true) ∨ (e.kind = 6 ∧ knownB b 1 = true) then a
    else e
  | [a, b, c] => if a.kind = 1 ∧ quietE b = true ∧ quietE c = true then (if a.value ≠ 0 then b else c) else e
  | _ => e
mutual
def foldE : LExpr → LExpr
  | ⟨k, n, ks⟩ => nodeE ⟨k, n, foldEs ks⟩
def foldEs : List LExpr → List LExpr
  | [] => []
  | e :: r => foldE e :: foldEs r
end
theorem foldEs_map (ks : List LExpr) : foldEs ks = ks.map foldE := by
  induction ks with
  | nil => rfl
  | cons a r ih => simp [foldEs, ih]
theorem foldE_def (e : LExpr) : foldE e = nodeE ⟨e.kind, e.value, e.kids.map foldE⟩ := by cases e; simp only [foldE, foldEs_map]; rfl

theorem node2 (k n : Int) (a b : LExpr) : nodeE ⟨k, n, [a, b]⟩ = (if a.kind = 1 ∧ b.kind = 1 then constE (binV k a.value b.value)
    else if ((k = 4 ∨ k = 8) ∧ knownB a 0 = true) ∨ (k = 6 ∧ knownB a 1 = true) then b
    else if ((k = 4 ∨ k = 8 ∨ k = 5) ∧ knownB b 0 = true) ∨ (k = 6 ∧ knownB b 1 = true) then a
    else ⟨k, n, [a, b]⟩) := rfl
theorem node3 (k n : Int) (a b c : LExpr) : nodeE ⟨k, n, [a, b, c]⟩ = (if a.kind = 1 ∧ quietE b = true ∧ quietE c = true then (if a.value ≠ 0 then b else c) else ⟨k, n, [a, b, c]⟩) := rfl
/-- What comes out of a node is it, an operand, or a constant. -/
theorem nodeE_cases : ∀ e : LExpr, nodeE e = e ∨ (nodeE e ∈ e.kids) ∨ ∃ a b : LExpr, a ∈ e.kids ∧ b ∈ e.kids ∧ a.kind = 1 ∧ b.kind = 1 ∧ nodeE e = constE (binV e.kind a.value b.value)
  | ⟨k, n, []⟩ => .inl rfl
  | ⟨k, n, [_]⟩ => .inl rfl
  | ⟨k, n, [a, b]⟩ => by
    rw [node2]
    show _ ∨ _ ∈ [a, b] ∨ _
    split
    · rename_i h; exact .inr (.inr ⟨a, b, List.mem_cons_self, List.mem_cons_of_mem _ List.mem_cons_self, h.1, h.2, rfl⟩)
    split
    · exact .inr (.inl (by simp))
    split
    · exact .inr (.inl (by simp))
    · exact .inl rfl
  | ⟨k, n, [a, b, c]⟩ => by
    rw [node3]
    show _ ∨ _ ∈ [a, b, c] ∨ _
    split
    · split
      · exact .inr (.inl (by simp))
      · exact .inr (.inl (by simp))
    · exact .inl rfl
  | ⟨k, n, _ :: _ :: _ :: _ :: _⟩ => .inl rfl
theorem nodeE_good {e : LExpr} (h : goodE e = true) : goodE (nodeE e) = true := by
  rcases nodeE_cases e with h1 | h1 | ⟨a, b, ha, hb, ka, kb, h1⟩
  · rw [h1]; exact h
  · exact (goodEs_iff _).1 (goodE_kids h) _ h1
  · rw [h1]
    have va := goodE_val ((goodEs_iff _).1 (goodE_kids h) _ ha) ka
    have vb := goodE_val ((goodEs_iff _).1 (goodE_kids h) _ hb) kb
    have := binV_bound (k := e.kind) va.1 va.2 vb.1 vb.2
    simp [constE, goodE, arity, goodEs, this]
theorem foldE_good (e : LExpr) : goodE e = true → goodE (foldE e) = true := by
  refine LExpr.ind (P := fun e => goodE e = true → goodE (foldE e) = true) (fun k n ks ih h => ?_) e
  rw [foldE_def]
  refine nodeE_good ?_
  rw [goodE_def] at h ⊢
  simp only [LExpr.kids, LExpr.kind, LExpr.value, List.length_map, Bool.and_eq_true] at h ⊢
  refine ⟨h.1, (goodEs_iff _).2 fun x hx => ?_⟩
  obtain ⟨y, hy, rfl⟩ := List.mem_map.1 hx
  exact ih y hy ((goodEs_iff _).1 h.2 y hy)
theorem nodeE_sz (e : LExpr) : szE (nodeE e) ≤ szE e := by
  rcases nodeE_cases e with h1 | h1 | ⟨a, b, ha, hb, ka, kb, h1⟩
  · rw [h1]; exact Nat.le_refl _
  · rw [szE_kids e]; exact Nat.le_of_lt (szE_mem h1)
  · rw [h1]; simp [constE, szE, szEs]
theorem foldE_sz (e : LExpr) : szE (foldE e) ≤ szE e := by
  refine LExpr.ind (P := fun e => szE (foldE e) ≤ szE e) (fun k n ks ih => ?_) e
  rw [foldE_def]
  refine Nat.le_trans (nodeE_sz _) ?_
  rw [szE_kids, szE_kids]
  simp only [LExpr.kids]
  clear k n
  induction ks with
  | nil => simp
  | cons a r ihr =>
    simp only [List.map_cons, szEs]
    have h1 := ih a List.mem_cons_self
    have h2 := ihr fun e he => ih e (List.mem_cons_of_mem _ he)
    omega

end Go.Proofs.Ytgpkdfefgcpbiaa
