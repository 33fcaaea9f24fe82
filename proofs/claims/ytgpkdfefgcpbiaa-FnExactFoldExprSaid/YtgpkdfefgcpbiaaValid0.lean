/-
  When expressions and programs are valid, by the reference's and by the program's words. No program in sight. Conditions: none.
-/
import Derived.Test.YtgpkdfefgcpbiaaTree0
import Derived.Test.YtgpkdfefgcpbiaaPure1
namespace Go.Proofs.Ytgpkdfefgcpbiaa
set_option linter.unusedVariables false
set_option linter.unusedSimpArgs false

def arity (k : Int) : Int := if k = 1 ∨ k = 2 then 0 else if k = 3 then 1 else if 4 ≤ k ∧ k ≤ 10 then 2 else if k = 11 then 3 else -1
def limit (nv na : Nat) (k : Int) : Int := if k = 1 then 256 else if k = 2 then nv else if k = 3 then na else 1
def atomB (e : LExpr) : Bool := decide (e.kind = 1) || decide (e.kind = 2)
/-- What is asked of a node itself. -/
def nodeB (nv na : Nat) (e : LExpr) : Bool := decide ((e.kids.length : Int) = arity e.kind) && decide (0 ≤ e.value) && decide (e.value < limit nv na e.kind)
def readB (e : LExpr) : Bool := decide (e.kind ≠ 3) || (match e.kids with | k :: _ => atomB k | [] => false)
def shapeB (nv na : Nat) : Nat → LExpr → Bool
  | 0, _ => false
  | d + 1, e => nodeB nv na e && e.kids.all (shapeB nv na d) && readB e
def cntE : Nat → LExpr → Nat
  | 0, _ => 1
  | d + 1, e => 1 + (e.kids.map (cntE d)).sum
/-- An expression is valid. -/
def rightB (nv na : Nat) (e : LExpr) : Bool := shapeB nv na 5 e && decide (1 + szE e ≤ 15)
theorem szE_kids (e : LExpr) : szE e = szEs e.kids := by cases e; rfl
theorem cnt_full (nv na : Nat) : ∀ (d : Nat) (e : LExpr), shapeB nv na d e = true → cntE d e = 1 + szE e := by
  intro d
  induction d with
  | zero => intro e h; simp [shapeB] at h
  | succ d ih =>
    intro e h
    simp only [shapeB, Bool.and_eq_true, List.all_eq_true] at h
    rw [cntE, szE_kids]
    have key : ∀ ks : List LExpr, (∀ e ∈ ks, shapeB nv na d e = true) → (ks.map (cntE d)).sum = szEs ks := by
      intro ks
      induction ks with
      | nil => intro _; rfl
      | cons a r ihr => intro hk; rw [List.map_cons, List.sum_cons, szEs, ihr fun e he => hk e (List.mem_cons_of_mem _ he), ih a (hk a List.mem_cons_self)]
    rw [key _ h.1.2]
theorem right_spec (nv na : Nat) (e : LExpr) : rightB nv na e = (shapeB nv na 5 e && decide (cntE 5 e ≤ 15)) := by
  unfold rightB
  cases h : shapeB nv na 5 e
  · rfl
  · rw [cnt_full nv na 5 e h]

/-- The program's search: how many nodes there are then, if all is well. -/
def scanB (nv na : Nat) (d c : Nat) (e : LExpr) : Bool := shapeB nv na d e && decide (c + 1 + szE e ≤ 15)
/-- Some of the operands looked at. -/
def scanPre (nv na : Nat) (d c : Nat) (ks : List LExpr) (k : Nat) : Bool := (ks.take k).all (shapeB nv na d) && decide (c + szEs (ks.take k) ≤ 15)
theorem szEs_take {ks : List LExpr} {k : Nat} (h : k < ks.length) : szEs (ks.take (k + 1)) = szEs (ks.take k) + (1 + szE ks[k]) := by
  rw [p_take_succ _ _ h, szEs_append]
  simp [szEs]
theorem szEs_take_le (ks : List LExpr) (k : Nat) : szEs (ks.take k) ≤ szEs ks := by
  have := szEs_append (ks.take k) (ks.drop k)
  rw [List.take_append_drop] at this
  omega
theorem scanPre_succ (nv na : Nat) {d c : Nat} {ks : List LExpr} {k : Nat} (h : k < ks.length) : scanPre nv na d c ks (k + 1) = (scanPre nv na d c ks k && scanB nv na d (c + szEs (ks.take k)) ks[k]) := by
  unfold scanPre scanB
  rw [szEs_take h, p_take_succ _ _ h, List.all_append]
  simp only [List.all_cons, List.all_nil, Bool.and_true]
  rw [Bool.eq_iff_iff]
  simp only [Bool.and_eq_true, decide_eq_true_eq]
  constructor
  · rintro ⟨⟨h1, h2⟩, h3⟩; exact ⟨⟨h1, by omega⟩, h2, by omega⟩
  · rintro ⟨⟨h1, _⟩, h3, h4⟩; exact ⟨⟨h1, h3⟩, by omega⟩
theorem scanPre_fail (nv na : Nat) {d c : Nat} {ks : List LExpr} {k : Nat} (h : k < ks.length) (hs : scanB nv na d (c + szEs (ks.take k)) ks[k] = false) : (ks.all (shapeB nv na d) && decide (c + szEs ks ≤ 15)) = false := by
  rw [Bool.eq_false_iff]
  intro ht
  simp only [Bool.and_eq_true, decide_eq_true_eq, List.all_eq_true] at ht
  have h1 := ht.1 _ (List.getElem_mem h)
  have h2 := szEs_take_le ks (k + 1)
  rw [szEs_take h] at h2
  unfold scanB at hs
  rw [h1] at hs
  simp at hs
  omega

def noneB (e : LExpr) : Bool := decide (e.kind = 0) && decide (e.value = 0) && decide (e.kids.length = 0)

/-- What is asked of a statement's fields that its kind does not have. -/
def partsB (s : LStmt) : Bool :=
  if (s.kind = 3 ∨ s.kind = 4) then
    decide (s.target = 0) && (if s.kind = 4 then decide (s.els.length = 0) && decide (1 ≤ s.count) && decide (s.count ≤ 3) && noneB s.index && noneB s.value
      else decide (s.count = 0) && noneB s.index)
  else decide (s.body.length = 0) && decide (s.els.length = 0) && decide (s.count = 0) && (decide (s.kind = 2) || noneB s.index)
def stmtB (nv na : Nat) : Nat → LStmt → Bool
  | 0, _ => false
  | d + 1, s => partsB s &&
    (if s.kind = 1 ∨ s.kind = 5 then decide (0 ≤ s.target) && decide (s.target < nv) && rightB nv na s.value
     else if s.kind = 2 then decide (0 ≤ s.target) && decide (s.target < na) && rightB nv na s.index && atomB s.index && rightB nv na s.value
     else if s.kind = 3 then rightB nv na s.value && s.body.all (stmtB nv na d) && s.els.all (stmtB nv na d)
     else if s.kind = 4 then s.body.all (stmtB nv na d)
     else false)
def blockB (nv na : Nat) (d : Nat) (ss : List LStmt) : Bool := ss.all (stmtB nv na d)
mutual
/-- How many statements there are. -/
def nS : LStmt → Nat
  | ⟨_, _, _, _, _, b, e⟩ => 1 + nSs b + nSs e
def nSs : List LStmt → Nat
  | [] => 0
  | s :: r => nS s + nSs r
end
/-- A program is valid. -/
def progB (p : LProg) : Bool := headsB p.vars p.arrays && blockB p.vars.length p.arrays.length 5 p.body && decide (nSs p.body ≤ 60)

end Go.Proofs.Ytgpkdfefgcpbiaa
