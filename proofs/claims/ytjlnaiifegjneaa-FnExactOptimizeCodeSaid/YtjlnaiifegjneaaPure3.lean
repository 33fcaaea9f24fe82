/-
  Taint: a row behind an instruction; what an instruction with a row amounts to. No program in sight. Conditions: none.
-/
import Derived.Test.YtjlnaiifegjneaaPure2
namespace Go.Proofs.Ytjlnaiifegjneaa

def secB (l : Int) : Bool := labOk l && decide (l = 1 ∨ l = 3)
def bAt (t : List Bool) (k : Int) : Bool := t.getD k.toNat false
def iAt (t : List Int) (k : Int) : Int := t.getD k.toNat 0

/-- The bit that an instruction writes, if it writes one. -/
def afterBit (c : LCode) (x : LIns) (t : List Bool) : Option Bool :=
  if x.op = 1 ∨ x.op = 11 then some false
  else if x.op = 2 then some (secB (iAt c.vars x.b))
  else if x.op = 4 then some (secB (iAt c.arrays x.b) || bAt t x.c)
  else if x.op = 6 then some (bAt t x.c || bAt t x.d)
  else if x.op = 7 then some (bAt t x.b || bAt t x.c || bAt t x.d)
  else none
def afterF (c : LCode) (x : LIns) (t : List Bool) : List Bool := match afterBit c x t with | some b => t.set x.a.toNat b | none => t
theorem afterF_len (c : LCode) (x : LIns) (t : List Bool) : (afterF c x t).length = t.length := by unfold afterF; split <;> simp

def ownF (c : LCode) (x : LIns) (t : List Bool) : Int :=
  if x.op = 3 then (if bAt t x.b && !secB (iAt c.vars x.a) then 1 else 0)
  else if x.op = 4 then (if bAt t x.c then 4 else 0)
  else if x.op = 5 then (if bAt t x.b then 4 else if bAt t x.c && !secB (iAt c.arrays x.a) then 1 else 0)
  else if x.op = 9 ∨ x.op = 10 then (if bAt t x.a then 3 else 0)
  else 0

/-- t is covered by the row. -/
def covF (t row : List Bool) : Bool := decide (0 < row.length) && (List.range t.length).all fun k => !(t.getD k false && !row.getD k false)

/-- The fields of a valid instruction, by operation. -/
theorem ins_fields {c : LCode} {x : LIns} (h : insOk c x = true) :
    (x.op = 1 → 0 ≤ x.a ∧ x.a < 14) ∧ (x.op = 11 → 0 ≤ x.a ∧ x.a < 14) ∧
    (x.op = 2 → (0 ≤ x.a ∧ x.a < 14) ∧ 0 ≤ x.b ∧ x.b < c.vars.length) ∧
    (x.op = 3 → (0 ≤ x.a ∧ x.a < c.vars.length) ∧ 0 ≤ x.b ∧ x.b < 14) ∧
    (x.op = 4 → (0 ≤ x.a ∧ x.a < 14) ∧ (0 ≤ x.b ∧ x.b < c.arrays.length) ∧ 0 ≤ x.c ∧ x.c < 14) ∧
    (x.op = 5 → (0 ≤ x.a ∧ x.a < c.arrays.length) ∧ (0 ≤ x.b ∧ x.b < 14) ∧ 0 ≤ x.c ∧ x.c < 14) ∧
    (x.op = 6 → (0 ≤ x.a ∧ x.a < 14) ∧ (0 ≤ x.c ∧ x.c < 14) ∧ 0 ≤ x.d ∧ x.d < 14) ∧
    (x.op = 7 → (0 ≤ x.a ∧ x.a < 14) ∧ (0 ≤ x.b ∧ x.b < 14) ∧ (0 ≤ x.c ∧ x.c < 14) ∧ 0 ≤ x.d ∧ x.d < 14) ∧
    (x.op = 9 → 0 ≤ x.a ∧ x.a < 14) ∧ (x.op = 10 → 0 ≤ x.a ∧ x.a < 14) := by
  unfold insOk at h
  simp only [Bool.and_eq_true, decide_eq_true_eq] at h
  obtain ⟨_, ⟨⟨ha, hb⟩, hc⟩, hd⟩ := h
  refine ⟨fun e => ?_, fun e => ?_, fun e => ?_, fun e => ?_, fun e => ?_, fun e => ?_, fun e => ?_, fun e => ?_, fun e => ?_, fun e => ?_⟩
  all_goals
    rw [e] at ha hb hc hd
    simp [fldStr, partOk, rangeOk] at ha hb hc hd
    omega

end Go.Proofs.Ytjlnaiifegjneaa
