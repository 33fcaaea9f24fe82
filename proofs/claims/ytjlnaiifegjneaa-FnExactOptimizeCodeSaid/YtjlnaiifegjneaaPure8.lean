/-
  Threading of jumps: the final target. No program in sight. Conditions: none.
-/
import Derived.Test.YtjlnaiifegjneaaPure4
namespace Go.Proofs.Ytjlnaiifegjneaa

def isJ (c : LCode) (x : Int) : Bool := decide ((insAt c x.toNat).op = 8)
def chase (c : LCode) : Nat → Int → Int
  | 0, x => x
  | k + 1, x => if isJ c x = true then chase c k (insAt c x.toNat).a else x
def finalT (c : LCode) (t : Int) : Int := if isJ c (chase c c.list.length t) = true then t else chase c c.list.length t
theorem chase_step {c : LCode} {k : Nat} {x : Int} (h : isJ c x = true) : chase c (k + 1) x = chase c k (insAt c x.toNat).a := by rw [chase, if_pos h]
theorem chase_stop {c : LCode} {x : Int} (h : isJ c x = false) : ∀ k, chase c k x = x
  | 0 => rfl
  | k + 1 => by rw [chase, if_neg (by rw [h]; simp)]
def aimF (x : LIns) (t : Int) : LIns := if x.op = 8 then { x with a := t } else if x.op = 9 ∨ x.op = 10 then { x with b := t } else x
def thrI (c : LCode) (x : LIns) : LIns := if 0 ≤ tgtOf x then aimF x (finalT c (tgtOf x)) else x
def thrF (c : LCode) : LCode := { c with list := c.list.map (thrI c) }
theorem tgt_range {c : LCode} {x : LIns} (h : insOk c x = true) (h0 : 0 ≤ tgtOf x) : tgtOf x < c.list.length := by
  by_cases ho : x.op = 8 ∨ x.op = 9 ∨ x.op = 10
  · exact (tgt_ok h ho).2
  · unfold tgtOf at h0
    rw [if_neg (by omega), if_neg (by omega)] at h0
    omega
/-- A place in code. -/
def placeOk (c : LCode) (x : Int) : Prop := 0 ≤ x ∧ x < c.list.length
theorem jump_ok {c : LCode} (h : codeOk c = true) {x : Int} (hx : placeOk c x) (hj : isJ c x = true) : placeOk c (insAt c x.toNat).a := by
  have hl : x.toNat < c.list.length := by have := hx.1; have := hx.2; omega
  have hi := (codeOk_parts h).2.2.2.1 x.toNat hl
  unfold isJ at hj
  rw [decide_eq_true_eq] at hj
  rw [insAt_get hl] at hj ⊢
  have := tgt_ok hi (.inl hj)
  unfold tgtOf at this
  rw [if_pos hj] at this
  exact this

end Go.Proofs.Ytjlnaiifegjneaa
