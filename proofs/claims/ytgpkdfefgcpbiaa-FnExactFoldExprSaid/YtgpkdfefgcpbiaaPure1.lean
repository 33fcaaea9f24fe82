/-
  When code is valid, by the reference's and by the program's words. No program in sight. Conditions: none.
-/
import Derived.Test.YtgpkdfefgcpbiaaPure0
namespace Go.Proofs.Ytgpkdfefgcpbiaa
set_option linter.unusedVariables false
set_option linter.unusedSimpArgs false

def labOk (l : Int) : Bool := decide (0 ≤ l) && decide (l ≤ 3)
def headsB (vars arrays : List Int) : Bool := vars.all labOk && arrays.all labOk && decide (1 ≤ vars.length) && decide (vars.length ≤ 12) && decide (arrays.length ≤ 2)

/-- What a field of an instruction may be, by the reference's letter for it. -/
def rangeOk (c : LCode) (kd : UInt8) (n : Int) : Bool :=
  if kd = 114 then decide (0 ≤ n) && decide (n < 14)
  else if kd = 99 then decide (0 ≤ n) && decide (n ≤ 255)
  else if kd = 118 then decide (0 ≤ n) && decide (n < c.vars.length)
  else if kd = 97 then decide (0 ≤ n) && decide (n < c.arrays.length)
  else if kd = 111 then decide (4 ≤ n) && decide (n ≤ 10)
  else decide (0 ≤ n) && decide (n < c.list.length)

/-- The letters of an operation's fields. -/
def fldStr (op : Int) : List UInt8 :=
  if op = 1 then [114, 99] else if op = 2 then [114, 118] else if op = 3 then [118, 114] else if op = 4 then [114, 97, 114] else if op = 5 then [97, 114, 114]
  else if op = 6 then [114, 111, 114, 114] else if op = 7 then [114, 114, 114, 114] else if op = 8 then [116] else if op = 9 then [114, 116] else if op = 10 then [114, 116]
  else if op = 11 then [114] else []

/-- A field against its letter; 0 where there is none. -/
def partOk (c : LCode) (kinds : List UInt8) (k : Nat) (n : Int) : Bool :=
  match kinds[k]? with
  | some kd => rangeOk c kd n
  | none => decide (n = 0)

def insOk (c : LCode) (x : LIns) : Bool :=
  decide (1 ≤ x.op) && decide (x.op ≤ 13) && (partOk c (fldStr x.op) 0 x.a && partOk c (fldStr x.op) 1 x.b && partOk c (fldStr x.op) 2 x.c && partOk c (fldStr x.op) 3 x.d)

def lastOk (c : LCode) : Bool := match c.list.getLast? with | some x => decide (x.op = 13) || decide (x.op = 8) | none => false
def codeOk (c : LCode) : Bool := headsB c.vars c.arrays && decide (1 ≤ c.list.length) && decide (c.list.length ≤ 400) && c.list.all (insOk c) && lastOk c


theorem fldStr_len (op : Int) : (fldStr op).length ≤ 4 := by
  have key : ∀ (c : Prop) [Decidable c] (a b : List UInt8), a.length ≤ 4 → b.length ≤ 4 → (if c then a else b).length ≤ 4 := fun c _ a b h1 h2 => by split <;> assumption
  unfold fldStr
  repeat' (apply key)
  all_goals decide

/-- The first k fields are as they may be. -/
def preOk (c : LCode) (kinds : List UInt8) (parts : List Int) (k : Nat) : Bool := (List.range k).all fun j => partOk c kinds j (parts.getD j 0)
theorem preOk_succ (c : LCode) (kinds : List UInt8) (parts : List Int) (k : Nat) : preOk c kinds parts (k + 1) = (preOk c kinds parts k && partOk c kinds k (parts.getD k 0)) := by
  simp [preOk, List.range_succ]
theorem preOk_four (c : LCode) (kinds : List UInt8) (x : LIns) : preOk c kinds [x.a, x.b, x.c, x.d] 4 = (partOk c kinds 0 x.a && partOk c kinds 1 x.b && partOk c kinds 2 x.c && partOk c kinds 3 x.d) := by
  show preOk c kinds _ (0 + 1 + 1 + 1 + 1) = _
  simp only [preOk_succ]
  simp [preOk]
theorem preOk_mono {c : LCode} {kinds : List UInt8} {parts : List Int} {k : Nat} (n : Nat) (hk : k < n) (h : partOk c kinds k (parts.getD k 0) = false) : preOk c kinds parts n = false := by
  unfold preOk
  rw [List.all_eq_false]
  exact ⟨k, by simpa using hk, by simpa using h⟩


/-- The program's letters. -/
def rangeOk2 (c : LCode) (kd : UInt8) (n : Int) : Bool :=
  if kd = 114 then decide (0 ≤ n) && decide (n ≤ 13)
  else if kd = 118 then decide (0 ≤ n) && decide (n ≤ (c.vars.length : Int) - 1)
  else if kd = 97 then decide (0 ≤ n) && decide (n ≤ (c.arrays.length : Int) - 1)
  else if kd = 110 then decide (0 ≤ n) && decide (n ≤ 255)
  else if kd = 111 then decide (4 ≤ n) && decide (n ≤ 10)
  else if kd = 105 then decide (0 ≤ n) && decide (n ≤ (c.list.length : Int) - 1)
  else decide (n = 0)
def shpStr (op : Int) : List UInt8 :=
  if op = 1 then [114, 110, 45, 45] else if op = 2 then [114, 118, 45, 45] else if op = 3 then [118, 114, 45, 45] else if op = 4 then [114, 97, 114, 45] else if op = 5 then [97, 114, 114, 45]
  else if op = 6 then [114, 111, 114, 114] else if op = 7 then [114, 114, 114, 114] else if op = 8 then [105, 45, 45, 45] else if op = 9 then [114, 105, 45, 45] else if op = 10 then [114, 105, 45, 45]
  else if op = 11 then [114, 45, 45, 45] else if op = 12 then [45, 45, 45, 45] else if op = 13 then [45, 45, 45, 45] else []

def pre2 (c : LCode) (kinds : List UInt8) (parts : List Int) (k : Nat) : Bool := (List.range k).all fun j => rangeOk2 c (kinds.getD j 0) (parts.getD j 0)
theorem pre2_succ (c : LCode) (kinds : List UInt8) (parts : List Int) (k : Nat) : pre2 c kinds parts (k + 1) = (pre2 c kinds parts k && rangeOk2 c (kinds.getD k 0) (parts.getD k 0)) := by
  simp [pre2, List.range_succ]
theorem pre2_mono {c : LCode} {kinds : List UInt8} {parts : List Int} {k : Nat} (n : Nat) (hk : k < n) (h : rangeOk2 c (kinds.getD k 0) (parts.getD k 0) = false) : pre2 c kinds parts n = false := by
  unfold pre2
  rw [List.all_eq_false]
  exact ⟨k, by simpa using hk, by simpa using h⟩
theorem shp_empty {op : Int} (h : ¬ (1 ≤ op ∧ op ≤ 13)) : shpStr op = [] := by
  unfold shpStr
  repeat (rw [if_neg (by omega)])
theorem shp_len {op : Int} (h : 1 ≤ op ∧ op ≤ 13) : (shpStr op).length = 4 := by
  have h' : op = 1 ∨ op = 2 ∨ op = 3 ∨ op = 4 ∨ op = 5 ∨ op = 6 ∨ op = 7 ∨ op = 8 ∨ op = 9 ∨ op = 10 ∨ op = 11 ∨ op = 12 ∨ op = 13 := by omega
  rcases h' with rfl | rfl | rfl | rfl | rfl | rfl | rfl | rfl | rfl | rfl | rfl | rfl | rfl <;> rfl
theorem insOk_pre2 (c : LCode) (x : LIns) (h : 1 ≤ x.op ∧ x.op ≤ 13) : insOk c x = pre2 c (shpStr x.op) [x.a, x.b, x.c, x.d] 4 := by
  have e : pre2 c (shpStr x.op) [x.a, x.b, x.c, x.d] 4 = (rangeOk2 c ((shpStr x.op).getD 0 0) x.a && rangeOk2 c ((shpStr x.op).getD 1 0) x.b && rangeOk2 c ((shpStr x.op).getD 2 0) x.c && rangeOk2 c ((shpStr x.op).getD 3 0) x.d) := by
    show pre2 c _ _ (0 + 1 + 1 + 1 + 1) = _
    simp only [pre2_succ]
    simp [pre2]
  rw [e]
  unfold insOk
  rw [decide_eq_true h.1, decide_eq_true h.2]
  have h' : x.op = 1 ∨ x.op = 2 ∨ x.op = 3 ∨ x.op = 4 ∨ x.op = 5 ∨ x.op = 6 ∨ x.op = 7 ∨ x.op = 8 ∨ x.op = 9 ∨ x.op = 10 ∨ x.op = 11 ∨ x.op = 12 ∨ x.op = 13 := by omega
  rcases h' with h' | h' | h' | h' | h' | h' | h' | h' | h' | h' | h' | h' | h' <;>
  · rw [h', Bool.eq_iff_iff]
    simp [fldStr, shpStr, partOk, rangeOk, rangeOk2]
    try omega

end Go.Proofs.Ytgpkdfefgcpbiaa
