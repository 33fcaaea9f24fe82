/-
  Trimming of code: what is kept, where it then stands, the list on its way. No program in sight. Conditions: none.
-/
import Derived.Test.YtjlnaiifegjneaaPure9
namespace Go.Proofs.Ytjlnaiifegjneaa

/-- A jump to the next instruction. -/
def hopB (c : LCode) (i : Nat) : Bool := decide ((insAt c i).op = 8) && decide ((insAt c i).a = (i : Int) + 1)
noncomputable def keepB (c : LCode) (i : Nat) : Bool := (reachB c).getD i false && !hopB c i
noncomputable def keepL (c : LCode) : List Bool := (List.range c.list.length).map (keepB c)
theorem reachB_len (c : LCode) : (reachB c).length = c.list.length := by simp [reachB]
theorem keepL_len (c : LCode) : (keepL c).length = c.list.length := by simp [keepL]
theorem keepL_get (c : LCode) (i : Nat) (h : i < c.list.length) : (keepL c).getD i false = keepB c i := by simp [keepL, h]
/-- The reference's row on its way: the first k looked at. -/
noncomputable def keepMix (c : LCode) (k : Nat) : List Bool := (List.range c.list.length).map fun i => (reachB c).getD i false && !(decide (i < k) && hopB c i)
theorem keepMix_len (c : LCode) (k : Nat) : (keepMix c k).length = c.list.length := by simp [keepMix]
theorem keepMix_zero (c : LCode) : keepMix c 0 = reachB c := by
  apply List.ext_getElem (by rw [keepMix_len, reachB_len])
  intro i h1 h2
  simp [keepMix, h2]
theorem keepMix_all (c : LCode) : keepMix c c.list.length = keepL c := by
  unfold keepMix keepL keepB
  apply List.map_congr_left
  intro i hi
  rw [decide_eq_true (List.mem_range.1 hi)]; simp
theorem keepMix_keep {c : LCode} {k : Nat} (h : hopB c k = false) : keepMix c (k + 1) = keepMix c k := by
  unfold keepMix
  apply List.map_congr_left
  intro i _
  by_cases e : i = k
  · subst e; rw [h]; simp
  · have : decide (i < k + 1) = decide (i < k) := by rw [decide_eq_decide]; omega
    rw [this]
theorem keepMix_put {c : LCode} {k : Nat} (_hk : k < c.list.length) (h : hopB c k = true) : keepMix c (k + 1) = (keepMix c k).set k false := by
  apply List.ext_getElem (by simp [keepMix_len])
  intro i h1 h2
  rw [List.getElem_set]
  split
  · rename_i e
    subst e
    simp only [keepMix, List.getElem_map, List.getElem_range]
    rw [h]; simp
  · rename_i e
    simp only [keepMix, List.getElem_map, List.getElem_range]
    have : decide (i < k + 1) = decide (i < k) := by rw [decide_eq_decide]; omega
    rw [this]

/-- How many are kept ahead of a place. -/
def plc (ks : List Bool) (k : Nat) : Nat := (ks.take k).count true
theorem plc_zero (ks : List Bool) : plc ks 0 = 0 := by simp [plc]
theorem plc_succ (ks : List Bool) (k : Nat) (h : k < ks.length) : plc ks (k + 1) = plc ks k + (if ks.getD k false = true then 1 else 0) := by
  unfold plc
  rw [p_take_succ _ _ h, List.count_append]
  simp only [List.getD_eq_getElem?_getD, List.getElem?_eq_getElem h, Option.getD_some]
  cases ks[k] <;> simp
theorem plc_le (ks : List Bool) (k : Nat) : plc ks k ≤ k := by
  unfold plc
  exact Nat.le_trans List.count_le_length (List.length_take_le k ks)
def plcL (ks : List Bool) (k : Nat) : List Int := (List.range k).map fun i => (plc ks i : Int)
theorem plcL_len (ks : List Bool) (k : Nat) : (plcL ks k).length = k := by simp [plcL]
theorem plcL_succ (ks : List Bool) (k : Nat) : plcL ks (k + 1) = plcL ks k ++ [(plc ks k : Int)] := by
  unfold plcL; rw [List.range_succ, List.map_append]; rfl
theorem plcL_get (ks : List Bool) (k i : Nat) (h : i < k) : (plcL ks k)[i]? = some (plc ks i : Int) := by simp [plcL, h]

def trI (ks : List Bool) (x : LIns) : LIns := if 0 ≤ tgtOf x then aimF x (plc ks (tgtOf x).toNat : Int) else x
def trimL (c : LCode) (ks : List Bool) (k : Nat) : List LIns := (List.range k).flatMap fun i => if ks.getD i false = true then [trI ks (insAt c i)] else []
theorem trimL_zero (c : LCode) (ks : List Bool) : trimL c ks 0 = [] := rfl
theorem trimL_put {c : LCode} {ks : List Bool} {k : Nat} (h : ks.getD k false = true) : trimL c ks (k + 1) = trimL c ks k ++ [trI ks (insAt c k)] := by
  unfold trimL
  rw [List.range_succ, List.flatMap_append]
  simp only [List.flatMap_cons, List.flatMap_nil, List.append_nil]
  rw [if_pos h]
theorem trimL_skip {c : LCode} {ks : List Bool} {k : Nat} (h : ks.getD k false = false) : trimL c ks (k + 1) = trimL c ks k := by
  unfold trimL
  rw [List.range_succ, List.flatMap_append]
  simp only [List.flatMap_cons, List.flatMap_nil, List.append_nil]
  rw [if_neg (by rw [h]; simp), List.append_nil]
theorem trimL_le (c : LCode) (ks : List Bool) (k : Nat) : (trimL c ks k).length ≤ k := by
  induction k with
  | zero => simp [trimL_zero]
  | succ k ih =>
    cases h : ks.getD k false
    · rw [trimL_skip h]; omega
    · rw [trimL_put h, List.length_append, List.length_singleton]; omega
noncomputable def trimF (c : LCode) : LCode := { c with list := trimL c (keepL c) c.list.length }

end Go.Proofs.Ytjlnaiifegjneaa
