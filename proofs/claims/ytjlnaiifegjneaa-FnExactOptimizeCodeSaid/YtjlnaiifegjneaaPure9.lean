/-
  Threading of jumps: the list on its way. No program in sight. Conditions: none.
-/
import Derived.Test.YtjlnaiifegjneaaPure8
namespace Go.Proofs.Ytjlnaiifegjneaa

/-- Some code's list, the first k instructions threaded. -/
def mixT (c : LCode) (k : Nat) : List LIns := (c.list.map (thrI c)).take k ++ c.list.drop k
theorem mixT_len (c : LCode) (k : Nat) : (mixT c k).length = c.list.length := by
  unfold mixT
  rw [List.length_append, List.length_take, List.length_drop, List.length_map]
  omega
theorem mixT_zero (c : LCode) : mixT c 0 = c.list := by simp [mixT]
theorem mixT_all (c : LCode) : mixT c c.list.length = (thrF c).list := by
  unfold mixT thrF
  rw [List.drop_length, List.append_nil, List.take_of_length_le (by simp)]
theorem mixT_succ (c : LCode) (k : Nat) (h : k < c.list.length) : mixT c (k + 1) = (mixT c k).set k (thrI c c.list[k]) := by
  have hk : k < (c.list.map (thrI c)).length := by simpa using h
  have hl : ((c.list.map (thrI c)).take k).length = k := by rw [List.length_take]; omega
  unfold mixT
  rw [List.set_append_right _ _ (by omega), hl, Nat.sub_self, List.drop_eq_getElem_cons h, List.set_cons_zero, p_take_succ _ _ hk]
  simp
theorem mixT_at (c : LCode) (k : Nat) (h : k < c.list.length) : (mixT c k)[k]? = some c.list[k] := by
  unfold mixT
  rw [List.getElem?_append_right (by rw [List.length_take]; omega), List.length_take, List.length_map, Nat.min_eq_left (by omega), Nat.sub_self, List.getElem?_drop, Nat.add_zero, List.getElem?_eq_getElem h]
theorem mixT_keep (c : LCode) (k : Nat) (h : k < c.list.length) (he : thrI c c.list[k] = c.list[k]) : mixT c (k + 1) = mixT c k := by
  rw [mixT_succ c k h, he]
  apply List.ext_getElem?
  intro i
  rw [List.getElem?_set]
  split
  · rename_i e
    subst e
    rw [mixT_at c k h]
    simp [mixT_len, h]
  · rfl
theorem codeOk_size {c : LCode} (h : codeOk c = true) : c.size ≤ 1048576 := by
  obtain ⟨h1, -, h2, -, -⟩ := codeOk_parts h
  unfold headsB at h1
  simp only [Bool.and_eq_true, decide_eq_true_eq] at h1
  unfold LCode.size
  omega

end Go.Proofs.Ytjlnaiifegjneaa
