/-
  A text cut at its line ends, and what ParseTaint makes of it: plain law. Conditions: none.
-/
import Derived.Lib.SplitLaws
import Derived.Lib.IndexBytes
import Derived.Test.YtooifghhgnlcoaaDoorFmtTaint
namespace Go.Proofs.YtooifghhgnlcoaaDoor
set_option linter.unusedVariables false
set_option linter.unusedSimpArgs false
open Go

def cutA : List UInt8 → List UInt8 → List (List UInt8)
  | p, [] => [p]
  | p, c :: t => if c = 10 then p :: cutA [] t else cutA (p ++ [c]) t

theorem cutA_ne : ∀ (l p : List UInt8), cutA p l ≠ []
  | [], p => by simp [cutA]
  | c :: t, p => by
    unfold cutA
    split
    · simp
    · exact cutA_ne t _

theorem cutA_head : ∀ (l p : List UInt8), ∃ h t, cutA [] l = h :: t ∧ cutA p l = (p ++ h) :: t
  | [], p => ⟨[], [], rfl, by simp [cutA]⟩
  | c :: s, p => by
    by_cases h10 : c = 10
    · exact ⟨[], cutA [] s, by simp [cutA, h10], by simp [cutA, h10]⟩
    · obtain ⟨h, t, e1, e2⟩ := cutA_head s [c]
      obtain ⟨h', t', e3, e4⟩ := cutA_head s (p ++ [c])
      rw [e1] at e3
      cases e3
      exact ⟨c :: h, t, by simp [cutA, h10, e2], by simp [cutA, h10, e4]⟩

theorem splitK_cut : ∀ l : List UInt8, Lib.splitK [10] 0 (l.count 10) l = cutA [] l
  | [] => rfl
  | c :: t => by
    have ih := splitK_cut t
    by_cases h10 : c = 10
    · subst h10
      rw [List.count_cons_self, Lib.splitK, Lib.index_one]
      simp [Lib.indexByte, cutA, ih]
    · rw [List.count_cons_of_ne (by simpa using h10)]
      have hc : cutA [] (c :: t) = cutA [c] t := by simp [cutA, h10]
      obtain ⟨h, q, e1, e2⟩ := cutA_head t [c]
      rw [hc, e2]
      rw [e1] at ih
      have hi : Lib.index (c :: t) [10] = if Lib.index t [10] == -1 then -1 else Lib.index t [10] + 1 := by
        rw [Lib.index_one, Lib.index_one]
        simp [Lib.indexByte, h10]
      cases hk : t.count 10 with
      | zero =>
        rw [hk] at ih
        simp only [Lib.splitK] at ih ⊢
        cases ih
        rfl
      | succ k =>
        rw [hk] at ih
        simp only [Lib.splitK] at ih ⊢
        have hg := Lib.index_ge t [10]
        by_cases hm : Lib.index t [10] = -1
        · rw [if_pos (by simpa using hm)] at ih
          cases ih
          rw [hi]
          simp [hm]
        · rw [if_neg (by simpa using hm)] at ih hi
          obtain ⟨i, hI⟩ : ∃ i : Nat, Lib.index t [10] = i := ⟨(Lib.index t [10]).toNat, by omega⟩
          rw [hI] at ih hi
          rw [hi, if_neg (by simp; omega)]
          have ei : ((i : Int) + 1).toNat = i + 1 := by omega
          rw [ei]
          simp only [Int.toNat_natCast, Nat.add_zero, List.length_cons, List.length_nil, Nat.zero_add] at ih ⊢
          rw [List.take_succ_cons, List.drop_succ_cons]
          injection ih with i1 i2
          rw [i1, i2]
          rfl

theorem cutA_app : ∀ (a p b : List UInt8), (∀ x ∈ a, x ≠ 10) → cutA p (a ++ 10 :: b) = (p ++ a) :: cutA [] b
  | [], p, b, _ => by simp [cutA]
  | c :: a, p, b, h => by
    have h1 := h c (by simp)
    rw [List.cons_append, cutA, if_neg h1, cutA_app a _ b fun x hx => h x (by simp [hx])]
    simp

theorem fmtBit_ne (b : Bool) : fmtBit b ≠ 10 := by cases b <;> decide

theorem cut_fmt : ∀ m : List (List Bool), cutA [] (fmtRows m) = m.map (List.map fmtBit) ++ [[]]
  | [] => rfl
  | r :: m => by
    have e : fmtRows (r :: m) = r.map fmtBit ++ 10 :: fmtRows m := by simp [fmtRows, fmtRow]
    rw [e, cutA_app _ _ _ fun x hx => by
      obtain ⟨b, _, rfl⟩ := List.mem_map.1 hx
      exact fmtBit_ne b]
    rw [cut_fmt m]
    rfl

def prs (l : List UInt8) : List Bool := l.map fun c => decide (c = 72)
theorem prs_fmt (r : List Bool) : prs (r.map fmtBit) = r := by
  induction r with
  | nil => rfl
  | cons b t ih =>
    simp only [prs, List.map_cons] at ih ⊢
    rw [ih]
    cases b <;> rfl
theorem prs_len (l : List UInt8) : (prs l).length = l.length := by simp [prs]

def ptM (l : List UInt8) : List (List Bool) := ((cutA [] l).dropLast.take 401).map prs
def ptOk (l : List UInt8) : Prop := l ≠ [] ∧ fmtT (ptM l) = l

theorem pt_bad {l : List UInt8} (h : (cutA [] l).getLast (cutA_ne l []) ≠ [] ∨ (cutA [] l).length - 1 = 0 ∨ 400 < (cutA [] l).length - 1) : ¬ ptOk l := by
  rintro ⟨h1, h2⟩
  unfold fmtT at h2
  split at h2
  · rename_i hc
    have e := cut_fmt (ptM l)
    rw [h2] at e
    have hp : (ptM l).length ≤ 400 := hc.1
    rcases h with h | h | h
    · refine h ?_
      simp [e]
    · simp [e] at h
      rw [h] at h2
      exact h1 (h2.symm.trans rfl)
    · simp [e] at h
      omega
  · exact h1 h2.symm

theorem pt_small {l : List UInt8} (h : (cutA [] l).length - 1 ≤ 400) : ptM l = (cutA [] l).dropLast.map prs := by
  unfold ptM
  rw [List.take_of_length_le (by simp; omega)]

theorem pt_ne {l : List UInt8} (h : 1 ≤ (cutA [] l).length - 1) : l ≠ [] := by
  rintro rfl
  simp [cutA] at h

theorem cut_wt : ∀ (l p : List UInt8), ((cutA p l).dropLast.map fun x => x.length + 1).sum ≤ p.length + l.length
  | [], p => by simp [cutA]
  | c :: t, p => by
    unfold cutA
    split
    · have := cut_wt t []
      rw [List.dropLast_cons_of_ne_nil (cutA_ne t [])]
      simp only [List.map_cons, List.sum_cons, List.length_cons, List.length_nil] at this ⊢
      omega
    · have := cut_wt t (p ++ [c])
      simp only [List.length_append, List.length_cons, List.length_nil] at this ⊢
      omega

theorem cut_len : ∀ (l p : List UInt8), (cutA p l).length ≤ l.length + 1
  | [], p => by simp [cutA]
  | c :: t, p => by
    unfold cutA
    split
    · have := cut_len t []
      simp only [List.length_cons]
      omega
    · have := cut_len t (p ++ [c])
      simp only [List.length_cons]
      omega

theorem wt_mat : ∀ L : List (List UInt8), matSize (L.map prs) = (L.map fun x => x.length + 1).sum
  | [] => rfl
  | r :: L => by
    have := wt_mat L
    simp only [matSize, rowSum, List.map_cons, List.sum_cons, List.length_cons, prs_len] at this ⊢
    omega

theorem sum_take (f : List UInt8 → Nat) : ∀ (L : List (List UInt8)) (k : Nat), ((L.take k).map f).sum ≤ (L.map f).sum
  | [], k => by simp
  | r :: L, 0 => by simp
  | r :: L, k + 1 => by
    have := sum_take f L k
    simp only [List.take_succ_cons, List.map_cons, List.sum_cons]
    omega

theorem ptM_size (l : List UInt8) : matSize (ptM l) ≤ l.length := by
  unfold ptM
  rw [wt_mat]
  have h1 := sum_take (fun x => x.length + 1) (cutA [] l).dropLast 401
  have h2 := cut_wt l []
  simp only [List.length_nil] at h2
  omega

end Go.Proofs.YtooifghhgnlcoaaDoor
