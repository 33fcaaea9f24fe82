/-
  FormatTaint, the reference's and the program's: what both compute. Conditions: the argument is a slice of slices of bools of bounded size.
-/
import Derived.Test.YtooifghhgnlcoaaDoorLawMat
import Derived.Test.YtooifghhgnlcoaaDoorBuilder
namespace Go.Proofs.YtooifghhgnlcoaaDoor
set_option linter.unusedVariables false
set_option linter.unusedSimpArgs false
open Go Go.RowKit

def okRow (r : List Bool) : Bool := decide (r.length = 0) || decide (r.length = 14)
def fmtBit (b : Bool) : UInt8 := if b then 72 else 76
def fmtRow (r : List Bool) : List UInt8 := r.map fmtBit ++ [10]
def fmtRows (m : List (List Bool)) : List UInt8 := (m.map fmtRow).flatten
def fmtT (m : List (List Bool)) : List UInt8 := if m.length ≤ 400 ∧ m.all okRow = true then fmtRows m else []

theorem fmtRows_snoc (m : List (List Bool)) (k : Nat) (h : k < m.length) : fmtRows (m.take (k + 1)) = fmtRows (m.take k) ++ (m[k].map fmtBit ++ [10]) := by
  unfold fmtRows
  rw [take_succ_get _ _ h, List.map_append, List.flatten_append]
  simp [fmtRow]
theorem fmtRows_len (m : List (List Bool)) (h : m.all okRow = true) : (fmtRows m).length ≤ m.length * 15 := by
  induction m with
  | nil => simp [fmtRows]
  | cons r t ih =>
    simp only [List.all_cons, Bool.and_eq_true] at h
    have h1 := ih h.2
    have h2 : r.length ≤ 14 := by have := h.1; simp only [okRow, Bool.or_eq_true, decide_eq_true_eq] at this; omega
    simp only [fmtRows, fmtRow, List.map_cons, List.flatten_cons, List.length_append, List.length_map, List.length_cons, List.length_nil] at h1 ⊢
    omega
theorem all_take {m : List (List Bool)} {k : Nat} (h : k < m.length) : (m.take (k + 1)).all okRow = ((m.take k).all okRow && okRow m[k]) := by
  rw [take_succ_get _ _ h, List.all_append]; simp

theorem truth_t (w : World) : Calls Tryd.prog 19 #[.bool true] w fun e w' => e = .returned (.int .i64 1) ∧ w = w' := by
  go_enter Tryd.func19, Tryd.ntmps19
  go_wp2
  go_ret
  exact ⟨rfl, rfl⟩
theorem truth_f (w : World) : Calls Tryd.prog 19 #[.bool false] w fun e w' => e = .returned (.int .i64 0) ∧ w = w' := by
  go_enter Tryd.func19, Tryd.ntmps19
  go_wp2
  go_ret
  exact ⟨rfl, rfl⟩

theorem str_app (l m : List UInt8) : (⟨l.toArray⟩ : ByteArray) ++ ⟨m.toArray⟩ = ⟨(l ++ m).toArray⟩ := by
  apply ByteArray.ext; simp

abbrev strV (l : List UInt8) : Value := .string ⟨l.toArray⟩

set_option maxHeartbeats 1000000 in
theorem spec_FormatTaint (v : Value) (m : List (List Bool)) (w : World) (h : MatRow w v m) (hb : matSize m ≤ 1048576) :
    Calls Tryd.prog 10 #[v] w fun e w' => e = .returned (.string ⟨(fmtT m).toArray⟩) ∧ Below w.heap.size w w' := by
  obtain ⟨a, cap, rfl, hl, hc⟩ := h.open
  have HT : Hid (fmtT m = if m.length ≤ 400 ∧ m.all okRow = true then fmtRows m else []) := rfl
  by_cases h4 : m.length ≤ 400
  · go_enter Tryd.func10, Tryd.ntmps10
    go_wp2_with fail
    go_loopw [3, 4] (fun s i wr => ∃ (k : Nat), k ≤ m.length ∧ s = strV (fmtRows (m.take k)) ∧ (m.take k).all okRow = true ∧ i = .int .i64 k ∧ w = wr) (fun _ i _ => m.length - (intOf i).toNat)
    case atStart => exact ⟨0, Nat.zero_le _, rfl, rfl, rfl, rfl⟩
    case round =>
      obtain ⟨k, hk, rfl, hok, rfl, rfl⟩ := hrel
      have HO := show Hid _ from hok
      clear hok
      by_cases hlt : k < m.length
      · obtain ⟨b, off, a', c', rfl, hb1, hx, hr⟩ := hc k hlt
        have H1 := fmtRows_snoc m k hlt
        have H1' := show Hid _ from H1
        clear H1
        have hfl : (fmtRows (m.take k)).length ≤ 6000 := by
          have := fmtRows_len (m.take k) HO.out
          have h2 := List.length_take_le k m
          omega
        clear hc h
        have HK := show Hid _ from all_take hlt
        by_cases hokr : okRow m[k] = true
        · have hf : ((((m[k].length : Int) != 0) = true ∧ ((m[k].length : Int) != 14) = false) ∨ ((m[k].length : Int) != 0) = false) ∧ m[k].length ≤ 14 := by
            simp only [okRow, Bool.or_eq_true, decide_eq_true_eq] at hokr
            simp only [bne_iff_ne, ne_eq, bne_eq_false_iff_eq]
            omega
          have HR := show Hid _ from hokr
          clear hokr
          obtain ⟨ar, cr, hv, -, hlr, -, hcr⟩ := hr.open1
          cases hv
          obtain ⟨hf, hl14⟩ := hf
          rcases hf with ⟨f1, f2⟩ | f1
          all_goals
            go_wp2_with fail
            go_loopw [3, 5] (fun s i wr => ∃ (j : Nat), j ≤ m[k].length ∧ s = .string ⟨(fmtRows (m.take k) ++ (m[k].take j).map fmtBit).toArray⟩ ∧ i = .int .i64 j ∧ w = wr) (fun _ i _ => m[k].length - (intOf i).toNat)
            case atStart => exact ⟨0, Nat.zero_le _, by simp, rfl, rfl⟩
            case round =>
              obtain ⟨j, hj, rfl, rfl, rfl⟩ := hrel
              by_cases hlj : j < m[k].length
              · obtain ⟨b2, o2, rfl, hb2, hy⟩ := hcr j hlj
                rw [bools_get _ _ hlj] at hy
                clear hcr hr
                cases hbit : m[k][j]
                all_goals
                  rw [hbit] at hy
                  go_wp2_with fail
                  refine ⟨⟨j + 1, by omega, ?_, by go_num, trivial⟩, by simp [intOf]; omega⟩
                  rw [take_succ_get _ _ hlj, hbit]
                  congr 1
                  refine (str_app _ [_]).trans ?_
                  simp [fmtBit]
              · go_wp2_with fail
                refine ⟨⟨k + 1, by omega, ?_, by rw [HK.out, HO.out, HR.out]; rfl, by go_num, trivial⟩, by simp [intOf]; omega⟩
                rw [H1'.out]
                congr 1
                refine (str_app _ [_]).trans ?_
                simp
                exact List.take_of_length_le (by simp; omega)
        · have hf : ((m[k].length : Int) != 0) = true ∧ ((m[k].length : Int) != 14) = true := by
            simp only [okRow, Bool.or_eq_true, decide_eq_true_eq] at hokr
            simp only [bne_iff_ne, ne_eq]
            omega
          obtain ⟨f1, f2⟩ := hf
          have HR := show Hid (¬ okRow m[k] = true) from hokr
          clear hokr
          go_wp2_with fail
          go_ret
          refine ⟨?_, Below.refl _ _⟩
          rw [HT.out, if_neg]
          · rfl
          · rintro ⟨_, h2⟩
            exact HR.out (List.all_eq_true.1 h2 _ (List.getElem_mem hlt))
      · go_wp2_with fail
        go_ret
        have ho := HO.out
        rw [List.take_of_length_le (by omega)] at ho
        rw [List.take_of_length_le (by omega)]
        exact ⟨by rw [HT.out, if_pos ⟨h4, ho⟩]; rfl, Below.refl _ _⟩
  · clear hc
    go_enter Tryd.func10, Tryd.ntmps10
    go_wp2_with fail
    go_ret
    exact ⟨by rw [HT.out, if_neg (fun h => h4 h.1)]; rfl, Below.refl _ _⟩


theorem byteCells_app (l m : List UInt8) : Lib.byteCells (l ++ m) = Lib.byteCells l ++ Lib.byteCells m := by simp [Lib.byteCells]

set_option maxHeartbeats 2000000 in
set_option maxRecDepth 100000 in
theorem impl_FormatTaint (v : Value) (m : List (List Bool)) (w : World) (h : MatRow w v m) (hb : matSize m ≤ 1048576) :
    Calls Tryd.prog 13 #[v] w fun e w' => e = .returned (.string ⟨(fmtT m).toArray⟩) ∧ Below w.heap.size w w' := by
  obtain ⟨a, cap, rfl, hl, hc⟩ := h.open
  have HT : Hid (fmtT m = if m.length ≤ 400 ∧ m.all okRow = true then fmtRows m else []) := rfl
  by_cases h4 : m.length ≤ 400
  · have hB0 : Lib.IsBuilder 40 5 w.heap.size w.heap.size (Lib.byteCells (fmtRows (m.take 0))) (w.alloc (.cells #[.pointer none, .slice none 0 0] 40)) := Lib.fresh_isBuilder _ _ _
    have HB := show Hid _ from hB0
    clear hB0
    go_enter Tryd.func13, Tryd.ntmps13
    go_wp2_with fail
    go_loopw [5, 13] (fun _ i wr => ∃ (k : Nat), k ≤ m.length ∧ i = .int .i64 k ∧ (m.take k).all okRow = true ∧ Lib.IsBuilder 40 5 w.heap.size w.heap.size (Lib.byteCells (fmtRows (m.take k))) wr ∧ Below w.heap.size w wr) (fun _ i _ => m.length - (intOf i).toNat)
    case atStart => exact ⟨0, Nat.zero_le _, rfl, rfl, HB.out, (Below.refl _ _).alloc (Nat.le_refl _) _⟩
    case round =>
      obtain ⟨k, hk, rfl, hok, hbd, hbw⟩ := hrel
      have HO := show Hid _ from hok
      have HBD := show Hid _ from hbd
      clear hok hbd HB
      by_cases hlt : k < m.length
      · obtain ⟨b, off, a', c', rfl, hb1, hx, hr⟩ := hc k hlt
        have H1 := fmtRows_snoc m k hlt
        have H1' := show Hid _ from H1
        clear H1
        have hfl : (fmtRows (m.take k)).length ≤ 6000 := by
          have := fmtRows_len (m.take k) HO.out
          have h2 := List.length_take_le k m
          omega
        rw [← (bcell hbw).1 _ _ hb1] at hx
        clear hc h
        have HK := show Hid _ from all_take hlt
        by_cases hokr : okRow m[k] = true
        · have hf : ((((m[k].length : Int) != 0) = true ∧ ((m[k].length : Int) != 14) = false) ∨ ((m[k].length : Int) != 0) = false) ∧ m[k].length ≤ 14 := by
            simp only [okRow, Bool.or_eq_true, decide_eq_true_eq] at hokr
            simp only [bne_iff_ne, ne_eq, bne_eq_false_iff_eq]
            omega
          have HR := show Hid _ from hokr
          clear hokr
          obtain ⟨ar, cr, hv, -, hlr, -, hcr⟩ := hr.open1
          cases hv
          obtain ⟨hf, hl14⟩ := hf
          rcases hf with ⟨f1, f2⟩ | f1
          all_goals
            go_wp2_with fail
            go_loopw [7, 27] (fun _ i wq => ∃ (j : Nat), j ≤ m[k].length ∧ i = .int .i64 j ∧ Lib.IsBuilder 40 5 w.heap.size w.heap.size (Lib.byteCells (fmtRows (m.take k) ++ (m[k].take j).map fmtBit)) wq ∧ Below w.heap.size w wq) (fun _ i _ => m[k].length - (intOf i).toNat)
            case atStart => exact ⟨0, Nat.zero_le _, rfl, by rw [List.take_zero, List.map_nil, List.append_nil]; exact HBD.out, hbw⟩
            case round =>
              rename_i wq
              obtain ⟨j, hj, rfl, hbd, hbq⟩ := hrel
              have HBQ := show Hid _ from hbd
              clear hbd
              by_cases hlj : j < m[k].length
              · obtain ⟨b2, o2, rfl, hb2, hy⟩ := hcr j hlj
                rw [bools_get _ _ hlj, ← (bcell hbq).1 _ _ hb2] at hy
                clear hcr hr
                have hb47 : (Lib.byteCells (fmtRows (m.take k) ++ (m[k].take j).map fmtBit)).length + 1 ≤ 140737488355328 := by
                  have h2 := List.length_take_le j m[k]
                  simp only [Lib.byteCells, List.length_map, List.length_append]
                  omega
                have H47 := show Hid _ from hb47
                clear hb47
                cases hbit : m[k][j]
                all_goals
                  rw [hbit] at hy
                  have HBIT := show Hid _ from hbit
                  clear hbit
                  go_wp2_with fail
                  first
                    | refine (truth_f _).mono ?_
                    | refine (truth_t _).mono ?_
                  rintro e w1 ⟨rfl, rfl⟩
                  go_wp2_with fail
                  refine (builder_WriteByte w.heap.size w.heap.size _ _ _ HBQ.out H47.out hbq.size).mono ?_
                  rintro e w1 ⟨rfl, hba, hbb⟩
                  have HBA := show Hid _ from hba
                  clear hba
                  go_wp2_with fail
                  refine ⟨⟨j + 1, by omega, by go_num, ?_, hbq.trans hbb⟩, by simp [intOf]; omega⟩
                  rw [take_succ_get _ _ hlj, HBIT.out, List.map_append, ← List.append_assoc, byteCells_app]
                  exact .inr HBA.out
              · go_wp2_with fail
                refine (builder_WriteByte w.heap.size w.heap.size _ 10 _ HBQ.out ?_ hbq.size).mono ?_
                · have h2 := List.length_take_le j m[k]
                  simp only [Lib.byteCells, List.length_map, List.length_append]
                  omega
                rintro e w1 ⟨rfl, hba, hbb⟩
                have HBA := show Hid _ from hba
                clear hba
                go_wp2_with fail
                refine ⟨⟨k + 1, by omega, by go_num, by rw [HK.out, HO.out, HR.out]; rfl, ?_, hbq.trans hbb⟩, by simp [intOf]; omega⟩
                have h5 := HBA.out
                have hj2 : m[k].take j = m[k] := List.take_of_length_le (by omega)
                rw [hj2] at h5
                rw [H1'.out, ← List.append_assoc, byteCells_app]
                exact .inr h5
        · have hf : ((m[k].length : Int) != 0) = true ∧ ((m[k].length : Int) != 14) = true := by
            simp only [okRow, Bool.or_eq_true, decide_eq_true_eq] at hokr
            simp only [bne_iff_ne, ne_eq]
            omega
          obtain ⟨f1, f2⟩ := hf
          have HR := show Hid (¬ okRow m[k] = true) from hokr
          clear hokr
          go_wp2_with fail
          go_ret
          refine ⟨?_, hbw⟩
          rw [HT.out, if_neg]
          · rfl
          · rintro ⟨_, h2⟩
            exact HR.out (List.all_eq_true.1 h2 _ (List.getElem_mem hlt))
      · go_wp2_with fail
        refine (builder_String w.heap.size w.heap.size (fmtRows (m.take k)) _ HBD.out hbw.size).mono ?_
        rintro e w1 ⟨rfl, hb1⟩
        go_wp2_with fail
        go_ret
        have ho := HO.out
        rw [List.take_of_length_le (by omega)] at ho
        refine ⟨?_, hbw.trans hb1⟩
        rw [HT.out, if_pos ⟨h4, ho⟩, List.take_of_length_le (by omega)]
        rfl
  · clear hc
    go_enter Tryd.func13, Tryd.ntmps13
    go_wp2_with fail
    go_ret
    exact ⟨by rw [HT.out, if_neg (fun h => h4 h.1)]; rfl, Below.refl _ _⟩

end Go.Proofs.YtooifghhgnlcoaaDoor
