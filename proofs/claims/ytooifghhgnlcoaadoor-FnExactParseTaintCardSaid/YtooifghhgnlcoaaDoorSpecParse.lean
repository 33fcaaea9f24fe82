/-
  The reference's ParseTaint: what it hands back. Conditions: the text is no longer than 1048576 bytes.
-/
import Derived.Test.YtooifghhgnlcoaaDoorSpecCut
import Derived.Test.YtooifghhgnlcoaaDoorPtM
namespace Go.Proofs.YtooifghhgnlcoaaDoor
set_option linter.unusedVariables false
set_option linter.unusedSimpArgs false
open Go Go.RowKit

theorem cut_row : ∀ (l p : List UInt8) (x : List UInt8), x ∈ cutA p l → x.length ≤ p.length + l.length
  | [], p, x, h => by
    simp [cutA] at h
    subst h
    simp
  | c :: t, p, x, h => by
    unfold cutA at h
    split at h
    · rcases List.mem_cons.1 h with rfl | h
      · omega
      · have := cut_row t [] x h
        simp only [List.length_cons, List.length_nil] at this ⊢
        omega
    · have := cut_row t _ x h
      simp only [List.length_append, List.length_cons, List.length_nil] at this ⊢
      omega

theorem prs_snoc (x : List UInt8) (j : Nat) (h : j < x.length) : prs (x.take (j + 1)) = prs (x.take j) ++ [decide (x[j] = 72)] := by
  rw [take_succ_get _ _ h]
  simp only [prs, List.map_append, List.map_cons, List.map_nil]

theorem map_snoc (L : List (List UInt8)) (k : Nat) (h : k < L.length) : (L.take (k + 1)).map prs = (L.take k).map prs ++ [prs L[k]] := by
  rw [take_succ_get _ _ h]
  simp only [List.map_append, List.map_cons, List.map_nil]

theorem mat_built (w : World) {lo : Nat} (h : lo ≤ w.heap.size) : MatOwn (w.alloc (.cells #[] 30)) lo (w.alloc (.cells #[] 30)).heap.size (.slice (some ⟨w.heap.size, 0, none⟩) 0 0) [] :=
  ⟨[], (own_built w #[] 0 1 _ rfl rfl (by omega)).wide h (by simp), fun i u r h => by simp at h, fun i j u u' _ h => by simp at h, fun i u h => by simp at h⟩

theorem str_nil {s : ByteArray} {l : List UInt8} (h : s = ⟨l.toArray⟩) : s.toList = [] ↔ l = [] := by
  subst h
  rw [Lib.toList_data]

theorem ptM_take (l : List UInt8) (k : Nat) (h1 : k ≤ 401) (h2 : k + 1 ≤ (cutA [] l).length) (h3 : ¬ (k + 1 < (cutA [] l).length ∧ k ≤ 400)) : ((cutA [] l).take k).map prs = ptM l := by
  unfold ptM
  rw [List.dropLast_eq_take, List.take_take]
  congr 2
  omega

theorem strV_ne (x y : List UInt8) : ((⟨x.toArray⟩ : ByteArray) = ⟨y.toArray⟩) ↔ x = y := by
  constructor
  · intro h
    have := congrArg (fun b => b.data.toList) h
    simpa using this
  · rintro rfl; rfl

set_option maxHeartbeats 2000000 in
theorem spec_ParseTaint (l : List UInt8) (w : World) (hl : l.length ≤ 1048576) :
    Calls Tryd.prog 4 #[strV l] w fun e w' => ∃ v, e = .returned (.tuple #[v, .bool (ptB l)]) ∧ MatOwn w' w.heap.size w'.heap.size v (ptV l) ∧ Below w.heap.size w w' := by
  obtain ⟨s, hs⟩ : ∃ s : ByteArray, s = ⟨l.toArray⟩ := ⟨_, rfl⟩
  have HS := show Hid _ from hs
  show Calls Tryd.prog 4 #[.string ⟨l.toArray⟩] w _
  rw [← hs]
  clear hs
  have hp := spec_cut l w hl
  rw [show strV l = .string s from by rw [HS.out]] at hp
  obtain ⟨L, hL⟩ : ∃ L, L = cutA [] l := ⟨_, rfl⟩
  rw [← hL] at hp
  have HL := show Hid _ from hL
  have hpos : 1 ≤ L.length := by
    rw [hL]
    have := List.length_pos_iff.2 (cutA_ne l [])
    omega
  have hle : L.length ≤ 1048577 := by
    rw [hL]
    have := cut_len l []
    omega
  have HR : Hid (∀ x ∈ L, x.length ≤ 1048576) := by
    rw [hL]
    intro x hx
    have := cut_row l [] x hx
    simp only [List.length_nil] at this
    omega
  clear hL
  go_enter Tryd.func4, Tryd.ntmps4
  go_wp2_with fail
  refine hp.mono ?_
  rintro e w1 ⟨v1, rfl, o1, b1⟩
  clear hp
  obtain ⟨al, cl, rfl, -, hnl, -, hc⟩ := o1.row.open1
  have s1 := b1.size
  go_wp2_with fail
  go_loopw [5, 6, 7, 8] (fun out i _ _ wr => ∃ (k : Nat), k ≤ 401 ∧ k + 1 ≤ L.length ∧ i = .int .i64 k ∧ Hid (MatOwn wr w1.heap.size wr.heap.size out ((L.take k).map prs)) ∧ Below w1.heap.size w1 wr) (fun _ i _ _ _ => 401 - (intOf i).toNat)
  case atStart => exact ⟨0, by omega, hpos, rfl, mat_built w1 (Nat.le_refl _), by go_grown⟩
  case round =>
    rename World => wo
    obtain ⟨k, hk, hkL, rfl, hm, hb⟩ := hrel
    have HM := hm
    clear hm
    have sb := hb.size
    by_cases hcc : k + 1 < L.length ∧ k ≤ 400
    · obtain ⟨hlt, h4⟩ := hcc
      obtain ⟨b, off, rfl, hb1, hx⟩ := hc k (by omega)
      have hkl : k < L.length := by omega
      rw [List.getElem?_map, List.getElem?_eq_getElem hkl] at hx
      obtain ⟨sk, hsk⟩ : ∃ s : ByteArray, s = ⟨(L[k]).toArray⟩ := ⟨_, rfl⟩
      have hxx : w1.cell? ⟨b, off + k, none⟩ = some (.string sk) := by rw [hx, hsk]; rfl
      obtain ⟨n, hn⟩ : ∃ n, n = L[k].length := ⟨_, rfl⟩
      have hszk : sk.size = n := by rw [hsk, hn]; rfl
      have HN := show Hid _ from hn
      have HSK := show Hid _ from hsk
      have hrl : n ≤ 1048576 := by rw [hn]; exact HR.out _ (List.getElem_mem hkl)
      clear hx hsk hc hn
      have hx2 := hxx
      rw [← (bcell hb).1 _ _ hb1] at hx2
      obtain ⟨vs, m1, m2, m3, m4⟩ := HM.out
      obtain ⟨ao, co, rfl⟩ := m1.form
      have hlen : ((L.take k).map prs).length = k := by simp; omega
      rw [hlen] at m1 m4 ⊢
      have M1 : Hid (Own wo w1.heap.size wo.heap.size 30 1 (.slice ao k co) k vs) := m1
      have M2 := show Hid _ from m2
      have M3 := show Hid _ from m3
      have M4 := show Hid _ from m4
      clear m1 m2 m3 m4 HM
      go_wp2_with fail
      generalize decide ((k : Int) ≤ 400) = bb
      go_loopw [7, 8] (fun row kk wq => ∃ (j : Nat) (a : Option Addr) (c : Nat), j ≤ n ∧ kk = .int .i64 j ∧ row = .slice a j c ∧ Hid (wq.ownsRow wo.heap.size 4 1 (.slice a j c) j (bools (prs (L[k].take j)))) ∧ Below wo.heap.size wo wq) (fun _ kk _ => n - (intOf kk).toNat)
      case atStart => exact ⟨0, some ⟨wo.heap.size, 0, none⟩, 0, by omega, rfl, rfl, show Hid _ from (own_built wo #[] 0 1 _ rfl rfl (by omega)).1, by go_grown⟩
      case round =>
        rename World => wq
        obtain ⟨j, a, c, hj, rfl, rfl, HQ, hq⟩ := hrel
        have sq := hq.size
        have hx3 := hxx
        rw [← (bcell (Below.trans hb (hq.mono sb))).1 _ _ hb1] at hx3
        by_cases hjn : j < n
        · have hjs : j < sk.size := by omega
          go_wp2_with (at_builtin; refine wpList_app rfl _ _ rfl Tryd.underlying30 infoB rfl (by omega) rfl (HQ.out.alloc _) rfl (row_one' _ (.bool (((sk[j]'hjs).toNat : Int) == 72)) _ rfl) (fun u hu => by simp at hu; subst hu; rfl) (by omega) (by omega) (by simp; omega) ?_; rintro a4 q4 w4 o4 b4 g4 h4)
          have hj2 : j < L[k].length := by have := HN.out; omega
          have e8 : Hid ((((sk[j]'hjs).toNat : Int) == 72) = decide (L[k][j] = 72)) := by
            have e := HSK.out
            subst e
            rw [Bool.eq_iff_iff, beq_iff_eq, decide_eq_true_iff]
            show ((L[k][j].toNat : Int) = 72) ↔ L[k][j] = 72
            constructor
            · intro h; exact UInt8.toNat_inj.1 (by show L[k][j].toNat = 72; omega)
            · intro h; rw [h]; rfl
          refine ⟨⟨j + 1, a4, q4, by omega, by go_num, rfl, ?_, (hq.alloc (by omega) _).trans b4⟩, by simp [intOf]; omega⟩
          rw [e8.out] at o4
          rw [prs_snoc _ _ hj2, show ∀ x y, bools (x ++ y) = bools x ++ bools y from fun x y => by simp [bools]]
          exact show Hid _ from o4
        · have hjj : j = n := by omega
          subst hjj
          have Q1 : Hid (wq.ownsRow w1.heap.size 30 1 (.slice ao k co) k vs) := (M1.out.keep hq (Nat.le_refl _)).1
          go_wp2_with (at_builtin; refine wpList_app rfl _ _ rfl Tryd.underlying22 infoBS rfl (by omega) rfl (Q1.out.alloc _) rfl (row_one' _ (.slice a j c) _ rfl) (fun u hu => by simp at hu; subst hu; rfl) (by omega) (by omega) (by simp; omega) ?_; rintro a4 q4 w4 o4 b4 g4 h4)
          have hap := M1.out.keep (hq.alloc (by omega) (.cells #[.slice a j c] 30)) (Nat.le_refl _)
          have eR : prs (L[k].take j) = prs L[k] := by rw [List.take_of_length_le (by have := HN.out; omega)]
          have hQ := HQ.out
          rw [eR] at hQ
          have hru : Own (wq.alloc (.cells #[.slice a j c] 30)) wo.heap.size (wq.alloc (.cells #[.slice a j c] 30)).heap.size 4 1 (.slice a j c) (prs L[k]).length (bools (prs L[k])) := by
            rw [prs_len, ← HN.out]
            exact Own.mk' (hQ.alloc _)
          have hbw : Below wo.heap.size wo (wq.alloc (.cells #[.slice a j c] 30)) := hq.alloc (by omega) _
          refine ⟨⟨k + 1, by omega, by omega, by go_num, ?_, (hb.trans (hbw.mono sb)).trans b4⟩, by simp [intOf]; omega⟩
          rw [map_snoc L k hkl]
          have hl2 : ((L.take k).map prs).length = k := hlen
          exact mat_push (v := .slice ao k co) (lo := w1.heap.size) (B := wo.heap.size) (by rw [hl2]; exact hap) (fun i x r h1 h2 => (M2.out i x r h1 h2).keep hbw (Nat.le_refl _)) M3.out M4.out hru sb (by simp; omega) g4 (by rw [hl2]; exact o4) h4
    · have hex : (k + 1 < L.length ∧ 400 < k) ∨ ¬ (k + 1 < L.length) := by omega
      have HX := show Hid (¬ _) from hcc
      clear hcc
      rcases hex with ⟨x1, x2⟩ | x1
      all_goals
        by_cases hs0 : s.toList = []
        · have HS0 := show Hid _ from hs0
          go_wp2_with fail
          go_ret2
          have e0 : l = [] := (str_nil HS.out).1 HS0.out
          have eB : ptB l = false := by rw [e0]; decide
          refine ⟨_, by rw [eB]; rfl, ?_, (b1.trans (hb.mono s1)).alloc (by omega) _⟩
          rw [show ptV l = [] from by unfold ptV; rw [eB]; rfl]
          exact mat_built wo (by omega)
        · have HS0 := show Hid (¬ _) from hs0
          have hsz : matSize ((L.take k).map prs) ≤ 1048576 := by
            rw [HL.out, ptM_take l k hk (by rw [← HL.out]; exact hkL) (by rw [← HL.out]; exact HX.out)]
            exact Nat.le_trans (ptM_size l) hl
          have HSZ := show Hid _ from hsz
          clear hsz
          go_wp2_with fail
          refine (spec_FormatTaint _ _ _ HM.out.row HSZ.out).mono ?_
          rintro e w5 ⟨rfl, b5⟩
          have hPT : (L.take k).map prs = ptM l := by
            have h := ptM_take l k hk (by rw [← HL.out]; exact hkL) (by rw [← HL.out]; exact HX.out)
            rw [← HL.out] at h
            exact h
          have HM5 := (HM.out.keep b5 (Nat.le_refl _)).wide s1 b5.size
          have B5 := (b1.trans (hb.mono s1)).trans (b5.mono (by omega))
          rw [hPT] at HM5
          rw [hPT]
          have hne : l ≠ [] := fun h => HS0.out ((str_nil HS.out).2 h)
          have f1 : s.toList.isEmpty = false := by
            cases h : s.toList with
            | nil => exact absurd h HS0.out
            | cons _ _ => rfl
          clear HM hc b5 hb
          by_cases hq : fmtT (ptM l) = l
          · rw [hq, ← HS.out]
            have eB : ptB l = true := (ptB_iff l).2 ⟨hne, hq⟩
            have HP := show Hid _ from (show ptV l = ptM l from by unfold ptV; rw [if_pos eB])
            clear hq hPT
            have f2 : (!s.toList == s.toList) = false := by simp
            go_wp2_with fail
            go_ret2
            rw [eB, HP.out]
            exact ⟨_, rfl, HM5, B5⟩
          · obtain ⟨q, hq2⟩ : ∃ q : ByteArray, q = ⟨(fmtT (ptM l)).toArray⟩ := ⟨_, rfl⟩
            have hqs : ¬ q = s := by
              rw [hq2, HS.out, strV_ne]
              exact hq
            rw [← hq2]
            have eB : ptB l = false := by
              cases hh : ptB l
              · rfl
              · exact absurd ((ptB_iff l).1 hh).2 hq
            have HP := show Hid _ from (show ptV l = [] from by unfold ptV; rw [eB]; rfl)
            have f2 : (!q.toList == s.toList) = true := by
              rw [Bool.not_eq_true', beq_eq_false_iff_ne]
              intro h
              rw [Lib.toList_data, Lib.toList_data] at h
              exact hqs (ByteArray.ext (Array.toList_inj.1 h))
            clear hq hPT hq2
            go_wp2_with fail
            go_ret2
            rw [eB, HP.out]
            exact ⟨_, rfl, mat_built w5 (by have := B5.size; omega), B5.alloc (by have := B5.size; omega) _⟩

end Go.Proofs.YtooifghhgnlcoaaDoor
