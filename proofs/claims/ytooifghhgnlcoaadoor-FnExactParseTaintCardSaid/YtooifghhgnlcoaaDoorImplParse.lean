/-
  The program's ParseTaint: what it hands back. Conditions: the text is no longer than 1048576 bytes.
-/
import Derived.Test.YtooifghhgnlcoaaDoorSplitAt
import Derived.Test.YtooifghhgnlcoaaDoorSpecParse
import Derived.Deep.RegionHeld3
import Derived.Deep.AppendLies
namespace Go.Proofs.YtooifghhgnlcoaaDoor
set_option linter.unusedVariables false
set_option linter.unusedSimpArgs false
open Go Go.RowKit

theorem pt_within (n lo hi : Int) (w : World) : Calls Tryd.prog 12 #[.int .i64 n, .int .i64 lo, .int .i64 hi] w fun e w' => e = .returned (.bool (decide (lo ≤ n) && decide (n ≤ hi))) ∧ w = w' := by
  go_enter Tryd.func12, Tryd.ntmps12
  go_wp2
  all_goals go_ret
  all_goals exact ⟨ret_bool (by simp; try omega), rfl⟩

theorem below_grown {w w' : World} {lo : Nat} {v : Value} (hg : w.grownBy w' v.ownBlock) (h : ∀ g, v.ownBlock = some g → lo ≤ g) (hlo : lo ≤ w.heap.size) : Below lo w w' :=
  ⟨hg.os, hg.tape, hg.output, hg.size, fun k hk => hg.block k (by omega) fun he => by
    have := h k he.symm
    omega⟩

theorem splitB_cut (l : List UInt8) : Lib.splitB ⟨#[10]⟩ 0 (Lib.countB ⟨l.toArray⟩ ⟨#[10]⟩) ⟨l.toArray⟩ = (cutA [] l).map fun x => ⟨x.toArray⟩ := by
  have h := Lib.splitB_data ⟨#[10]⟩ 0 (Lib.countB ⟨l.toArray⟩ ⟨#[10]⟩) ⟨l.toArray⟩
  have hc : Lib.countB ⟨l.toArray⟩ ⟨#[10]⟩ = l.count 10 := by
    show Lib.count l [10] = _
    rw [Lib.count_one]
  rw [hc] at h ⊢
  have h2 : (Lib.splitB ⟨#[10]⟩ 0 (l.count 10) ⟨l.toArray⟩).map (·.data.toList) = cutA [] l := h.trans (splitK_cut l)
  rw [← h2, List.map_map]
  refine (List.map_id'' (fun x => ?_) _).symm
  apply ByteArray.ext
  simp

theorem split_cut (l : List UInt8) (w : World) (hl : l.length ≤ 1048576) :
    Calls Tryd.prog 11 #[strV l, .string ⟨#[10]⟩] w fun e w' => e = .returned (.slice (some ⟨w.heap.size, 0, none⟩) (cutA [] l).length (cutA [] l).length) ∧
      (∀ (i : Nat) (h : i < (cutA [] l).length), w'.cell? ⟨w.heap.size, i, none⟩ = some (strV (cutA [] l)[i])) ∧ Below w.heap.size w w' ∧ w'.heap.size = w.heap.size + 1 := by
  refine (split_at ⟨l.toArray⟩ 10 w (by show l.length < _; omega)).mono ?_
  rintro e w' ⟨rfl, rfl⟩
  have hlen := Lib.splitB_all ⟨#[10]⟩ (Nat.le_refl _) 0 _ ⟨l.toArray⟩ rfl
  rw [splitB_cut] at hlen ⊢
  rw [List.length_map] at hlen
  refine ⟨by rw [hlen], fun i h => ?_, (Below.refl _ _).alloc (Nat.le_refl _) _, by simp⟩
  rw [World.cell?_alloc_new]
  simp [h]

set_option maxHeartbeats 2000000 in
theorem impl_ParseTaint (l : List UInt8) (w : World) (hl : l.length ≤ 1048576) :
    Calls Tryd.prog 5 #[strV l] w fun e w' => ∃ v, e = .returned (.tuple #[v, .bool (ptB l)]) ∧ MatOwn w' w.heap.size w'.heap.size v (ptV l) ∧ Below w.heap.size w w' := by
  obtain ⟨s, hs⟩ : ∃ s : ByteArray, s = ⟨l.toArray⟩ := ⟨_, rfl⟩
  have HS := show Hid _ from hs
  show Calls Tryd.prog 5 #[.string ⟨l.toArray⟩] w _
  rw [← hs]
  clear hs
  have hp := split_cut l w hl
  rw [show strV l = .string s from by rw [HS.out]] at hp
  obtain ⟨L, hL⟩ : ∃ L, L = cutA [] l := ⟨_, rfl⟩
  rw [← hL] at hp
  have HL := show Hid _ from hL
  have hpos : 1 ≤ L.length := by
    rw [hL]
    have := List.length_pos_iff.2 (cutA_ne l [])
    omega
  have hle : L.length ≤ 1048577 := by
    rw [hL]
    have := cut_len l []
    omega
  have HR : Hid (∀ x ∈ L, x.length ≤ 1048576) := by
    rw [hL]
    intro x hx
    have := cut_row l [] x hx
    simp only [List.length_nil] at this
    omega
  clear hL
  go_enter Tryd.func5, Tryd.ntmps5
  go_wp2_with fail
  refine hp.mono ?_
  rintro e w1 ⟨rfl, hc, b1, hw1⟩
  clear hp
  have s1 := b1.size
  have HC := show Hid _ from hc
  obtain ⟨last, hlast⟩ : ∃ n, n = L.length - 1 := ⟨_, rfl⟩
  have hll : L.length = last + 1 := by omega
  clear hlast
  have hx := hc last (by omega)
  obtain ⟨z, hz⟩ : ∃ z : ByteArray, z = ⟨(L[last]'(by omega)).toArray⟩ := ⟨_, rfl⟩
  have HZ := show Hid _ from hz
  have hx2 : w1.cell? ⟨w.heap.size, last, none⟩ = some (.string z) := by rw [hx, hz]
  clear hx hz hc
  rw [hll]
  have hbad : (¬ z.toList = [] ∨ last = 0 ∨ 400 < last) → ptB l = false ∧ ptV l = [] := by
    intro h
    have e0 : ptB l = false := by
      cases hh : ptB l
      · rfl
      · exfalso
        refine pt_bad ?_ ((ptB_iff l).1 hh)
        have e := HL.out
        subst e
        rcases h with h | h | h
        · left
          intro hg
          apply h
          rw [Lib.toList_data, HZ.out]
          rw [List.getLast_eq_getElem] at hg
          have hi : (cutA [] l)[last]'(by omega) = (cutA [] l)[(cutA [] l).length - 1]'(by omega) := by congr 1; omega
          exact hi.trans hg
        · right; left; omega
        · right; right; omega
    exact ⟨e0, by unfold ptV; rw [e0]; rfl⟩
  have HBAD := show Hid _ from hbad
  clear hbad
  by_cases hz0 : z.toList = []
  · have hzz : (!z.toList == []) = false := by rw [hz0]; rfl
    go_wp2_with fail
    refine (pt_within _ _ _ _).mono ?_
    rintro e w2 ⟨rfl, rfl⟩
    by_cases hin : 1 ≤ last ∧ last ≤ 400
    · obtain ⟨hi1, hi4⟩ := hin
      rw [show (decide ((1 : Int) ≤ last) && decide ((last : Int) ≤ 400)) = true from by simp; omega]
      clear hzz hz0 HZ hx2
      go_wp2_with fail
      go_loopw [6, 30] (fun out i wr => ∃ (k : Nat), k ≤ last ∧ i = .int .i64 k ∧ Hid (MatOwn wr w1.heap.size wr.heap.size out ((L.take k).map prs)) ∧ Below w1.heap.size w1 wr) (fun _ i _ => last - (intOf i).toNat)
      case atStart => exact ⟨0, by omega, rfl, mat_nil _ _ _, Below.refl _ _⟩
      case round =>
        rename World => wo
        obtain ⟨k, hk, rfl, HM, hb⟩ := hrel
        have sb := hb.size
        by_cases hlt : k < last
        · have hkl : k < L.length := by omega
          obtain ⟨sk, hsk⟩ : ∃ s : ByteArray, s = ⟨(L[k]).toArray⟩ := ⟨_, rfl⟩
          have hxx : w1.cell? ⟨w.heap.size, k, none⟩ = some (.string sk) := by rw [HC.out k hkl, hsk]
          obtain ⟨n, hn⟩ : ∃ n, n = L[k].length := ⟨_, rfl⟩
          have hszk : sk.size = n := by rw [hsk, hn]; rfl
          have HN := show Hid _ from hn
          have HSK := show Hid _ from hsk
          have hrl : n ≤ 1048576 := by rw [hn]; exact HR.out _ (List.getElem_mem hkl)
          clear hsk hn
          rw [← (bcell hb).1 _ _ (by omega)] at hxx
          obtain ⟨vs, m1, m2, m3, m4⟩ := HM.out
          obtain ⟨ao, co, rfl⟩ := m1.form
          have hlen : ((L.take k).map prs).length = k := by simp; omega
          rw [hlen] at m1 m4 ⊢
          have M1 : Hid (Own wo w1.heap.size wo.heap.size 30 1 (.slice ao k co) k vs) := m1
          have M2 := show Hid _ from m2
          have M3 := show Hid _ from m3
          have M4 := show Hid _ from m4
          clear m1 m2 m3 m4 HM
          go_wp2_with fail
          go_loopw [9, 36] (fun row kk wq => ∃ (j : Nat) (a : Option Addr) (c : Nat), j ≤ n ∧ kk = .int .i64 j ∧ row = .slice a j c ∧ Hid (wq.ownsRow wo.heap.size 4 1 (.slice a j c) j (bools (prs (L[k].take j)))) ∧ Below wo.heap.size wo wq) (fun _ kk _ => n - (intOf kk).toNat)
          case atStart => exact ⟨0, none, 0, by omega, rfl, rfl, show Hid _ from World.ownsRow_nil _ _ _ _, Below.refl _ _⟩
          case round =>
            rename World => wq
            obtain ⟨j, a, c, hj, rfl, rfl, HQ, hq⟩ := hrel
            have sq := hq.size
            by_cases hjn : j < n
            · have hjs : j < sk.size := by omega
              have ho := HQ.out
              obtain ⟨i0, hi0, hz0, hz1, hz2⟩ := info_parts infoB
              have hj0 : (0 : Int) ≤ (j : Int) := Int.natCast_nonneg _
              have hj1 : (j : Int) < (sk.size : Int) := by omega
              go_wp2_with fail
              go_region_held3 (fun _ => True) (exact trivial)
                ((refine step_append_lies _ (by rfl) _ _ _ (by rfl) wo.heap.size 4 i0 _ 1 1 Tryd.underlying30 hi0 hz0 hz1 hz2 rfl (by omega) (.slice a j c) j _ (by rfl) ((World.ownsRow.alloc ho _).drew)
                      ⟨wq.heap.size, 0, none⟩ 1 1 [.bool (((sk[j]'hjs).toNat : Int) == 72)] (by rfl) (by rfl) (World.news_of_block (cs := #[.bool (((sk[j]'hjs).toNat : Int) == 72)]) (t := 4) (fr := (0, 0)) (heap_alloc_new wq _)) (by simp [Value.oneCell'])
                      (by omega) (by unfold maxLen; omega) (by omega) (by simp; omega) (wq.heap.size + 1) (by simp) ?_; intro gg cap w4 o4 g4 hat hlt4))
              all_goals
                have hbd : Below wo.heap.size wo ((wq.alloc (.cells #[.bool (((sk[j]'hjs).toNat : Int) == 72)] 4)).drew) := (hq.alloc (by omega) _).drew
                have hb4 := hbd.trans (below_grown (v := .slice a j c) g4 (fun g hg => ((Own.mk' ho).lt g hg).1) hbd.size)
                have HB4 := show Hid _ from hb4
                have HO4 := show Hid _ from o4
                clear o4 g4 hat hlt4 hbd hb4 ho
                go_wp2_with fail
                refine ⟨⟨j + 1, some ⟨gg, 0, none⟩, cap, by omega, by go_num, rfl, ?_, HB4.out⟩, by simp [intOf]; omega⟩
                have hj2 : j < L[k].length := by have := HN.out; omega
                have e8 : (((sk[j]'hjs).toNat : Int) == 72) = decide (L[k][j] = 72) := by
                  have e := HSK.out
                  subst e
                  rw [Bool.eq_iff_iff, beq_iff_eq, decide_eq_true_iff]
                  show ((L[k][j].toNat : Int) = 72) ↔ L[k][j] = 72
                  constructor
                  · intro h; exact UInt8.toNat_inj.1 (by show L[k][j].toNat = 72; omega)
                  · intro h; rw [h]; rfl
                have o5 := HO4.out
                rw [e8] at o5
                rw [prs_snoc _ _ hj2, show ∀ x y, bools (x ++ y) = bools x ++ bools y from fun x y => by simp [bools]]
                exact show Hid _ from o5
            · have hjj : j = n := by omega
              subst hjj
              have Q1 : Hid (wq.ownsRow w1.heap.size 30 1 (.slice ao k co) k vs) := (M1.out.keep hq (Nat.le_refl _)).1
              go_wp2_with (at_builtin; refine wpList_app rfl _ _ rfl Tryd.underlying22 infoBS rfl (by omega) rfl (Q1.out.alloc _) rfl (row_one' _ (.slice a j c) _ rfl) (fun u hu => by simp at hu; subst hu; rfl) (by omega) (by omega) (by simp; omega) ?_; rintro a4 q4 w4 o4 b4 g4 h4)
              have hap := M1.out.keep (hq.alloc (by omega) (.cells #[.slice a j c] 30)) (Nat.le_refl _)
              have eR : prs (L[k].take j) = prs L[k] := by rw [List.take_of_length_le (by have := HN.out; omega)]
              have hQ := HQ.out
              rw [eR] at hQ
              have hru : Own (wq.alloc (.cells #[.slice a j c] 30)) wo.heap.size (wq.alloc (.cells #[.slice a j c] 30)).heap.size 4 1 (.slice a j c) (prs L[k]).length (bools (prs L[k])) := by
                rw [prs_len, ← HN.out]
                exact Own.mk' (hQ.alloc _)
              have hbw : Below wo.heap.size wo (wq.alloc (.cells #[.slice a j c] 30)) := hq.alloc (by omega) _
              refine ⟨⟨k + 1, by omega, by go_num, ?_, (hb.trans (hbw.mono sb)).trans b4⟩, by simp [intOf]; omega⟩
              rw [map_snoc L k hkl]
              have hl2 : ((L.take k).map prs).length = k := hlen
              exact mat_push (v := .slice ao k co) (lo := w1.heap.size) (B := wo.heap.size) (by rw [hl2]; exact hap) (fun i x r h1 h2 => (M2.out i x r h1 h2).keep hbw (Nat.le_refl _)) M3.out M4.out hru sb (by simp; omega) g4 (by rw [hl2]; exact o4) h4
        · have hPT : (L.take k).map prs = ptM l := by
            have e := HL.out
            subst e
            rw [pt_small (by omega), List.dropLast_eq_take]
            congr 2
            omega
          have hne : l ≠ [] := pt_ne (by rw [← HL.out]; omega)
          have HM2 := HM
          rw [hPT] at HM2
          clear HM
          go_wp2_with fail
          refine (impl_FormatTaint _ _ _ HM2.out.row (Nat.le_trans (ptM_size l) hl)).mono ?_
          rintro e w5 ⟨rfl, b5⟩
          have HM5 := (HM2.out.keep b5 (Nat.le_refl _)).wide s1 b5.size
          have B5 := (b1.trans (hb.mono s1)).trans (b5.mono (by omega))
          clear HM2 b5 hb hPT
          by_cases hq : fmtT (ptM l) = l
          · rw [hq, ← HS.out]
            have eB : ptB l = true := (ptB_iff l).2 ⟨hne, hq⟩
            have HP := show Hid _ from (show ptV l = ptM l from by unfold ptV; rw [if_pos eB])
            clear hq
            have f2 : (!s.toList == s.toList) = false := by simp
            go_wp2_with fail
            go_ret2
            rw [eB, HP.out]
            exact ⟨_, rfl, HM5, B5⟩
          · obtain ⟨q, hq2⟩ : ∃ q : ByteArray, q = ⟨(fmtT (ptM l)).toArray⟩ := ⟨_, rfl⟩
            have hqs : ¬ q = s := by
              rw [hq2, HS.out, strV_ne]
              exact hq
            rw [← hq2]
            have eB : ptB l = false := by
              cases hh : ptB l
              · rfl
              · exact absurd ((ptB_iff l).1 hh).2 hq
            have HP := show Hid _ from (show ptV l = [] from by unfold ptV; rw [eB]; rfl)
            have f2 : (!q.toList == s.toList) = true := by
              rw [Bool.not_eq_true', beq_eq_false_iff_ne]
              intro h
              rw [Lib.toList_data, Lib.toList_data] at h
              exact hqs (ByteArray.ext (Array.toList_inj.1 h))
            clear hq hq2
            go_wp2_with fail
            go_ret2
            rw [eB, HP.out]
            exact ⟨_, rfl, mat_nil _ _ _, B5⟩
    · rw [show (decide ((1 : Int) ≤ last) && decide ((last : Int) ≤ 400)) = false from by
        cases h : (decide ((1 : Int) ≤ last) && decide ((last : Int) ≤ 400))
        · rfl
        · simp at h; omega]
      obtain ⟨e0, e1⟩ := HBAD.out (by omega)
      have HE := show Hid _ from e0
      have HF := show Hid _ from e1
      clear e0 e1 hin HZ
      go_wp2_with fail
      go_ret2
      rw [HE.out, HF.out]
      exact ⟨_, rfl, mat_nil _ _ _, b1⟩
  · have hzz : (!z.toList == []) = true := by rw [Bool.not_eq_true', beq_eq_false_iff_ne]; exact hz0
    obtain ⟨e0, e1⟩ := HBAD.out (.inl hz0)
    have HE := show Hid _ from e0
    have HF := show Hid _ from e1
    clear e0 e1 HZ
    go_wp2_with fail
    go_ret2
    rw [HE.out, HF.out]
    exact ⟨_, rfl, mat_nil _ _ _, b1⟩

end Go.Proofs.YtooifghhgnlcoaaDoor
