/-
  The reference's l17Cut: a text cut at its line ends. Conditions: the text is no longer than 1048576 bytes.
-/
import Derived.Test.YtooifghhgnlcoaaDoorPtP
import Derived.Test.YtooifghhgnlcoaaDoorApp
import Derived.Laws.DeepStrings4
namespace Go.Proofs.YtooifghhgnlcoaaDoor
set_option linter.unusedVariables false
set_option linter.unusedSimpArgs false
open Go Go.RowKit

theorem infoStr : (Tryd.prog.info? 9).map (fun i => (i.zero, i.size, i.bytes)) = some (some (.string ByteArray.empty), 1, 16) := by kernel_rfl

theorem ext_list (l : List UInt8) (f k : Nat) : (⟨l.toArray⟩ : ByteArray).extract f k = ⟨((l.take k).drop f).toArray⟩ := by
  apply ByteArray.ext
  simp [List.drop_take]

theorem take_drop_succ (l : List UInt8) (f k : Nat) (h : k < l.length) (hf : f ≤ k) : (l.take (k + 1)).drop f = (l.take k).drop f ++ [l[k]] := by
  rw [take_succ_get _ _ h, List.drop_append_of_le_length (by simp; omega)]

set_option maxHeartbeats 1000000 in
theorem spec_cut (l : List UInt8) (w : World) (hl : l.length ≤ 1048576) :
    Calls Tryd.prog 9 #[strV l, .int .u8 10] w fun e w' => ∃ v, e = .returned v ∧ Own w' w.heap.size w'.heap.size 9 1 v (cutA [] l).length ((cutA [] l).map strV) ∧ Below w.heap.size w w' := by
  obtain ⟨s, hs⟩ : ∃ s : ByteArray, s = ⟨l.toArray⟩ := ⟨_, rfl⟩
  have hsz : s.size = l.length := by rw [hs]; rfl
  show Calls Tryd.prog 9 #[.string ⟨l.toArray⟩, .int .u8 10] w _
  rw [← hs]
  have HS := show Hid _ from hs
  clear hs
  go_enter Tryd.func9, Tryd.ntmps9
  go_wp2_with fail
  go_loopw [5, 6, 7] (fun out fr i wr => ∃ (k f : Nat) (done : List (List UInt8)) (a : Option Addr) (c : Nat), k ≤ l.length + 1 ∧ done.length ≤ k ∧ f ≤ k ∧ i = .int .i64 k ∧ fr = .int .i64 f ∧ out = .slice a done.length c ∧
      Hid (wr.ownsRow w.heap.size 9 1 (.slice a done.length c) done.length (done.map strV)) ∧ Below w.heap.size w wr ∧ (k ≤ l.length → cutA [] l = done ++ cutA ((l.take k).drop f) (l.drop k)) ∧ (k = l.length + 1 → done = cutA [] l)) (fun _ _ i _ => l.length + 1 - (intOf i).toNat)
  case atStart => exact ⟨0, 0, [], some ⟨w.heap.size, 0, none⟩, 0, by omega, Nat.le_refl _, Nat.le_refl _, rfl, rfl, rfl, show Hid _ from (own_built w #[] 0 1 _ rfl rfl (by omega)).1, by go_grown, fun _ => by simp, fun h => by omega⟩
  case round =>
    obtain ⟨k, f, done, a, c, hk, hdk, hfk, rfl, rfl, rfl, hq, hb, h1, h2⟩ := hrel
    have HQ := hq
    have H1 := show Hid _ from h1
    have H2 := show Hid _ from h2
    clear h1 h2 hq
    have sb := hb.size
    have HE : Hid (s.extract f k = ⟨((l.take k).drop f).toArray⟩) := by
      rw [HS.out]; exact ext_list l f k
    by_cases hlt : k < l.length
    · have hk' : k < s.size := by omega
      have HK : Hid (s[k]'hk' = l[k]) := by
        have e := HS.out
        subst e
        rfl
      have HD : Hid (l.drop k = l[k] :: l.drop (k + 1)) := List.drop_eq_getElem_cons hlt
      by_cases hc : (((s[k]'hk').toNat : Int) == 10) = true
      · have HC := show Hid _ from hc
        go_wp2_with (at_builtin; refine wpList_app rfl _ _ rfl Tryd.underlying28 infoStr rfl (by omega) rfl (HQ.out.alloc _) rfl (row_one' _ (.string (s.extract f k)) _ rfl) (fun u hu => by simp at hu; subst hu; rfl) (by omega) (by omega) (by simp; omega) ?_; rintro a4 q4 w4 o4 b4 g4 h4)
        have e10 : l[k] = 10 := by
          have h := HC.out
          rw [HK.out] at h
          have h2 : (l[k].toNat : Int) = 10 := by simpa using h
          exact UInt8.toNat_inj.1 (by show l[k].toNat = 10; omega)
        refine ⟨⟨k + 1, k + 1, done ++ [(l.take k).drop f], a4, q4, by omega, by simp; omega, Nat.le_refl _, by go_num, by go_num, by simp, ?_, (hb.alloc sb _).trans b4, fun hk2 => ?_, fun h => by omega⟩, by simp [intOf]; omega⟩
        · rw [HE.out] at o4
          rw [List.length_append, List.map_append]
          exact show Hid _ from o4
        · have hn : (l.take (k + 1)).drop (k + 1) = [] := List.drop_eq_nil_of_le (by rw [List.length_take]; omega)
          rw [H1.out (by omega), HD.out, e10, cutA, if_pos rfl, hn]
          simp
      · have HC := show Hid (¬ _) from hc
        go_wp2_with fail
        refine ⟨⟨k + 1, f, done, a, c, by omega, by omega, by omega, by go_num, rfl, rfl, HQ, hb, fun hk2 => ?_, fun h => by omega⟩, by simp [intOf]; omega⟩
        have e10 : ¬ l[k] = 10 := by
          intro h
          refine HC.out ?_
          rw [HK.out, h]
          rfl
        rw [H1.out (by omega), HD.out, cutA, if_neg e10, take_drop_succ _ _ _ hlt hfk]
    · by_cases he : k = l.length
      · subst he
        go_wp2_with (at_builtin; refine wpList_app rfl _ _ rfl Tryd.underlying28 infoStr rfl (by omega) rfl (HQ.out.alloc _) rfl (row_one' _ (.string (s.extract f l.length)) _ rfl) (fun u hu => by simp at hu; subst hu; rfl) (by omega) (by omega) (by simp; omega) ?_; rintro a4 q4 w4 o4 b4 g4 h4)
        refine ⟨⟨l.length + 1, l.length + 1, done ++ [(l.take l.length).drop f], a4, q4, by omega, by simp; omega, Nat.le_refl _, by go_num, by go_num, by simp, ?_, (hb.alloc sb _).trans b4, fun hk2 => by omega, fun h => ?_⟩, by simp [intOf]⟩
        · rw [HE.out] at o4
          rw [List.length_append, List.map_append]
          exact show Hid _ from o4
        · rw [H1.out (Nat.le_refl _), List.drop_length]
          rfl
      · go_wp2_with fail
        go_ret
        have hd := H2.out (by omega)
        have hq2 := HQ.out
        rw [hd] at hq2
        exact ⟨_, by rw [hd]; rfl, Own.mk' hq2, hb⟩

end Go.Proofs.YtooifghhgnlcoaaDoor
