/-
  The laws' helpers that mark a slice of slices of bools and look at the marks, a contract each. Conditions: such slices, of bounded size.
-/
import Derived.Test.YtooifghhgnlcoaaDoorLawMat
namespace Go.Proofs.YtooifghhgnlcoaaDoor
set_option linter.unusedVariables false
set_option linter.unusedSimpArgs false
open Go Go.RowKit

def marksBB : Nat → List (List Bool) → List (List Bool)
  | _, [] => []
  | K, r :: m => marksB K r.length :: marksBB (K + r.length) m
theorem marksBB_len : ∀ (K : Nat) (m : List (List Bool)), (marksBB K m).length = m.length
  | _, [] => rfl
  | K, r :: m => by simp [marksBB, marksBB_len]
theorem marksBB_get : ∀ (K : Nat) (m : List (List Bool)) (i : Nat) (h : i < m.length) (h' : i < (marksBB K m).length), (marksBB K m)[i] = marksB (K + rowSum (m.take i)) m[i].length
  | _, [], i, h, _ => by simp at h
  | K, r :: m, 0, _, _ => by simp [marksBB, rowSum]
  | K, r :: m, i + 1, h, h' => by
    have := marksBB_get (K + r.length) m i (by simpa using h) (by rw [marksBB_len]; simpa using h)
    simp only [marksBB, List.getElem_cons_succ, List.take_succ_cons]
    rw [this]
    simp [rowSum, Nat.add_assoc]

/-- A row's bits turn in place. -/
theorem MatOwn.turn {w w' : World} {lo hi lo' hi' : Nat} {v u : Value} {m : List (List Bool)} {vs : List Value} {i : Nat} {r : List Bool}
    (h1 : Own w lo hi 30 1 v m.length vs) (h2 : ∀ (i : Nat) (u : Value) (r : List Bool), vs[i]? = some u → m[i]? = some r → Own w lo hi 4 1 u r.length (bools r))
    (h3 : ∀ (i j : Nat) (u u' : Value), i < j → vs[i]? = some u → vs[j]? = some u' → Disj u u') (h4 : ∀ (i : Nat) (u : Value), vs[i]? = some u → Disj u v)
    (him : i < m.length) (hu : vs[i]? = some u) (hr : r.length = m[i].length) (ho : Own w' lo hi 4 1 u r.length (bools r)) (hw : Out lo' hi' w w') (ht : ∀ g, lo' ≤ g → g < hi' → u.ownBlock = some g) :
    Own w' lo hi 30 1 v m.length vs ∧ (∀ (j : Nat) (a : Value) (q : List Bool), vs[j]? = some a → (m.set i r)[j]? = some q → Own w' lo hi 4 1 a q.length (bools q)) := by
  refine ⟨h1.disj hw ht (h4 i u hu), fun j a q ha hq => ?_⟩
  rw [List.getElem?_set] at hq
  by_cases e : i = j
  · subst e
    rw [if_pos rfl, if_pos him] at hq
    cases hq
    rw [hu] at ha
    cases ha
    exact ho
  · rw [if_neg e] at hq
    refine (h2 j a q ha hq).disj hw ht ?_
    rcases Nat.lt_or_ge i j with h | h
    · exact h3 i j u a h hu ha
    · exact (h3 j i a u (by omega) ha hu).symm

def mixBB (K : Nat) (m : List (List Bool)) (k : Nat) : List (List Bool) := (marksBB K m).take k ++ m.drop k
theorem mixBB_len (K : Nat) (m : List (List Bool)) (k : Nat) : (mixBB K m k).length = m.length := by
  unfold mixBB
  rw [List.length_append, List.length_take, List.length_drop, marksBB_len]
  omega
theorem mixBB_at (K : Nat) (m : List (List Bool)) (k : Nat) (h : k < m.length) : (mixBB K m k)[k]? = some m[k] := by
  unfold mixBB
  rw [List.getElem?_append_right (by rw [List.length_take]; omega), List.length_take, marksBB_len, Nat.min_eq_left (by omega), Nat.sub_self, List.getElem?_drop, Nat.add_zero, List.getElem?_eq_getElem h]
theorem mixBB_succ (K : Nat) (m : List (List Bool)) (k : Nat) (h : k < m.length) : mixBB K m (k + 1) = (mixBB K m k).set k (marksB (K + rowSum (m.take k)) m[k].length) := by
  have hk : k < (marksBB K m).length := by rw [marksBB_len]; exact h
  have hl : ((marksBB K m).take k).length = k := by rw [List.length_take]; omega
  unfold mixBB
  rw [List.set_append_right _ _ (by omega), hl, Nat.sub_self, List.drop_eq_getElem_cons h, List.set_cons_zero, take_succ_get _ _ hk, marksBB_get K m k h hk]
  simp

set_option maxHeartbeats 1000000 in
theorem markBoolSS_any (v : Value) (m : List (List Bool)) (K lo hi : Nat) (w : World) (h : MatOwn w lo hi v m) (hK : K + rowSum m ≤ 1000000000000000000) :
    Calls Tryd.prog 7 #[v, .int .i64 K] w fun e w' => e = .returned (.int .i64 (K + rowSum m : Nat)) ∧ MatOwn w' lo hi v (marksBB K m) ∧ Out lo hi w w' := by
  obtain ⟨vs, h1, h2, h3, h4⟩ := h
  have hvl : vs.length = m.length := by have := h1.1.1; omega
  obtain ⟨a1, c1, rfl, -, hm1, -, -⟩ := h1.row.open1
  have H3 := show Hid _ from h3
  have H4 := show Hid _ from h4
  have HV := show Hid _ from hvl
  clear h3 h4 hvl
  go_enter Tryd.func7, Tryd.ntmps7
  go_wp2_with fail
  go_loopw [1, 5] (fun q i wr => ∃ (k : Nat), k ≤ m.length ∧ q = .int .i64 ((K + rowSum (m.take k) : Nat) : Int) ∧ i = .int .i64 k ∧ Own wr lo hi 30 1 (.slice a1 m.length c1) m.length vs ∧
      (∀ (i : Nat) (u : Value) (r : List Bool), vs[i]? = some u → (mixBB K m k)[i]? = some r → Own wr lo hi 4 1 u r.length (bools r)) ∧ Out lo hi w wr) (fun _ i _ => m.length - (intOf i).toNat)
  case atStart => exact ⟨0, Nat.zero_le _, by simp [rowSum], rfl, h1, by simpa [mixBB] using h2, Out.refl _ _ _⟩
  case round =>
    obtain ⟨k, hk, rfl, rfl, ho, hr, hb⟩ := hrel
    have HR := show Hid _ from hr
    clear hr h1 h2
    by_cases hlt : k < m.length
    · have hkv : k < vs.length := by rw [HV.out]; exact hlt
      obtain ⟨g, cap, hv, hg1, hg2, hg3, -, -, -, hcc⟩ := ho.open (by omega)
      cases hv
      have hx := hcc k _ (List.getElem?_eq_getElem hkv)
      have hou := HR.out k _ _ (List.getElem?_eq_getElem hkv) (mixBB_at K m k hlt)
      obtain ⟨u, hu⟩ : ∃ u, u = vs[k] := ⟨_, rfl⟩
      have huv : vs[k]? = some u := by rw [hu]; exact List.getElem?_eq_getElem hkv
      rw [← hu] at hx hou
      obtain ⟨au, cu, rfl⟩ := hou.form
      obtain ⟨lo', hi', k1, k2, hot, ht⟩ := hou.tight
      have hsum := rowSum_take m k hlt
      have hle := rowSum_le m (k + 1)
      have HUV := show Hid _ from huv
      have HT := show Hid _ from ht
      clear hcc hu huv ht
      go_wp2_with fail
      refine (markBoolS_any _ m[k] (K + rowSum (m.take k)) lo' hi' _ hot (by omega)).mono ?_
      rintro e w1 ⟨rfl, o1, b1⟩
      have HN := show Hid _ from MatOwn.turn (m := mixBB K m k) (i := k) (r := marksB (K + rowSum (m.take k)) m[k].length) (by rw [mixBB_len]; exact ho) HR.out H3.out H4.out (by rw [mixBB_len]; exact hlt) HUV.out
        (by rw [marksB_len]; have := mixBB_at K m k hlt; rw [List.getElem?_eq_getElem (by rw [mixBB_len]; exact hlt)] at this; rw [Option.some.inj this]) (by rw [marksB_len]; exact o1.wide k1 k2) b1 HT.out
      have HS := show Hid _ from mixBB_succ K m k hlt
      have e1 : K + rowSum (m.take k) + m[k].length = K + rowSum (m.take (k + 1)) := by omega
      rw [e1]
      clear e1 hsum hle
      go_wp2_with fail
      exact ⟨⟨k + 1, by omega, rfl, by go_num, by have := HN.out.1; rwa [mixBB_len] at this, by rw [HS.out]; exact HN.out.2, hb.trans (b1.wide k1 k2)⟩, by simp [intOf]; omega⟩
    · have e : k = m.length := by omega
      subst e
      go_wp2_with fail
      go_ret
      have hmix : mixBB K m m.length = marksBB K m := by
        unfold mixBB
        rw [List.take_of_length_le (by rw [marksBB_len]; exact Nat.le_refl _), List.drop_length, List.append_nil]
      have hr := HR.out
      rw [hmix] at hr
      refine ⟨by rw [List.take_length]; rfl, ⟨vs, by rw [marksBB_len]; exact ho, hr, H3.out, H4.out⟩, hb⟩

set_option maxHeartbeats 1000000 in
theorem heldBoolSS_any (v : Value) (m : List (List Bool)) (K : Nat) (w : World) (h : MatRow w v (marksBB K m)) (hK : K + rowSum m ≤ 1000000000000000000) :
    Calls Tryd.prog 8 #[v, .int .i64 K] w fun e w' => e = .returned (.int .i64 (K + rowSum m : Nat)) ∧ Below w.heap.size w w' := by
  obtain ⟨a, cap, hv, hm, hc⟩ := h.open
  rw [marksBB_len] at hm hv
  subst hv
  have hc' : ∀ i (hi : i < m.length), ∃ b off a' c', a = some ⟨b, off, none⟩ ∧ b < w.heap.size ∧ w.cell? ⟨b, off + i, none⟩ = some (.slice a' m[i].length c') ∧ Row w (.slice a' m[i].length c') m[i].length 1 (bools (marksB (K + rowSum (m.take i)) m[i].length)) := by
    intro i hi
    have := hc i (by rw [marksBB_len]; exact hi)
    rw [marksBB_get K m i hi, marksB_len] at this
    exact this
  clear hc h
  go_enter Tryd.func8, Tryd.ntmps8
  go_wp2_with fail
  go_loopw [1, 5] (fun q i wr => ∃ (k : Nat), k ≤ m.length ∧ q = .int .i64 ((K + rowSum (m.take k) : Nat) : Int) ∧ i = .int .i64 k ∧ Below w.heap.size w wr) (fun _ i _ => m.length - (intOf i).toNat)
  case atStart => exact ⟨0, Nat.zero_le _, by simp [rowSum], rfl, Below.refl _ _⟩
  case round =>
    obtain ⟨k, hk, rfl, rfl, hb⟩ := hrel
    by_cases hlt : k < m.length
    · obtain ⟨b, off, a', c', rfl, hbk, hx, hr⟩ := hc' k hlt
      rw [← (bcell hb).1 _ _ hbk] at hx
      replace hr := hr.below hb
      have hsum := rowSum_take m k hlt
      have hle := rowSum_le m (k + 1)
      have e1 : K + rowSum (m.take k) + m[k].length = K + rowSum (m.take (k + 1)) := by omega
      clear hc'
      go_wp2_with fail
      refine (heldBoolS_any _ m[k].length (K + rowSum (m.take k)) _ hr (by omega)).mono ?_
      rintro e w1 ⟨rfl, nd, rfl⟩
      rw [e1]
      have b1 : Below wr.heap.size wr (wr.drewN nd) := below_drewN (Below.refl _ _) nd
      have hb1 := hb.trans (b1.mono hb.size)
      generalize wr.drewN nd = w1 at *
      have hnn : (0 : Int) ≤ ((K + rowSum (m.take (k + 1)) : Nat) : Int) := by omega
      clear e1 hsum hle
      go_wp2_with fail
      exact ⟨⟨k + 1, by omega, rfl, by go_num, hb1⟩, by simp [intOf]; omega⟩
    · have e : k = m.length := by omega
      subst e
      go_wp2_with fail
      go_ret
      exact ⟨by rw [List.take_length]; rfl, hb⟩

end Go.Proofs.YtooifghhgnlcoaaDoor
