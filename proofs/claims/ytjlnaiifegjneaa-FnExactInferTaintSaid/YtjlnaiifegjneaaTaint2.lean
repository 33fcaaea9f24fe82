/-
  What an instruction with a row amounts to, both sides. Conditions: code, a valid instruction, a row of fourteen.
-/
import Derived.Test.YtjlnaiifegjneaaTaint1
import Derived.Test.YtjlnaiifegjneaaLawBool
namespace Go.Proofs.Ytjlnaiifegjneaa
open Go Go.RowKit

theorem Row.bools14 {w : World} {v : Value} {t : List Bool} (h : Row w v 14 1 (bools t)) : t.length = 14 ∧ ∃ b off cap, v = .slice (some ⟨b, off, none⟩) 14 cap ∧ 14 ≤ cap ∧ cap ≤ 9223372036854775807 ∧ b < w.heap.size ∧ ∀ k : Nat, k < 14 → w.cell? ⟨b, off + k, none⟩ = some (.bool (bAt t k)) := by
  have hl : t.length = 14 := by have := h.1; simpa [bools] using this
  obtain ⟨a, cap, rfl, h1, -, h2, h3⟩ := h.open1
  obtain ⟨b, off, rfl, hb, -⟩ := h3 0 (by omega)
  refine ⟨hl, b, off, cap, rfl, h1, h2, hb, fun k hk => ?_⟩
  obtain ⟨b', off', he, -, hc⟩ := h3 k hk
  cases he
  rw [hc]
  simp [bools, bAt, show k < t.length by omega]

theorem Row.intsAt {w : World} {v : Value} {l : List Int} (h : Row w v l.length 1 (ints l)) (hn : 0 < l.length) : ∃ b off cap, v = .slice (some ⟨b, off, none⟩) l.length cap ∧ l.length ≤ cap ∧ cap ≤ 9223372036854775807 ∧ l.length ≤ 9223372036854775807 ∧ b < w.heap.size ∧ ∀ k : Nat, k < l.length → w.cell? ⟨b, off + k, none⟩ = some (.int .i64 (iAt l k)) := by
  obtain ⟨a, cap, rfl, h1, h4, h2, h3⟩ := h.open1
  obtain ⟨b, off, rfl, hb, -⟩ := h3 0 hn
  refine ⟨b, off, cap, rfl, h1, h2, h4, hb, fun k hk => ?_⟩
  obtain ⟨b', off', he, -, hc⟩ := h3 k hk
  cases he
  rw [hc]
  simp [ints, iAt, hk]

set_option maxHeartbeats 2000000 in
theorem spec_l9Own (v u : Value) (c : LCode) (x : LIns) (t : List Bool) (w : World) (h : CodeRow w v c) (hx : insOk c x = true) (ht : Row w u 14 1 (bools t)) :
    Calls Try.prog 67 #[v, x.v, u] w fun e w' => e = .returned (.int .i64 (ownF c x t)) ∧ Below w.heap.size w w' := by
  obtain ⟨v1, v2, v3, rfl, h1, h2, h3⟩ := h
  have hf := ins_fields hx
  obtain ⟨o, a, b, d, g⟩ := x
  simp only at hf
  obtain ⟨W, hW⟩ : ∃ W, W = ((w.alloc (.cells #[v1, v2, v3] 36)).alloc (.cells #[.int .i64 o, .int .i64 a, .int .i64 b, .int .i64 d, .int .i64 g] 66)) := ⟨_, rfl⟩
  have B0 : Below w.heap.size w W := by rw [hW]; go_grown
  obtain ⟨htl, tb, to, tc, rfl, htc, htm, htb, htx⟩ := ht.bools14
  clear ht hx
  have hOF : Hid (ownF c ⟨o, a, b, d, g⟩ t = if o = 3 then (if bAt t b && !secB (iAt c.vars a) then 1 else 0) else if o = 4 then (if bAt t d then 4 else 0)
      else if o = 5 then (if bAt t b then 4 else if bAt t d && !secB (iAt c.arrays a) then 1 else 0) else if o = 9 ∨ o = 10 then (if bAt t a then 3 else 0) else 0) := rfl
  have tx : ∀ k : Nat, k < 14 → W.cell? ⟨tb, to + k, none⟩ = some (.bool (bAt t k)) := fun k hk => by rw [(bcell B0).1 _ _ htb]; exact htx k hk
  clear htx
  by_cases o3 : o = 3
  · subst o3
    obtain ⟨⟨f1, f2⟩, f3, f4⟩ := hf.2.2.2.1 rfl
    clear hf
    obtain ⟨b', rfl⟩ : ∃ n : Nat, b = n := ⟨b.toNat, by omega⟩
    obtain ⟨a', rfl⟩ : ∃ n : Nat, a = n := ⟨a.toNat, by omega⟩
    obtain ⟨vb, vo, vc, rfl, hvc, hvm, hvn, hvb, hvx⟩ := h1.intsAt (by omega)
    have y1 := tx b' (by omega)
    have y2 := hvx a' (by omega)
    rw [← (bcell B0).1 _ _ hvb] at y2
    rw [hW] at y1 y2
    have hR : Hid (ownF c ⟨3, a', b', d, g⟩ t = if bAt t b' && !secB (iAt c.vars a') then 1 else 0) := by unfold Hid; rw [hOF.out]; simp
    clear hOF tx hvx h1 h2 h3
    cases hb : bAt t b'
    all_goals
      rw [hb] at y1
      have HB := show Hid _ from hb
      clear hb
      go_enter Try.func67, Try.ntmps67
      go_wp2_with fail
    · go_ret
      exact ⟨ret_int (by rw [hR.out, HB.out]; rfl), by go_grown⟩
    · refine (spec_LabelSecret _ _).mono ?_
      rintro e w1 ⟨rfl, rfl⟩
      cases hs : secB (iAt c.vars a')
      all_goals
        have HS := show Hid _ from hs
        clear hs
        go_wp2_with fail
        go_ret
        exact ⟨ret_int (by rw [hR.out, HB.out, HS.out]; rfl), by go_grown⟩
  by_cases o4 : o = 4
  · subst o4
    have hff := (hf.2.2.2.2.1 rfl).2.2
    obtain ⟨k', hk'⟩ : ∃ n : Nat, d = n := ⟨d.toNat, by omega⟩
    subst hk'
    have hk14 : k' < 14 := by omega
    have y1 := tx k' hk14
    rw [hW] at y1
    have hR : Hid (ownF c ⟨4, a, b, k', g⟩ t = if bAt t k' then 4 else 0) := by unfold Hid; rw [hOF.out]; simp
    clear hOF tx h1 h2 h3 hf hff
    cases hb : bAt t k'
    all_goals
      rw [hb] at y1
      have HB := show Hid _ from hb
      clear hb
      go_enter Try.func67, Try.ntmps67
      go_wp2_with fail
      go_ret
      exact ⟨ret_int (by rw [hR.out, HB.out]; rfl), by go_grown⟩
  by_cases o5 : o = 5
  · subst o5
    obtain ⟨⟨f1, f2⟩, ⟨f3, f4⟩, f5, f6⟩ := hf.2.2.2.2.2.1 rfl
    clear hf
    obtain ⟨b', rfl⟩ : ∃ n : Nat, b = n := ⟨b.toNat, by omega⟩
    obtain ⟨a', rfl⟩ : ∃ n : Nat, a = n := ⟨a.toNat, by omega⟩
    obtain ⟨d', rfl⟩ : ∃ n : Nat, d = n := ⟨d.toNat, by omega⟩
    obtain ⟨vb, vo, vc, rfl, hvc, hvm, hvn, hvb, hvx⟩ := h2.intsAt (by omega)
    have y1 := tx b' (by omega)
    have y3 := tx d' (by omega)
    have y2 := hvx a' (by omega)
    rw [← (bcell B0).1 _ _ hvb] at y2
    rw [hW] at y1 y2 y3
    have hR : Hid (ownF c ⟨5, a', b', d', g⟩ t = if bAt t b' then 4 else if bAt t d' && !secB (iAt c.arrays a') then 1 else 0) := by unfold Hid; rw [hOF.out]; simp
    clear hOF tx hvx h1 h2 h3
    cases hb : bAt t b'
    all_goals
      rw [hb] at y1
      have HB := show Hid _ from hb
      clear hb
    · cases hd : bAt t d'
      all_goals
        rw [hd] at y3
        have HD := show Hid _ from hd
        clear hd
        go_enter Try.func67, Try.ntmps67
        go_wp2_with fail
      · go_ret
        exact ⟨ret_int (by rw [hR.out, HB.out, HD.out]; rfl), by go_grown⟩
      · refine (spec_LabelSecret _ _).mono ?_
        rintro e w1 ⟨rfl, rfl⟩
        cases hs : secB (iAt c.arrays a')
        all_goals
          have HS := show Hid _ from hs
          clear hs
          go_wp2_with fail
          go_ret
          exact ⟨ret_int (by rw [hR.out, HB.out, HD.out, HS.out]; rfl), by go_grown⟩
    · go_enter Try.func67, Try.ntmps67
      go_wp2_with fail
      go_ret
      exact ⟨ret_int (by rw [hR.out, HB.out]; rfl), by go_grown⟩
  by_cases o9 : o = 9
  · subst o9
    have hff := hf.2.2.2.2.2.2.2.2.1 rfl
    obtain ⟨k', hk'⟩ : ∃ n : Nat, a = n := ⟨a.toNat, by omega⟩
    subst hk'
    have hk14 : k' < 14 := by omega
    have y1 := tx k' hk14
    rw [hW] at y1
    have hR : Hid (ownF c ⟨9, k', b, d, g⟩ t = if bAt t k' then 3 else 0) := by unfold Hid; rw [hOF.out]; simp
    clear hOF tx h1 h2 h3 hf hff
    cases hb : bAt t k'
    all_goals
      rw [hb] at y1
      have HB := show Hid _ from hb
      clear hb
      go_enter Try.func67, Try.ntmps67
      go_wp2_with fail
      go_ret
      exact ⟨ret_int (by rw [hR.out, HB.out]; rfl), by go_grown⟩
  by_cases o10 : o = 10
  · subst o10
    have hff := hf.2.2.2.2.2.2.2.2.2 rfl
    obtain ⟨k', hk'⟩ : ∃ n : Nat, a = n := ⟨a.toNat, by omega⟩
    subst hk'
    have hk14 : k' < 14 := by omega
    have y1 := tx k' hk14
    rw [hW] at y1
    have hR : Hid (ownF c ⟨10, k', b, d, g⟩ t = if bAt t k' then 3 else 0) := by unfold Hid; rw [hOF.out]; simp
    clear hOF tx h1 h2 h3 hf hff
    cases hb : bAt t k'
    all_goals
      rw [hb] at y1
      have HB := show Hid _ from hb
      clear hb
      go_enter Try.func67, Try.ntmps67
      go_wp2_with fail
      go_ret
      exact ⟨ret_int (by rw [hR.out, HB.out]; rfl), by go_grown⟩
  have hR : Hid (ownF c ⟨o, a, b, d, g⟩ t = 0) := by unfold Hid; rw [hOF.out]; simp [o3, o4, o5, o9, o10]
  clear hOF tx h1 h2 h3 hf
  have p3 : (o == 3) = false := by simp [o3]
  have p4 : (o == 4) = false := by simp [o4]
  have p5 : (o == 5) = false := by simp [o5]
  have p9 : (o == 9) = false := by simp [o9]
  have p10 : (o == 10) = false := by simp [o10]
  clear o3 o4 o5 o9 o10
  go_enter Try.func67, Try.ntmps67
  go_wp2_with fail
  go_ret
  exact ⟨ret_int hR.out.symm, by go_grown⟩

set_option maxHeartbeats 2000000 in
theorem impl_found (v u : Value) (c : LCode) (x : LIns) (t : List Bool) (w : World) (h : CodeRow w v c) (hx : insOk c x = true) (ht : Row w u 14 1 (bools t)) :
    Calls Try.prog 102 #[v, x.v, u] w fun e w' => e = .returned (.int .i64 (ownF c x t)) ∧ Below w.heap.size w w' := by
  obtain ⟨v1, v2, v3, rfl, h1, h2, h3⟩ := h
  have hf := ins_fields hx
  obtain ⟨o, a, b, d, g⟩ := x
  simp only at hf
  obtain ⟨W, hW⟩ : ∃ W, W = ((w.alloc (.cells #[v1, v2, v3] 36)).alloc (.cells #[.int .i64 o, .int .i64 a, .int .i64 b, .int .i64 d, .int .i64 g] 66)) := ⟨_, rfl⟩
  have B0 : Below w.heap.size w W := by rw [hW]; go_grown
  obtain ⟨htl, tb, to, tc, rfl, htc, htm, htb, htx⟩ := ht.bools14
  clear ht hx
  have hOF : Hid (ownF c ⟨o, a, b, d, g⟩ t = if o = 3 then (if bAt t b && !secB (iAt c.vars a) then 1 else 0) else if o = 4 then (if bAt t d then 4 else 0)
      else if o = 5 then (if bAt t b then 4 else if bAt t d && !secB (iAt c.arrays a) then 1 else 0) else if o = 9 ∨ o = 10 then (if bAt t a then 3 else 0) else 0) := rfl
  have tx : ∀ k : Nat, k < 14 → W.cell? ⟨tb, to + k, none⟩ = some (.bool (bAt t k)) := fun k hk => by rw [(bcell B0).1 _ _ htb]; exact htx k hk
  clear htx
  by_cases o3 : o = 3
  · subst o3
    obtain ⟨⟨f1, f2⟩, f3, f4⟩ := hf.2.2.2.1 rfl
    clear hf
    obtain ⟨b', rfl⟩ : ∃ n : Nat, b = n := ⟨b.toNat, by omega⟩
    obtain ⟨a', rfl⟩ : ∃ n : Nat, a = n := ⟨a.toNat, by omega⟩
    obtain ⟨vb, vo, vc, rfl, hvc, hvm, hvn, hvb, hvx⟩ := h1.intsAt (by omega)
    have y1 := tx b' (by omega)
    have y2 := hvx a' (by omega)
    rw [← (bcell B0).1 _ _ hvb] at y2
    rw [hW] at y1 y2
    have hR : Hid (ownF c ⟨3, a', b', d, g⟩ t = if bAt t b' && !secB (iAt c.vars a') then 1 else 0) := by unfold Hid; rw [hOF.out]; simp
    clear hOF tx hvx h1 h2 h3
    cases hb : bAt t b'
    all_goals
      rw [hb] at y1
      have HB := show Hid _ from hb
      clear hb
      go_enter Try.func102, Try.ntmps102
      go_wp2_with fail
    · go_ret
      exact ⟨ret_int (by rw [hR.out, HB.out]; rfl), by go_grown⟩
    · refine (impl_LabelSecret _ _).mono ?_
      rintro e w1 ⟨rfl, rfl⟩
      cases hs : secB (iAt c.vars a')
      all_goals
        have HS := show Hid _ from hs
        clear hs
        go_wp2_with fail
        go_ret
        exact ⟨ret_int (by rw [hR.out, HB.out, HS.out]; rfl), by go_grown⟩
  by_cases o4 : o = 4
  · subst o4
    have hff := (hf.2.2.2.2.1 rfl).2.2
    obtain ⟨k', hk'⟩ : ∃ n : Nat, d = n := ⟨d.toNat, by omega⟩
    subst hk'
    have hk14 : k' < 14 := by omega
    have y1 := tx k' hk14
    rw [hW] at y1
    have hR : Hid (ownF c ⟨4, a, b, k', g⟩ t = if bAt t k' then 4 else 0) := by unfold Hid; rw [hOF.out]; simp
    clear hOF tx h1 h2 h3 hf hff
    cases hb : bAt t k'
    all_goals
      rw [hb] at y1
      have HB := show Hid _ from hb
      clear hb
      go_enter Try.func102, Try.ntmps102
      go_wp2_with fail
      go_ret
      exact ⟨ret_int (by rw [hR.out, HB.out]; rfl), by go_grown⟩
  by_cases o5 : o = 5
  · subst o5
    obtain ⟨⟨f1, f2⟩, ⟨f3, f4⟩, f5, f6⟩ := hf.2.2.2.2.2.1 rfl
    clear hf
    obtain ⟨b', rfl⟩ : ∃ n : Nat, b = n := ⟨b.toNat, by omega⟩
    obtain ⟨a', rfl⟩ : ∃ n : Nat, a = n := ⟨a.toNat, by omega⟩
    obtain ⟨d', rfl⟩ : ∃ n : Nat, d = n := ⟨d.toNat, by omega⟩
    obtain ⟨vb, vo, vc, rfl, hvc, hvm, hvn, hvb, hvx⟩ := h2.intsAt (by omega)
    have y1 := tx b' (by omega)
    have y3 := tx d' (by omega)
    have y2 := hvx a' (by omega)
    rw [← (bcell B0).1 _ _ hvb] at y2
    rw [hW] at y1 y2 y3
    have hR : Hid (ownF c ⟨5, a', b', d', g⟩ t = if bAt t b' then 4 else if bAt t d' && !secB (iAt c.arrays a') then 1 else 0) := by unfold Hid; rw [hOF.out]; simp
    clear hOF tx hvx h1 h2 h3
    cases hb : bAt t b'
    all_goals
      rw [hb] at y1
      have HB := show Hid _ from hb
      clear hb
    · cases hd : bAt t d'
      all_goals
        rw [hd] at y3
        have HD := show Hid _ from hd
        clear hd
        go_enter Try.func102, Try.ntmps102
        go_wp2_with fail
      · go_ret
        exact ⟨ret_int (by rw [hR.out, HB.out, HD.out]; rfl), by go_grown⟩
      · refine (impl_LabelSecret _ _).mono ?_
        rintro e w1 ⟨rfl, rfl⟩
        cases hs : secB (iAt c.arrays a')
        all_goals
          have HS := show Hid _ from hs
          clear hs
          go_wp2_with fail
          go_ret
          exact ⟨ret_int (by rw [hR.out, HB.out, HD.out, HS.out]; rfl), by go_grown⟩
    · go_enter Try.func102, Try.ntmps102
      go_wp2_with fail
      go_ret
      exact ⟨ret_int (by rw [hR.out, HB.out]; rfl), by go_grown⟩
  by_cases o9 : o = 9
  · subst o9
    have hff := hf.2.2.2.2.2.2.2.2.1 rfl
    obtain ⟨k', hk'⟩ : ∃ n : Nat, a = n := ⟨a.toNat, by omega⟩
    subst hk'
    have hk14 : k' < 14 := by omega
    have y1 := tx k' hk14
    rw [hW] at y1
    have hR : Hid (ownF c ⟨9, k', b, d, g⟩ t = if bAt t k' then 3 else 0) := by unfold Hid; rw [hOF.out]; simp
    clear hOF tx h1 h2 h3 hf hff
    cases hb : bAt t k'
    all_goals
      rw [hb] at y1
      have HB := show Hid _ from hb
      clear hb
      go_enter Try.func102, Try.ntmps102
      go_wp2_with fail
      go_ret
      exact ⟨ret_int (by rw [hR.out, HB.out]; rfl), by go_grown⟩
  by_cases o10 : o = 10
  · subst o10
    have hff := hf.2.2.2.2.2.2.2.2.2 rfl
    obtain ⟨k', hk'⟩ : ∃ n : Nat, a = n := ⟨a.toNat, by omega⟩
    subst hk'
    have hk14 : k' < 14 := by omega
    have y1 := tx k' hk14
    rw [hW] at y1
    have hR : Hid (ownF c ⟨10, k', b, d, g⟩ t = if bAt t k' then 3 else 0) := by unfold Hid; rw [hOF.out]; simp
    clear hOF tx h1 h2 h3 hf hff
    cases hb : bAt t k'
    all_goals
      rw [hb] at y1
      have HB := show Hid _ from hb
      clear hb
      go_enter Try.func102, Try.ntmps102
      go_wp2_with fail
      go_ret
      exact ⟨ret_int (by rw [hR.out, HB.out]; rfl), by go_grown⟩
  have hR : Hid (ownF c ⟨o, a, b, d, g⟩ t = 0) := by unfold Hid; rw [hOF.out]; simp [o3, o4, o5, o9, o10]
  clear hOF tx h1 h2 h3 hf
  have p3 : (o == 3) = false := by simp [o3]
  have p4 : (o == 4) = false := by simp [o4]
  have p5 : (o == 5) = false := by simp [o5]
  have p9 : (o == 9) = false := by simp [o9]
  have p10 : (o == 10) = false := by simp [o10]
  clear o3 o4 o5 o9 o10
  go_enter Try.func102, Try.ntmps102
  go_wp2_with fail
  go_ret
  exact ⟨ret_int hR.out.symm, by go_grown⟩

end Go.Proofs.Ytjlnaiifegjneaa
