/-
  The reference's l6Instr and CodeValid, a contract each. Conditions: the arguments are code.
-/
import Derived.Test.YtjlnaiifegjneaaSpecCode
import Derived.Test.YtjlnaiifegjneaaExt
namespace Go.Proofs.Ytjlnaiifegjneaa
open Go Go.RowKit

set_option maxHeartbeats 4000000 in
set_option maxRecDepth 100000 in
theorem spec_l6Instr (v : Value) (c : LCode) (x : LIns) (w : World) (h : CodeRow w v c) :
    Calls Try.prog 86 #[v, x.v] w fun e w' => e = .returned (.bool (insOk c x)) ∧ Below w.heap.size w w' := by
  obtain ⟨v1, v2, v3, rfl, h1, h2, h3⟩ := h
  have HT : Hid (insOk c x = (decide (1 ≤ x.op) && decide (x.op ≤ 13) && preOk c (fldStr x.op) [x.a, x.b, x.c, x.d] 4)) := by
    unfold Hid insOk; rw [preOk_four]
  by_cases hop : 1 ≤ x.op ∧ x.op ≤ 13
  · obtain ⟨hop1, hop2⟩ := hop
    have hR : Hid (insOk c x = preOk c (fldStr x.op) [x.a, x.b, x.c, x.d] 4) := by
      unfold Hid; rw [HT.out, decide_eq_true hop1, decide_eq_true hop2]; rfl
    clear HT
    obtain ⟨W, hW⟩ : ∃ W, W = ((w.alloc (.cells #[v1, v2, v3] 36)).alloc (.cells #[.int .i64 x.op, .int .i64 x.a, .int .i64 x.b, .int .i64 x.c, .int .i64 x.d] 66)) := ⟨_, rfl⟩
    have B0 : Below w.heap.size w W := by rw [hW]; go_grown
    have L1 : Blk W w.heap.size [v1, v2, v3] := by rw [hW]; exact (Blk.new w [v1, v2, v3] _).alloc _
    have L2 : Blk W (w.heap.size + 1) [.int .i64 x.op, .int .i64 x.a, .int .i64 x.b, .int .i64 x.c, .int .i64 x.d] := by rw [hW]; exact Blk.new' (w.alloc _) [.int .i64 x.op, .int .i64 x.a, .int .i64 x.b, .int .i64 x.c, .int .i64 x.d] _ (by simp)
    go_enter Try.func86, Try.ntmps86
    go_wp2_with fail
    rw [← hW]
    clear hW
    refine (spec_l6Fields x.op W hop1 hop2).mono ?_
    rintro e w1 ⟨rfl, b1⟩
    replace L1 := L1.below b1 L1.lt
    replace L2 := L2.below b1 L2.lt
    have y0 := L2.cell 0
    have y1 := L2.cell 1
    have y2 := L2.cell 2
    have y3 := L2.cell 3
    have y4 := L2.cell 4
    simp at y0 y1 y2 y3 y4
    go_wp2_with fail
    refine (spec_l6Parts x _).mono ?_
    rintro e w2 ⟨u, rfl, o2, b2⟩
    replace L1 := L1.below b2 L1.lt
    have B2 := (B0.trans (b1.mono B0.size)).trans (b2.mono (by have := B0.size; have := b1.size; omega))
    obtain ⟨g, cap, rfl, -, -, hg, -, -, -, hp⟩ := o2.open (by omega)
    have hkl := fldStr_len x.op
    obtain ⟨kinds, hkinds⟩ : ∃ kinds, kinds = fldStr x.op := ⟨_, rfl⟩
    obtain ⟨parts, hparts⟩ : ∃ parts, parts = [x.a, x.b, x.c, x.d] := ⟨_, rfl⟩
    rw [← hkinds] at hkl ⊢
    rw [← hkinds] at hR
    rw [← hparts] at hR hp
    have hpl : parts.length = 4 := by rw [hparts]; rfl
    clear hkinds hparts y0 y1 y2 y3 y4 L2 o2
    have HPL := show Hid _ from hpl
    clear hpl
    go_wp2_with fail
    go_loopw [7] (fun i wr => ∃ k : Nat, k ≤ 4 ∧ i = .int .i64 k ∧ preOk c kinds parts k = true ∧ Below w2.heap.size w2 wr) (fun i _ => 4 - (intOf i).toNat)
    case atStart => exact ⟨0, by omega, rfl, rfl, Below.refl _ _⟩
    case round =>
      obtain ⟨k, hk, rfl, ha, hb⟩ := hrel
      have HA := show Hid _ from ha
      clear ha
      replace L1 := L1.below hb L1.lt
      by_cases hlt : k < 4
      · have x0 := L1.cell 0
        have x1 := L1.cell 1
        have x2 := L1.cell 2
        simp only [List.getElem?_cons_zero, List.getElem?_cons_succ] at x0 x1 x2
        have z0 := fun X => ext_cell x0 X
        have z1 := fun X => ext_cell x1 X
        have z2 := fun X => ext_cell x2 X
        have hpk : k < parts.length := by rw [HPL.out]; exact hlt
        have p0 : wr.cell? ⟨g, k, none⟩ = some (.int .i64 parts[k]) := by
          rw [(bcell hb).1 _ _ hg]; exact hp k _ (by simp [hpk])
        have pX := fun X => ext_cell p0 X
        have HS := show Hid _ from preOk_succ c kinds parts k
        have hgd : parts.getD k 0 = parts[k] := by simp [hpk]
        have HG := show Hid _ from hgd
        have BW := B2.trans (hb.mono B2.size)
        clear x0 x1 x2 p0 hp hgd
        by_cases hkk : k < kinds.length
        · have hpo : partOk c kinds k parts[k] = rangeOk c kinds[k] parts[k] := by simp [partOk, hkk]
          have HPO := show Hid _ from hpo
          clear hpo
          have hd1 : decide (kinds.length ≤ k) = false := by simp; omega
          have hd2 : decide ((kinds.length : Int) ≤ (k : Int)) = false := by simp; omega
          cases hr : rangeOk c kinds[k] parts[k]
          all_goals
            have HR := show Hid _ from hr
            clear hr
            have HC : Hid (∀ X, Calls Try.prog 116 #[.agg #[v1, v2, v3], .int .u8 kinds[k].toNat, .int .i64 parts[k]] (wr.ext X) fun e w'' => e = .returned (.bool _) ∧ ∃ Y, w'' = wr.ext Y) :=
              fun X => Calls.ext_of' ((spec_l6Range v1 v2 v3 c kinds[k] parts[k] _ ((h1.below BW).below (ext_below _ X)) ((h2.below BW).below (ext_below _ X)) ((h3.below BW).below (ext_below _ X))).mono fun e w' h => by rw [HR.out] at h; exact h)
            go_wp2_with fail
            refine wp_region_ext (by kernel_rfl) (by kernel_rfl) ?_
            repeat (any_goals (first | go_big_quiet_step ((go_at_call 116; exact HC.out _)) | quiet_step ((go_at_call 116; exact HC.out _))))
            refine wpQuiet_nil ?_
            rintro w' ⟨X, rfl⟩
            have hbX := hb.trans ((ext_below wr X).mono hb.size)
            go_wp2_with fail
          · go_ret
            exact ⟨ret_bool (by rw [hR.out, preOk_mono 4 hlt (by rw [HG.out, HPO.out, HR.out])]), B2.trans (hbX.mono B2.size)⟩
          · exact ⟨⟨k + 1, by omega, by go_num, by rw [HS.out, HA.out, HG.out, HPO.out, HR.out]; rfl, hbX⟩, by simp [intOf]; omega⟩
        · have hpo : partOk c kinds k parts[k] = decide (parts[k] = 0) := by simp [partOk, hkk]
          have HPO := show Hid _ from hpo
          clear hpo
          have hd1 : decide (kinds.length ≤ k) = true := by simp; omega
          have hd2 : decide ((kinds.length : Int) ≤ (k : Int)) = true := by simp; omega
          have hd3 : decide (k < kinds.length) = false := by simp; omega
          have hd4 : decide ((k : Int) < (kinds.length : Int)) = false := by simp; omega
          by_cases hz : parts[k] = 0
          · have hz1 : (parts[k] != 0) = false := by simp [hz]
            have HZ := show Hid _ from hz
            clear hz
            go_wp2_with fail
            refine wp_region_ext (by kernel_rfl) (by kernel_rfl) ?_
            repeat (any_goals (first | go_big_quiet_step (fail) | quiet_step (fail)))
            refine wpQuiet_nil ?_
            rintro w' ⟨X, rfl⟩
            have hbX := hb.trans ((ext_below wr X).mono hb.size)
            go_wp2_with fail
            exact ⟨⟨k + 1, by omega, by go_num, by rw [HS.out, HA.out, HG.out, HPO.out, HZ.out]; rfl, hbX⟩, by simp [intOf]; omega⟩
          · have hz1 : (parts[k] != 0) = true := by simp [hz]
            have HZ := show Hid (¬ parts[k] = 0) from hz
            clear hz
            go_wp2_with fail
            refine wp_region_ext (by kernel_rfl) (by kernel_rfl) ?_
            repeat (any_goals (first | go_big_quiet_step (fail) | quiet_step (fail)))
            refine wpQuiet_nil ?_
            rintro w' ⟨X, rfl⟩
            have hbX := hb.trans ((ext_below wr X).mono hb.size)
            go_wp2_with fail
            go_ret
            exact ⟨ret_bool (by rw [hR.out, preOk_mono 4 hlt (by rw [HG.out, HPO.out, decide_eq_false HZ.out])]), B2.trans (hbX.mono B2.size)⟩
      · go_wp2_with fail
        go_ret
        obtain rfl : k = 4 := by omega
        exact ⟨ret_bool (by rw [hR.out, HA.out]), B2.trans (hb.mono B2.size)⟩
  · have hR : Hid (insOk c x = false) := by
      unfold Hid; rw [HT.out]
      rcases Classical.not_and_iff_not_or_not.1 hop with h | h
      · rw [decide_eq_false h]; rfl
      · rw [decide_eq_false h]; simp
    clear HT h1 h2 h3
    have hcase : x.op < 1 ∨ (¬ x.op < 1 ∧ 13 < x.op) := by omega
    clear hop
    rcases hcase with hop | ⟨hop, hop2⟩
    all_goals
      go_enter Try.func86, Try.ntmps86
      go_wp2_with fail
      go_ret
      exact ⟨ret_bool hR.out.symm, by go_grown⟩


set_option maxHeartbeats 2000000 in
set_option maxRecDepth 100000 in
theorem spec_CodeValid (v : Value) (c : LCode) (w : World) (h : CodeRow w v c) :
    Calls Try.prog 50 #[v] w fun e w' => e = .returned (.bool (codeOk c)) ∧ Below w.heap.size w w' := by
  have hrow := h
  obtain ⟨v1, v2, v3, rfl, h1, h2, h3⟩ := h
  have HT : Hid (codeOk c = (headsB c.vars c.arrays && decide (1 ≤ c.list.length) && decide (c.list.length ≤ 400) && c.list.all (insOk c) && lastOk c)) := rfl
  obtain ⟨W, hW⟩ : ∃ W, W = w.alloc (.cells #[v1, v2, v3] 36) := ⟨_, rfl⟩
  have B0 : Below w.heap.size w W := by rw [hW]; go_grown
  have L1 : Blk W w.heap.size [v1, v2, v3] := by rw [hW]; exact (Blk.new w [v1, v2, v3] _)
  obtain ⟨a3, k3, rfl, hk3, hm3, -, hc3⟩ := h3.ins
  go_enter Try.func50, Try.ntmps50
  go_wp2_with fail
  rw [← hW]
  clear hW
  refine (spec_l6Heads _ _ _ _ _ _ _ _ (h1.below B0) (h2.below B0)).mono ?_
  rintro e w1 ⟨rfl, b1⟩
  replace L1 := L1.below b1 L1.lt
  have B1 := B0.trans (b1.mono B0.size)
  go_wp2_with fail
  refine (spec_l2Heads _ _ _ c.vars c.arrays _ (h1.below B1) (h2.below B1)).mono ?_
  rintro e w2 ⟨rfl, b2⟩
  replace L1 := L1.below b2 L1.lt
  have B2 := B1.trans (b2.mono B1.size)
  cases hh : headsB c.vars c.arrays
  · have HH := show Hid _ from hh
    clear hh hc3
    go_wp2_with fail
    go_ret
    exact ⟨ret_bool (by rw [HT.out, HH.out]; rfl), B2⟩
  · have HH := show Hid _ from hh
    clear hh
    by_cases hn : 1 ≤ c.list.length ∧ c.list.length ≤ 400
    · obtain ⟨hn1, hn2⟩ := hn
      have x0 := L1.cell 0
      have x1 := L1.cell 1
      have x2 := L1.cell 2
      simp at x0 x1 x2
      go_wp2_with fail
      go_loopw [4] (fun i wr => ∃ k : Nat, k ≤ c.list.length ∧ i = .int .i64 k ∧ (c.list.take k).all (insOk c) = true ∧ Below w2.heap.size w2 wr) (fun i _ => c.list.length - (intOf i).toNat)
      case atStart => exact ⟨0, by omega, rfl, rfl, Below.refl _ _⟩
      case round =>
        obtain ⟨k, hk, rfl, ha, hb⟩ := hrel
        have HA := show Hid _ from ha
        clear ha x0 x1 x2
        replace L1 := L1.below hb L1.lt
        have BW := B2.trans (hb.mono B2.size)
        by_cases hlt : k < c.list.length
        · obtain ⟨b, off, rfl, hb3, i0, i1, i2, i3, i4⟩ := hc3 k hlt
          rw [← (bcell BW).1 _ _ hb3] at i0 i1 i2 i3 i4
          have x0 := L1.cell 0
          have x1 := L1.cell 1
          have x2 := L1.cell 2
          simp only [List.getElem?_cons_zero, List.getElem?_cons_succ] at x0 x1 x2
          have z0 := fun X => ext_cell x0 X
          have z1 := fun X => ext_cell x1 X
          have z2 := fun X => ext_cell x2 X
          have j0 := fun X => ext_cell i0 X
          have j1 := fun X => ext_cell i1 X
          have j2 := fun X => ext_cell i2 X
          have j3 := fun X => ext_cell i3 X
          have j4 := fun X => ext_cell i4 X
          have HS := show Hid _ from all_take_succ (insOk c) c.list k hlt
          clear x0 x1 x2 i0 i1 i2 i3 i4 hc3
          cases hi : insOk c c.list[k]
          all_goals
            have HI := show Hid _ from hi
            clear hi
            have HC : Hid (∀ X, Calls Try.prog 86 #[.agg #[v1, v2, .slice (some ⟨b, off, none⟩) c.list.length k3], c.list[k].v] (wr.ext X) fun e w'' => e = .returned (.bool _) ∧ ∃ Y, w'' = wr.ext Y) :=
              fun X => Calls.ext_of' ((spec_l6Instr _ c c.list[k] _ ((hrow.below BW).below (ext_below _ X))).mono fun e w' h => by rw [HI.out] at h; exact h)
            go_wp2_with fail
            refine wp_region_ext (by kernel_rfl) (by kernel_rfl) ?_
            repeat (any_goals (first | go_big_quiet_step ((go_at_call 86; exact HC.out _)) | quiet_step ((go_at_call 86; exact HC.out _))))
            refine wpQuiet_nil ?_
            rintro _ ⟨X, rfl⟩
            have hbX := hb.trans ((ext_below wr X).mono hb.size)
            go_wp2_with fail
          · go_ret
            exact ⟨ret_bool (by rw [HT.out, not_all hlt HI.out]; simp), B2.trans (hbX.mono B2.size)⟩
          · exact ⟨⟨k + 1, by omega, by go_num, by rw [HS.out, HA.out, HI.out]; rfl, hbX⟩, by simp [intOf]; omega⟩
        · have hl : c.list.length - 1 < c.list.length := by omega
          obtain ⟨b, off, rfl, hb3, i0, i1, i2, i3, i4⟩ := hc3 _ hl
          rw [← (bcell BW).1 _ _ hb3] at i0
          have x2 := L1.cell 2
          simp only [List.getElem?_cons_zero, List.getElem?_cons_succ] at x2
          have ec : ((c.list.length : Int) - 1) = ((c.list.length - 1 : Nat) : Int) := by omega
          have EC := show Hid _ from ec
          have HL : Hid (lastOk c = (decide (c.list[c.list.length - 1].op = 13) || decide (c.list[c.list.length - 1].op = 8))) := by
            unfold Hid lastOk
            rw [List.getLast?_eq_getElem?, List.getElem?_eq_getElem hl]
          clear hc3 ec i1 i2 i3 i4
          have HA' := show Hid (c.list.all (insOk c) = true) from by have := HA.out; rwa [List.take_of_length_le (by omega)] at this
          have hF : Hid (codeOk c = (decide (c.list[c.list.length - 1].op = 13) || decide (c.list[c.list.length - 1].op = 8))) := by
            unfold Hid; rw [HT.out, HH.out, HA'.out, HL.out, decide_eq_true hn1, decide_eq_true hn2]; rfl
          go_wp2_with fail
          all_goals go_ret
          all_goals exact ⟨ret_bool (by rw [hF.out, Bool.eq_iff_iff]; simp_all), BW⟩
    · have hF : Hid (codeOk c = false) := by
        unfold Hid; rw [HT.out]
        rcases Classical.not_and_iff_not_or_not.1 hn with h | h
        · rw [decide_eq_false h]; simp
        · rw [decide_eq_false h]; simp
      have hcase : c.list.length < 1 ∨ (¬ c.list.length < 1 ∧ 400 < c.list.length) := by omega
      clear hn hc3 HT
      rcases hcase with hn | ⟨hn, hn2⟩
      all_goals
        go_wp2_with fail
        go_ret
        exact ⟨ret_bool hF.out.symm, B2⟩

end Go.Proofs.Ytjlnaiifegjneaa
