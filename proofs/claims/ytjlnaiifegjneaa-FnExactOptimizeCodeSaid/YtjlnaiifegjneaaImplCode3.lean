/-
  The program's CodeValid. Conditions: the arguments are code.
-/
import Derived.Test.YtjlnaiifegjneaaImplCode2
namespace Go.Proofs.Ytjlnaiifegjneaa
open Go Go.RowKit

set_option maxHeartbeats 4000000 in
set_option maxRecDepth 100000 in
theorem impl_instrOk (v : Value) (c : LCode) (x : LIns) (w : World) (h : CodeRow w v c) :
    Calls Try.prog 91 #[v, x.v] w fun e w' => e = .returned (.bool (insOk c x)) ∧ Below w.heap.size w w' := by
  obtain ⟨v1, v2, v3, rfl, h1, h2, h3⟩ := h
  obtain ⟨W, hW⟩ : ∃ W, W = ((w.alloc (.cells #[v1, v2, v3] 36)).alloc (.cells #[.int .i64 x.op, .int .i64 x.a, .int .i64 x.b, .int .i64 x.c, .int .i64 x.d] 66)) := ⟨_, rfl⟩
  have B0 : Below w.heap.size w W := by rw [hW]; go_grown
  have L1 : Blk W w.heap.size [v1, v2, v3] := by rw [hW]; exact (Blk.new w [v1, v2, v3] _).alloc _
  have L2 : Blk W (w.heap.size + 1) [.int .i64 x.op, .int .i64 x.a, .int .i64 x.b, .int .i64 x.c, .int .i64 x.d] := by rw [hW]; exact Blk.new' (w.alloc _) [.int .i64 x.op, .int .i64 x.a, .int .i64 x.b, .int .i64 x.c, .int .i64 x.d] _ (by simp)
  go_enter Try.func91, Try.ntmps91
  go_wp2_with fail
  rw [← hW]
  clear hW
  refine (impl_shape x.op W).mono ?_
  rintro e w1 ⟨rfl, b1⟩
  replace L1 := L1.below b1 L1.lt
  replace L2 := L2.below b1 L2.lt
  have y0 := L2.cell 0
  have y1 := L2.cell 1
  have y2 := L2.cell 2
  have y3 := L2.cell 3
  have y4 := L2.cell 4
  simp at y0 y1 y2 y3 y4
  go_wp2_with fail
  refine (impl_fields x _).mono ?_
  rintro e w2 ⟨u, rfl, o2, b2⟩
  replace L1 := L1.below b2 L1.lt
  have B2 := (B0.trans (b1.mono B0.size)).trans (b2.mono (by have := B0.size; have := b1.size; omega))
  obtain ⟨g, cap, rfl, -, -, hg, -, -, -, hp⟩ := o2.open (by omega)
  clear y0 y1 y2 y3 y4 L2 o2
  by_cases hop : 1 ≤ x.op ∧ x.op ≤ 13
  · have hR : Hid (insOk c x = pre2 c (shpStr x.op) [x.a, x.b, x.c, x.d] 4) := insOk_pre2 c x hop
    have hkl := shp_len hop
    obtain ⟨kinds, hkinds⟩ : ∃ kinds, kinds = shpStr x.op := ⟨_, rfl⟩
    obtain ⟨parts, hparts⟩ : ∃ parts, parts = [x.a, x.b, x.c, x.d] := ⟨_, rfl⟩
    rw [← hkinds] at hkl ⊢
    rw [← hkinds] at hR
    rw [← hparts] at hR hp
    have hpl : parts.length = 4 := by rw [hparts]; rfl
    clear hkinds hparts hop
    have HPL := show Hid _ from hpl
    clear hpl
    have hne : kinds.isEmpty = false := by
      rw [List.isEmpty_eq_false_iff]; intro h; rw [h] at hkl; simp at hkl
    go_wp2_with fail
    go_loopw [14] (fun i wr => ∃ k : Nat, k ≤ 4 ∧ i = .int .i64 k ∧ pre2 c kinds parts k = true ∧ Below w2.heap.size w2 wr) (fun i _ => 4 - (intOf i).toNat)
    case atStart => exact ⟨0, by omega, rfl, rfl, Below.refl _ _⟩
    case round =>
      obtain ⟨k, hk, rfl, ha, hb⟩ := hrel
      have HA := show Hid _ from ha
      clear ha
      replace L1 := L1.below hb L1.lt
      by_cases hlt : k < 4
      · have x0 := L1.cell 0
        have x1 := L1.cell 1
        have x2 := L1.cell 2
        simp only [List.getElem?_cons_zero, List.getElem?_cons_succ] at x0 x1 x2
        have z0 := fun X => ext_cell x0 X
        have z1 := fun X => ext_cell x1 X
        have z2 := fun X => ext_cell x2 X
        have hpk : k < parts.length := by rw [HPL.out]; exact hlt
        have p0 : wr.cell? ⟨g, k, none⟩ = some (.int .i64 parts[k]) := by
          rw [(bcell hb).1 _ _ hg]; exact hp k _ (by simp [hpk])
        have hkk : k < kinds.length := by rw [hkl]; exact hlt
        have HS := show Hid _ from pre2_succ c kinds parts k
        have HG := show Hid (parts.getD k 0 = parts[k]) from by simp [Hid, hpk]
        have HKD := show Hid (kinds.getD k 0 = kinds[k]) from by simp [Hid, hkk]
        have BW := B2.trans (hb.mono B2.size)
        clear x0 x1 x2 hp
        cases hr : rangeOk2 c kinds[k] parts[k]
        all_goals
          have HR := show Hid _ from hr
          clear hr
          have HC : Hid (∀ X, Calls Try.prog 120 #[.agg #[v1, v2, v3], .int .u8 kinds[k].toNat, .int .i64 parts[k]] (wr.ext X) fun e w'' => e = .returned (.bool _) ∧ ∃ Y, w'' = wr.ext Y) :=
            fun X => Calls.ext_of' ((impl_fieldOk v1 v2 v3 c kinds[k] parts[k] _ ((h1.below BW).below (ext_below _ X)) ((h2.below BW).below (ext_below _ X)) ((h3.below BW).below (ext_below _ X))).mono fun e w' h => by rw [HR.out] at h; exact h)
          go_wp2_with fail
          refine wp_region_ext (by kernel_rfl) (by kernel_rfl) ?_
          repeat (any_goals (first | go_big_quiet_step ((go_at_call 120; exact HC.out _)) | quiet_step ((go_at_call 120; exact HC.out _))))
          refine wpQuiet_nil ?_
          rintro _ ⟨X, rfl⟩
          have hbX := hb.trans ((ext_below wr X).mono hb.size)
          go_wp2_with fail
        · go_ret
          exact ⟨ret_bool (by rw [hR.out, pre2_mono 4 hlt (by rw [HG.out, HKD.out, HR.out])]), B2.trans (hbX.mono B2.size)⟩
        · exact ⟨⟨k + 1, by omega, by go_num, by rw [HS.out, HA.out, HG.out, HKD.out, HR.out]; rfl, hbX⟩, by simp [intOf]; omega⟩
      · go_wp2_with fail
        go_ret
        obtain rfl : k = 4 := by omega
        exact ⟨ret_bool (by rw [hR.out, HA.out]), B2.trans (hb.mono B2.size)⟩
  · have hR : Hid (insOk c x = false) := by
      unfold Hid insOk
      rcases Classical.not_and_iff_not_or_not.1 hop with h | h
      · rw [decide_eq_false h]; rfl
      · rw [decide_eq_false h]; simp
    rw [shp_empty hop]
    have p0 := hp 0 (.int .i64 x.a) (by simp)
    clear hop hp h1 h2 h3
    go_wp2_with fail
    go_loopw [14] (fun i wr => i = .int .i64 0 ∧ w2 = wr) (fun i _ => 0)
    case atStart => exact ⟨rfl, rfl⟩
    case round =>
      obtain ⟨rfl, rfl⟩ := hrel
      go_wp2_with fail
      refine wp_region_ext (by kernel_rfl) (by kernel_rfl) ?_
      repeat (any_goals (first | go_big_quiet_step ((fail)) | quiet_step ((fail))))
      refine wpQuiet_nil ?_
      rintro _ ⟨X, rfl⟩
      have hbX := B2.trans ((ext_below w2 X).mono B2.size)
      go_wp2_with fail
      go_ret
      exact ⟨ret_bool hR.out.symm, hbX⟩

theorem impl_CodeValid1 (v : Value) (c : LCode) (x : LIns) (b : Nat) (v1 v2 v3 : Value) (w : World) (hv : v = .agg #[v1, v2, v3]) (h : CodeRow w v c) (hb : Blk w b [v1, v2, v3]) :
    Calls Try.prog 90 #[x.v, .pointer (some ⟨b, 0, none⟩)] w fun e w' => e = .returned (.bool (!insOk c x)) ∧ Below w.heap.size w w' := by
  subst hv
  obtain ⟨W, hW⟩ : ∃ W, W = (w.alloc (.cells #[.int .i64 x.op, .int .i64 x.a, .int .i64 x.b, .int .i64 x.c, .int .i64 x.d] 66)) := ⟨_, rfl⟩
  have B0 : Below w.heap.size w W := by rw [hW]; go_grown
  have L1 : Blk W b [v1, v2, v3] := hb.below B0 hb.lt
  have L2 : Blk W w.heap.size [.int .i64 x.op, .int .i64 x.a, .int .i64 x.b, .int .i64 x.c, .int .i64 x.d] := by rw [hW]; exact Blk.new w [.int .i64 x.op, .int .i64 x.a, .int .i64 x.b, .int .i64 x.c, .int .i64 x.d] _
  have x0 := L1.cell 0
  have x1 := L1.cell 1
  have x2 := L1.cell 2
  have y0 := L2.cell 0
  have y1 := L2.cell 1
  have y2 := L2.cell 2
  have y3 := L2.cell 3
  have y4 := L2.cell 4
  simp at x0 x1 x2 y0 y1 y2 y3 y4
  rw [hW] at x0 x1 x2 y0 y1 y2 y3 y4
  go_enter Try.func90, Try.ntmps90
  go_wp2_with fail
  rw [← hW]
  refine (impl_instrOk _ c x _ (h.below B0)).mono ?_
  rintro e w1 ⟨rfl, b1⟩
  clear x0 x1 x2 y0 y1 y2 y3 y4 hW
  go_wp2_with fail
  go_ret
  exact ⟨rfl, B0.trans (b1.mono B0.size)⟩

theorem any_not_ok (xs : List LIns) (c : LCode) : (xs.any fun l => !insOk c l) = !xs.all (insOk c) := by
  induction xs with
  | nil => rfl
  | cons x r ih => simp only [List.any_cons, List.all_cons, ih]; cases insOk c x <;> simp

set_option maxHeartbeats 2000000 in
theorem impl_CodeValid (v : Value) (c : LCode) (w : World) (h : CodeRow w v c) :
    Calls Try.prog 53 #[v] w fun e w' => e = .returned (.bool (codeOk c)) ∧ Below w.heap.size w w' := by
  have hrow := h
  obtain ⟨v1, v2, v3, rfl, h1, h2, h3⟩ := h
  have HT : Hid (codeOk c = (headsB c.vars c.arrays && decide (1 ≤ c.list.length) && decide (c.list.length ≤ 400) && c.list.all (insOk c) && lastOk c)) := rfl
  obtain ⟨W, hW⟩ : ∃ W, W = w.alloc (.cells #[v1, v2, v3] 36) := ⟨_, rfl⟩
  have B0 : Below w.heap.size w W := by rw [hW]; go_grown
  have L1 : Blk W w.heap.size [v1, v2, v3] := by rw [hW]; exact (Blk.new w [v1, v2, v3] _)
  have hmf : ∀ fn first cap w, (Instr.makeFunc fn first cap).run Try.prog w = .ok (.func fn first cap) w := fun _ _ _ _ => rfl
  obtain ⟨a3, k3, rfl, hk3, hm3, -, hc3⟩ := h3.ins
  have x0 := L1.cell 0
  have x1 := L1.cell 1
  have x2 := L1.cell 2
  simp at x0 x1 x2
  rw [hW] at x0 x1 x2
  go_enter Try.func53, Try.ntmps53
  go_wp2_with fail
  rw [← hW] at x0 x1 x2 ⊢
  clear hW
  refine (impl_declared _ _ c.vars c.arrays _ (h1.below B0) (h2.below B0)).mono ?_
  rintro e w1 ⟨rfl, rfl⟩
  cases hh : headsB c.vars c.arrays
  · have HH := show Hid _ from hh
    clear hh hc3
    go_wp2_with fail
    go_ret
    exact ⟨ret_bool (by rw [HT.out, HH.out]; rfl), B0⟩
  · have HH := show Hid _ from hh
    clear hh
    go_wp2_with fail
    refine (impl_within _ 1 400 _).mono ?_
    rintro e w1 ⟨rfl, rfl⟩
    by_cases hn : (1 : Int) ≤ (c.list.length : Int) ∧ (c.list.length : Int) ≤ 400
    · have hn' : (decide ((1 : Int) ≤ (c.list.length : Int)) && decide ((c.list.length : Int) ≤ 400)) = true := by simpa using hn
      have HN := show Hid _ from hn
      rw [hn']
      clear hn hn'
      go_wp2_with fail
      refine (containsFunc_ins1 (fun l => !insOk c l) 90 _ _ c.list _ (h3.below B0) (enters_of Try.func90 (by kernel_rfl) rfl) (fun x w' hb => impl_CodeValid1 _ c x _ _ _ _ w' rfl ((hrow.below B0).below hb) (L1.below hb L1.lt))).mono ?_
      rintro e w1 ⟨rfl, b1⟩
      rw [any_not_ok]
      have BW := B0.trans (b1.mono B0.size)
      replace L1 := L1.below b1 L1.lt
      clear x0 x1 x2
      cases ha : c.list.all (insOk c)
      · have HA := show Hid _ from ha
        clear ha hc3
        go_wp2_with fail
        go_ret
        exact ⟨ret_bool (by rw [HT.out, HA.out]; simp), BW⟩
      · have HA := show Hid _ from ha
        clear ha
        have hl : c.list.length - 1 < c.list.length := by have := HN.out; omega
        obtain ⟨b, off, rfl, hb3, i0, i1, i2, i3, i4⟩ := hc3 _ hl
        rw [← (bcell BW).1 _ _ hb3] at i0
        have x2 := L1.cell 2
        simp only [List.getElem?_cons_zero, List.getElem?_cons_succ] at x2
        have hn1 : 1 ≤ c.list.length := by omega
        have hn2 : c.list.length ≤ 400 := by have := HN.out; omega
        have HL : Hid (lastOk c = (decide (c.list[c.list.length - 1].op = 13) || decide (c.list[c.list.length - 1].op = 8))) := by
          unfold Hid lastOk
          rw [List.getLast?_eq_getElem?, List.getElem?_eq_getElem hl]
        clear hc3 i1 i2 i3 i4
        have hF : Hid (codeOk c = (decide (c.list[c.list.length - 1].op = 13) || decide (c.list[c.list.length - 1].op = 8))) := by
          unfold Hid; rw [HT.out, HH.out, HA.out, HL.out, decide_eq_true hn1, decide_eq_true hn2]; rfl
        go_wp2_with fail
        all_goals go_ret
        all_goals exact ⟨ret_bool (by rw [hF.out, Bool.eq_iff_iff]; simp_all), BW⟩
    · have hn' : (decide ((1 : Int) ≤ (c.list.length : Int)) && decide ((c.list.length : Int) ≤ 400)) = false := by
        rw [Bool.eq_false_iff]; simp only [ne_eq, Bool.and_eq_true, decide_eq_true_eq]; exact hn
      have hF : Hid (codeOk c = false) := by
        unfold Hid; rw [HT.out]
        rcases Classical.not_and_iff_not_or_not.1 hn with h | h
        · rw [decide_eq_false (show ¬ 1 ≤ c.list.length by omega)]; simp
        · rw [decide_eq_false (show ¬ c.list.length ≤ 400 by omega)]; simp
      rw [hn']
      clear hn hn' hc3
      go_wp2_with fail
      go_ret
      exact ⟨ret_bool hF.out.symm, B0⟩

end Go.Proofs.Ytjlnaiifegjneaa
