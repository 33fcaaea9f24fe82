/-
  Taint: the program's CheckTaint. Conditions: the arguments are code and a slice of slices of bools.
-/
import Derived.Test.YtjlnaiifegjneaaTaint7
import Derived.Test.YtjlnaiifegjneaaTaint3
import Derived.Test.YtjlnaiifegjneaaImplCode3
namespace Go.Proofs.Ytjlnaiifegjneaa
open Go Go.RowKit

set_option maxHeartbeats 4000000 in
theorem impl_CheckTaint (v u : Value) (c : LCode) (m : List (List Bool)) (w : World) (h : CodeRow w v c) (hm : MatRow w u m) :
    Calls Try.prog 34 #[v, u] w fun e w' => e = .returned (.bool (chkT c m)) ∧ Below w.heap.size w w' := by
  have hrow := h
  obtain ⟨v1, v2, v3, rfl, h1, h2, h3⟩ := h
  obtain ⟨W, hW⟩ : ∃ W, W = w.alloc (.cells #[v1, v2, v3] 36) := ⟨_, rfl⟩
  have B0 : Below w.heap.size w W := by rw [hW]; go_grown
  have L1 : Blk W w.heap.size [v1, v2, v3] := by rw [hW]; exact (Blk.new w [v1, v2, v3] _)
  obtain ⟨a3, k3, rfl, hk3, hm3, -, hc3⟩ := h3.ins
  obtain ⟨am, km, rfl, hmm, hmc⟩ := rowAt_row hm
  have HT : Hid (chkT c m = (codeOk c && decide (m.length = c.list.length) && decide (0 < (rowAt m 0).length) && m.all rowOk && !badPre c m m.length && covPre c m m.length)) := rfl
  have x0 := L1.cell 0
  have x1 := L1.cell 1
  have x2 := L1.cell 2
  simp only [List.getElem?_cons_zero, List.getElem?_cons_succ] at x0 x1 x2
  rw [hW] at x0 x1 x2
  go_enter Try.func34, Try.ntmps34
  go_wp2_with fail
  rw [← hW]
  clear hW x0 x1 x2
  refine (impl_CodeValid _ c _ (hrow.below B0)).mono ?_
  rintro e w1 ⟨rfl, b1⟩
  replace L1 := L1.below b1 L1.lt
  have B1 := B0.trans (b1.mono B0.size)
  clear b1 B0
  have x2 := L1.cell 2
  simp only [List.getElem?_cons_zero, List.getElem?_cons_succ] at x2
  cases hc : codeOk c
  · have HC := show Hid _ from hc
    clear hc hc3 hmc
    go_wp2_with fail
    go_ret
    exact ⟨ret_bool (by rw [HT.out, HC.out]; rfl), B1⟩
  have HC := show Hid _ from hc
  have hn1 := (codeOk_parts hc).2.1
  have hn4 := (codeOk_parts hc).2.2.1
  clear hc
  by_cases hl : m.length = c.list.length
  case neg =>
    have q1 : ((m.length : Int) != c.list.length) = true := by simp; intro e; exact hl (by exact_mod_cast e)
    have HL := show Hid _ from decide_eq_false hl
    clear hl hc3 hmc
    go_wp2_with fail
    go_ret
    exact ⟨ret_bool (by rw [HT.out, HL.out]; simp), B1⟩
  have HL := show Hid _ from hl
  have q1 : ((m.length : Int) != c.list.length) = false := by simp [hl]
  have hlm : 0 < m.length := by omega
  have hlmi : (0 : Int) < m.length := by omega
  obtain ⟨b0, o0, r0, c0, e0, hb0, y0, hrr0⟩ := hmc 0 hlm
  subst e0
  rw [← (bcell B1).1 _ _ hb0] at y0
  have hr0e : rowAt m ((0 : Nat) : Int) = rowAt m 0 := rfl
  rw [hr0e] at y0 hrr0
  have hrl0 := hrr0.len
  have HE0 : Hid ((rowAt m 0).length = 0 → chkT c m = false) := fun e => by rw [HT.out, e]; simp
  have HD0 : Hid ((rowAt m 0).length ≠ 0 → decide (0 < (rowAt m 0).length) = true) := fun e => decide_eq_true (Nat.pos_of_ne_zero e)
  clear hr0e hrr0
  simp only [Nat.add_zero] at y0
  generalize (rowAt m 0).length = n0 at *
  by_cases h00 : n0 = 0
  · have q2 : ((n0 : Int) == 0) = true := by simp [h00]
    have H0 := show Hid _ from h00
    clear h00 hc3 hmc
    go_wp2_with fail
    go_ret
    exact ⟨ret_bool (HE0.out H0.out).symm, B1⟩
  have q2 : ((n0 : Int) == 0) = false := by simp; exact h00
  replace HD0 := show Hid _ from HD0.out h00
  clear h00 HE0
  go_wp2_with fail
  have HM := show Hid _ from hmc
  have HI := show Hid _ from hc3
  clear hmc hc3 x2 y0 q2 q1
  have hmL : MatRow w (.slice (some ⟨b0, o0, none⟩) c.list.length km) m := by rw [← HL.out]; exact hm
  refine (impl_rowsBad _ m _ (hmL.below B1)).mono ?_
  rintro e wz ⟨rfl, rfl⟩
  cases hr : m.all rowOk
  · have HR := show Hid _ from hr
    clear hr
    go_wp2_with fail
    go_ret
    exact ⟨ret_bool (by rw [HT.out, HR.out]; simp), B1⟩
  have HR := show Hid _ from hr
  clear hr
  go_wp2_with fail
  go_loopw [5, 6, 7, 9, 36] (fun _ _ _ _ i wr => ∃ k : Nat, k ≤ m.length ∧ i = .int .i64 k ∧ covPre c m k = true ∧ Below w1.heap.size w1 wr) (fun _ _ _ _ i _ => m.length - (intOf i).toNat)
  case atStart => exact ⟨0, Nat.zero_le _, rfl, rfl, Below.refl _ _⟩
  case round =>
    obtain ⟨k, hk, rfl, hcv, hb⟩ := hrel
    have HV := show Hid _ from hcv
    clear hcv
    replace L1 := L1.below hb L1.lt
    have BW := B1.trans (hb.mono B1.size)
    by_cases hlt : k < m.length
    · have hltc : k < c.list.length := by have := HL.out; omega
      obtain ⟨b, off, rfl, hb3, i0, i1, i2, i3, i4⟩ := HI.out k hltc
      obtain ⟨bm, om, a', c', he, hbm, xm, hrm⟩ := HM.out k hlt
      cases he
      have hx := (codeOk_parts HC.out).2.2.2.1 k hltc
      have HCA : Hid (covAt c m k = (decide ((rowAt m k).length = 0) || (nx c k).all fun t => covF (afterF c (insAt c k) (rowAt m k)) (rowAt m t))) := rfl
      rw [insAt_get hltc] at HCA
      have HSC := show Hid _ from covPre_succ c m k
      have HNC := show Hid (covAt c m k = false → covPre c m m.length = false) from fun g => covPre_not _ hlt g
      have hlr := rowOk_len HR.out k
      rw [← (bcell BW).1 _ _ hb3] at i0 i1 i2 i3 i4
      rw [← (bcell BW).1 _ _ hbm] at xm
      replace hrm := hrm.below BW
      have sBW := BW.size
      generalize rowAt m k = r at *
      generalize c.list[k] = x at *
      have x0 := L1.cell 0
      have x1 := L1.cell 1
      have x2 := L1.cell 2
      simp only [List.getElem?_cons_zero, List.getElem?_cons_succ] at x0 x1 x2
      by_cases h0 : r.length = 0
      · have q0 : ((r.length : Int) == 0) = true := by simp [h0]
        have HN2 := show Hid (covPre c m (k + 1) = true) from by unfold Hid; rw [HSC.out, HV.out, HCA.out]; simp [h0]
        clear hlr h0
        go_wp2_with fail
        exact ⟨⟨k + 1, by omega, by go_num, HN2.out, hb⟩, by simp [intOf]; omega⟩
      · have h14 : r.length = 14 := by omega
        have q0 : ((r.length : Int) == 0) = false := by rw [h14]; rfl
        have hrr : Row wr (.slice a' r.length c') 14 1 (bools r) := by rw [h14] at hrm ⊢; exact hrm
        have hl14 : (r.length : Int) ≤ 14 := by omega
        have hki : (k : Int) < m.length := by omega
        have hkl : (k : Int) < c.list.length := by omega
        have HCA' : Hid (covAt c m k = ((nx c k).all fun t => covF (afterF c x r) (rowAt m t))) := by unfold Hid; rw [HCA.out, h14]; simp
        have hcells := cells3i L1 (Nat.lt_of_lt_of_le hb3 sBW) i0 i1 i2 i3 i4 (Nat.lt_of_lt_of_le hbm sBW) xm
        have HCELLS := show Hid _ from hcells
        have HFL := show Hid ((afterF c x r).length = 14) from by unfold Hid; rw [afterF_len, h14]
        have hb0x := (Below.refl wr.heap.size wr).drew
        clear hlr h0 h14 HCA hrm hcells
        go_wp2_with fail
        go_region_held3 (fun W' => Below wr.heap.size wr W' ∧ (W'.cell? ⟨w.heap.size, 0, none⟩ = some v1 ∧ W'.cell? ⟨w.heap.size, 1, none⟩ = some v2 ∧ W'.cell? ⟨w.heap.size, 2, none⟩ = some (.slice (some ⟨b, off, none⟩) c.list.length k3)) ∧
            (W'.cell? ⟨b, off + k * 5, none⟩ = some (.int .i64 x.op) ∧ W'.cell? ⟨b, off + k * 5 + 1, none⟩ = some (.int .i64 x.a) ∧ W'.cell? ⟨b, off + k * 5 + 2, none⟩ = some (.int .i64 x.b) ∧ W'.cell? ⟨b, off + k * 5 + 3, none⟩ = some (.int .i64 x.c) ∧ W'.cell? ⟨b, off + k * 5 + 4, none⟩ = some (.int .i64 x.d)) ∧
            W'.cell? ⟨b0, o0 + k, none⟩ = some (.slice a' r.length c'))
          (exact HCELLS.out _ (by assumption))
          (first | (go_at_call 75; refine (impl_taintAfter _ _ c x r _ (hrow.below (below_step (by assumption) BW (Nat.le_refl _))) hx (hrr.below (by assumption))).mono ?_; rintro e w7 ⟨u3, rfl, o3, b7⟩; have q7 := below_step b7 hb0x (Nat.le_refl _); obtain ⟨a9, c9, rfl⟩ := o3.form))
        clear x0 x1 x2 i0 i1 i2 i3 i4 xm hb0x
        obtain ⟨-, ⟨x0, x1, x2⟩, -, -⟩ := HCELLS.out w7 q7
        have hb7 := hb.trans (q7.mono hb.size)
        have B7 := B1.trans (hb7.mono B1.size)
        have f7 := o3.row
        clear o3 b7 HCELLS
        go_wp2_with fail
        refine (impl_follows _ c HC.out k _ (hrow.below B7) (by omega) (by omega)).mono ?_
        rintro e w8 ⟨u8, ns, rfl, hn2, hnm, hnr, b8⟩
        obtain ⟨a10, c10, rfl⟩ := hnr.form
        have hb8 := hb7.trans (b8.mono hb7.size)
        have B8 := B1.trans (hb8.mono B1.size)
        replace f7 := f7.below b8
        replace L1 := L1.below q7 L1.lt
        replace L1 := L1.below b8 L1.lt
        clear b8 x0 x1 x2
        have hnx : ∀ y ∈ ns, 0 ≤ y ∧ y < c.list.length := fun y hy => nx_ok HC.out (by omega) ((hnm y).1 hy)
        obtain ⟨F, hF⟩ : ∃ F, F = afterF c x r := ⟨_, rfl⟩
        rw [← hF] at f7 HFL HCA'
        have hfl := HFL.out
        have f7' : Row w8 (.slice a9 14 c9) F.length 1 (bools F) := by rw [hfl]; exact f7
        have hall : ((nx c k).all fun t => covF F (rowAt m t)) = (ns.all fun t => covF F (rowAt m t)) := by
          rw [Bool.eq_iff_iff, List.all_eq_true, List.all_eq_true]
          exact ⟨fun g y hy => g y ((hnm y).1 hy), fun g y hy => g y ((hnm y).2 hy)⟩
        unfold Hid at HCA'
        rw [hall] at HCA'
        replace HCA' := show Hid _ from HCA'
        have HNX := show Hid _ from hnx
        have hnl := hnr.len
        clear f7 hnx hF HFL hall hnm
        go_wp2_with fail
        go_loop [9, 56] (fun _ i => ∃ j : Nat, j ≤ ns.length ∧ i = .int .i64 j ∧ ((ns.take j).all fun t => covF F (rowAt m t)) = true) (fun _ i => ns.length - (intOf i).toNat)
        case atStart => exact ⟨0, Nat.zero_le _, rfl, rfl⟩
        case round =>
          obtain ⟨j, hj, rfl, hja⟩ := hrel
          have HJ := show Hid _ from hja
          clear hja
          by_cases hjl : j < ns.length
          · obtain ⟨y0, y1⟩ := HNX.out ns[j] (List.getElem_mem hjl)
            have HSJ := show Hid _ from all_take_succ (fun t => covF F (rowAt m t)) ns j hjl
            have HNJ := show Hid (covF F (rowAt m ns[j]) = false → (ns.all fun t => covF F (rowAt m t)) = false) from fun g => not_all hjl g
            obtain ⟨an, cn, hv, -, -, -, hcn⟩ := hnr.open1
            cases hv
            obtain ⟨bn, on, rfl, hbn, yn⟩ := hcn j hjl
            rw [ints_get _ _ hjl] at yn
            clear hcn
            obtain ⟨t, ht⟩ : ∃ t : Nat, ns[j] = t := ⟨ns[j].toNat, by omega⟩
            rw [ht] at yn HSJ HNJ y0 y1
            have htm : t < m.length := by omega
            obtain ⟨bt, ot, at', ct, he, hbt, xt, hrt⟩ := HM.out t htm
            cases he
            rw [← (bcell B8).1 _ _ hbt] at xt
            replace hrt := hrt.below B8
            have hlt' := rowOk_len HR.out t
            have hcv : Hid (covF F (rowAt m t) = (decide (0 < (rowAt m t).length) && covUpto F (rowAt m t) F.length)) := rfl
            clear ht
            generalize rowAt m t = rt at *
            by_cases ht0 : rt.length = 0
            · have qt : ((rt.length : Int) == 0) = true := by simp [ht0]
              have HZ := show Hid (covPre c m m.length = false) from HNC.out (by rw [HCA'.out]; exact HNJ.out (by rw [hcv.out]; simp [ht0]))
              clear ht0 hlt'
              go_wp2_with fail
              go_ret
              exact ⟨ret_bool (by rw [HT.out, HZ.out]; simp), B8⟩
            · have ht14 : rt.length = 14 := by omega
              have qt : ((rt.length : Int) == 0) = false := by rw [ht14]; rfl
              have hcv' : Hid (covF F rt = covUpto F rt F.length) := by unfold Hid; rw [hcv.out, ht14]; rfl
              have hle : F.length ≤ rt.length := by omega
              have hle2 : (rt.length : Int) ≤ 14 := by omega
              clear hcv ht0 hlt' ht14
              go_wp2_with fail
              refine (impl_covers _ _ rt F _ hrt f7' hle).mono ?_
              rintro e w9 ⟨rfl, rfl⟩
              rw [← hcv'.out]
              cases hq : covF F rt
              · have HZ := show Hid (covPre c m m.length = false) from HNC.out (by rw [HCA'.out]; exact HNJ.out hq)
                clear hq
                go_wp2_with fail
                go_ret
                exact ⟨ret_bool (by rw [HT.out, HZ.out]; simp), B8⟩
              · have HQ := show Hid _ from hq
                clear hq
                go_wp2_with fail
                go_round
                case rel => exact ⟨j + 1, by omega, by go_num, by rw [HSJ.out, HJ.out, HQ.out]; rfl⟩
                case measure => simp [intOf]; omega
          · have e : j = ns.length := by omega
            subst e
            have HZ := show Hid (covPre c m (k + 1) = true) from by unfold Hid; rw [HSC.out, HV.out, HCA'.out]; have := HJ.out; rw [List.take_length] at this; rw [this]; rfl
            go_wp2_with fail
            exact ⟨⟨k + 1, by omega, by go_num, HZ.out, hb8⟩, by simp [intOf]; omega⟩
    · have e : k = m.length := by omega
      subst e
      have x0 := L1.cell 0
      have x1 := L1.cell 1
      have x2 := L1.cell 2
      simp only [List.getElem?_cons_zero, List.getElem?_cons_succ] at x0 x1 x2
      go_wp2_with fail
      refine (impl_firstFound _ _ c m _ HC.out (hrow.below BW) (hmL.below BW) HL.out HR.out).mono ?_
      rintro e w8 ⟨rfl, b8⟩
      have HZ := show Hid (chkT c m = decide ((firstF c m).1 = 0)) from by unfold Hid; rw [HT.out, HC.out, decide_eq_true HL.out, HD0.out, HR.out, HV.out, firstF_zero]; simp
      have B8 := BW.trans (b8.mono BW.size)
      clear x0 x1 x2 b8
      go_wp2_with fail
      go_ret
      exact ⟨ret_bool (by rw [HZ.out]; cases hq : (firstF c m).1 == 0 <;> simp at hq ⊢ <;> exact hq), B8⟩

end Go.Proofs.Ytjlnaiifegjneaa
