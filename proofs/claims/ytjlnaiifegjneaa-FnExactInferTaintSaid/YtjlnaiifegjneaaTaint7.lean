/-
  Taint: the reference's CheckTaint. Conditions: the arguments are code and a slice of slices of bools.
-/
import Derived.Test.YtjlnaiifegjneaaTaint4
import Derived.Test.YtjlnaiifegjneaaTaint6
import Derived.Test.YtjlnaiifegjneaaReachS
import Derived.Test.YtjlnaiifegjneaaSpecCode2
namespace Go.Proofs.Ytjlnaiifegjneaa
open Go Go.RowKit

theorem cells3i {w : World} {b b' o b2 o2 : Nat} {x y z i0 i1 i2 i3 i4 u : Value} (L : Blk w b [x, y, z]) (hb' : b' < w.heap.size) (h0 : w.cell? ⟨b', o, none⟩ = some i0) (h1 : w.cell? ⟨b', o + 1, none⟩ = some i1) (h2 : w.cell? ⟨b', o + 2, none⟩ = some i2) (h3 : w.cell? ⟨b', o + 3, none⟩ = some i3) (h4 : w.cell? ⟨b', o + 4, none⟩ = some i4)
    (hb2 : b2 < w.heap.size) (hu : w.cell? ⟨b2, o2, none⟩ = some u) : ∀ W', Below w.heap.size w W' → Below w.heap.size w W' ∧ (W'.cell? ⟨b, 0, none⟩ = some x ∧ W'.cell? ⟨b, 1, none⟩ = some y ∧ W'.cell? ⟨b, 2, none⟩ = some z) ∧
    (W'.cell? ⟨b', o, none⟩ = some i0 ∧ W'.cell? ⟨b', o + 1, none⟩ = some i1 ∧ W'.cell? ⟨b', o + 2, none⟩ = some i2 ∧ W'.cell? ⟨b', o + 3, none⟩ = some i3 ∧ W'.cell? ⟨b', o + 4, none⟩ = some i4) ∧ W'.cell? ⟨b2, o2, none⟩ = some u := by
  intro W' hb
  have e := (bcell hb).1
  exact ⟨hb, cells3 L W' hb, ⟨(e _ _ hb').trans h0, (e _ _ hb').trans h1, (e _ _ hb').trans h2, (e _ _ hb').trans h3, (e _ _ hb').trans h4⟩, (e _ _ hb2).trans hu⟩

set_option maxHeartbeats 4000000 in
theorem spec_CheckTaint (v u : Value) (c : LCode) (m : List (List Bool)) (w : World) (h : CodeRow w v c) (hm : MatRow w u m) :
    Calls Try.prog 33 #[v, u] w fun e w' => e = .returned (.bool (chkT c m)) ∧ Below w.heap.size w w' := by
  have hrow := h
  obtain ⟨v1, v2, v3, rfl, h1, h2, h3⟩ := h
  obtain ⟨W, hW⟩ : ∃ W, W = w.alloc (.cells #[v1, v2, v3] 36) := ⟨_, rfl⟩
  have B0 : Below w.heap.size w W := by rw [hW]; go_grown
  have L1 : Blk W w.heap.size [v1, v2, v3] := by rw [hW]; exact (Blk.new w [v1, v2, v3] _)
  obtain ⟨a3, k3, rfl, hk3, hm3, -, hc3⟩ := h3.ins
  obtain ⟨am, km, rfl, hmm, hmc⟩ := rowAt_row hm
  have HT : Hid (chkT c m = (codeOk c && decide (m.length = c.list.length) && decide (0 < (rowAt m 0).length) && m.all rowOk && !badPre c m m.length && covPre c m m.length)) := rfl
  have x0 := L1.cell 0
  have x1 := L1.cell 1
  have x2 := L1.cell 2
  simp only [List.getElem?_cons_zero, List.getElem?_cons_succ] at x0 x1 x2
  rw [hW] at x0 x1 x2
  go_enter Try.func33, Try.ntmps33
  go_wp2_with fail
  rw [← hW]
  clear hW x0 x1 x2
  refine (spec_CodeValid _ c _ (hrow.below B0)).mono ?_
  rintro e w1 ⟨rfl, b1⟩
  replace L1 := L1.below b1 L1.lt
  have B1 := B0.trans (b1.mono B0.size)
  clear b1 B0
  have x2 := L1.cell 2
  simp only [List.getElem?_cons_zero, List.getElem?_cons_succ] at x2
  cases hc : codeOk c
  · have HC := show Hid _ from hc
    clear hc hc3 hmc
    go_wp2_with fail
    go_ret
    exact ⟨ret_bool (by rw [HT.out, HC.out]; rfl), B1⟩
  have HC := show Hid _ from hc
  have hn1 := (codeOk_parts hc).2.1
  have hn4 := (codeOk_parts hc).2.2.1
  clear hc
  by_cases hl : m.length = c.list.length
  case neg =>
    have q1 : ((m.length : Int) != c.list.length) = true := by simp; intro e; exact hl (by exact_mod_cast e)
    have HL := show Hid _ from decide_eq_false hl
    clear hl hc3 hmc
    go_wp2_with fail
    go_ret
    exact ⟨ret_bool (by rw [HT.out, HL.out]; simp), B1⟩
  have HL := show Hid _ from hl
  have q1 : ((m.length : Int) != c.list.length) = false := by simp [hl]
  have hlm : 0 < m.length := by omega
  have hlmi : (0 : Int) < m.length := by omega
  obtain ⟨b0, o0, r0, c0, e0, hb0, y0, hrr0⟩ := hmc 0 hlm
  subst e0
  rw [← (bcell B1).1 _ _ hb0] at y0
  have hr0e : rowAt m ((0 : Nat) : Int) = rowAt m 0 := rfl
  rw [hr0e] at y0 hrr0
  have hrl0 := hrr0.len
  have HE0 : Hid ((rowAt m 0).length = 0 → chkT c m = false) := fun e => by rw [HT.out, e]; simp
  have HD0 : Hid ((rowAt m 0).length ≠ 0 → decide (0 < (rowAt m 0).length) = true) := fun e => decide_eq_true (Nat.pos_of_ne_zero e)
  clear hr0e hrr0
  simp only [Nat.add_zero] at y0
  generalize (rowAt m 0).length = n0 at *
  by_cases h00 : n0 = 0
  · have q2 : ((n0 : Int) == 0) = true := by simp [h00]
    have H0 := show Hid _ from h00
    clear h00 hc3 hmc
    go_wp2_with fail
    go_ret
    exact ⟨ret_bool (HE0.out H0.out).symm, B1⟩
  have q2 : ((n0 : Int) == 0) = false := by simp; exact h00
  replace HD0 := show Hid _ from HD0.out h00
  clear h00 HE0
  go_wp2_with fail
  have HM := show Hid _ from hmc
  have HI := show Hid _ from hc3
  clear hmc hc3 x2 y0 q2 q1
  go_loop [5] (fun i => ∃ k : Nat, k ≤ m.length ∧ i = .int .i64 k ∧ (m.take k).all rowOk = true) (fun i => m.length - (intOf i).toNat)
  case atStart => exact ⟨0, Nat.zero_le _, rfl, rfl⟩
  case round =>
    obtain ⟨k, hk, rfl, ha⟩ := hrel
    have HA := show Hid _ from ha
    clear ha
    by_cases hlt : k < m.length
    · obtain ⟨bm, om, a', c', he, hbm, xm, hrm⟩ := HM.out k hlt
      cases he
      rw [← (bcell B1).1 _ _ hbm] at xm
      have HS := show Hid _ from all_take_succ rowOk m k hlt
      have HR : Hid (rowOk m[k] = (decide ((rowAt m k).length = 0) || decide ((rowAt m k).length = 14))) := by unfold Hid; rw [rowAt_nat hlt]; rfl
      have HN := show Hid (rowOk m[k] = false → m.all rowOk = false) from fun hp => not_all hlt hp
      have hrl := hrm.len
      clear hrm
      generalize (rowAt m k).length = n at *
      by_cases n0 : n = 0
      · have q0 : ((n : Int) != 0) = false := by simp [n0]
        have HZ := show Hid ((m.take (k + 1)).all rowOk = true) from by unfold Hid; rw [HS.out, HA.out, HR.out]; simp [n0]
        clear n0 HS HR HN
        go_wp2_with fail
        go_round
        case rel => exact ⟨k + 1, by omega, by go_num, HZ.out⟩
        case measure => simp [intOf]; omega
      · have q0 : ((n : Int) != 0) = true := by simp; intro e; rw [e] at n0; exact n0 rfl
        by_cases n14 : n = 14
        · have q3 : ((n : Int) != 14) = false := by simp [n14]
          have HZ := show Hid ((m.take (k + 1)).all rowOk = true) from by unfold Hid; rw [HS.out, HA.out, HR.out]; simp [n14]
          clear n0 n14 HS HR HN
          go_wp2_with fail
          go_round
          case rel => exact ⟨k + 1, by omega, by go_num, HZ.out⟩
          case measure => simp [intOf]; omega
        · have q3 : ((n : Int) != 14) = true := by simp; omega
          have HZ := show Hid (m.all rowOk = false) from HN.out (by rw [HR.out]; simp [n14]; intro e; rw [e] at n0; exact n0 rfl)
          clear n0 n14 HS HR HN
          go_wp2_with fail
          go_ret
          exact ⟨ret_bool (by rw [HT.out, HZ.out]; simp), B1⟩
    · have e : k = m.length := by omega
      subst e
      have HR := show Hid (m.all rowOk = true) from by have := HA.out; rwa [List.take_length] at this
      clear HA
      go_wp2_with fail
      go_loopw [6, 7, 8, 9] (fun i _ _ _ wr => ∃ k : Nat, k ≤ m.length ∧ i = .int .i64 k ∧ badPre c m k = false ∧ covPre c m k = true ∧ Below w1.heap.size w1 wr) (fun i _ _ _ _ => m.length - (intOf i).toNat)
      case atStart => exact ⟨0, Nat.zero_le _, rfl, rfl, rfl, Below.refl _ _⟩
      case round =>
        obtain ⟨k, hk, rfl, ha, hcv, hb⟩ := hrel
        have HA := show Hid _ from ha
        have HV := show Hid _ from hcv
        clear ha hcv
        replace L1 := L1.below hb L1.lt
        have BW := B1.trans (hb.mono B1.size)
        by_cases hlt : k < m.length
        · have hltc : k < c.list.length := by have := HL.out; omega
          obtain ⟨b, off, rfl, hb3, i0, i1, i2, i3, i4⟩ := HI.out k hltc
          obtain ⟨bm, om, a', c', he, hbm, xm, hrm⟩ := HM.out k hlt
          cases he
          have hx := (codeOk_parts HC.out).2.2.2.1 k hltc
          have HB : Hid (badAt c m k = (decide (0 < (rowAt m k).length) && decide (ownF c (insAt c k) (rowAt m k) ≠ 0))) := rfl
          rw [insAt_get hltc] at HB
          have HCA : Hid (covAt c m k = (decide ((rowAt m k).length = 0) || (nx c k).all fun t => covF (afterF c (insAt c k) (rowAt m k)) (rowAt m t))) := rfl
          rw [insAt_get hltc] at HCA
          have HSB := show Hid _ from badPre_succ c m k
          have HSC := show Hid _ from covPre_succ c m k
          have HNB := show Hid (badAt c m k = true → badPre c m m.length = true) from fun g => badPre_not _ hlt g
          have HNC := show Hid (covAt c m k = false → covPre c m m.length = false) from fun g => covPre_not _ hlt g
          have hlr := rowOk_len HR.out k
          rw [← (bcell BW).1 _ _ hb3] at i0 i1 i2 i3 i4
          rw [← (bcell BW).1 _ _ hbm] at xm
          replace hrm := hrm.below BW
          have sBW := BW.size
          generalize rowAt m k = r at *
          generalize c.list[k] = x at *
          have x0 := L1.cell 0
          have x1 := L1.cell 1
          have x2 := L1.cell 2
          simp only [List.getElem?_cons_zero, List.getElem?_cons_succ] at x0 x1 x2
          by_cases h0 : r.length = 0
          · have q0 : ((r.length : Int) == 0) = true := by simp [h0]
            have HN1 := show Hid (badPre c m (k + 1) = false) from by unfold Hid; rw [HSB.out, HA.out, HB.out]; simp [h0]
            have HN2 := show Hid (covPre c m (k + 1) = true) from by unfold Hid; rw [HSC.out, HV.out, HCA.out]; simp [h0]
            clear HB hlr h0
            go_wp2_with fail
            exact ⟨⟨k + 1, by omega, by go_num, HN1.out, HN2.out, hb⟩, by simp [intOf]; omega⟩
          · have h14 : r.length = 14 := by omega
            have q0 : ((r.length : Int) == 0) = false := by rw [h14]; rfl
            have hrr : Row wr (.slice a' r.length c') 14 1 (bools r) := by rw [h14] at hrm ⊢; exact hrm
            have z0 := fun X => ext_cell x0 X
            have z1 := fun X => ext_cell x1 X
            have z2 := fun X => ext_cell x2 X
            have j0 := fun X => ext_cell i0 X
            have j1 := fun X => ext_cell i1 X
            have j2 := fun X => ext_cell i2 X
            have j3 := fun X => ext_cell i3 X
            have j4 := fun X => ext_cell i4 X
            have jm := fun X => ext_cell xm X
            have hl14 : (r.length : Int) ≤ 14 := by omega
            have hki : (k : Int) < m.length := by omega
            have hkl : (k : Int) < c.list.length := by omega
            have HCALL : Hid (∀ X, Calls Try.prog 67 #[.agg #[v1, v2, .slice (some ⟨b, off, none⟩) c.list.length k3], x.v, .slice a' r.length c'] (wr.ext X) fun e w'' => e = .returned (.int .i64 (ownF c x r)) ∧ ∃ Y, w'' = wr.ext Y) :=
              fun X => Calls.ext_of' (spec_l9Own _ _ c x r _ ((hrow.below BW).below (ext_below _ X)) hx (hrr.below (ext_below _ X)))
            by_cases ho : ownF c x r = 0
            · have qo : (ownF c x r != 0) = false := by simp [ho]
              have HN1 := show Hid (badPre c m (k + 1) = false) from by unfold Hid; rw [HSB.out, HA.out, HB.out]; simp [ho]
              have HCA' : Hid (covAt c m k = ((nx c k).all fun t => covF (afterF c x r) (rowAt m t))) := by unfold Hid; rw [HCA.out, h14]; simp
              have hcells := cells3i L1 (Nat.lt_of_lt_of_le hb3 sBW) i0 i1 i2 i3 i4 (Nat.lt_of_lt_of_le hbm sBW) xm
              have HFL := show Hid ((afterF c x r).length = 14) from by unfold Hid; rw [afterF_len, h14]
              clear HB hlr h0 ho h14 HCA HSB HNB hrm i0 i1 i2 i3 i4
              go_wp2_with fail
              clear xm
              refine wp_region_ext (by kernel_rfl) (by kernel_rfl) ?_
              repeat (any_goals (first | go_big_quiet_step ((go_at_call 67; exact HCALL.out _)) | quiet_step ((go_at_call 67; exact HCALL.out _))))
              refine wpQuiet_nil ?_
              rintro _ ⟨X, rfl⟩
              clear z0 z1 z2 j0 j1 j2 j3 j4 jm HCALL x0 x1 x2
              have bX := ext_below wr X
              generalize wr.ext X = wx at *
              have hcx := fun W' (g : Below wx.heap.size wx W') => And.intro g (hcells W' (bX.trans (g.mono bX.size))).2
              have HCELLS := show Hid _ from hcx
              clear hcells hcx
              obtain ⟨-, ⟨x0, x1, x2⟩, ⟨i0, i1, i2, i3, i4⟩, xm⟩ := HCELLS.out wx (Below.refl _ _)
              have hbx := hb.trans (bX.mono hb.size)
              have BX := B1.trans (hbx.mono B1.size)
              have hb0x := (Below.refl wx.heap.size wx).drew
              go_wp2_with fail
              go_region_held3 (fun W' => Below wx.heap.size wx W' ∧ (W'.cell? ⟨w.heap.size, 0, none⟩ = some v1 ∧ W'.cell? ⟨w.heap.size, 1, none⟩ = some v2 ∧ W'.cell? ⟨w.heap.size, 2, none⟩ = some (.slice (some ⟨b, off, none⟩) c.list.length k3)) ∧
                  (W'.cell? ⟨b, off + k * 5, none⟩ = some (.int .i64 x.op) ∧ W'.cell? ⟨b, off + k * 5 + 1, none⟩ = some (.int .i64 x.a) ∧ W'.cell? ⟨b, off + k * 5 + 2, none⟩ = some (.int .i64 x.b) ∧ W'.cell? ⟨b, off + k * 5 + 3, none⟩ = some (.int .i64 x.c) ∧ W'.cell? ⟨b, off + k * 5 + 4, none⟩ = some (.int .i64 x.d)) ∧
                  W'.cell? ⟨b0, o0 + k, none⟩ = some (.slice a' r.length c'))
                (exact HCELLS.out _ (by assumption))
                (first | (go_at_call 70; refine (spec_l9After _ _ c x r _ (hrow.below (below_step (by assumption) BX (Nat.le_refl _))) hx (hrr.below (below_step (by assumption) bX (Nat.le_refl _)))).mono ?_; rintro e w7 ⟨u3, rfl, o3, b7⟩; have q7 := below_step b7 hb0x (Nat.le_refl _); obtain ⟨a9, c9, rfl⟩ := o3.form))
              clear x0 x1 x2 i0 i1 i2 i3 i4 xm hb0x
              obtain ⟨-, ⟨x0, x1, x2⟩, -, -⟩ := HCELLS.out w7 q7
              have hb7 := hbx.trans (q7.mono hbx.size)
              have B7 := B1.trans (hb7.mono B1.size)
              have f7 := o3.row
              clear o3 b7 HCELLS
              go_wp2_with fail
              refine (spec_next _ c k _ (hrow.below B7) (by omega) (by omega)).mono ?_
              rintro e w8 ⟨u8, rfl, o8, b8⟩
              obtain ⟨a10, c10, rfl⟩ := o8.form
              have hnr := o8.row
              have hb8 := hb7.trans (b8.mono hb7.size)
              have B8 := B1.trans (hb8.mono B1.size)
              replace f7 := f7.below b8
              clear o8 b8 x0 x1 x2
              have hnx : ∀ y ∈ nx c k, 0 ≤ y ∧ y < c.list.length := fun y hy => nx_ok HC.out (by omega) hy
              obtain ⟨F, hF⟩ : ∃ F, F = afterF c x r := ⟨_, rfl⟩
              rw [← hF] at f7 HFL HCA'
              have hfl := HFL.out
              have f7' : Row w8 (.slice a9 14 c9) F.length 1 (bools F) := by rw [hfl]; exact f7
              obtain ⟨ns, hns⟩ : ∃ ns, ns = nx c k := ⟨_, rfl⟩
              rw [← hns] at hnx hnr HCA' ⊢
              have HNX := show Hid _ from hnx
              have hnl := hnr.len
              clear f7 hnx hns hF HFL
              go_wp2_with fail
              go_loop [9] (fun i => ∃ j : Nat, j ≤ ns.length ∧ i = .int .i64 j ∧ ((ns.take j).all fun t => covF F (rowAt m t)) = true) (fun i => ns.length - (intOf i).toNat)
              case atStart => exact ⟨0, Nat.zero_le _, rfl, rfl⟩
              case round =>
                obtain ⟨j, hj, rfl, hja⟩ := hrel
                have HJ := show Hid _ from hja
                clear hja
                by_cases hjl : j < ns.length
                · obtain ⟨y0, y1⟩ := HNX.out ns[j] (List.getElem_mem hjl)
                  have HSJ := show Hid _ from all_take_succ (fun t => covF F (rowAt m t)) ns j hjl
                  have HNJ := show Hid (covF F (rowAt m ns[j]) = false → (ns.all fun t => covF F (rowAt m t)) = false) from fun g => not_all hjl g
                  obtain ⟨an, cn, hv, -, -, -, hcn⟩ := hnr.open1
                  cases hv
                  obtain ⟨bn, on, rfl, hbn, yn⟩ := hcn j hjl
                  rw [ints_get _ _ hjl] at yn
                  clear hcn
                  obtain ⟨t, ht⟩ : ∃ t : Nat, ns[j] = t := ⟨ns[j].toNat, by omega⟩
                  rw [ht] at yn HSJ HNJ y0 y1
                  have htm : t < m.length := by omega
                  obtain ⟨bt, ot, at', ct, he, hbt, xt, hrt⟩ := HM.out t htm
                  cases he
                  rw [← (bcell B8).1 _ _ hbt] at xt
                  replace hrt := hrt.below B8
                  have hlt' := rowOk_len HR.out t
                  have hcv : Hid (covF F (rowAt m t) = (decide (0 < (rowAt m t).length) && covUpto F (rowAt m t) F.length)) := rfl
                  clear ht
                  go_wp2_with fail
                  refine (spec_l9Below _ _ F (rowAt m t) _ f7' hrt (by omega)).mono ?_
                  rintro e w9 ⟨rfl, rfl⟩
                  rw [← hcv.out]
                  cases hq : covF F (rowAt m t)
                  · have HQ := show Hid _ from hq
                    have HZ := show Hid (covPre c m m.length = false) from HNC.out (by rw [HCA'.out]; exact HNJ.out hq)
                    clear hq
                    go_wp2_with fail
                    go_ret
                    exact ⟨ret_bool (by rw [HT.out, HZ.out]; simp), B8⟩
                  · have HQ := show Hid _ from hq
                    clear hq
                    go_wp2_with fail
                    go_round
                    case rel => exact ⟨j + 1, by omega, by go_num, by rw [HSJ.out, HJ.out, HQ.out]; rfl⟩
                    case measure => simp [intOf]; omega
                · have e : j = ns.length := by omega
                  subst e
                  have HZ := show Hid (covPre c m (k + 1) = true) from by unfold Hid; rw [HSC.out, HV.out, HCA'.out]; have := HJ.out; rw [List.take_length] at this; rw [this]; rfl
                  go_wp2_with fail
                  exact ⟨⟨k + 1, by omega, by go_num, HN1.out, HZ.out, hb8⟩, by simp [intOf]; omega⟩
            · have qo : (ownF c x r != 0) = true := by simp [ho]
              have HN1 := show Hid (badPre c m m.length = true) from HNB.out (by rw [HB.out]; simp [ho]; omega)
              clear HB hlr h0 ho h14 HCA HSB HNB hrm i0 i1 i2 i3 i4
              go_wp2_with fail
              clear xm
              refine wp_region_ext (by kernel_rfl) (by kernel_rfl) ?_
              repeat (any_goals (first | go_big_quiet_step ((go_at_call 67; exact HCALL.out _)) | quiet_step ((go_at_call 67; exact HCALL.out _))))
              refine wpQuiet_nil ?_
              rintro _ ⟨X, rfl⟩
              have hbX := hb.trans ((ext_below wr X).mono hb.size)
              go_wp2_with fail
              go_ret
              exact ⟨ret_bool (by rw [HT.out, HN1.out]; simp), B1.trans (hbX.mono B1.size)⟩
        · have e : k = m.length := by omega
          subst e
          have HZ := show Hid (chkT c m = true) from by unfold Hid; rw [HT.out, HC.out, decide_eq_true HL.out, HD0.out, HR.out, HA.out, HV.out]; rfl
          go_wp2_with fail
          go_ret
          exact ⟨ret_bool HZ.out.symm, BW⟩

end Go.Proofs.Ytjlnaiifegjneaa
