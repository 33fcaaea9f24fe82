/-
  Threading of jumps, the reference's. Conditions: valid code.
-/
import Derived.Test.YtjlnaiifegjneaaCopyS
import Derived.Test.YtjlnaiifegjneaaThread1
import Derived.Test.YtjlnaiifegjneaaPure9
import Derived.Test.YtjlnaiifegjneaaMatMem
namespace Go.Proofs.Ytjlnaiifegjneaa
open Go Go.RowKit

theorem setFrom_shift (us : List Value) : ∀ (y : Value) (ys : List Value) (p : Nat), setFrom (y :: ys) (p + 1) us = y :: setFrom ys p us := by
  induction us with
  | nil => intro y ys p; rfl
  | cons u r ih => intro y ys p; simp only [setFrom, List.set_cons_succ]; exact ih _ _ _
theorem ins_set (x : LIns) : ∀ (l : List LIns) (k : Nat), k < l.length → setFrom (ints (insF l)) (k * 5) [.int .i64 x.op, .int .i64 x.a, .int .i64 x.b, .int .i64 x.c, .int .i64 x.d] = ints (insF (l.set k x))
  | [], k, h => by simp at h
  | y :: l, 0, _ => by simp [setFrom, insF, ints]
  | y :: l, k + 1, h => by
    have ih := ins_set x l k (by simpa using h)
    have e : (k + 1) * 5 = k * 5 + 1 + 1 + 1 + 1 + 1 := by omega
    rw [e]
    simp only [insF, ints, List.map_cons, List.set_cons_succ, setFrom_shift]
    simp only [ints] at ih
    rw [ih]

set_option maxRecDepth 100000 in
set_option maxHeartbeats 4000000 in
theorem spec_l8Thread (v : Value) (c : LCode) (hc : codeOk c = true) (w : World) (h : CodeRow w v c) :
    Calls Try.prog 62 #[v] w fun e w' => ∃ u, e = .returned u ∧ CodeOwn w' w.heap.size w'.heap.size u (thrF c) ∧ Below w.heap.size w w' := by
  have hrow := h
  obtain ⟨v1, v2, v3, rfl, h1, h2, h3⟩ := h
  obtain ⟨a3, k3, rfl, -, hm3, -, hc3⟩ := h3.ins
  have hn4 := (codeOk_parts hc).2.2.1
  obtain ⟨n, hn⟩ : ∃ n, n = w.heap.size := ⟨_, rfl⟩
  obtain ⟨W, hW⟩ : ∃ W, W = (w.alloc (.cells #[v1, v2, .slice a3 c.list.length k3] 36)).alloc (.cells #[.slice none 0 0, .slice none 0 0, .slice none 0 0] 36) := ⟨_, rfl⟩
  have B0 : Below w.heap.size w W := by rw [hW]; go_grown
  have sW : W.heap.size = n + 1 + 1 := by rw [hW, hn]; simp
  have L1 : Blk W n [v1, v2, .slice a3 c.list.length k3] := by rw [hW, hn]; exact (Blk.new w [v1, v2, .slice a3 c.list.length k3] _).alloc _
  have L2 : Blk W (n + 1) [.slice none 0 0, .slice none 0 0, .slice none 0 0] := by rw [hW, hn]; exact Blk.new' (w.alloc _) [.slice none 0 0, .slice none 0 0, .slice none 0 0] _ (by simp)
  have x0 := L1.cell 0
  have x1 := L1.cell 1
  have x2 := L1.cell 2
  simp only [List.getElem?_cons_zero, List.getElem?_cons_succ] at x0 x1 x2
  rw [hW, hn] at x0 x1 x2
  go_enter Try.func62, Try.ntmps62
  go_wp2_with fail
  rw [← hW]
  clear hW x0 x1 x2
  refine (spec_l8Copy _ c _ (hrow.below B0) (codeOk_size hc)).mono ?_
  rintro e w1 ⟨u, rfl, ou, b1⟩
  obtain ⟨y1, y2, y3, rfl, -⟩ := id ou
  obtain ⟨p1, q1, p2, q2, p3, q3, rfl, rfl, rfl⟩ := Code.rowOf ou
  obtain ⟨z1, z2, z3, hz, o1, o2, o3, d12, d13, d23⟩ := ou
  simp only [Value.agg.injEq, Array.mk.injEq, List.cons.injEq, and_true] at hz
  obtain ⟨rfl, rfl, rfl⟩ := hz
  have B1 := B0.trans (b1.mono B0.size)
  have s1 := b1.size
  replace L1 := L1.below b1 L1.lt
  replace L2 := L2.below b1 L2.lt
  go_wp2_with fail
  obtain ⟨T, hT⟩ : ∃ T, T = w1.heap.size := ⟨_, rfl⟩
  obtain ⟨w2, hw2⟩ : ∃ w2, w2 = w1.alloc (.cells #[.slice p1 c.vars.length q1, .slice p2 c.arrays.length q2, .slice p3 c.list.length q3] 36) := ⟨_, rfl⟩
  have L3 : Blk w2 T [.slice p1 c.vars.length q1, .slice p2 c.arrays.length q2, .slice p3 c.list.length q3] := by rw [hw2]; exact Blk.new' w1 _ _ hT
  have b2 : Below w1.heap.size w1 w2 := by rw [hw2]; go_grown
  have s2 : w2.heap.size = T + 1 := by rw [hw2, hT]; simp
  rw [← hw2, ← hT]
  have B2 := B1.trans (b2.mono B1.size)
  replace L1 := L1.below b2 L1.lt
  replace L2 := L2.below b2 L2.lt
  replace o1 := (o1.keep b2 (Nat.le_refl _)).wide (show n + 1 + 1 ≤ W.heap.size by omega) (show w1.heap.size ≤ T by omega)
  replace o2 := (o2.keep b2 (Nat.le_refl _)).wide (show n + 1 + 1 ≤ W.heap.size by omega) (show w1.heap.size ≤ T by omega)
  replace o3 := (o3.keep b2 (Nat.le_refl _)).wide (show n + 1 + 1 ≤ W.heap.size by omega) (show w1.heap.size ≤ T by omega)
  have HT := show Hid (n + 1 + 1 ≤ T) from by unfold Hid; omega
  have HN := show Hid (n = w.heap.size) from hn
  have HD := show Hid _ from And.intro d12 (And.intro d13 d23)
  have HI := show Hid _ from hc3
  rw [← hn]
  clear hw2 hT b1 b2 B0 B1 sW s1 hc3 d12 d13 d23 hn
  rw [← mixT_zero c] at o3
  go_loopw [4] (fun i wr => ∃ k : Nat, k ≤ c.list.length ∧ i = .int .i64 k ∧ Blk wr n [v1, v2, .slice a3 c.list.length k3] ∧ Blk wr (n + 1) [.slice none 0 0, .slice none 0 0, .slice none 0 0] ∧ Blk wr T [.slice p1 c.vars.length q1, .slice p2 c.arrays.length q2, .slice p3 c.list.length q3] ∧
      Own wr (n + 1 + 1) T 3 1 (.slice p1 c.vars.length q1) c.vars.length (ints c.vars) ∧ Own wr (n + 1 + 1) T 3 1 (.slice p2 c.arrays.length q2) c.arrays.length (ints c.arrays) ∧ Own wr (n + 1 + 1) T 66 5 (.slice p3 c.list.length q3) c.list.length (ints (insF (mixT c k))) ∧ Below w.heap.size w wr) (fun i _ => c.list.length - (intOf i).toNat)
  case atStart => exact ⟨0, Nat.zero_le _, rfl, L1, L2, L3, o1, o2, by have := o3; simp only [mixT_zero] at this ⊢; exact this, B2⟩
  case round =>
    obtain ⟨k, hk, rfl, hL1, hL2, hL3, ho1, ho2, ho3, hb⟩ := hrel
    clear L1 L2 L3 o1 o2 o3 B2
    have y2 := hL3.cell 2
    have x0 := hL1.cell 0
    have x1 := hL1.cell 1
    have x2 := hL1.cell 2
    simp only [List.getElem?_cons_zero, List.getElem?_cons_succ] at x0 x1 x2 y2
    by_cases hlt : k < c.list.length
    · obtain ⟨b, off, rfl, hb3, i0, i1, i2, i3, i4⟩ := HI.out k hlt
      have hins := (codeOk_parts hc).2.2.2.1 k hlt
      rw [← (bcell hb).1 _ _ hb3] at i0 i1 i2 i3 i4
      have hbw : b < wr.heap.size := Nat.lt_of_lt_of_le hb3 hb.size
      have HTH : Hid (thrI c c.list[k] = if 0 ≤ tgtOf c.list[k] then aimF c.list[k] (finalT c (tgtOf c.list[k])) else c.list[k]) := rfl
      have HTG := show Hid (0 ≤ tgtOf c.list[k] → placeOk c (tgtOf c.list[k])) from fun g => ⟨g, tgt_range hins g⟩
      have HM := show Hid _ from mixT_succ c k hlt
      have HK := show Hid _ from mixT_keep c k hlt
      obtain ⟨x, hx⟩ : ∃ x, x = c.list[k] := ⟨_, rfl⟩
      rw [← hx] at i0 i1 i2 i3 i4 HTH HTG HM HK
      clear hins hx
      have hki : (k : Int) < c.list.length := by omega
      go_wp2_with fail
      refine (spec_l8Target x _).mono ?_
      rintro e w3 ⟨rfl, b3⟩
      have ho3x := ho3.keep b3 (by have := hL3.lt; omega)
      have ho1x := ho1.keep b3 (by have := hL3.lt; omega)
      have ho2x := ho2.keep b3 (by have := hL3.lt; omega)
      have hL1x := hL1.below b3 hL1.lt
      have hL2x := hL2.below b3 hL2.lt
      have hL3x := hL3.below b3 hL3.lt
      have hb3x := hb.trans (b3.mono hb.size)
      have e3 := (bcell b3).1
      rw [← e3 _ _ hbw] at i0 i1 i2 i3 i4
      clear x0 x1 x2 y2 hL1 hL2 ho1 ho2 ho3 e3
      by_cases ht : 0 ≤ tgtOf x
      · have hpl := HTG.out ht
        have hth := HTH.out
        rw [if_pos ht] at hth
        have HTR := show Hid _ from hth
        have HT0 := show Hid _ from ht
        obtain ⟨t, htt⟩ : ∃ t, t = tgtOf x := ⟨_, rfl⟩
        obtain ⟨fz, hfz⟩ : ∃ fz, fz = finalT c t := ⟨_, rfl⟩
        rw [← htt] at hpl ht ⊢
        have hT0 : Hid (tgtOf x = t) := htt.symm
        have hF0 : Hid (finalT c t = fz) := hfz.symm
        have HTR' := show Hid (thrI c x = aimF x fz) from by unfold Hid; rw [HTR.out, hT0.out, hF0.out]
        have HC1 : Hid (∀ X, Calls Try.prog 95 #[x.v] (w3.ext X) fun e w'' => e = .returned (.int .i64 t) ∧ ∃ Y, w'' = w3.ext Y) := fun X => Calls.ext_of' ((spec_l8Target x _).mono fun e w' h => by rw [hT0.out] at h; exact h)
        have HC2 : Hid (∀ X, Calls Try.prog 97 #[.agg #[v1, v2, .slice (some ⟨b, off, none⟩) c.list.length k3], .int .i64 t] (w3.ext X) fun e w'' => e = .returned (.int .i64 fz) ∧ ∃ Y, w'' = w3.ext Y) :=
          fun X => Calls.ext_of' ((spec_l8Final _ c hc t hpl _ ((hrow.below hb3x).below (ext_below _ X))).mono fun e w' h => by rw [hF0.out] at h; exact h)
        obtain ⟨q, hq⟩ : ∃ q, q = aimF x fz := ⟨_, rfl⟩
        have HC3 : Hid (∀ X, Calls Try.prog 96 #[x.v, .int .i64 fz] (w3.ext X) fun e w'' => e = .returned (.agg #[.int .i64 q.op, .int .i64 q.a, .int .i64 q.b, .int .i64 q.c, .int .i64 q.d]) ∧ ∃ Y, w'' = w3.ext Y) := fun X => Calls.ext_of' ((spec_l8Aim x fz _).mono fun e w' h => by rw [← hq] at h; exact h)
        have HM2 := show Hid (mixT c (k + 1) = (mixT c k).set k q) from by unfold Hid; rw [HM.out, HTR'.out, hq]
        obtain ⟨g3, hv3, hg1, hg2, hg3, hfr, hcl⟩ : ∃ g3, p3 = some ⟨g3, 0, none⟩ ∧ n + 1 + 1 ≤ g3 ∧ g3 < T ∧ g3 < w3.heap.size ∧ (∀ o, w3.frozen? ⟨g3, o, none⟩ = false) ∧ ∀ j, j < 5 → ∃ u, w3.cell? ⟨g3, k * 5 + j, none⟩ = some u := by
          obtain ⟨g, cap, hv, q1, q2, q3, -, -, q6, q7⟩ := ho3x.open (by omega)
          cases hv
          have hl : (ints (insF (mixT c k))).length = c.list.length * 5 := ho3x.1.1
          exact ⟨g, rfl, q1, q2, q3, q6, fun j hj => ⟨_, q7 _ _ (List.getElem?_eq_getElem (by omega))⟩⟩
        subst hv3
        obtain ⟨c0, w0⟩ := hcl 0 (by omega)
        obtain ⟨c1, w1'⟩ := hcl 1 (by omega)
        obtain ⟨c2, w2'⟩ := hcl 2 (by omega)
        obtain ⟨c3, w3'⟩ := hcl 3 (by omega)
        obtain ⟨c4, w4'⟩ := hcl 4 (by omega)
        simp only [Nat.add_zero] at w0
        have x0 := hL1x.cell 0
        have x1 := hL1x.cell 1
        have x2 := hL1x.cell 2
        have y2 := hL3x.cell 2
        simp only [List.getElem?_cons_zero, List.getElem?_cons_succ] at x0 x1 x2 y2
        have ZX0 := fun X => ext_cell x0 X
        have ZX1 := fun X => ext_cell x1 X
        have ZX2 := fun X => ext_cell x2 X
        have ZY2 := fun X => ext_cell y2 X
        have j0 := fun X => ext_cell i0 X
        have j1 := fun X => ext_cell i1 X
        have j2 := fun X => ext_cell i2 X
        have j3 := fun X => ext_cell i3 X
        have j4 := fun X => ext_cell i4 X
        have d0 := fun X => ext_cell w0 X
        have d1 := fun X => ext_cell w1' X
        have d2 := fun X => ext_cell w2' X
        have d3 := fun X => ext_cell w3' X
        have d4 := fun X => ext_cell w4' X
        have ff0 := fun X => ext_frozen hg3 (hfr (k * 5)) X
        have ff1 := fun X => ext_frozen hg3 (hfr (k * 5 + 1)) X
        have ff2 := fun X => ext_frozen hg3 (hfr (k * 5 + 2)) X
        have ff3 := fun X => ext_frozen hg3 (hfr (k * 5 + 3)) X
        have ff4 := fun X => ext_frozen hg3 (hfr (k * 5 + 4)) X
        have hsz3 : (ints (insF (mixT c k))).length = c.list.length * 5 := ho3x.1.1
        have HSZ := show Hid _ from hsz3
        have hT3 := hL3x.lt
        clear i0 i1 i2 i3 i4 w0 w1' w2' w3' w4' hcl hfr htt hfz hth hsz3 hpl HTG HTH HT0 HTR HK hq HTR' HM
        go_wp2_with fail
        clear x0 x1 x2 y2
        refine wp_region_qext 18 _ rfl (by kernel_rfl) (by kernel_rfl) ?_
        simp only [List.set_cons_succ, List.set_cons_zero, idle]
        repeat (any_goals (first | go_big_quiet_step ((first | (go_at_call 95; exact HC1.out _) | (go_at_call 97; exact HC2.out _) | (go_at_call 96; exact HC3.out _))) | quiet_step ((first | (go_at_call 95; exact HC1.out _) | (go_at_call 97; exact HC2.out _) | (go_at_call 96; exact HC3.out _)))))
        refine wpQuiet_nil ?_
        rintro _ ⟨X, rfl⟩
        go_wp2_with fail
        have bX := ext_below w3 X
        have ho1X := ho1x.keep bX (by omega)
        have ho2X := ho2x.keep bX (by omega)
        have ho3X := ho3x.keep bX (by omega)
        have hL1X := hL1x.below bX hL1x.lt
        have hL2X := hL2x.below bX hL2x.lt
        have hL3X := hL3x.below bX hL3x.lt
        have hbX := hb3x.trans (bX.mono hb3x.size)
        have hO := Out.setFrom (lo := g3) (hi := g3 + 1) (p := k * 5) [.int .i64 q.op, .int .i64 q.a, .int .i64 q.b, .int .i64 q.c, .int .i64 q.d] (Out.refl g3 (g3 + 1) (w3.ext X)) (Nat.le_refl g3) (Nat.lt_succ_self g3)
        have hS3 := ho3X.setFrom (p := k * 5) [.int .i64 q.op, .int .i64 q.a, .int .i64 q.b, .int .i64 q.c, .int .i64 q.d] (by rw [HSZ.out]; simp; omega)
        rw [ins_set q (mixT c k) k (by rw [mixT_len]; exact hlt), ← HM2.out] at hS3
        have htt : ∀ g, g3 ≤ g → g < g3 + 1 → (Value.slice (some ⟨g3, 0, none⟩) c.list.length q3).ownBlock = some g := fun g e1 e2 => by rw [show g = g3 by omega]; rfl
        refine ⟨⟨k + 1, by omega, by go_num, hL1X.out hO (by omega), hL2X.out hO (by omega), hL3X.out hO (by omega), ho1X.disj hO htt HD.out.2.1.symm, ho2X.disj hO htt HD.out.2.2.symm, hS3, ?_⟩, by simp [intOf]; omega⟩
        exact below_setFrom (g := g3) (p := k * 5) [.int .i64 q.op, .int .i64 q.a, .int .i64 q.b, .int .i64 q.c, .int .i64 q.d] hbX (by have := HN.out; omega)
      · have hth := HTH.out
        rw [if_neg ht] at hth
        have HN2 := show Hid _ from HK.out hth
        have ht' : tgtOf x < 0 := by omega
        clear hth ht HTH HTG HK HM i0 i1 i2 i3 i4
        go_wp2_with fail
        exact ⟨⟨k + 1, by omega, by go_num, hL1x, hL2x, hL3x, ho1x, ho2x, by rw [HN2.out]; exact ho3x, hb3x⟩, by simp [intOf]; omega⟩
    · have hkn : k = c.list.length := by omega
      subst hkn
      have y0 := hL3.cell 0
      have y1 := hL3.cell 1
      have z0 := hL2.cell 0
      have z1 := hL2.cell 1
      have z2 := hL2.cell 2
      simp only [List.getElem?_cons_zero, List.getElem?_cons_succ] at y0 y1 z0 z1 z2
      have f0 := hL2.free 0
      have f1 := hL2.free 1
      have f2 := hL2.free 2
      go_wp2_with fail
      have hn' := HN.out
      have hT' := HT.out
      have L4 := ((hL2.set (j := 0) (.slice p1 c.vars.length q1)).set (j := 1) (.slice p2 c.arrays.length q2)).set (j := 2) (.slice p3 c.list.length q3)
      have hO : Out (n + 1) (n + 1 + 1) wr (((wr.setCell ⟨n + 1, 0, none⟩ (.slice p1 c.vars.length q1)).setCell ⟨n + 1, 1, none⟩ (.slice p2 c.arrays.length q2)).setCell ⟨n + 1, 2, none⟩ (.slice p3 c.list.length q3)) :=
        (((Out.refl (n + 1) (n + 1 + 1) wr).setCell (p := ⟨n + 1, 0, none⟩) (Nat.le_refl _) (Nat.lt_succ_self _) _).setCell (p := ⟨n + 1, 1, none⟩) (Nat.le_refl _) (Nat.lt_succ_self _) _).setCell (p := ⟨n + 1, 2, none⟩) (Nat.le_refl _) (Nat.lt_succ_self _) _
      replace ho1 := ho1.out hO (.inr (Nat.le_refl _))
      replace ho2 := ho2.out hO (.inr (Nat.le_refl _))
      replace ho3 := ho3.out hO (.inr (Nat.le_refl _))
      rw [mixT_all] at ho3
      have hTs := hL3.lt
      have zF : (((wr.setCell ⟨n + 1, 0, none⟩ (.slice p1 c.vars.length q1)).setCell ⟨n + 1, 1, none⟩ (.slice p2 c.arrays.length q2)).setCell ⟨n + 1, 2, none⟩ (.slice p3 c.list.length q3)).heap.size = wr.heap.size := by simp
      have hll : (thrF c).list.length = c.list.length := by simp [thrF]
      have BF := ((hb.setCell (p := ⟨n + 1, 0, none⟩) (by show w.heap.size ≤ n + 1; omega) (.slice p1 c.vars.length q1)).setCell (p := ⟨n + 1, 1, none⟩) (by show w.heap.size ≤ n + 1; omega) (.slice p2 c.arrays.length q2)).setCell (p := ⟨n + 1, 2, none⟩) (by show w.heap.size ≤ n + 1; omega) (.slice p3 c.list.length q3)
      have r0 := L4.cell 0
      have r1 := L4.cell 1
      have r2 := L4.cell 2
      simp only [List.getElem?_cons_zero, List.getElem?_cons_succ, List.set_cons_zero, List.set_cons_succ] at r0 r1 r2
      generalize ((wr.setCell ⟨n + 1, 0, none⟩ (.slice p1 c.vars.length q1)).setCell ⟨n + 1, 1, none⟩ (.slice p2 c.arrays.length q2)).setCell ⟨n + 1, 2, none⟩ (.slice p3 c.list.length q3) = WF at *
      refine bodyPost_ret (v := .agg #[.slice p1 c.vars.length q1, .slice p2 c.arrays.length q2, .slice p3 c.list.length q3]) (by simp [results, Try.results62, go_sem, r0, r1, r2]) rfl ⟨_, rfl, ⟨_, _, _, rfl, ho1.wide (by omega) (by omega), ho2.wide (by omega) (by omega), ?_, HD.out.1, HD.out.2.1, HD.out.2.2⟩, BF⟩
      rw [hll]
      exact ho3.wide (by omega) (by omega)

end Go.Proofs.Ytjlnaiifegjneaa
