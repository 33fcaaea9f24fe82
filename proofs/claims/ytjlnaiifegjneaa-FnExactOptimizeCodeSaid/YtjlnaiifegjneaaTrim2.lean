/-
  Code without some instructions, the program's. Conditions: valid code; a bool for each instruction.
-/
import Derived.Test.YtjlnaiifegjneaaTrim1
import Derived.Test.YtjlnaiifegjneaaThread2
namespace Go.Proofs.Ytjlnaiifegjneaa
open Go Go.RowKit

/-- The places on their way. -/
def mixP (ks : List Bool) (n k : Nat) : List Int := plcL ks k ++ List.replicate (n - k) 0
theorem mixP_len (ks : List Bool) {n k : Nat} (h : k ≤ n) : (mixP ks n k).length = n := by simp [mixP, plcL_len]; omega
theorem mixP_zero (ks : List Bool) (n : Nat) : mixP ks n 0 = List.replicate n 0 := by simp [mixP, plcL]
theorem mixP_all (ks : List Bool) (n : Nat) : mixP ks n n = plcL ks n := by simp [mixP]
theorem mixP_succ (ks : List Bool) {n k : Nat} (h : k < n) : mixP ks n (k + 1) = (mixP ks n k).set k (plc ks k : Int) := by
  unfold mixP
  rw [List.set_append_right _ _ (by rw [plcL_len]; exact Nat.le_refl _), plcL_len, Nat.sub_self, plcL_succ]
  obtain ⟨d, hd⟩ : ∃ d, n - k = d + 1 := ⟨n - k - 1, by omega⟩
  rw [hd, show n - (k + 1) = d by omega, List.replicate_succ]
  simp

set_option maxRecDepth 100000 in
set_option maxHeartbeats 8000000 in
theorem impl_without (v u : Value) (c : LCode) (ds ks : List Bool) (hc : codeOk c = true) (w : World) (h : CodeRow w v c) (hu : Row w u c.list.length 1 (bools ds)) (hks : ks.length = c.list.length) (hkd : ∀ i, i < c.list.length → ds.getD i false = !ks.getD i false) :
    Calls Try.prog 106 #[v, u] w fun e w' => ∃ z, e = .returned z ∧ CodeOwn w' w.heap.size w'.heap.size z { c with list := trimL c ks c.list.length } ∧ Below w.heap.size w w' := by
  have hrow := h
  obtain ⟨v1, v2, v3, rfl, h1, h2, h3⟩ := h
  obtain ⟨a3, k3, rfl, -, hm3, -, hc3⟩ := h3.ins
  obtain ⟨au, cu, rfl, -, -, -, hcu⟩ := hu.open1
  have hn4 := (codeOk_parts hc).2.2.1
  have hn1 := (codeOk_parts hc).2.1
  obtain ⟨n, hn⟩ : ∃ n, n = w.heap.size := ⟨_, rfl⟩
  obtain ⟨W, hW⟩ : ∃ W, W = (w.alloc (.cells #[v1, v2, .slice a3 c.list.length k3] 36)).alloc (.cells #[.slice none 0 0, .slice none 0 0, .slice none 0 0] 36) := ⟨_, rfl⟩
  have B0 : Below w.heap.size w W := by rw [hW]; go_grown
  have sW : W.heap.size = n + 1 + 1 := by rw [hW, hn]; simp
  have L1 : Blk W n [v1, v2, .slice a3 c.list.length k3] := by rw [hW, hn]; exact (Blk.new w [v1, v2, .slice a3 c.list.length k3] _).alloc _
  have L2 : Blk W (n + 1) [.slice none 0 0, .slice none 0 0, .slice none 0 0] := by rw [hW, hn]; exact Blk.new' (w.alloc _) [.slice none 0 0, .slice none 0 0, .slice none 0 0] _ (by simp)
  have hmk := make_run (P := Try.prog) (t := 28) Try.underlying28 infoI rfl (by omega) c.list.length (by omega) hm3
  have hown := own_made W (Value.int .i64 0).cells.toList c.list.length 1 3 rfl hm3
  rw [show (Value.int .i64 0).cells.toList = [Value.int .i64 0] from rfl, zeroRow_one, sW] at hown
  rw [show (Value.int .i64 0).cells.toList = [Value.int .i64 0] from rfl, zeroRow_one] at hmk
  have eR : (List.replicate c.list.length (Value.int .i64 0)).toArray = Array.replicate c.list.length (Value.int .i64 0) := by simp
  rw [eR] at hmk hown
  have hown1 : Own (W.alloc (.cells (Array.replicate c.list.length (Value.int .i64 0)) 3)) (n + 1 + 1) (n + 1 + 1 + 1) 3 1 (.slice (some ⟨n + 1 + 1, 0, none⟩) c.list.length c.list.length) c.list.length (ints (mixP ks c.list.length 0)) := by
    rw [mixP_zero, ints, List.map_replicate]; exact hown
  have x2 : (W.alloc (.cells (Array.replicate c.list.length (Value.int .i64 0)) 3)).cell? ⟨n, 2, none⟩ = some (.slice a3 c.list.length k3) := by simpa using (L1.alloc (.cells (Array.replicate c.list.length (Value.int .i64 0)) 3)).cell 2
  have x2' := L1.cell 2
  simp only [List.getElem?_cons_zero, List.getElem?_cons_succ] at x2'
  generalize Array.replicate c.list.length (Value.int .i64 0) = zn at *
  rw [hW, hn] at x2 x2'
  go_enter Try.func106, Try.ntmps106
  go_wp2_with fail
  rw [← hW, ← hn]
  clear x2 x2' hW hmk eR hown
  obtain ⟨W2, hW2⟩ : ∃ W2, W2 = W.alloc (.cells zn 3) := ⟨_, rfl⟩
  have bz : Below W.heap.size W W2 := by rw [hW2]; go_grown
  have s2 : W2.heap.size = n + 1 + 1 + 1 := by rw [hW2]; simp [sW]
  rw [← hW2] at hown1 ⊢
  replace L1 := L1.below bz L1.lt
  replace L2 := L2.below bz L2.lt
  have B2 := B0.trans (bz.mono B0.size)
  have HN := show Hid (n = w.heap.size) from hn
  have HI := show Hid _ from hc3
  have HU := show Hid _ from hcu
  have HKD := show Hid _ from hkd
  clear hW2 bz sW B0 hc3 hcu hkd hn
  go_loopw [6, 7, 19] (fun q _ i wr => ∃ k : Nat, k ≤ c.list.length ∧ i = .int .i64 k ∧ q = .int .i64 (plc ks k : Int) ∧ Blk wr n [v1, v2, .slice a3 c.list.length k3] ∧ Blk wr (n + 1) [.slice none 0 0, .slice none 0 0, .slice none 0 0] ∧
      Own wr (n + 1 + 1) (n + 1 + 1 + 1) 3 1 (.slice (some ⟨n + 1 + 1, 0, none⟩) c.list.length c.list.length) c.list.length (ints (mixP ks c.list.length k)) ∧ Below w.heap.size w wr) (fun _ _ i _ => c.list.length - (intOf i).toNat)
  case atStart => exact ⟨0, Nat.zero_le _, rfl, by rw [plc_zero]; rfl, L1, L2, hown1, B2⟩
  case round =>
    obtain ⟨k, hk, rfl, rfl, hL1, hL2, ho, hb⟩ := hrel
    clear L1 L2 hown1 B2
    by_cases hlt : k < c.list.length
    · obtain ⟨b, off, rfl, hbk, hy⟩ := HU.out k hlt
      have hdl : ds.length = c.list.length := by have := hu.1; simpa [bools] using this
      rw [bools_get _ _ (by omega), ← (bcell hb).1 _ _ hbk] at hy
      have hde : ds[k]'(by omega) = !ks.getD k false := by rw [← HKD.out k hlt]; simp [show k < ds.length by omega]
      rw [hde] at hy
      have HP := show Hid _ from mixP_succ ks hlt
      have HS := show Hid _ from plc_succ ks k (by omega)
      obtain ⟨g, cap, hv, -, -, -, hf, u0, hcc⟩ := ho.at (j := k) (by rw [ints_len, mixP_len ks hk]; exact hlt)
      cases hv
      have hSet := ho.setCell (j := k) (by rw [ints_len, mixP_len ks hk]; exact hlt) (.int .i64 (plc ks k : Int))
      rw [show (ints (mixP ks c.list.length k)).set k (.int .i64 (plc ks k : Int)) = ints ((mixP ks c.list.length k).set k (plc ks k : Int)) by simp [ints, List.map_set], ← HP.out] at hSet
      have hL1x := hL1.other (p := ⟨n + 1 + 1, k, none⟩) (by show n ≠ n + 1 + 1; omega) (.int .i64 (plc ks k : Int))
      have hL2x := hL2.other (p := ⟨n + 1 + 1, k, none⟩) (by show n + 1 ≠ n + 1 + 1; omega) (.int .i64 (plc ks k : Int))
      have hbx := hb.setCell (p := ⟨n + 1 + 1, k, none⟩) (by show w.heap.size ≤ n + 1 + 1; have := HN.out; omega) (.int .i64 (plc ks k : Int))
      have hyx : (wr.setCell ⟨n + 1 + 1, k, none⟩ (.int .i64 (plc ks k : Int))).cell? ⟨b, off + k, none⟩ = some (.bool !ks.getD k false) := by
        rw [World.cell?_setCell_other _ _ _ _ (by intro e; have e1 : n + 1 + 1 = b := congrArg Addr.block e; have := HN.out; omega)]
        exact hy
      have hpl := plc_le ks k
      clear hde hdl hy
      cases hkb : ks.getD k false
      · have HN1 := show Hid (plc ks (k + 1) = plc ks k) from by unfold Hid; rw [HS.out, hkb]; simp
        rw [hkb] at hyx
        simp only [Bool.not_false] at hyx
        clear hkb
        go_wp2_with fail
        exact ⟨⟨k + 1, by omega, by go_num, by rw [HN1.out], hL1x, hL2x, hSet, hbx⟩, by simp [intOf]; omega⟩
      · have HN1 := show Hid (plc ks (k + 1) = plc ks k + 1) from by unfold Hid; rw [HS.out, hkb]; simp
        rw [hkb] at hyx
        simp only [Bool.not_true] at hyx
        clear hkb
        go_wp2_with fail
        exact ⟨⟨k + 1, by omega, by go_num, by rw [HN1.out]; go_num, hL1x, hL2x, hSet, hbx⟩, by simp [intOf]; omega⟩
    · have hkn : k = c.list.length := by omega
      subst hkn
      rw [mixP_all] at ho
      have x2 := hL1.cell 2
      simp only [List.getElem?_cons_zero, List.getElem?_cons_succ] at x2
      go_wp2_with fail
      clear x2
      go_loopw [8, 9, 10, 11, 37] (fun q _ _ _ i wr => ∃ (k : Nat) (a : Option Addr) (cq : Nat), k ≤ c.list.length ∧ i = .int .i64 k ∧ q = .slice a (trimL c ks k).length cq ∧ wr.ownsRow (n + 1 + 1 + 1) 66 5 q (trimL c ks k).length (ints (insF (trimL c ks k))) ∧ Blk wr n [v1, v2, .slice a3 c.list.length k3] ∧ Blk wr (n + 1) [.slice none 0 0, .slice none 0 0, .slice none 0 0] ∧
          Own wr (n + 1 + 1) (n + 1 + 1 + 1) 3 1 (.slice (some ⟨n + 1 + 1, 0, none⟩) c.list.length c.list.length) c.list.length (ints (plcL ks c.list.length)) ∧ Below w.heap.size w wr) (fun _ _ _ _ i _ => c.list.length - (intOf i).toNat)
      case atStart => exact ⟨0, none, 0, Nat.zero_le _, rfl, rfl, World.ownsRow_nil _ _ _ _, hL1, hL2, ho, hb⟩
      case round =>
        clear hL1 hL2 ho hb
        obtain ⟨k, a, cq, hk, rfl, rfl, hq, hL1, hL2, ho, hb⟩ := hrel
        by_cases hlt : k < c.list.length
        · obtain ⟨b, off, rfl, hbk, hy⟩ := HU.out k hlt
          obtain ⟨bl, ol, he3, hb3, i0, i1, i2, i3, i4⟩ := HI.out k hlt
          have hdl : ds.length = c.list.length := by have := hu.1; simpa [bools] using this
          rw [bools_get _ _ (by omega), ← (bcell hb).1 _ _ hbk] at hy
          have hde : ds[k]'(by omega) = !ks.getD k false := by rw [← HKD.out k hlt]; simp [show k < ds.length by omega]
          rw [hde] at hy
          have hins := (codeOk_parts hc).2.2.2.1 k hlt
          rw [← (bcell hb).1 _ _ hb3] at i0 i1 i2 i3 i4
          have HTG := show Hid (0 ≤ tgtOf c.list[k] → placeOk c (tgtOf c.list[k])) from fun g => ⟨g, tgt_range hins g⟩
          have HTR : Hid (trI ks c.list[k] = if 0 ≤ tgtOf c.list[k] then aimF c.list[k] (plc ks (tgtOf c.list[k]).toNat : Int) else c.list[k]) := rfl
          have HPUT := show Hid (ks.getD k false = true → trimL c ks (k + 1) = trimL c ks k ++ [trI ks c.list[k]]) from fun g => by rw [trimL_put g, insAt_get hlt]
          have HSKIP := show Hid (ks.getD k false = false → trimL c ks (k + 1) = trimL c ks k) from fun g => trimL_skip g
          have hle := trimL_le c ks k
          obtain ⟨x, hx⟩ : ∃ x, x = c.list[k] := ⟨_, rfl⟩
          rw [← hx] at i0 i1 i2 i3 i4 HTG HTR HPUT
          have hki : (k : Int) < c.list.length := by omega
          have hPl : n + 1 + 1 < wr.heap.size := (ho.lt _ rfl).2.2
          have hbw : b < wr.heap.size := Nat.lt_of_lt_of_le hbk hb.size
          have b4 : Below wr.heap.size wr (wr.alloc (.cells #[.int .i64 x.op, .int .i64 x.a, .int .i64 x.b, .int .i64 x.c, .int .i64 x.d] 66)) := by go_grown
          have hyx : (wr.alloc (.cells #[.int .i64 x.op, .int .i64 x.a, .int .i64 x.b, .int .i64 x.c, .int .i64 x.d] 66)).cell? ⟨b, off + k, none⟩ = some (.bool !ks.getD k false) := ((bcell b4).1 _ _ hbw).trans hy
          subst he3
          clear hde hdl hins hx
          have hq4 := owns_below hq b4 (Nat.le_refl _)
          have ho4 := ho.keep b4 (by omega)
          have hL14 := hL1.below b4 hL1.lt
          have hL24 := hL2.below b4 hL2.lt
          have hb4 := hb.trans (b4.mono hb.size)
          have LX := Blk.new wr [.int .i64 x.op, .int .i64 x.a, .int .i64 x.b, .int .i64 x.c, .int .i64 x.d] 66
          cases hkb : ks.getD k false
          · have HN1 := show Hid (trimL c ks (k + 1) = trimL c ks k) from HSKIP.out hkb
            rw [hkb] at hyx
            simp only [Bool.not_false] at hyx
            clear hkb HSKIP HPUT
            go_wp2_with fail
            refine ⟨⟨k + 1, a, cq, by omega, by go_num, by rw [HN1.out], by rw [HN1.out]; exact hq4, hL14, hL24, ho4, hb4⟩, by simp [intOf]; omega⟩
          · have HN1 := show Hid (trimL c ks (k + 1) = trimL c ks k ++ [trI ks x]) from HPUT.out hkb
            rw [hkb] at hyx
            simp only [Bool.not_true] at hyx
            clear hkb HSKIP HPUT
            go_wp2_with fail
            clear hyx hy i0 i1 i2 i3 i4
            obtain ⟨w4, hw4⟩ : ∃ w4, w4 = wr.alloc (.cells #[.int .i64 x.op, .int .i64 x.a, .int .i64 x.b, .int .i64 x.c, .int .i64 x.d] 66) := ⟨_, rfl⟩
            rw [← hw4] at LX hq4 ho4 hL14 hL24 hb4 ⊢
            have LXs : w4.heap.size = wr.heap.size + 1 := by rw [hw4]; simp
            have hqlt : ∀ g, (Value.slice a (trimL c ks k).length cq).ownBlock = some g → g < wr.heap.size := fun g e => (hq.lt g e).2
            obtain ⟨X0, hX0⟩ : ∃ X0, X0 = wr.heap.size := ⟨_, rfl⟩
            rw [← hX0] at LX LXs hqlt hPl ⊢
            clear hw4 hq ho hL1 hL2 hb b4 hbw hX0
            refine (impl_target x _).mono ?_
            rintro e w5 ⟨rfl, b5⟩
            have hX5 := b5.size
            have hq5 := owns_below hq4 b5 (Nat.le_refl _)
            have ho5 := ho4.keep b5 (by omega)
            have hL15 := hL14.below b5 hL14.lt
            have hL25 := hL24.below b5 hL24.lt
            have LX5 := LX.below b5 LX.lt
            have hb5 := hb4.trans (b5.mono hb4.size)
            have hX3 : X0 < w5.heap.size := by omega
            clear b5 hq4 ho4 hL14 hL24 LX hb4
            by_cases ht : 0 ≤ tgtOf x
            · have hpl := HTG.out ht
              have htr := HTR.out
              rw [if_pos ht] at htr
              obtain ⟨t, htt⟩ : ∃ t : Nat, tgtOf x = t := ⟨(tgtOf x).toNat, by omega⟩
              have HT0 := show Hid (0 ≤ tgtOf x) from ht
              rw [htt] at htr hpl ht ⊢
              rw [Int.toNat_natCast] at htr
              obtain ⟨hp0, hp1⟩ := hpl
              have htl : t < c.list.length := by omega
              obtain ⟨g, cap, hv, -, -, -, -, -, -, hcc⟩ := ho5.open (by omega)
              cases hv
              have hpc := hcc t _ (by rw [ints_get _ _ (by rw [plcL_len]; exact htl)])
              have hpe : (plcL ks c.list.length)[t]'(by rw [plcL_len]; exact htl) = (plc ks t : Int) := by
                have := plcL_get ks c.list.length t htl
                rw [List.getElem?_eq_getElem (by rw [plcL_len]; exact htl)] at this
                exact Option.some.inj this
              rw [hpe] at hpc
              obtain ⟨q, hqe⟩ : ∃ q, q = aimF x (plc ks t : Int) := ⟨_, rfl⟩
              have HQE := show Hid (trI ks x = q) from by unfold Hid; rw [htr, hqe]
              have HC3 : Hid (∀ X, Calls Try.prog 99 #[x.v, .int .i64 (plc ks t : Int)] (w5.ext X) fun e w'' => e = .returned (.agg #[.int .i64 q.op, .int .i64 q.a, .int .i64 q.b, .int .i64 q.c, .int .i64 q.d]) ∧ ∃ Y, w'' = w5.ext Y) := fun X => Calls.ext_of' ((impl_to x _ _ HT0.out).mono fun e w' h => by rw [← hqe] at h; exact h)
              have i0 := LX5.cell 0
              have i1 := LX5.cell 1
              have i2 := LX5.cell 2
              have i3 := LX5.cell 3
              have i4 := LX5.cell 4
              simp only [List.getElem?_cons_zero, List.getElem?_cons_succ] at i0 i1 i2 i3 i4
              have j0 := fun X => ext_cell i0 X
              have j1 := fun X => ext_cell i1 X
              have j2 := fun X => ext_cell i2 X
              have j3 := fun X => ext_cell i3 X
              have j4 := fun X => ext_cell i4 X
              have jp := fun X => ext_cell hpc X
              have ff0 := fun X => ext_frozen hX3 (LX5.free 0) X
              have ff1 := fun X => ext_frozen hX3 (LX5.free 1) X
              have ff2 := fun X => ext_frozen hX3 (LX5.free 2) X
              have ff3 := fun X => ext_frozen hX3 (LX5.free 3) X
              have ff4 := fun X => ext_frozen hX3 (LX5.free 4) X
              clear i0 i1 i2 i3 i4 hpc hcc hpe hqe htr htt
              go_wp2_with fail
              refine wp_region_qext 6 _ rfl (by kernel_rfl) (by kernel_rfl) ?_
              simp only [List.set_cons_succ, List.set_cons_zero, idle]
              repeat (any_goals (first | go_big_quiet_step ((go_at_call 99; exact HC3.out _)) | quiet_step ((go_at_call 99; exact HC3.out _))))
              refine wpQuiet_nil ?_
              rintro _ ⟨X, rfl⟩
              have bX := ext_below w5 X
              have LXX := LX5.below bX LX5.lt
              have LX6 : Blk ((((((w5.ext X).setCell ⟨X0, 0, none⟩ (.int .i64 q.op)).setCell ⟨X0, 1, none⟩ (.int .i64 q.a)).setCell ⟨X0, 2, none⟩ (.int .i64 q.b)).setCell ⟨X0, 3, none⟩ (.int .i64 q.c)).setCell ⟨X0, 4, none⟩ (.int .i64 q.d)) X0 [.int .i64 q.op, .int .i64 q.a, .int .i64 q.b, .int .i64 q.c, .int .i64 q.d] := ((((LXX.set (j := 0) (.int .i64 q.op)).set (j := 1) (.int .i64 q.a)).set (j := 2) (.int .i64 q.b)).set (j := 3) (.int .i64 q.c)).set (j := 4) (.int .i64 q.d)
              have hO : Out X0 (X0 + 1) (w5.ext X) ((((((w5.ext X).setCell ⟨X0, 0, none⟩ (.int .i64 q.op)).setCell ⟨X0, 1, none⟩ (.int .i64 q.a)).setCell ⟨X0, 2, none⟩ (.int .i64 q.b)).setCell ⟨X0, 3, none⟩ (.int .i64 q.c)).setCell ⟨X0, 4, none⟩ (.int .i64 q.d)) := Out.setFrom (p := 0) [.int .i64 q.op, .int .i64 q.a, .int .i64 q.b, .int .i64 q.c, .int .i64 q.d] (Out.refl X0 (X0 + 1) (w5.ext X)) (Nat.le_refl X0) (Nat.lt_succ_self X0)
              have hqX := owns_below hq5 bX (Nat.le_refl _)
              have hq6 : ((((((w5.ext X).setCell ⟨X0, 0, none⟩ (.int .i64 q.op)).setCell ⟨X0, 1, none⟩ (.int .i64 q.a)).setCell ⟨X0, 2, none⟩ (.int .i64 q.b)).setCell ⟨X0, 3, none⟩ (.int .i64 q.c)).setCell ⟨X0, 4, none⟩ (.int .i64 q.d)).ownsRow (n + 1 + 1 + 1) 66 5 (.slice a (trimL c ks k).length cq) (trimL c ks k).length (ints (insF (trimL c ks k))) := by
                have h1 : Own (w5.ext X) (n + 1 + 1 + 1) X0 66 5 (.slice a (trimL c ks k).length cq) (trimL c ks k).length (ints (insF (trimL c ks k))) := ⟨hqX, hqlt⟩
                exact (h1.out hO (.inl (Nat.le_refl _))).1
              have ho6 := (ho5.keep bX (by omega)).out hO (.inl (by omega))
              have hL16 := (hL15.below bX hL15.lt).out hO (.inl (by omega))
              have hL26 := (hL25.below bX hL25.lt).out hO (.inl (by omega))
              have hz5 := bX.size
              have hb6 : Below w.heap.size w ((((((w5.ext X).setCell ⟨X0, 0, none⟩ (.int .i64 q.op)).setCell ⟨X0, 1, none⟩ (.int .i64 q.a)).setCell ⟨X0, 2, none⟩ (.int .i64 q.b)).setCell ⟨X0, 3, none⟩ (.int .i64 q.c)).setCell ⟨X0, 4, none⟩ (.int .i64 q.d)) := (hb5.trans (bX.mono hb5.size)).trans (hO.below (by have := HN.out; omega) (by have := hb5.size; omega))
              clear jp LXX hqX
              have i0 := LX6.cell 0
              have i1 := LX6.cell 1
              have i2 := LX6.cell 2
              have i3 := LX6.cell 3
              have i4 := LX6.cell 4
              simp only [List.getElem?_cons_zero, List.getElem?_cons_succ] at i0 i1 i2 i3 i4
              have hrow6 := (own_built ((((((w5.ext X).setCell ⟨X0, 0, none⟩ (.int .i64 q.op)).setCell ⟨X0, 1, none⟩ (.int .i64 q.a)).setCell ⟨X0, 2, none⟩ (.int .i64 q.b)).setCell ⟨X0, 3, none⟩ (.int .i64 q.c)).setCell ⟨X0, 4, none⟩ (.int .i64 q.d)) (g := (w5.ext X).heap.size) #[.int .i64 q.op, .int .i64 q.a, .int .i64 q.b, .int .i64 q.c, .int .i64 q.d] 1 5 66 (by simp) rfl (by omega)).row
              have hqa := hq6.alloc (.cells #[.int .i64 q.op, .int .i64 q.a, .int .i64 q.b, .int .i64 q.c, .int .i64 q.d] 66)
              have hsz6 : (((((((w5.ext X).setCell ⟨X0, 0, none⟩ (.int .i64 q.op)).setCell ⟨X0, 1, none⟩ (.int .i64 q.a)).setCell ⟨X0, 2, none⟩ (.int .i64 q.b)).setCell ⟨X0, 3, none⟩ (.int .i64 q.c)).setCell ⟨X0, 4, none⟩ (.int .i64 q.d)).alloc (.cells #[.int .i64 q.op, .int .i64 q.a, .int .i64 q.b, .int .i64 q.c, .int .i64 q.d] 66)).heap.size = (w5.ext X).heap.size + 1 := by simp
              have hbase : n + 1 + 1 + 1 ≤ (w5.ext X).heap.size := by omega
              go_wp2_with (at_builtin; refine wpList_app rfl _ _ rfl Try.underlying34 infoN rfl (by omega) rfl hqa rfl hrow6 (ints_one (l := (q).l)) (by omega) (by omega) (by rw [hsz6]; omega) ?_; rintro a4 q4 w7 o4 b7 - -)
              have ba : Below (w5.ext X).heap.size ((((((w5.ext X).setCell ⟨X0, 0, none⟩ (.int .i64 q.op)).setCell ⟨X0, 1, none⟩ (.int .i64 q.a)).setCell ⟨X0, 2, none⟩ (.int .i64 q.b)).setCell ⟨X0, 3, none⟩ (.int .i64 q.c)).setCell ⟨X0, 4, none⟩ (.int .i64 q.d)) (((((((w5.ext X).setCell ⟨X0, 0, none⟩ (.int .i64 q.op)).setCell ⟨X0, 1, none⟩ (.int .i64 q.a)).setCell ⟨X0, 2, none⟩ (.int .i64 q.b)).setCell ⟨X0, 3, none⟩ (.int .i64 q.c)).setCell ⟨X0, 4, none⟩ (.int .i64 q.d)).alloc (.cells #[.int .i64 q.op, .int .i64 q.a, .int .i64 q.b, .int .i64 q.c, .int .i64 q.d] 66)) := (Below.refl _ _).alloc (by simp) _
              have b8 : Below (n + 1 + 1 + 1) ((((((w5.ext X).setCell ⟨X0, 0, none⟩ (.int .i64 q.op)).setCell ⟨X0, 1, none⟩ (.int .i64 q.a)).setCell ⟨X0, 2, none⟩ (.int .i64 q.b)).setCell ⟨X0, 3, none⟩ (.int .i64 q.c)).setCell ⟨X0, 4, none⟩ (.int .i64 q.d)) w7 := (ba.mono (by omega)).trans b7
              have hll : (trimL c ks (k + 1)).length = (trimL c ks k).length + 1 := by rw [HN1.out]; simp
              have hcells : ints (insF (trimL c ks (k + 1))) = ints (insF (trimL c ks k)) ++ (#[.int .i64 q.op, .int .i64 q.a, .int .i64 q.b, .int .i64 q.c, .int .i64 q.d] : Array Value).toList := by
                rw [HN1.out, HQE.out, insF_append]; simp [ints, insF]
              refine ⟨⟨k + 1, a4, q4, by omega, by go_num, by rw [hll], by rw [hll, hcells]; exact o4, hL16.below b8 (by omega), hL26.below b8 (by omega), ho6.keep b8 (Nat.le_refl _), hb6.trans (b8.mono (by have := HN.out; omega))⟩, by simp [intOf]; omega⟩
            · have htr := HTR.out
              rw [if_neg ht] at htr
              have HQE := show Hid (trI ks x = x) from htr
              have ht' : tgtOf x < 0 := by omega
              clear htr ht HTR HTG
              have LX6 := LX5
              have hq6 := hq5
              have ho6 := ho5
              have hL16 := hL15
              have hL26 := hL25
              have hb6 := hb5
              have i0 := LX6.cell 0
              have i1 := LX6.cell 1
              have i2 := LX6.cell 2
              have i3 := LX6.cell 3
              have i4 := LX6.cell 4
              simp only [List.getElem?_cons_zero, List.getElem?_cons_succ] at i0 i1 i2 i3 i4
              have hrow6 := (own_built w5 (g := w5.heap.size) #[.int .i64 x.op, .int .i64 x.a, .int .i64 x.b, .int .i64 x.c, .int .i64 x.d] 1 5 66 (by simp) rfl (by omega)).row
              have hqa := hq6.alloc (.cells #[.int .i64 x.op, .int .i64 x.a, .int .i64 x.b, .int .i64 x.c, .int .i64 x.d] 66)
              have hsz6 : (w5.alloc (.cells #[.int .i64 x.op, .int .i64 x.a, .int .i64 x.b, .int .i64 x.c, .int .i64 x.d] 66)).heap.size = w5.heap.size + 1 := by simp
              have hbase : n + 1 + 1 + 1 ≤ w5.heap.size := by omega
              go_wp2_with (at_builtin; refine wpList_app rfl _ _ rfl Try.underlying34 infoN rfl (by omega) rfl hqa rfl hrow6 (ints_one (l := (x).l)) (by omega) (by omega) (by rw [hsz6]; omega) ?_; rintro a4 q4 w7 o4 b7 - -)
              have ba : Below w5.heap.size w5 (w5.alloc (.cells #[.int .i64 x.op, .int .i64 x.a, .int .i64 x.b, .int .i64 x.c, .int .i64 x.d] 66)) := (Below.refl _ _).alloc (by simp) _
              have b8 : Below (n + 1 + 1 + 1) w5 w7 := (ba.mono (by omega)).trans b7
              have hll : (trimL c ks (k + 1)).length = (trimL c ks k).length + 1 := by rw [HN1.out]; simp
              have hcells : ints (insF (trimL c ks (k + 1))) = ints (insF (trimL c ks k)) ++ (#[.int .i64 x.op, .int .i64 x.a, .int .i64 x.b, .int .i64 x.c, .int .i64 x.d] : Array Value).toList := by
                rw [HN1.out, HQE.out, insF_append]; simp [ints, insF]
              refine ⟨⟨k + 1, a4, q4, by omega, by go_num, by rw [hll], by rw [hll, hcells]; exact o4, hL16.below b8 (by omega), hL26.below b8 (by omega), ho6.keep b8 (Nat.le_refl _), hb6.trans (b8.mono (by have := HN.out; omega))⟩, by simp [intOf]; omega⟩
        · have hkn : k = c.list.length := by omega
          subst hkn
          have x0 := hL1.cell 0
          have x1 := hL1.cell 1
          have x2 := hL1.cell 2
          have z0 := hL2.cell 0
          have z1 := hL2.cell 1
          have z2 := hL2.cell 2
          simp only [List.getElem?_cons_zero, List.getElem?_cons_succ] at x0 x1 x2 z0 z1 z2
          go_wp2_with fail
          have hqo : Own wr (n + 1 + 1 + 1) wr.heap.size 66 5 (.slice a (trimL c ks c.list.length).length cq) (trimL c ks c.list.length).length (ints (insF (trimL c ks c.list.length))) := Own.mk' hq
          have hPl : n + 1 + 1 < wr.heap.size := (ho.lt _ rfl).2.2
          refine (impl_with _ c _ _ _ (trimL c ks c.list.length) _ _ _ (hrow.below hb) (codeOk_size hc) hqo (by omega) (Nat.le_refl _)).mono ?_
          rintro e w5 ⟨z, rfl, oz, b5⟩
          obtain ⟨y1, y2, y3, rfl, -⟩ := id oz
          obtain ⟨p1, q1, p2, q2, p3, q3, e1, e2, e3⟩ := Code.rowOf oz
          simp only at e1 e2 e3
          subst e1 e2 e3
          have hb5 := hb.trans (b5.mono hb.size)
          have hL25 := hL2.below b5 hL2.lt
          clear x0 x1 x2 z0 z1 z2
          have z0 := hL25.cell 0
          have z1 := hL25.cell 1
          have z2 := hL25.cell 2
          simp only [List.getElem?_cons_zero, List.getElem?_cons_succ] at z0 z1 z2
          have f0 := hL25.free 0
          have f1 := hL25.free 1
          have f2 := hL25.free 2
          have s5 := b5.size
          go_wp2_with fail
          have hn := HN.out
          have L4 := ((hL25.set (j := 0) (.slice p1 c.vars.length q1)).set (j := 1) (.slice p2 c.arrays.length q2)).set (j := 2) (.slice p3 (trimL c ks c.list.length).length q3)
          have hO : Out (n + 1) (n + 1 + 1) w5 (((w5.setCell ⟨n + 1, 0, none⟩ (.slice p1 c.vars.length q1)).setCell ⟨n + 1, 1, none⟩ (.slice p2 c.arrays.length q2)).setCell ⟨n + 1, 2, none⟩ (.slice p3 (trimL c ks c.list.length).length q3)) :=
            (((Out.refl (n + 1) (n + 1 + 1) w5).setCell (p := ⟨n + 1, 0, none⟩) (Nat.le_refl _) (Nat.lt_succ_self _) _).setCell (p := ⟨n + 1, 1, none⟩) (Nat.le_refl _) (Nat.lt_succ_self _) _).setCell (p := ⟨n + 1, 2, none⟩) (Nat.le_refl _) (Nat.lt_succ_self _) _
          have oF := oz.out hO (.inr (by omega))
          have zF : (((w5.setCell ⟨n + 1, 0, none⟩ (.slice p1 c.vars.length q1)).setCell ⟨n + 1, 1, none⟩ (.slice p2 c.arrays.length q2)).setCell ⟨n + 1, 2, none⟩ (.slice p3 (trimL c ks c.list.length).length q3)).heap.size = w5.heap.size := by simp
          have BF := ((hb5.setCell (p := ⟨n + 1, 0, none⟩) (by show w.heap.size ≤ n + 1; omega) (.slice p1 c.vars.length q1)).setCell (p := ⟨n + 1, 1, none⟩) (by show w.heap.size ≤ n + 1; omega) (.slice p2 c.arrays.length q2)).setCell (p := ⟨n + 1, 2, none⟩) (by show w.heap.size ≤ n + 1; omega) (.slice p3 (trimL c ks c.list.length).length q3)
          have r0 := L4.cell 0
          have r1 := L4.cell 1
          have r2 := L4.cell 2
          simp only [List.getElem?_cons_zero, List.getElem?_cons_succ, List.set_cons_zero, List.set_cons_succ] at r0 r1 r2
          generalize ((w5.setCell ⟨n + 1, 0, none⟩ (.slice p1 c.vars.length q1)).setCell ⟨n + 1, 1, none⟩ (.slice p2 c.arrays.length q2)).setCell ⟨n + 1, 2, none⟩ (.slice p3 (trimL c ks c.list.length).length q3) = WF at *
          exact bodyPost_ret (v := .agg #[.slice p1 c.vars.length q1, .slice p2 c.arrays.length q2, .slice p3 (trimL c ks c.list.length).length q3]) (by simp [results, Try.results106, go_sem, r0, r1, r2]) rfl ⟨_, rfl, oF.wide (by omega) (by omega), BF⟩

end Go.Proofs.Ytjlnaiifegjneaa
