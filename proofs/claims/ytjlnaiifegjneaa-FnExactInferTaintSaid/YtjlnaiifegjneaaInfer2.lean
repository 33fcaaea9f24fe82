/-
  The reference's least taint map. Conditions: valid code.
-/
import Derived.Test.YtjlnaiifegjneaaInfer1
import Derived.Test.YtjlnaiifegjneaaPure6
import Derived.Test.YtjlnaiifegjneaaTaint7
namespace Go.Proofs.Ytjlnaiifegjneaa
open Go Go.RowKit

set_option maxRecDepth 100000 in
set_option maxHeartbeats 4000000 in
theorem spec_l9Infer (v : Value) (c : LCode) (hc : codeOk c = true) (w : World) (h : CodeRow w v c) :
    Calls Try.prog 66 #[v] w fun e w' => ∃ g m, e = .returned (.slice (some ⟨g, 0, none⟩) m.length m.length) ∧ isLeast c m ∧ MatS w' w.heap.size w'.heap.size g m ∧ Below w.heap.size w w' := by
  have hrow := h
  obtain ⟨v1, v2, v3, rfl, h1, h2, h3⟩ := h
  obtain ⟨a3, k3, rfl, -, hm3, -, hc3⟩ := h3.ins
  obtain ⟨W, hW⟩ : ∃ W, W = (w.alloc (.cells #[v1, v2, .slice a3 c.list.length k3] 36)) := ⟨_, rfl⟩
  have B0 : Below w.heap.size w W := by rw [hW]; go_grown
  have sW : W.heap.size = w.heap.size + 1 := by rw [hW]; simp
  have L1 : Blk W w.heap.size [v1, v2, .slice a3 c.list.length k3] := by rw [hW]; exact (Blk.new w [v1, v2, .slice a3 c.list.length k3] _)
  obtain ⟨-, hn1, hn2, -, -⟩ := codeOk_parts hc
  have hmk := make_run (P := Try.prog) (t := 22) Try.underlying22 infoBS rfl (by omega) c.list.length (by omega) hm3
  have hmk2 : ∀ w, (Instr.makeSlice 40 (.int .i64 14) (.int .i64 14)).run Try.prog w = _ := make_run (P := Try.prog) (t := 40) Try.underlying40 infoB rfl (by omega) 14 (by omega) (by omega)
  rw [show (Value.slice none 0 0).cells.toList = [Value.slice none 0 0] from rfl, repl_arr] at hmk
  rw [show (Value.bool false).cells.toList = [Value.bool false] from rfl, repl_arr] at hmk2
  obtain ⟨f0, ⟨u0, p0⟩, hS⟩ := mat_start W c.list.length hn1 hm3
  rw [sW] at f0 p0 hS
  have x2 := L1.cell 2
  simp at x2
  generalize Array.replicate 14 (Value.bool false) = z14 at *
  generalize Array.replicate c.list.length (Value.slice none 0 0) = zn at *
  rw [hW] at x2 f0 p0
  go_enter Try.func66, Try.ntmps66
  go_wp2_with fail
  rw [← hW]
  rw [World.setCell_alloc_past _ _ _ _ (by simp [sW]), World.setCell_alloc_at _ _ _ _ _ sW.symm] at hS
  clear x2 hmk hmk2 f0 p0 hW
  obtain ⟨W2, hW2⟩ : ∃ W2, W2 = (W.alloc (.cells (zn.setIfInBounds 0 (.slice (some ⟨w.heap.size + 1 + 1, 0, none⟩) 14 14)) 40)).alloc (.cells z14 4) := ⟨_, rfl⟩
  rw [← hW2] at hS ⊢
  have B2 : Below w.heap.size w W2 := by rw [hW2]; exact B0.trans (Below.mono (by go_grown : Below W.heap.size W _) B0.size)
  have s2 : W2.heap.size = w.heap.size + 1 + 1 + 1 := by rw [hW2]; simp [sW]
  replace L1 : Blk W2 w.heap.size [v1, v2, .slice a3 c.list.length k3] := by rw [hW2]; exact (L1.alloc _).alloc _
  clear hW2 B0 sW
  have hq := own_built W2 #[.int .i64 0] 1 1 3 s2.symm rfl (by omega)
  rw [s2] at hq
  have bq : Below W2.heap.size W2 (W2.alloc (.cells #[.int .i64 0] 3)) := by go_grown
  have B3 := B2.trans (bq.mono B2.size)
  obtain ⟨hS3, hS3b⟩ := hS.next bq
  replace L1 := L1.below bq L1.lt
  have s3 : (W2.alloc (.cells #[.int .i64 0] 3)).heap.size = w.heap.size + 1 + 1 + 1 + 1 := by simp [s2]
  have hqd : ∀ b, (Value.slice (some ⟨w.heap.size + 1 + 1 + 1, 0, none⟩) 1 1).ownBlock = some b → ¬ MBlk (W2.alloc (.cells #[.int .i64 0] 3)) (w.heap.size + 1) ((List.replicate c.list.length ([] : List Bool)).set 0 (List.replicate 14 false)) b := by
    intro b hb hm
    cases hb
    have := (hS3.blk hm).2.1
    dsimp only at this
    omega
  generalize W2.alloc (.cells #[.int .i64 0] 3) = W3 at *
  clear hS B2 s2 bq hS3b
  have HI := show Hid _ from hc3
  clear hc3
  obtain ⟨G, hG⟩ : ∃ G, G = w.heap.size + 1 := ⟨_, rfl⟩
  rw [← hG] at hS3 hqd hq s3 ⊢
  have HG := show Hid _ from hG
  clear hG
  have hst := WInv.start hn1
  go_loopw [4, 5, 6, 7, 8, 9, 10, 11] (fun q i _ _ _ _ _ _ wr => ∃ (m : List (List Bool)) (qs : List Int) (k : Nat) (a : Option Addr) (cq : Nat), i = .int .i64 k ∧ q = .slice a qs.length cq ∧ k ≤ qs.length ∧ wr.ownsRow (G + 1) 3 1 q qs.length (ints qs) ∧
      MatS wr G wr.heap.size G m ∧ (∀ b, q.ownBlock = some b → ¬ MBlk wr G m b) ∧ WInv c m qs k ∧ Blk wr w.heap.size [v1, v2, .slice a3 c.list.length k3] ∧ Below w.heap.size w wr)
    (fun _ i _ _ _ _ _ _ _ => 15 * c.list.length + 1 - (intOf i).toNat)
  case atStart => exact ⟨_, [0], 0, _, _, rfl, rfl, by simp, owns_base hq.1 (by omega), hS3.wide (Nat.le_refl _) (by omega), hqd, hst, L1, B3⟩
  case round =>
    obtain ⟨m, qs, k, a, cq, rfl, rfl, hk, hq, hS, hqd, hi, hL, hb⟩ := hrel
    have hqn : qs.length ≤ 15 * c.list.length + 1 := by have := hi.cnt; omega
    have hml : m.length = c.list.length := hi.low.len
    have HI' := show Hid _ from hi
    have HQD := show Hid _ from hqd
    clear hi hqd hst hS3 B3 L1
    by_cases hlt : k < qs.length
    · obtain ⟨gq, hgq, p0⟩ : ∃ gq, a = some ⟨gq, 0, none⟩ ∧ wr.cell? ⟨gq, k, none⟩ = some (.int .i64 qs[k]) := by
        have hoq : Own wr (G + 1) wr.heap.size 3 1 (.slice a qs.length cq) qs.length (ints qs) := Own.mk' hq
        obtain ⟨g, cap', hv, -, -, -, -, -, -, hcc⟩ := hoq.open (by omega)
        cases hv
        exact ⟨g, rfl, hcc k _ (by simp [ints, hlt])⟩
      subst hgq
      have hgqb : gq < wr.heap.size := World.block_lt_of_cell? wr ⟨gq, k, none⟩ p0
      obtain ⟨ht0, ht1, -⟩ := HI'.out.q qs[k] (List.getElem_mem hlt)
      obtain ⟨x, hx⟩ : ∃ x : Nat, qs[k] = x := ⟨qs[k].toNat, by omega⟩
      rw [hx] at p0 ht0 ht1
      obtain ⟨h14, hxl, hJ⟩ := HI'.out.enter (a := x) (by rw [List.getElem?_eq_getElem hlt, hx])
      have hxm : x < m.length := by omega
      obtain ⟨gy, cy, xm, -, -, hgy, -, -, -, -, -, hrr⟩ := hS.at14 hxm h14
      obtain ⟨b, off, rfl, hb3, i0, i1, i2, i3, i4⟩ := HI.out x hxl
      have hins := (codeOk_parts hc).2.2.2.1 x hxl
      rw [insAt_get hxl] at hJ
      rw [← (bcell hb).1 _ _ hb3] at i0 i1 i2 i3 i4
      have hcx := cells3i hL (Nat.lt_of_lt_of_le hb3 hb.size) i0 i1 i2 i3 i4 hS.lt.2.2 xm
      have HCELLS := show Hid _ from hcx
      have HJ := show Hid _ from hJ
      have HFL := show Hid ((afterF c c.list[x] (rowAt m x)).length = 14) from by unfold Hid; rw [afterF_len, h14]
      have hb0 := (Below.refl wr.heap.size wr).drew
      obtain ⟨z, hz⟩ : ∃ z, z = c.list[x] := ⟨_, rfl⟩
      rw [← hz] at i0 i1 i2 i3 i4 HCELLS HJ HFL hins
      clear hcx hJ h14 hx hz
      have hxi : (x : Int) < c.list.length := by omega
      go_wp2_with fail
      go_region_held3 (fun W' => Below wr.heap.size wr W' ∧ (W'.cell? ⟨w.heap.size, 0, none⟩ = some v1 ∧ W'.cell? ⟨w.heap.size, 1, none⟩ = some v2 ∧ W'.cell? ⟨w.heap.size, 2, none⟩ = some (.slice (some ⟨b, off, none⟩) c.list.length k3)) ∧
          (W'.cell? ⟨b, off + x * 5, none⟩ = some (.int .i64 z.op) ∧ W'.cell? ⟨b, off + x * 5 + 1, none⟩ = some (.int .i64 z.a) ∧ W'.cell? ⟨b, off + x * 5 + 2, none⟩ = some (.int .i64 z.b) ∧ W'.cell? ⟨b, off + x * 5 + 3, none⟩ = some (.int .i64 z.c) ∧ W'.cell? ⟨b, off + x * 5 + 4, none⟩ = some (.int .i64 z.d)) ∧
          W'.cell? ⟨G, x, none⟩ = some (.slice (some ⟨gy, 0, none⟩) 14 cy))
        (exact HCELLS.out _ (by assumption))
        (first | (go_at_call 70; refine (spec_l9After _ _ c z (rowAt m x) _ (hrow.below (below_step (by assumption) hb (Nat.le_refl _))) hins (hrr.below (by assumption))).mono ?_; rintro e w7 ⟨u3, rfl, o3, b7⟩; have q7 := below_step b7 hb0 (Nat.le_refl _); obtain ⟨a9, c9, rfl⟩ := o3.form))
      obtain ⟨F, hF⟩ : ∃ F, F = afterF c z (rowAt m x) := ⟨_, rfl⟩
      rw [← hF] at HJ HFL o3
      have hb7 := hb.trans (q7.mono hb.size)
      have hq7 := owns_below hq q7 (Nat.le_refl _)
      obtain ⟨hS7, hS7b⟩ := hS.next q7
      have hL7 := hL.below q7 hL.lt
      have o7 : Own w7 wr.heap.size w7.heap.size 4 1 (.slice a9 14 c9) 14 (bools F) := o3
      have q7s := q7.size
      have hSlt := hS.lt.2.2
      have y0 := hL7.cell 0
      have y1 := hL7.cell 1
      have y2 := hL7.cell 2
      simp only [List.getElem?_cons_zero, List.getElem?_cons_succ] at y0 y1 y2
      clear o3 b7 i0 i1 i2 i3 i4 xm p0 hrr hF hL hq
      go_wp2_with fail
      refine (spec_next _ c x _ (hrow.below hb7) (by omega) (by omega)).mono ?_
      rintro e w8 ⟨u8, rfl, o8, b8⟩
      obtain ⟨a10, c10, rfl⟩ := o8.form
      have hb8 := hb7.trans (b8.mono hb7.size)
      have hq8 := owns_below hq7 b8 (Nat.le_refl _)
      obtain ⟨hS8, hS8b⟩ := hS7.next b8
      have hL8 := hL7.below b8 hL7.lt
      have t8 : Own w8 wr.heap.size w8.heap.size 4 1 (.slice a9 14 c9) 14 (bools F) := (o7.keep b8 (Nat.le_refl _)).wide (Nat.le_refl _) b8.size
      have n8 : Own w8 wr.heap.size w8.heap.size 3 1 (.slice a10 (nx c x).length c10) (nx c x).length (ints (nx c x)) := o8.wide q7s (Nat.le_refl _)
      have hsz8 : wr.heap.size ≤ w8.heap.size := Nat.le_trans q7s b8.size
      have hQD8 : ∀ b, (Value.slice (some ⟨gq, 0, none⟩) qs.length cq).ownBlock = some b → ¬ MBlk w8 G m b := fun b hb hm => HQD.out b hb (hS7b b (hS8b b hm))
      have hD1 : Disj (Value.slice (some ⟨gq, 0, none⟩) qs.length cq) (Value.slice a10 (nx c x).length c10) := by
        intro g hg hg'
        cases hg
        have h1 := (n8.lt _ hg').1
        exact absurd hgqb (Nat.not_lt.2 h1)
      have hD2 : Disj (Value.slice (some ⟨gq, 0, none⟩) qs.length cq) (Value.slice a9 14 c9) := by
        intro g hg hg'
        cases hg
        have h1 := (t8.lt _ hg').1
        exact absurd hgqb (Nat.not_lt.2 h1)
      have hnx : ∀ y ∈ nx c x, 0 ≤ y ∧ y < c.list.length := fun y hy => nx_ok hc (by omega) hy
      obtain ⟨ns, hns⟩ : ∃ ns, ns = nx c x := ⟨_, rfl⟩
      rw [← hns] at hnx n8 HJ hD1 ⊢
      have HNS := show Hid _ from hns
      have HNX := show Hid _ from hnx
      have hnl := n8.row.len
      have hGw : G + 1 ≤ wr.heap.size := hSlt
      have n8' := n8.wide hGw (Nat.le_refl _)
      have t8' := t8.wide hGw (Nat.le_refl _)
      clear n8 t8 hns hnx o7 o8 b8 q7 HCELLS hS hS7 hS7b hS8b hL7 hq7 hb7 y0 y1 y2 hb0 HQD hb
      go_wp2_with fail
      go_loopw [4, 9, 10, 11] (fun q i _ _ wi => ∃ (m' : List (List Bool)) (qs' : List Int) (j : Nat) (a : Option Addr) (cq : Nat), i = .int .i64 j ∧ q = .slice a qs'.length cq ∧ j ≤ ns.length ∧ wi.ownsRow (G + 1) 3 1 q qs'.length (ints qs') ∧
          MatS wi G wi.heap.size G m' ∧ (∀ b, q.ownBlock = some b → ¬ MBlk wi G m' b) ∧ JInv c m' qs' k x F ns j ∧ k < qs'.length ∧
          Own wi (G + 1) w8.heap.size 3 1 (.slice a10 ns.length c10) ns.length (ints ns) ∧ Disj q (.slice a10 ns.length c10) ∧ Own wi (G + 1) w8.heap.size 4 1 (.slice a9 14 c9) 14 (bools F) ∧ Disj q (.slice a9 14 c9) ∧
          Blk wi w.heap.size [v1, v2, .slice (some ⟨b, off, none⟩) c.list.length k3] ∧ Below w.heap.size w wi ∧ w8.heap.size ≤ wi.heap.size)
        (fun _ i _ _ _ => ns.length - (intOf i).toNat)
      case atStart => exact ⟨m, qs, 0, _, _, rfl, rfl, Nat.zero_le _, hq8, hS8.wide (Nat.le_refl _) hsz8, hQD8, HJ.out, hlt, n8', hD1, t8', hD2, hL8, hb8, Nat.le_refl _⟩
      case round =>
        obtain ⟨m', qs', j, a', cq', rfl, rfl, hj, hq, hS, hqd, hi, hkq, hn, hd1, ht, hd2, hL, hb, hs8⟩ := hrel
        have hqn' : qs'.length ≤ 15 * c.list.length + 1 := by have := hi.cnt; omega
        have hml' : m'.length = c.list.length := hi.low.len
        have HI2 := show Hid _ from hi
        have HQD := show Hid _ from hqd
        have HD1 := show Hid _ from hd1
        have HD2 := show Hid _ from hd2
        clear hi hqd hd1 hd2 hq8 hS8 hQD8 n8' hD1 t8' hD2 hL8 hb8 HJ
        by_cases hjl : j < ns.length
        · obtain ⟨y0, y1⟩ := HNX.out ns[j] (List.getElem_mem hjl)
          obtain ⟨y, hy⟩ : ∃ y : Nat, ns[j] = y := ⟨ns[j].toNat, by omega⟩
          obtain ⟨gu, hgu, pu⟩ : ∃ gu, a10 = some ⟨gu, 0, none⟩ ∧ wr.cell? ⟨gu, j, none⟩ = some (.int .i64 ns[j]) := by
            obtain ⟨g, cap', hv, -, -, -, -, -, -, hcc⟩ := hn.open (by omega)
            cases hv
            exact ⟨g, rfl, hcc j _ (by simp [ints, hjl])⟩
          subst hgu
          rw [hy] at pu y0 y1
          have hyl : y < c.list.length := by omega
          have hyli : (y : Int) < c.list.length := by omega
          have hym : y < m'.length := by omega
          obtain ⟨-, u, hcy, hou, -⟩ := hS.at hym
          have hro := rowOk_len HI2.out.low.ok y
          obtain ⟨au, cu, rfl⟩ := hou.form
          have hgu1 : G + 1 ≤ gu ∧ gu < wr.heap.size := ⟨(hn.lt _ rfl).1, (hn.lt _ rfl).2.2⟩
          have HKEEP := show Hid (covF F (rowAt m' y) = true → JInv c m' qs' k x F ns (j + 1)) from fun g => HI2.out.keep hjl (by rw [hy]; exact g)
          have HPUSH := show Hid (covF F (rowAt m' y) = false → JInv c (m'.set y (joinF (rowAt m' y) F)) (qs' ++ [(y : Int)]) k x F ns (j + 1)) from fun g => HI2.out.push hjl hy hyl hkq g
          have hjl14 := joinF_len (t := F) hro HFL.out
          clear hy
          go_wp2_with fail
          refine (spec_l9Join _ _ (rowAt m' y) F _ hou.row ht.row HFL.out hro).mono ?_
          rintro e w9 ⟨zr, rfl, o9, b9⟩
          obtain ⟨az, cz, rfl⟩ := o9.form
          have hq9 := owns_below hq b9 (Nat.le_refl _)
          obtain ⟨hS9, hS9b⟩ := hS.next b9
          have hn9 := hn.keep b9 hs8
          have ht9 := ht.keep b9 hs8
          have hL9 := hL.below b9 hL.lt
          have hb9 := hb.trans (b9.mono hb.size)
          have s9 := b9.size
          have pu9 : w9.cell? ⟨gu, j, none⟩ = some (.int .i64 y) := ((bcell b9).1 _ _ hgu1.2).trans pu
          obtain ⟨f9, u9, cy9, -, -⟩ := hS9.at hym
          have py : (w9.setCell ⟨G, y, none⟩ (.slice az 14 cz)).cell? ⟨gu, j, none⟩ = some (.int .i64 y) := by
            rw [World.cell?_setCell_other _ _ _ _ (by intro h; cases h; omega)]
            exact pu9
          have hQ9 : ∀ b, (Value.slice a' qs'.length cq').ownBlock = some b → ¬ MBlk w9 G m' b := fun b hb hm => HQD.out b hb (hS9b b hm)
          have hQlt : ∀ b, (Value.slice a' qs'.length cq').ownBlock = some b → G + 1 ≤ b ∧ b < wr.heap.size := fun b hb => hq.lt b hb
          cases hcv : covF F (rowAt m' y)
          · have HJ' := show Hid _ from HPUSH.out hcv
            clear hcv HKEEP HPUSH
            have hqx := ((Own.mk' hq9).other (b := G) (by omega) y (.slice az 14 cz)).1
            have hnx' := hn9.other (b := G) (by omega) y (.slice az 14 cz)
            have htx := ht9.other (b := G) (by omega) y (.slice az 14 cz)
            have hSx := hS9.setRow hym hjl14 o9 (Nat.le_refl _) s9
            have hSxb : ∀ b, (Value.slice a' qs'.length cq').ownBlock = some b → ¬ MBlk (w9.setCell ⟨G, y, none⟩ (.slice az 14 cz)) G (m'.set y (joinF (rowAt m' y) F)) b := by
              intro b hb hm
              rcases hS9.setRow_blk hym _ _ hm with h1 | h1
              · exact hQ9 b hb h1
              · have h2 := (o9.lt _ h1).1
                have h3 := (hQlt b hb).2
                omega
            have hLx := hL9.other (p := ⟨G, y, none⟩) (by show w.heap.size ≠ G; have := HG.out; omega) (.slice az 14 cz)
            have hbx : Below w.heap.size w (w9.setCell ⟨G, y, none⟩ (.slice az 14 cz)) := hb9.setCell (p := ⟨G, y, none⟩) (by show w.heap.size ≤ G; have := HG.out; omega) _
            have s9x : (w9.setCell ⟨G, y, none⟩ (.slice az 14 cz)).heap.size = w9.heap.size := by simp

            go_wp2_with (at_builtin; refine wpList_app rfl _ _ rfl Try.underlying28 infoI rfl (by omega) rfl (hqx.alloc _) rfl (row_one' _ (.int .i64 y) _ (by simp)) (fun u hu => by simp at hu; subst hu; rfl) (by omega) (by omega) (by simp; omega) ?_; rintro a4 q4 w4 o4 b4 g4 h4)
            clear py pu pu9 cy9 hcy f9 hL hL9 hn hn9 ht ht9 hq hq9 hS hS9 hS9b hQ9
            generalize w9.setCell ⟨G, y, none⟩ (.slice az 14 cz) = W4 at *
            have ba : Below W4.heap.size W4 (W4.alloc (.cells #[.int .i64 y] 3)) := (Below.refl W4.heap.size W4).alloc (Nat.le_refl _) _
            have b5 : Below (G + 1) W4 w4 := (ba.mono (by omega)).trans b4
            obtain ⟨hS5, hS5b⟩ := hSx.next ba
            have hQ5 : ∀ b, (Value.slice a' qs'.length cq').ownBlock = some b → ¬ MBlk (W4.alloc (.cells #[.int .i64 y] 3)) G (m'.set y (joinF (rowAt m' y) F)) b := fun b hb hm => hSxb b hb (hS5b b hm)
            obtain ⟨hS6, hS6b⟩ := hS5.grown g4 hQ5
            have g4s := g4.size
            have s5 : (W4.alloc (.cells #[.int .i64 y] 3)).heap.size = W4.heap.size + 1 := by simp
            refine ⟨⟨_, qs' ++ [(y : Int)], j + 1, a4, q4, by go_num, by simp, by omega, by simpa [ints] using o4, hS6.wide (Nat.le_refl _) (by omega), ?_, HJ'.out, by simp; omega, ?_, ?_, ?_, ?_, hLx.below b5 (by have := HG.out; omega), hbx.trans (b5.mono (by have := HG.out; omega)), by omega⟩, by simp [intOf]; omega⟩
            · intro b hb hm
              rcases h4 b hb with h1 | h1
              · exact hQ5 b h1 (hS6b b hm)
              · have := (hS5.blk (hS6b b hm)).2.2
                omega
            · exact Own.grown ⟨hnx'.1.alloc _, hnx'.2⟩ g4 fun g h1 h2 => HD1.out g h2 h1
            · intro g h1 h2
              rcases h4 g h1 with h1 | h1
              · exact HD1.out g h1 h2
              · have := hnx'.2 g h2
                omega
            · exact Own.grown ⟨htx.1.alloc _, htx.2⟩ g4 fun g h1 h2 => HD2.out g h2 h1
            · intro g h1 h2
              rcases h4 g h1 with h1 | h1
              · exact HD2.out g h1 h2
              · have := htx.2 g h2
                omega
          · have HJ' := show Hid _ from HKEEP.out hcv
            clear hcv HKEEP HPUSH
            go_wp2_with fail
            exact ⟨⟨m', qs', j + 1, _, _, by go_num, rfl, by omega, hq9, hS9.wide (Nat.le_refl _) s9, hQ9, HJ'.out, hkq, hn9, HD1.out, ht9, HD2.out, hL9, hb9, Nat.le_trans hs8 s9⟩, by simp [intOf]; omega⟩
        · have hjn : j = ns.length := by omega
          have HW := show Hid (WInv c m' qs' (k + 1)) from by
            have h1 := HI2.out
            rw [HNS.out] at h1
            exact h1.done (by rw [← HNS.out]; omega)
          subst hjn
          go_wp2_with fail
          exact ⟨⟨m', qs', k + 1, _, _, by go_num, rfl, by omega, hq, hS, HQD.out, HW.out, hL, hb⟩, by simp [intOf]; omega⟩
    · have hkn : k = qs.length := by omega
      subst hkn
      go_wp2_with fail
      go_ret
      exact ⟨G, m, by rw [hml]; rfl, HI'.out.done, hS.wide (by have := HG.out; omega) (Nat.le_refl _), hb⟩

end Go.Proofs.Ytjlnaiifegjneaa
