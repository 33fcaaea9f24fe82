/-
  The program's least taint map. Conditions: valid code.
-/
import Derived.Test.YtjlnaiifegjneaaInfer1
import Derived.Test.YtjlnaiifegjneaaPure7
import Derived.Test.YtjlnaiifegjneaaTaint8
namespace Go.Proofs.Ytjlnaiifegjneaa
open Go Go.RowKit

set_option maxRecDepth 100000 in
set_option maxHeartbeats 8000000 in
theorem impl_leastTaint (v : Value) (c : LCode) (hc : codeOk c = true) (w : World) (h : CodeRow w v c) :
    Calls Try.prog 69 #[v] w fun e w' => ∃ g m, e = .returned (.slice (some ⟨g, 0, none⟩) m.length m.length) ∧ isLeast c m ∧ MatS w' w.heap.size w'.heap.size g m ∧ Below w.heap.size w w' := by
  have hrow := h
  obtain ⟨v1, v2, v3, rfl, h1, h2, h3⟩ := h
  obtain ⟨a3, k3, rfl, -, hm3, -, hc3⟩ := h3.ins
  obtain ⟨W, hW⟩ : ∃ W, W = (w.alloc (.cells #[v1, v2, .slice a3 c.list.length k3] 36)) := ⟨_, rfl⟩
  have B0 : Below w.heap.size w W := by rw [hW]; go_grown
  have sW : W.heap.size = w.heap.size + 1 := by rw [hW]; simp
  have L1 : Blk W w.heap.size [v1, v2, .slice a3 c.list.length k3] := by rw [hW]; exact (Blk.new w [v1, v2, .slice a3 c.list.length k3] _)
  obtain ⟨-, hn1, hn2, -, -⟩ := codeOk_parts hc
  have hmk := make_run (P := Try.prog) (t := 22) Try.underlying22 infoBS rfl (by omega) c.list.length (by omega) hm3
  have hmk2 : ∀ w, (Instr.makeSlice 40 (.int .i64 14) (.int .i64 14)).run Try.prog w = _ := make_run (P := Try.prog) (t := 40) Try.underlying40 infoB rfl (by omega) 14 (by omega) (by omega)
  rw [show (Value.slice none 0 0).cells.toList = [Value.slice none 0 0] from rfl, repl_arr] at hmk
  rw [show (Value.bool false).cells.toList = [Value.bool false] from rfl, repl_arr] at hmk2
  obtain ⟨f0, ⟨u0, p0⟩, hS⟩ := mat_start W c.list.length hn1 hm3
  rw [sW] at f0 p0 hS
  have hfr := @mat_fresh
  have x2 := L1.cell 2
  simp at x2
  generalize Array.replicate 14 (Value.bool false) = z14 at *
  generalize Array.replicate c.list.length (Value.slice none 0 0) = zn at *
  have HFR := show Hid _ from @hfr
  clear hfr
  rw [hW] at x2 f0 p0
  go_enter Try.func69, Try.ntmps69
  go_wp2_with fail
  rw [← hW]
  rw [World.setCell_alloc_past _ _ _ _ (by simp [sW]), World.setCell_alloc_at _ _ _ _ _ sW.symm] at hS
  clear x2 hmk f0 p0 hW
  obtain ⟨W2, hW2⟩ : ∃ W2, W2 = (W.alloc (.cells (zn.setIfInBounds 0 (.slice (some ⟨w.heap.size + 1 + 1, 0, none⟩) 14 14)) 40)).alloc (.cells z14 4) := ⟨_, rfl⟩
  rw [← hW2] at hS ⊢
  have B2 : Below w.heap.size w W2 := by rw [hW2]; exact B0.trans (Below.mono (by go_grown : Below W.heap.size W _) B0.size)
  have s2 : W2.heap.size = w.heap.size + 1 + 1 + 1 := by rw [hW2]; simp [sW]
  replace L1 : Blk W2 w.heap.size [v1, v2, .slice a3 c.list.length k3] := by rw [hW2]; exact (L1.alloc _).alloc _
  clear hW2 B0 sW
  have HI := show Hid _ from hc3
  clear hc3
  obtain ⟨G, hG⟩ : ∃ G, G = w.heap.size + 1 := ⟨_, rfl⟩
  rw [← hG] at hS s2 ⊢
  have HG := show Hid _ from hG
  clear hG
  have hst := Low.start hn1
  go_loopw [4, 5, 6, 7, 9, 10, 11] (fun ch _ _ _ _ _ _ wr => ∃ (m : List (List Bool)) (f : Bool), ch = .bool f ∧ MatS wr G wr.heap.size G m ∧ Low c m ∧ (f = false → isLeast c m) ∧ Blk wr w.heap.size [v1, v2, .slice a3 c.list.length k3] ∧ Below w.heap.size w wr)
    (fun ch _ _ _ _ _ _ wr => 2 * potAt wr (.slice (some ⟨G, 0, none⟩) c.list.length c.list.length) + (match ch with | .bool true => 1 | _ => 0))
  case atStart => exact ⟨_, true, rfl, hS.wide (Nat.le_refl _) (by omega), hst, (fun h => by cases h), L1, B2⟩
  case round =>
    obtain ⟨m, f, rfl, hS, hlow, hf, hL, hb⟩ := hrel
    clear hst B2 L1
    have hml : m.length = c.list.length := hlow.len
    cases f
    · have HL := show Hid _ from hf rfl
      clear hf
      go_wp2_with fail
      go_ret
      exact ⟨G, m, by rw [hml]; rfl, HL.out, hS.wide (by have := HG.out; omega) (Nat.le_refl _), hb⟩
    clear hf
    have hpot : Hid (potAt wr (.slice (some ⟨G, 0, none⟩) c.list.length c.list.length) = pot m) := by have := hS.pot; rw [hml] at this; exact this
    obtain ⟨P0, hP0⟩ : ∃ n, n = pot m := ⟨_, rfl⟩
    have hps := PInv.start hlow
    rw [← hP0] at hps hpot
    clear hP0 hlow
    go_wp2_with fail
    go_loopw [4, 5, 6, 7, 9, 10, 11, 22] (fun ch _ _ _ _ _ _ i wr => ∃ (m : List (List Bool)) (f : Bool) (k : Nat), ch = .bool f ∧ i = .int .i64 k ∧ k ≤ c.list.length ∧ MatS wr G wr.heap.size G m ∧ PInv c m P0 f k ∧ Blk wr w.heap.size [v1, v2, .slice a3 c.list.length k3] ∧ Below w.heap.size w wr)
      (fun _ _ _ _ _ _ _ i _ => c.list.length - (intOf i).toNat)
    case atStart => exact ⟨m, false, 0, rfl, rfl, Nat.zero_le _, hS, hps, hL, hb⟩
    case round =>
      obtain ⟨m, f, k, rfl, rfl, hk, hS, hi, hL, hb⟩ := hrel
      have hml : m.length = c.list.length := hi.low.len
      have HI' := show Hid _ from hi
      clear hi hps
      by_cases hlt : k < c.list.length
      · have hkm : k < m.length := by omega
        have hro := rowOk_len HI'.out.low.ok k
        by_cases h0 : (rowAt m k).length = 0
        · have xm := hS.2 k hkm h0
          have hnil := fun w => Lib.run_eql_slice_nil (P := Try.prog) w 40 4 none 0 0 0 0 Try.underlying40
          simp only [Option.isNone_none] at hnil
          have HN := show Hid _ from HI'.out.skip h0
          clear h0 hro
          go_wp2_with fail
          exact ⟨⟨m, f, k + 1, rfl, by go_num, by omega, hS, HN.out, hL, hb⟩, by simp [intOf]; omega⟩
        · have h14 : (rowAt m k).length = 14 := by omega
          obtain ⟨gy, cy, xm, -, -, hgy, -, -, -, -, -, hrr⟩ := hS.at14 hkm h14
          have hnil := fun w => Lib.run_eql_slice_nil (P := Try.prog) w 40 4 (some ⟨gy, 0, none⟩) 14 cy 0 0 Try.underlying40
          simp only [Option.isNone_some] at hnil
          obtain ⟨b, off, rfl, hb3, i0, i1, i2, i3, i4⟩ := HI.out k hlt
          have hins := (codeOk_parts hc).2.2.2.1 k hlt
          rw [← (bcell hb).1 _ _ hb3] at i0 i1 i2 i3 i4
          have hcx := cells3i hL (Nat.lt_of_lt_of_le hb3 hb.size) i0 i1 i2 i3 i4 hS.lt.2.2 xm
          have HCELLS := show Hid _ from hcx
          have HENT := show Hid (∀ ns : List Int, (∀ y, y ∈ ns ↔ y ∈ nx c k) → KInv c m P0 f k (afterF c c.list[k] (rowAt m k)) ns 0) from by
            intro ns hns
            have := HI'.out.enter hkm h14 hns
            rw [insAt_get hlt] at this
            exact this
          have HFL := show Hid ((afterF c c.list[k] (rowAt m k)).length = 14) from by unfold Hid; rw [afterF_len, h14]
          have hb0 := (Below.refl wr.heap.size wr).drew
          obtain ⟨z, hz⟩ : ∃ z, z = c.list[k] := ⟨_, rfl⟩
          rw [← hz] at i0 i1 i2 i3 i4 HCELLS HENT HFL hins
          clear hcx h14 h0 hro hz
          have hki : (k : Int) < c.list.length := by omega
          go_wp2_with fail
          go_region_held3 (fun W' => Below wr.heap.size wr W' ∧ (W'.cell? ⟨w.heap.size, 0, none⟩ = some v1 ∧ W'.cell? ⟨w.heap.size, 1, none⟩ = some v2 ∧ W'.cell? ⟨w.heap.size, 2, none⟩ = some (.slice (some ⟨b, off, none⟩) c.list.length k3)) ∧
              (W'.cell? ⟨b, off + k * 5, none⟩ = some (.int .i64 z.op) ∧ W'.cell? ⟨b, off + k * 5 + 1, none⟩ = some (.int .i64 z.a) ∧ W'.cell? ⟨b, off + k * 5 + 2, none⟩ = some (.int .i64 z.b) ∧ W'.cell? ⟨b, off + k * 5 + 3, none⟩ = some (.int .i64 z.c) ∧ W'.cell? ⟨b, off + k * 5 + 4, none⟩ = some (.int .i64 z.d)) ∧
              W'.cell? ⟨G, k, none⟩ = some (.slice (some ⟨gy, 0, none⟩) 14 cy))
            (exact HCELLS.out _ (by assumption))
            (first | (go_at_call 75; refine (impl_taintAfter _ _ c z (rowAt m k) _ (hrow.below (below_step (by assumption) hb (Nat.le_refl _))) hins (hrr.below (by assumption))).mono ?_; rintro e w7 ⟨u3, rfl, o3, b7⟩; have q7 := below_step b7 hb0 (Nat.le_refl _); obtain ⟨a9, c9, rfl⟩ := o3.form))
          obtain ⟨F, hF⟩ : ∃ F, F = afterF c z (rowAt m k) := ⟨_, rfl⟩
          rw [← hF] at HENT HFL o3
          have hb7 := hb.trans (q7.mono hb.size)
          obtain ⟨hS7, hS7b⟩ := hS.next q7
          have hL7 := hL.below q7 hL.lt
          have o7 : Own w7 wr.heap.size w7.heap.size 4 1 (.slice a9 14 c9) 14 (bools F) := o3
          have hA7 : Apart w7 G m (.slice a9 14 c9) := fun b e hm => by have h1 := (o7.lt b e).1; have h2 := (hS.blk (hS7b b hm)).2.2; omega
          have q7s := q7.size
          have y0 := hL7.cell 0
          have y1 := hL7.cell 1
          have y2 := hL7.cell 2
          simp only [List.getElem?_cons_zero, List.getElem?_cons_succ] at y0 y1 y2
          clear o3 b7 i0 i1 i2 i3 i4 xm hrr hF hL hnil
          go_wp2_with fail
          refine (impl_follows_own _ c hc k _ (hrow.below hb7) (by omega) (by omega)).mono ?_
          rintro e w8 ⟨u8, ns, rfl, hnl, hnm, o8, b8⟩
          obtain ⟨a10, c10, rfl⟩ := o8.form
          have hb8 := hb7.trans (b8.mono hb7.size)
          obtain ⟨hS8, hS8b⟩ := hS7.next b8
          have hL8 := hL7.below b8 hL7.lt
          have t8 : Own w8 w.heap.size w8.heap.size 4 1 (.slice a9 14 c9) 14 (bools F) := (o7.keep b8 (Nat.le_refl _)).wide hb.size b8.size
          have hA8 := hA7.next hS7 b8
          have n8 : Own w8 w.heap.size w8.heap.size 3 1 (.slice a10 ns.length c10) ns.length (ints ns) := o8.wide hb7.size (Nat.le_refl _)
          have hN8 : Apart w8 G m (.slice a10 ns.length c10) := fun b e hm => by have h1 := (o8.lt b e).1; have h2 := (hS7.blk (hS8b b hm)).2.2; omega
          have hsz8 : wr.heap.size ≤ w8.heap.size := Nat.le_trans q7s b8.size
          have hnx : ∀ y ∈ ns, 0 ≤ y ∧ y < c.list.length := fun y hy => nx_ok hc (by omega) ((hnm y).1 hy)
          have HNX := show Hid _ from hnx
          have HNM := show Hid _ from hnm
          have HKI := show Hid _ from HENT.out ns hnm
          clear hnx hnm o7 o8 b8 q7 HCELLS hS hS7 hS7b hS8b hL7 hb7 y0 y1 y2 hb0 hb hA7 HENT HI'
          go_wp2_with fail
          go_loopw [4, 9, 10, 11, 41] (fun ch _ _ _ i wr => ∃ (m : List (List Bool)) (f : Bool) (j : Nat), ch = .bool f ∧ i = .int .i64 j ∧ j ≤ ns.length ∧ MatS wr G wr.heap.size G m ∧ KInv c m P0 f k F ns j ∧
              Own wr w.heap.size w8.heap.size 4 1 (.slice a9 14 c9) 14 (bools F) ∧ Apart wr G m (.slice a9 14 c9) ∧ Own wr w.heap.size w8.heap.size 3 1 (.slice a10 ns.length c10) ns.length (ints ns) ∧ Apart wr G m (.slice a10 ns.length c10) ∧
              Blk wr w.heap.size [v1, v2, .slice (some ⟨b, off, none⟩) c.list.length k3] ∧ Below w.heap.size w wr ∧ w8.heap.size ≤ wr.heap.size)
            (fun _ _ _ _ i _ => ns.length - (intOf i).toNat)
          case atStart => exact ⟨m, f, 0, rfl, rfl, Nat.zero_le _, hS8.wide (Nat.le_refl _) hsz8, HKI.out, t8, hA8, n8, hN8, hL8, hb8, Nat.le_refl _⟩
          case round =>
            obtain ⟨m, f, j, rfl, rfl, hj, hS, hi, ht, hA, hn, hN, hL, hb, hs8⟩ := hrel
            have hml : m.length = c.list.length := hi.low.len
            have HKI2 := show Hid _ from hi
            have HA := show Hid _ from hA
            have HN := show Hid _ from hN
            clear hi hA hN hS8 t8 hA8 n8 hN8 hL8 hb8 HKI
            by_cases hjl : j < ns.length
            · obtain ⟨y0, y1⟩ := HNX.out ns[j] (List.getElem_mem hjl)
              obtain ⟨y, hy⟩ : ∃ y : Nat, ns[j] = y := ⟨ns[j].toNat, by omega⟩
              obtain ⟨gu, hgu, pu⟩ : ∃ gu, a10 = some ⟨gu, 0, none⟩ ∧ wr.cell? ⟨gu, j, none⟩ = some (.int .i64 ns[j]) := by
                obtain ⟨g, cap', hv, -, -, -, -, -, -, hcc⟩ := hn.open (by omega)
                cases hv
                exact ⟨g, rfl, hcc j _ (by simp [ints, hjl])⟩
              subst hgu
              rw [hy] at pu y0 y1
              have HY := show Hid _ from hy
              have hyl : y < c.list.length := by omega
              have hyli : (y : Int) < c.list.length := by omega
              have hym : y < m.length := by omega
              have hro := rowOk_len HKI2.out.low.ok y
              clear hy
              have hstep : ∀ (W9 : World) (m9 : List (List Bool)) (f9 : Bool), MatS W9 G W9.heap.size G m9 → BInv c m9 P0 f9 k F ns j y 0 → Own W9 w.heap.size w8.heap.size 4 1 (.slice a9 14 c9) 14 (bools F) → Apart W9 G m9 (.slice a9 14 c9) →
                  Own W9 w.heap.size w8.heap.size 3 1 (.slice (some ⟨gu, 0, none⟩) ns.length c10) ns.length (ints ns) → Apart W9 G m9 (.slice (some ⟨gu, 0, none⟩) ns.length c10) → Blk W9 w.heap.size [v1, v2, .slice (some ⟨b, off, none⟩) c.list.length k3] → Below w.heap.size w W9 → w8.heap.size ≤ W9.heap.size →
                  ∃ (q : Nat), q = 0 ∧ q ≤ 14 ∧ MatS W9 G W9.heap.size G m9 ∧ BInv c m9 P0 f9 k F ns j y q ∧ Own W9 w.heap.size w8.heap.size 4 1 (.slice a9 14 c9) 14 (bools F) ∧ Apart W9 G m9 (.slice a9 14 c9) ∧
                  Own W9 w.heap.size w8.heap.size 3 1 (.slice (some ⟨gu, 0, none⟩) ns.length c10) ns.length (ints ns) ∧ Apart W9 G m9 (.slice (some ⟨gu, 0, none⟩) ns.length c10) ∧ Blk W9 w.heap.size [v1, v2, .slice (some ⟨b, off, none⟩) c.list.length k3] ∧ Below w.heap.size w W9 ∧ w8.heap.size ≤ W9.heap.size :=
                fun W9 m9 f9 e1 e2 e3 e4 e5 e6 e7 e8 e9 => ⟨0, rfl, Nat.zero_le _, e1, e2, e3, e4, e5, e6, e7, e8, e9⟩
              by_cases h0 : (rowAt m y).length = 0
              case pos =>
                have xm := hS.2 y hym h0
                have hnil := fun w => Lib.run_eql_slice_nil (P := Try.prog) w 40 4 none 0 0 0 0 Try.underlying40
                simp only [Option.isNone_none] at hnil
                obtain ⟨g1, ⟨u9, g2⟩, g3, g4⟩ := HFR.out hS hym
                have hlt := hS.lt
                have e5 := g4 _ HA.out fun b e => (ht.lt b e).2.2
                have e6 := g4 _ HN.out fun b e => (hn.lt b e).2.2
                have e3 : Own ((wr.setCell ⟨G, y, none⟩ (.slice (some ⟨wr.heap.size, 0, none⟩) 14 14)).alloc (.cells z14 4)) w.heap.size w8.heap.size 4 1 (.slice a9 14 c9) 14 (bools F) := (own_apart ht HA.out (.inl rfl)).keep (by go_grown : Below wr.heap.size _ _) hs8
                have e4 : Own ((wr.setCell ⟨G, y, none⟩ (.slice (some ⟨wr.heap.size, 0, none⟩) 14 14)).alloc (.cells z14 4)) w.heap.size w8.heap.size 3 1 (.slice (some ⟨gu, 0, none⟩) ns.length c10) ns.length (ints ns) := (own_apart hn HN.out (.inl rfl)).keep (by go_grown : Below wr.heap.size _ _) hs8
                have e7 : Blk ((wr.setCell ⟨G, y, none⟩ (.slice (some ⟨wr.heap.size, 0, none⟩) 14 14)).alloc (.cells z14 4)) w.heap.size [v1, v2, .slice (some ⟨b, off, none⟩) c.list.length k3] := (hL.other (p := ⟨G, y, none⟩) (by show w.heap.size ≠ G; have := HG.out; omega) _).alloc _
                have e8 : Below w.heap.size w ((wr.setCell ⟨G, y, none⟩ (.slice (some ⟨wr.heap.size, 0, none⟩) 14 14)).alloc (.cells z14 4)) := (hb.setCell (p := ⟨G, y, none⟩) (by show w.heap.size ≤ G; have := HG.out; omega) _).alloc (by have := hb.size; simpa using this) _
                have e9 : ((wr.setCell ⟨G, y, none⟩ (.slice (some ⟨wr.heap.size, 0, none⟩) 14 14)).alloc (.cells z14 4)).heap.size = wr.heap.size + 1 := by simp
                have HFRESH := show Hid _ from HKI2.out.fresh hjl HY.out hym h0
                clear hro h0
                go_wp2_with fail
                obtain ⟨W9, hW9⟩ : ∃ W9, W9 = ((wr.setCell ⟨G, y, none⟩ (.slice (some ⟨wr.heap.size, 0, none⟩) 14 14)).alloc (.cells z14 4)) := ⟨_, rfl⟩
                rw [← hW9] at g3 e3 e4 e5 e6 e7 e8 e9 ⊢
                have hgo := hstep W9 _ true (g3.wide (Nat.le_refl _) (by omega)) HFRESH.out e3 e5 e4 e6 e7 e8 (by omega)
                clear hW9 g3 e3 e4 e5 e6 e7 e8 g1 g2 g4 xm hnil hS ht hn hL hb HKI2 HA HN hstep HFRESH
                obtain ⟨q0, hq0, hq1, hS, hi, ht, hA, hn, hN, hL, hb, hs9⟩ := hgo
                generalize m.set y (List.replicate 14 false) = m at *
                go_loopw [4, 10, 11, 56] (fun ch _ _ i wr => ∃ (m : List (List Bool)) (f : Bool) (q : Nat), ch = .bool f ∧ i = .int .i64 q ∧ q ≤ 14 ∧ MatS wr G wr.heap.size G m ∧ BInv c m P0 f k F ns j y q ∧ Own wr w.heap.size w8.heap.size 4 1 (.slice a9 14 c9) 14 (bools F) ∧ Apart wr G m (.slice a9 14 c9) ∧
                    Own wr w.heap.size w8.heap.size 3 1 (.slice (some ⟨gu, 0, none⟩) ns.length c10) ns.length (ints ns) ∧ Apart wr G m (.slice (some ⟨gu, 0, none⟩) ns.length c10) ∧ Blk wr w.heap.size [v1, v2, .slice (some ⟨b, off, none⟩) c.list.length k3] ∧ Below w.heap.size w wr ∧ w8.heap.size ≤ wr.heap.size)
                  (fun _ _ _ i _ => 14 - (intOf i).toNat)
                case atStart => exact ⟨m, _, 0, rfl, rfl, Nat.zero_le _, hS, by rw [hq0] at hi; exact hi, ht, hA, hn, hN, hL, hb, hs9⟩
                case round =>
                  clear hS hi ht hA hn hN hL hb hs9 hq0 hq1
                  obtain ⟨m, f, q, rfl, rfl, hq, hS, hi, ht, hA, hn, hN, hL, hb, hs8⟩ := hrel
                  have hml : m.length = c.list.length := hi.low.len
                  have hym : y < m.length := by omega
                  have HBI := show Hid _ from hi
                  have HA := show Hid _ from hA
                  have HN := show Hid _ from hN
                  clear hi hA hN
                  by_cases hql : q < 14
                  · obtain ⟨gt, ct, hv, -, -, -, -, -, -, gc⟩ := ht.open (by omega)
                    cases hv
                    have hft : F.length = 14 := HBI.out.tl
                    have xt := gc q _ (bools_get _ q (by omega))
                    have hfe : F[q]'(by omega) = F.getD q false := by simp [show q < F.length by omega]
                    rw [hfe] at xt
                    obtain ⟨gy, cy, xm, gy1, -, gy3, gy4, -, -, gyf, gyx, -⟩ := hS.at14 hym HBI.out.row
                    have xb := gyx q hql
                    have xf := gyf q
                    have hqi : (q : Int) < 14 := by omega
                    have hb14 := show Hid (MBlk wr G m gy) from .inr ⟨y, _, hym, xm, rfl⟩
                    have HPUT := show Hid _ from fun h1 h0 => HBI.out.put hjl HY.out hym hql h1 h0
                    have HKEEP := show Hid _ from HBI.out.keep (q := q)
                    clear gc hfe gyf gyx hft
                    cases htq : F.getD q false
                    · have HK := show Hid _ from HKEEP.out (by rw [htq]; intro h; cases h)
                      rw [htq] at xt
                      clear htq
                      go_wp2_with fail
                      exact ⟨⟨m, f, q + 1, rfl, by go_num, by omega, hS, HK.out, ht, HA.out, hn, HN.out, hL, hb, hs8⟩, by simp [intOf]; omega⟩
                    · cases hrq : (rowAt m y).getD q false
                      · have HP := show Hid _ from HPUT.out htq hrq
                        rw [htq] at xt
                        rw [hrq] at xb
                        clear htq hrq
                        go_wp2_with fail
                        exact ⟨⟨_, true, q + 1, rfl, by go_num, by omega, (hS.setBit hym xm HBI.out.row hql true).wide (Nat.le_refl _) (by simp), HP.out, own_apart ht HA.out hb14.out, Apart.setBit HA.out gy4, own_apart hn HN.out hb14.out, Apart.setBit HN.out gy4,
                          hL.other (p := ⟨gy, q, none⟩) (by show w.heap.size ≠ gy; have := HG.out; omega) _, hb.setCell (p := ⟨gy, q, none⟩) (by show w.heap.size ≤ gy; have := HG.out; omega) _, by simpa using hs8⟩, by simp [intOf]; omega⟩
                      · have HK := show Hid _ from HKEEP.out (fun _ => hrq)
                        rw [htq] at xt
                        rw [hrq] at xb
                        clear htq hrq
                        go_wp2_with fail
                        exact ⟨⟨m, f, q + 1, rfl, by go_num, by omega, hS, HK.out, ht, HA.out, hn, HN.out, hL, hb, hs8⟩, by simp [intOf]; omega⟩
                  · have hqn : q = 14 := by omega
                    subst hqn
                    have HD := show Hid _ from HBI.out.done hjl HY.out (Nat.le_refl _)
                    go_wp2_with fail
                    exact ⟨⟨m, f, j + 1, rfl, by go_num, by omega, hS, HD.out, ht, HA.out, hn, HN.out, hL, hb, hs8⟩, by simp [intOf]; omega⟩
              case neg =>
                have h14 : (rowAt m y).length = 14 := by omega
                obtain ⟨gy, cy, xm, -⟩ := hS.at14 hym h14
                have hnil := fun w => Lib.run_eql_slice_nil (P := Try.prog) w 40 4 (some ⟨gy, 0, none⟩) 14 cy 0 0 Try.underlying40
                simp only [Option.isNone_some] at hnil
                have hgo := hstep wr m f hS (HKI2.out.bits h14) ht HA.out hn HN.out hL hb hs8
                clear hro h0 h14 hS ht hn hL hb HKI2 HA HN hstep
                go_wp2_with fail
                clear xm hnil
                obtain ⟨q0, hq0, hq1, hS, hi, ht, hA, hn, hN, hL, hb, hs9⟩ := hgo
                go_loopw [4, 10, 11, 56] (fun ch _ _ i wr => ∃ (m : List (List Bool)) (f : Bool) (q : Nat), ch = .bool f ∧ i = .int .i64 q ∧ q ≤ 14 ∧ MatS wr G wr.heap.size G m ∧ BInv c m P0 f k F ns j y q ∧ Own wr w.heap.size w8.heap.size 4 1 (.slice a9 14 c9) 14 (bools F) ∧ Apart wr G m (.slice a9 14 c9) ∧
                    Own wr w.heap.size w8.heap.size 3 1 (.slice (some ⟨gu, 0, none⟩) ns.length c10) ns.length (ints ns) ∧ Apart wr G m (.slice (some ⟨gu, 0, none⟩) ns.length c10) ∧ Blk wr w.heap.size [v1, v2, .slice (some ⟨b, off, none⟩) c.list.length k3] ∧ Below w.heap.size w wr ∧ w8.heap.size ≤ wr.heap.size)
                  (fun _ _ _ i _ => 14 - (intOf i).toNat)
                case atStart => exact ⟨m, _, 0, rfl, rfl, Nat.zero_le _, hS, by rw [hq0] at hi; exact hi, ht, hA, hn, hN, hL, hb, hs9⟩
                case round =>
                  clear hS hi ht hA hn hN hL hb hs9 hq0 hq1
                  obtain ⟨m, f, q, rfl, rfl, hq, hS, hi, ht, hA, hn, hN, hL, hb, hs8⟩ := hrel
                  have hml : m.length = c.list.length := hi.low.len
                  have hym : y < m.length := by omega
                  have HBI := show Hid _ from hi
                  have HA := show Hid _ from hA
                  have HN := show Hid _ from hN
                  clear hi hA hN
                  by_cases hql : q < 14
                  · obtain ⟨gt, ct, hv, -, -, -, -, -, -, gc⟩ := ht.open (by omega)
                    cases hv
                    have hft : F.length = 14 := HBI.out.tl
                    have xt := gc q _ (bools_get _ q (by omega))
                    have hfe : F[q]'(by omega) = F.getD q false := by simp [show q < F.length by omega]
                    rw [hfe] at xt
                    obtain ⟨gy, cy, xm, gy1, -, gy3, gy4, -, -, gyf, gyx, -⟩ := hS.at14 hym HBI.out.row
                    have xb := gyx q hql
                    have xf := gyf q
                    have hqi : (q : Int) < 14 := by omega
                    have hb14 := show Hid (MBlk wr G m gy) from .inr ⟨y, _, hym, xm, rfl⟩
                    have HPUT := show Hid _ from fun h1 h0 => HBI.out.put hjl HY.out hym hql h1 h0
                    have HKEEP := show Hid _ from HBI.out.keep (q := q)
                    clear gc hfe gyf gyx hft
                    cases htq : F.getD q false
                    · have HK := show Hid _ from HKEEP.out (by rw [htq]; intro h; cases h)
                      rw [htq] at xt
                      clear htq
                      go_wp2_with fail
                      exact ⟨⟨m, f, q + 1, rfl, by go_num, by omega, hS, HK.out, ht, HA.out, hn, HN.out, hL, hb, hs8⟩, by simp [intOf]; omega⟩
                    · cases hrq : (rowAt m y).getD q false
                      · have HP := show Hid _ from HPUT.out htq hrq
                        rw [htq] at xt
                        rw [hrq] at xb
                        clear htq hrq
                        go_wp2_with fail
                        exact ⟨⟨_, true, q + 1, rfl, by go_num, by omega, (hS.setBit hym xm HBI.out.row hql true).wide (Nat.le_refl _) (by simp), HP.out, own_apart ht HA.out hb14.out, Apart.setBit HA.out gy4, own_apart hn HN.out hb14.out, Apart.setBit HN.out gy4,
                          hL.other (p := ⟨gy, q, none⟩) (by show w.heap.size ≠ gy; have := HG.out; omega) _, hb.setCell (p := ⟨gy, q, none⟩) (by show w.heap.size ≤ gy; have := HG.out; omega) _, by simpa using hs8⟩, by simp [intOf]; omega⟩
                      · have HK := show Hid _ from HKEEP.out (fun _ => hrq)
                        rw [htq] at xt
                        rw [hrq] at xb
                        clear htq hrq
                        go_wp2_with fail
                        exact ⟨⟨m, f, q + 1, rfl, by go_num, by omega, hS, HK.out, ht, HA.out, hn, HN.out, hL, hb, hs8⟩, by simp [intOf]; omega⟩
                  · have hqn : q = 14 := by omega
                    subst hqn
                    have HD := show Hid _ from HBI.out.done hjl HY.out (Nat.le_refl _)
                    go_wp2_with fail
                    exact ⟨⟨m, f, j + 1, rfl, by go_num, by omega, hS, HD.out, ht, HA.out, hn, HN.out, hL, hb, hs8⟩, by simp [intOf]; omega⟩
            · have hjn : j = ns.length := by omega
              have HP := show Hid _ from HKI2.out.done (by omega) HNM.out
              subst hjn
              go_wp2_with fail
              exact ⟨⟨m, f, k + 1, rfl, by go_num, by omega, hS, HP.out, hL, hb⟩, by simp [intOf]; omega⟩
      · have hkn : k = c.list.length := by omega
        subst hkn
        have hpn : Hid (potAt wr (.slice (some ⟨G, 0, none⟩) c.list.length c.list.length) = pot m) := by have := hS.pot; rw [hml] at this; exact this
        have hle := HI'.out.le
        have hlt' := HI'.out.lt
        have hdn : f = false → isLeast c m := fun e => by have := HI'.out; rw [e] at this; exact this.done (by omega)
        have HD := show Hid _ from hdn
        have HLT := show Hid _ from hlt'
        clear hdn hlt'
        go_wp2_with fail
        refine ⟨⟨m, f, rfl, hS, HI'.out.low, HD.out, hL, hb⟩, ?_⟩
        show 2 * potAt _ _ + _ < 2 * potAt _ _ + _
        rw [hpn.out, hpot.out]
        cases f
        · have := HI'.out.le
          show 2 * pot m + 0 < 2 * P0 + 1
          omega
        · have := HLT.out rfl
          show 2 * pot m + 1 < 2 * P0 + 1
          omega

end Go.Proofs.Ytjlnaiifegjneaa
