/-
  The reference's search over code. Conditions: valid code.
-/
import Derived.Test.YtjlnaiifegjneaaReach
import Derived.Test.YtjlnaiifegjneaaLawBool
import Derived.Test.YtjlnaiifegjneaaBox
namespace Go.Proofs.Ytjlnaiifegjneaa
open Go Go.RowKit

set_option maxHeartbeats 4000000 in
theorem spec_l8Reach (v : Value) (c : LCode) (hc : codeOk c = true) (w : World) (h : CodeRow w v c) :
    Calls Try.prog 58 #[v] w fun e w' => ∃ u, e = .returned u ∧ Own w' w.heap.size w'.heap.size 4 1 u c.list.length (bools (reachB c)) ∧ Below w.heap.size w w' := by
  have hrow := h
  obtain ⟨v1, v2, v3, rfl, h1, h2, h3⟩ := h
  obtain ⟨a3, k3, rfl, -, hm3, -, -⟩ := h3.open
  obtain ⟨W, hW⟩ : ∃ W, W = (w.alloc (.cells #[v1, v2, .slice a3 c.list.length k3] 36)) := ⟨_, rfl⟩
  have B0 : Below w.heap.size w W := by rw [hW]; go_grown
  have sW : W.heap.size = w.heap.size + 1 := by rw [hW]; simp
  have L1 : Blk W w.heap.size [v1, v2, .slice a3 c.list.length k3] := by rw [hW]; exact (Blk.new w [v1, v2, .slice a3 c.list.length k3] _)
  obtain ⟨-, hn1, hn2, -, -⟩ := codeOk_parts hc
  have hmk := make_run (P := Try.prog) (t := 40) Try.underlying40 infoB rfl (by omega) c.list.length (by omega) hm3
  have hown := own_made W (Value.bool false).cells.toList c.list.length 1 4 rfl hm3
  rw [show (Value.bool false).cells.toList = [Value.bool false] from rfl, zeroRow_one, sW] at hown
  have hown0 : Own (W.alloc (.cells (List.replicate c.list.length (Value.bool false)).toArray 4)) (w.heap.size + 1) (w.heap.size + 1 + 1) 4 1 (.slice (some ⟨w.heap.size + 1, 0, none⟩) c.list.length c.list.length) c.list.length (bools (List.replicate c.list.length false)) := by
    rw [bools, List.map_replicate]; exact hown
  have x2 := L1.cell 2
  simp at x2
  rw [show (Value.bool false).cells.toList = [Value.bool false] from rfl, zeroRow_one] at hmk
  have eR : (List.replicate c.list.length (Value.bool false)).toArray = Array.replicate c.list.length (Value.bool false) := by simp
  rw [eR] at hmk hown0
  clear hown eR
  obtain ⟨g0, cap0, hv0, -, -, -, f0, u0, p0⟩ := hown0.at (j := 0) (by simp [bools]; omega)
  cases hv0
  rw [hW] at x2 f0 p0
  go_enter Try.func58, Try.ntmps58
  go_wp2_with fail
  rw [← hW]
  clear x2 hmk hW f0 p0
  have hown1 := own_built W (g := w.heap.size + 1) ((Array.replicate c.list.length (Value.bool false)).setIfInBounds 0 (.bool true)) c.list.length 1 4 sW.symm (by simp) hm3
  rw [sW, show ((Array.replicate c.list.length (Value.bool false)).setIfInBounds 0 (.bool true)).toList = bools ((List.replicate c.list.length false).set 0 true) by simp [bools]] at hown1
  have B2 : Below w.heap.size w (W.alloc (.cells ((Array.replicate c.list.length (Value.bool false)).setIfInBounds 0 (.bool true)) 4)) := B0.trans (Below.mono (by go_grown : Below W.heap.size W _) B0.size)
  have s2 : (W.alloc (.cells ((Array.replicate c.list.length (Value.bool false)).setIfInBounds 0 (.bool true)) 4)).heap.size = w.heap.size + 1 + 1 := by simp [sW]
  replace L1 := L1.alloc (.cells ((Array.replicate c.list.length (Value.bool false)).setIfInBounds 0 (.bool true)) 4)
  generalize W.alloc (.cells ((Array.replicate c.list.length (Value.bool false)).setIfInBounds 0 (.bool true)) 4) = W2 at *
  have hq := own_built W2 #[.int .i64 0] 1 1 3 s2.symm rfl (by omega)
  rw [s2] at hq
  have B3 := B2.trans (Below.mono (by go_grown : Below W2.heap.size W2 (W2.alloc (.cells #[.int .i64 0] 3))) B2.size)
  replace hown1 := hown1.keep (by go_grown : Below W2.heap.size W2 (W2.alloc (.cells #[.int .i64 0] 3))) (by omega)
  replace L1 := L1.alloc (.cells #[.int .i64 0] 3)
  generalize W2.alloc (.cells #[.int .i64 0] 3) = W3 at *
  clear B0 B2 s2 sW hown0
  go_loopw [4, 5] (fun q i wr => ∃ (qs : List Int) (bs : List Bool) (k : Nat) (a : Option Addr) (cq : Nat), i = .int .i64 k ∧ q = .slice a qs.length cq ∧ k ≤ qs.length ∧ wr.ownsRow (w.heap.size + 1 + 1) 3 1 q qs.length (ints qs) ∧
    Own wr (w.heap.size + 1) (w.heap.size + 1 + 1) 4 1 (.slice (some ⟨w.heap.size + 1, 0, none⟩) c.list.length c.list.length) c.list.length (bools bs) ∧ SInv c qs bs ∧ Closed c qs bs k ∧
    Blk wr w.heap.size [v1, v2, .slice a3 c.list.length k3] ∧ Below w.heap.size w wr)
    (fun _ i _ => c.list.length - (intOf i).toNat)
  case atStart => exact ⟨[0], _, 0, _, _, rfl, rfl, by simp, hq.1, hown1, SInv.start hc, fun m u hm => absurd hm (by omega), L1, B3⟩
  case round =>
    obtain ⟨qs, bs, k, a, cq, rfl, rfl, hk, hq, ho, hi, hcl, hL, hb⟩ := hrel
    have hqn : qs.length ≤ c.list.length := by have := hi.cnt; omega
    have HI := show Hid _ from hi
    have HC := show Hid _ from hcl
    clear hi hcl hown1 B3 L1
    by_cases hlt : k < qs.length
    · have hir := HI.out.q qs[k] (List.getElem_mem hlt)
      obtain ⟨gq, hgq, p0⟩ : ∃ gq, a = some ⟨gq, 0, none⟩ ∧ wr.cell? ⟨gq, k, none⟩ = some (.int .i64 qs[k]) := by
        have hoq : Own wr (w.heap.size + 1 + 1) wr.heap.size 3 1 (.slice a qs.length cq) qs.length (ints qs) := Own.mk' hq
        obtain ⟨g, cap', hv, -, -, -, -, -, -, hcc⟩ := hoq.open (by omega)
        cases hv
        exact ⟨g, rfl, hcc k _ (by simp [ints, hlt])⟩
      subst hgq
      have hgqb : gq < wr.heap.size := World.block_lt_of_cell? wr ⟨gq, k, none⟩ p0
      obtain ⟨ht0, ht1, htr⟩ := hir
      have HTR := show Hid _ from htr
      have hgt : qs[k]? = some qs[k] := List.getElem?_eq_getElem hlt
      have HGT := show Hid _ from hgt
      clear htr hgt
      generalize qs[k] = t at *
      have hS : ∀ W', Below wr.heap.size wr W' → Below wr.heap.size wr W' ∧ (W'.cell? ⟨w.heap.size, 0, none⟩ = some v1 ∧ W'.cell? ⟨w.heap.size, 1, none⟩ = some v2 ∧ W'.cell? ⟨w.heap.size, 2, none⟩ = some (.slice a3 c.list.length k3)) ∧ W'.cell? ⟨gq, k, none⟩ = some (.int .i64 t) :=
        fun W' hb' => ⟨hb', cells3 hL W' hb', by rw [(bcell hb').1 _ _ hgqb]; exact p0⟩
      have HS := show Hid _ from hS
      have hb0 := (Below.refl wr.heap.size wr).drew
      clear hS
      go_wp2_with fail
      go_region_held3 (fun W' => Below wr.heap.size wr W' ∧ (W'.cell? ⟨w.heap.size, 0, none⟩ = some v1 ∧ W'.cell? ⟨w.heap.size, 1, none⟩ = some v2 ∧ W'.cell? ⟨w.heap.size, 2, none⟩ = some (.slice a3 c.list.length k3)) ∧ W'.cell? ⟨gq, k, none⟩ = some (.int .i64 t))
        (exact HS.out _ (by assumption))
        (first | (go_at_call 71; refine (spec_next _ c t _ (hrow.below (below_step (by assumption) hb (Nat.le_refl _))) ht0 ht1).mono ?_; rintro e w7 ⟨u3, rfl, o3, b7⟩; have q7 := below_step b7 hb0 (Nat.le_refl _); obtain ⟨a9, c9, rfl⟩ := o3.form))
      all_goals go_wp2_with fail
      have hb7 := hb.trans (q7.mono hb.size)
      have hq7 := owns_below hq q7 (Nat.le_refl _)
      have hsz : w.heap.size + 1 + 1 ≤ wr.heap.size := (ho.lt _ rfl).2.2
      have ho7 := ho.keep q7 hsz
      have hL7 := hL.below q7 hL.lt
      have s7 := q7.size
      have o7 : Own w7 (w.heap.size + 1 + 1) w7.heap.size 3 1 (.slice a9 (nx c t).length c9) (nx c t).length (ints (nx c t)) := o3.wide hsz (Nat.le_refl _)
      have hd7 : Disj (Value.slice (some ⟨gq, 0, none⟩) qs.length cq) (Value.slice a9 (nx c t).length c9) := by
        intro g hg hg'
        cases hg
        have h1 := (o3.lt _ hg').1
        exact absurd hgqb (Nat.not_lt.2 h1)
      have hnx : ∀ x ∈ nx c t, 0 ≤ x ∧ x < c.list.length := fun x hx => nx_ok hc ht0 hx
      have HNX := show Hid _ from hnx
      clear o3 b7 hb0 HS hL hq ho p0 hnx hb
      generalize hns : nx c t = ns at *
      have HNS := show Hid _ from hns
      clear hns
      go_loopw [4, 7] (fun q i wi => ∃ (qs' : List Int) (bs' : List Bool) (j : Nat) (a : Option Addr) (cq : Nat), i = .int .i64 j ∧ q = .slice a qs'.length cq ∧ j ≤ ns.length ∧ wi.ownsRow (w.heap.size + 1 + 1) 3 1 q qs'.length (ints qs') ∧
        Own wi (w.heap.size + 1) (w.heap.size + 1 + 1) 4 1 (.slice (some ⟨w.heap.size + 1, 0, none⟩) c.list.length c.list.length) c.list.length (bools bs') ∧ SInv c qs' bs' ∧ Closed c qs' bs' k ∧ (k < qs'.length ∧ qs'[k]? = some t) ∧ (∀ x ∈ ns.take j, bs'[x.toNat]? = some true) ∧
        Own wi (w.heap.size + 1 + 1) w7.heap.size 3 1 (.slice a9 ns.length c9) ns.length (ints ns) ∧ Disj q (.slice a9 ns.length c9) ∧
        Blk wi w.heap.size [v1, v2, .slice a3 c.list.length k3] ∧ Below w.heap.size w wi)
        (fun _ i _ => ns.length - (intOf i).toNat)
      case atStart => exact ⟨qs, bs, 0, _, _, rfl, rfl, by omega, hq7, ho7, HI.out, HC.out, ⟨hlt, HGT.out⟩, by simp, o7, hd7, hL7, hb7⟩
      case round =>
        obtain ⟨qs', bs', j, a', cq', rfl, rfl, hj, hq, ho, hi, hcl, ⟨hkq, hgk⟩, hms, hu, hd, hL, hb⟩ := hrel
        have hqn' : qs'.length ≤ c.list.length := by have := hi.cnt; omega
        have HI' := show Hid _ from hi
        have HC' := show Hid (Closed c qs' bs' k) from hcl
        have HG' := show Hid _ from hgk
        have HM' := show Hid _ from hms
        have hD := show Hid _ from hd
        clear hi hcl hgk hms hq7 ho7 o7 hd7 hL7 hb7 HI HC HGT hd
        by_cases hjl : j < ns.length
        · have hxr := HNX.out ns[j] (List.getElem_mem hjl)
          have HX := show Hid (ns.take (j + 1) = ns.take j ++ [ns[j]]) from take_succ_get _ _ hjl
          have hxm : ns[j] ∈ nx c t := by rw [HNS.out]; exact List.getElem_mem hjl
          have HXM := show Hid _ from hxm
          clear hxm
          obtain ⟨gu, hgu, pu⟩ : ∃ gu, a9 = some ⟨gu, 0, none⟩ ∧ wr.cell? ⟨gu, j, none⟩ = some (.int .i64 ns[j]) := by
            obtain ⟨g, cap', hv, -, -, -, -, -, -, hcc⟩ := hu.open (by omega)
            cases hv
            exact ⟨g, rfl, hcc j _ (by simp [ints, hjl])⟩
          subst hgu
          generalize ns[j] = x at *
          obtain ⟨m, rfl⟩ : ∃ m : Nat, x = m := ⟨x.toNat, by omega⟩
          have hmn : m < c.list.length := by omega
          have hmb : m < bs'.length := by rw [HI'.out.len]; exact hmn
          obtain ⟨g, cap, hv, hg1, hg2, hg3, hf, u0, hcb⟩ := ho.at (j := m) (by simpa [bools] using hmb)
          cases hv
          have p1 : wr.cell? ⟨w.heap.size + 1, m, none⟩ = some (.bool bs'[m]) := by
            obtain ⟨g, cap', hv, -, -, -, -, -, -, hcc⟩ := ho.open (by omega)
            cases hv
            exact hcc m _ (by simp [bools, hmb])
          have hgu1 : w.heap.size + 1 + 1 ≤ gu := (hu.lt _ rfl).1
          have hgu2 : gu < wr.heap.size := (hu.lt _ rfl).2.2
          have hnl := hu.row.len
          have hux := hu.other (b := w.heap.size + 1) (by omega) m (.bool true)
          have py : (wr.setCell ⟨w.heap.size + 1, m, none⟩ (.bool true)).cell? ⟨gu, j, none⟩ = some (.int .i64 m) := by
            rw [World.cell?_setCell_other _ _ _ _ (by intro h; cases h; omega)]
            exact pu
          have hqx := ((Own.mk' hq).other (b := w.heap.size + 1) (by omega) m (.bool true)).1
          have hbq : bs'[m]? = some bs'[m] := by rw [List.getElem?_eq_getElem hmb]
          clear u0 hcb hxr
          have s1 : w.heap.size + 1 + 1 ≤ wr.heap.size := hg3
          cases hbm : bs'[m]
          all_goals
            rw [hbm] at p1 hbq
            have HB := show Hid _ from hbq
            clear hbm hbq
          · go_wp2_with (at_builtin; refine wpList_app rfl _ _ rfl Try.underlying28 infoI rfl (by omega) rfl (hqx.alloc _) rfl (row_one' _ (.int .i64 m) _ (by simp)) (fun u hu => by simp at hu; subst hu; rfl) (by omega) (by omega) (by simp; omega) ?_; rintro a4 q4 w4 o4 b4 g4 h4)
            have hx1 : wr.heap.size ≤ (wr.setCell ⟨w.heap.size + 1, m, none⟩ (.bool true)).heap.size := by simp
            have hbx : Below w.heap.size w (wr.setCell ⟨w.heap.size + 1, m, none⟩ (.bool true)) := hb.setCell (p := ⟨w.heap.size + 1, m, none⟩) (by show w.heap.size ≤ w.heap.size + 1; omega) _
            have hox := ho.setCell (j := m) (by simpa [bools] using hmb) (.bool true)
            rw [show (bools bs').set m (.bool true) = bools (bs'.set m true) by simp [bools]] at hox
            have hLx := hL.other (p := ⟨w.heap.size + 1, m, none⟩) (by show w.heap.size ≠ w.heap.size + 1; omega) (.bool true)
            clear py hL ho hu hq p1 pu hf hg1 hg2 hg3
            generalize wr.setCell ⟨w.heap.size + 1, m, none⟩ (.bool true) = W4 at *
            have ba := (Below.refl W4.heap.size W4).alloc (Nat.le_refl _) (.cells #[.int .i64 m] 3)
            have b5 : Below (w.heap.size + 1 + 1) W4 w4 := (ba.mono (by omega)).trans b4
            have hpush := HI'.out.push (t := (m : Int)) (by omega) (by omega) (.step HTR.out HXM.out) (by rw [Int.toNat_natCast]; exact HB.out)
            rw [Int.toNat_natCast] at hpush
            refine ⟨⟨qs' ++ [(m : Int)], bs'.set m true, j + 1, a4, q4, by go_num, by simp, by omega, by simpa [ints] using o4, hox.keep b5 (by omega), hpush, HC'.out.push (by omega) _ _, ⟨by simp; omega, by rw [List.getElem?_append_left hkq]; exact HG'.out⟩, ?_, ?_, ?_, hLx.below b5 (by omega), hbx.trans (b5.mono (by omega))⟩, by simp [intOf]; omega⟩
            · intro x hx
              rw [HX.out] at hx
              rcases List.mem_append.1 hx with hx | hx
              · exact set_true (HM'.out x hx)
              · simp at hx; subst hx; rw [Int.toNat_natCast]; exact set_true_at hmb
            · exact Own.grown ⟨hux.1.alloc _, hux.2⟩ g4 fun g h1 h2 => hD.out g h2 h1
            · intro g h1 h2
              rcases h4 g h1 with h1 | h1
              · exact hD.out g h1 h2
              · cases h2; simp at h1; omega
          · go_wp2_with fail
            refine ⟨⟨qs', bs', j + 1, a', cq', by go_num, rfl, by omega, hq, ho, HI'.out, HC'.out, ⟨hkq, HG'.out⟩, ?_, hu, hD.out, hL, hb⟩, by simp [intOf]; omega⟩
            intro x hx
            rw [HX.out] at hx
            rcases List.mem_append.1 hx with hx | hx
            · exact HM'.out x hx
            · simp at hx; subst hx; rw [Int.toNat_natCast]; exact HB.out
        · have hjn : j = ns.length := by omega
          subst hjn
          go_wp2_with fail
          refine ⟨⟨qs', bs', k + 1, a', cq', by go_num, rfl, by omega, hq, ho, HI'.out, ?_, hL, hb⟩, by simp [intOf]; omega⟩
          intro m u hm hu' y hy
          rcases Nat.lt_or_ge m k with h1 | h1
          · exact HC'.out m u h1 hu' y hy
          · obtain rfl : m = k := by omega
            rw [HG'.out] at hu'
            cases hu'
            rw [HNS.out] at hy
            exact HM'.out y (by rw [List.take_length]; exact hy)
    · have hkn : k = qs.length := by omega
      subst hkn
      go_wp2_with fail
      go_ret
      exact ⟨_, rfl, by rw [← Closed.done hc HI.out HC.out]; exact ho.wide (by omega) (by have := ho.lt _ rfl; omega), hb⟩

end Go.Proofs.Ytjlnaiifegjneaa
