/-
  Trimmed code, the program's. Conditions: valid code.
-/
import Derived.Test.YtjlnaiifegjneaaTrim2
import Derived.Test.YtjlnaiifegjneaaReachI
namespace Go.Proofs.Ytjlnaiifegjneaa
open Go Go.RowKit

noncomputable def dropMix (c : LCode) (k : Nat) : List Bool := (List.range c.list.length).map fun i => if i < k then !keepB c i else (reachB c).getD i false
theorem dropMix_len (c : LCode) (k : Nat) : (dropMix c k).length = c.list.length := by simp [dropMix]
theorem dropMix_zero (c : LCode) : dropMix c 0 = reachB c := by
  apply List.ext_getElem (by rw [dropMix_len, reachB_len])
  intro i h1 h2
  simp [dropMix, h2]
theorem dropMix_succ (c : LCode) (k : Nat) (_h : k < c.list.length) : dropMix c (k + 1) = (dropMix c k).set k (!keepB c k) := by
  apply List.ext_getElem (by simp [dropMix_len])
  intro i h1 h2
  rw [List.getElem_set]
  simp only [dropMix, List.getElem_map, List.getElem_range]
  by_cases e : k = i
  · subst e
    rw [if_pos rfl, if_pos (Nat.lt_succ_self _)]
  · rw [if_neg e]
    by_cases h3 : i < k
    · rw [if_pos (by omega), if_pos h3]
    · rw [if_neg (by omega), if_neg h3]
theorem dropMix_at (c : LCode) (k : Nat) (h : k < c.list.length) : (dropMix c k)[k]? = some ((reachB c).getD k false) := by
  simp [dropMix, h]
theorem dropMix_all (c : LCode) (i : Nat) (h : i < c.list.length) : (dropMix c c.list.length).getD i false = !(keepL c).getD i false := by
  rw [keepL_get c i h]
  simp [dropMix, h]

set_option maxRecDepth 100000 in
set_option maxHeartbeats 4000000 in
theorem impl_trimmed (v : Value) (c : LCode) (hc : codeOk c = true) (w : World) (h : CodeRow w v c) :
    Calls Try.prog 79 #[v] w fun e w' => ∃ z, e = .returned z ∧ CodeOwn w' w.heap.size w'.heap.size z (trimF c) ∧ Below w.heap.size w w' := by
  have hrow := h
  obtain ⟨v1, v2, v3, rfl, h1, h2, h3⟩ := h
  obtain ⟨a3, k3, rfl, -, hm3, -, hc3⟩ := h3.ins
  have hn4 := (codeOk_parts hc).2.2.1
  obtain ⟨n, hn⟩ : ∃ n, n = w.heap.size := ⟨_, rfl⟩
  obtain ⟨W, hW⟩ : ∃ W, W = (w.alloc (.cells #[v1, v2, .slice a3 c.list.length k3] 36)).alloc (.cells #[.slice none 0 0, .slice none 0 0, .slice none 0 0] 36) := ⟨_, rfl⟩
  have B0 : Below w.heap.size w W := by rw [hW]; go_grown
  have sW : W.heap.size = n + 1 + 1 := by rw [hW, hn]; simp
  have L1 : Blk W n [v1, v2, .slice a3 c.list.length k3] := by rw [hW, hn]; exact (Blk.new w [v1, v2, .slice a3 c.list.length k3] _).alloc _
  have L2 : Blk W (n + 1) [.slice none 0 0, .slice none 0 0, .slice none 0 0] := by rw [hW, hn]; exact Blk.new' (w.alloc _) [.slice none 0 0, .slice none 0 0, .slice none 0 0] _ (by simp)
  have x0 := L1.cell 0
  have x1 := L1.cell 1
  have x2 := L1.cell 2
  simp only [List.getElem?_cons_zero, List.getElem?_cons_succ] at x0 x1 x2
  rw [hW, hn] at x0 x1 x2
  go_enter Try.func79, Try.ntmps79
  go_wp2_with fail
  rw [← hW, ← hn]
  clear hW x0 x1 x2
  refine (impl_reachable _ c hc _ (hrow.below B0)).mono ?_
  rintro e w1 ⟨ud, rfl, od, b1⟩
  obtain ⟨ad, kd, rfl⟩ := od.form
  replace L1 := L1.below b1 L1.lt
  replace L2 := L2.below b1 L2.lt
  have B1 := B0.trans (b1.mono B0.size)
  have s1 := b1.size
  have od' := od.wide (show n + 1 + 1 ≤ W.heap.size by omega) (Nat.le_refl _)
  have HN := show Hid (n = w.heap.size) from hn
  have HI := show Hid _ from hc3
  have x2 := L1.cell 2
  simp only [List.getElem?_cons_zero, List.getElem?_cons_succ] at x2
  clear hc3 hn od
  go_wp2_with fail
  clear x2
  rw [← dropMix_zero] at od'
  obtain ⟨H, hH⟩ : ∃ H, H = w1.heap.size := ⟨_, rfl⟩
  rw [← hH] at od'
  have hHs : H ≤ w1.heap.size := by omega
  clear hH
  go_loopw [4, 5, 11] (fun _ _ i wr => ∃ k : Nat, k ≤ c.list.length ∧ i = .int .i64 k ∧ Blk wr n [v1, v2, .slice a3 c.list.length k3] ∧ Blk wr (n + 1) [.slice none 0 0, .slice none 0 0, .slice none 0 0] ∧ Own wr (n + 1 + 1) H 4 1 (.slice ad c.list.length kd) c.list.length (bools (dropMix c k)) ∧ Below w.heap.size w wr ∧ H ≤ wr.heap.size) (fun _ _ i _ => c.list.length - (intOf i).toNat)
  case atStart => exact ⟨0, Nat.zero_le _, rfl, L1, L2, od', B1, hHs⟩
  case round =>
    obtain ⟨k, hk, rfl, hL1, hL2, ho, hb, hHr⟩ := hrel
    clear L1 L2 od' B1
    by_cases hlt : k < c.list.length
    · obtain ⟨b, off, he3, hb3, i0, i1, i2, i3, i4⟩ := HI.out k hlt
      rw [← (bcell hb).1 _ _ hb3] at i0 i1 i2 i3 i4
      have HK : Hid (keepB c k = ((reachB c).getD k false && !(decide (c.list[k].op = 8) && decide (c.list[k].a = (k : Int) + 1)))) := by unfold Hid keepB hopB; rw [insAt_get hlt]
      have HS := show Hid _ from dropMix_succ c k hlt
      obtain ⟨x, hx⟩ : ∃ x, x = c.list[k] := ⟨_, rfl⟩
      rw [← hx] at i0 i1 i2 i3 i4 HK
      clear hx
      subst he3
      have hki : (k : Int) < c.list.length := by omega
      obtain ⟨g, cap, hv, hg1, hg2, hg3, -, -, hgf, hgc⟩ := ho.open (by omega)
      cases hv
      have hdl : k < (dropMix c k).length := by rw [dropMix_len]; exact hlt
      have yk := hgc k _ (bools_get _ k hdl)
      have hde : (dropMix c k)[k] = (reachB c).getD k false := by
        have := dropMix_at c k hlt
        rw [List.getElem?_eq_getElem hdl] at this
        exact Option.some.inj this
      rw [hde] at yk
      have b4 : Below wr.heap.size wr (wr.alloc (.cells #[.int .i64 x.op, .int .i64 x.a, .int .i64 x.b, .int .i64 x.c, .int .i64 x.d] 66)) := by go_grown
      have yw := ((bcell b4).1 _ k hg3).trans yk
      have fw := ((bcell b4).2 _ k hg3).trans (hgf k)
      have hfin : ∀ z : Bool, z = !keepB c k → Blk ((wr.setCell ⟨g, k, none⟩ (.bool z)).alloc (.cells #[.int .i64 x.op, .int .i64 x.a, .int .i64 x.b, .int .i64 x.c, .int .i64 x.d] 66)) n [v1, v2, .slice (some ⟨b, off, none⟩) c.list.length k3] ∧ Blk ((wr.setCell ⟨g, k, none⟩ (.bool z)).alloc (.cells #[.int .i64 x.op, .int .i64 x.a, .int .i64 x.b, .int .i64 x.c, .int .i64 x.d] 66)) (n + 1) [.slice none 0 0, .slice none 0 0, .slice none 0 0] ∧
          Own ((wr.setCell ⟨g, k, none⟩ (.bool z)).alloc (.cells #[.int .i64 x.op, .int .i64 x.a, .int .i64 x.b, .int .i64 x.c, .int .i64 x.d] 66)) (n + 1 + 1) H 4 1 (.slice (some ⟨g, 0, none⟩) c.list.length kd) c.list.length (bools (dropMix c (k + 1))) ∧ Below w.heap.size w ((wr.setCell ⟨g, k, none⟩ (.bool z)).alloc (.cells #[.int .i64 x.op, .int .i64 x.a, .int .i64 x.b, .int .i64 x.c, .int .i64 x.d] 66)) ∧ H ≤ ((wr.setCell ⟨g, k, none⟩ (.bool z)).alloc (.cells #[.int .i64 x.op, .int .i64 x.a, .int .i64 x.b, .int .i64 x.c, .int .i64 x.d] 66)).heap.size := by
        intro z hz
        have h1 := ho.setCell (j := k) (by simpa [bools] using hdl) (.bool z)
        rw [show (bools (dropMix c k)).set k (.bool z) = bools ((dropMix c k).set k z) by simp [bools, List.map_set], hz, ← HS.out, ← hz] at h1
        have bb : Below (wr.setCell ⟨g, k, none⟩ (.bool z)).heap.size (wr.setCell ⟨g, k, none⟩ (.bool z)) ((wr.setCell ⟨g, k, none⟩ (.bool z)).alloc (.cells #[.int .i64 x.op, .int .i64 x.a, .int .i64 x.b, .int .i64 x.c, .int .i64 x.d] 66)) := by go_grown
        refine ⟨(hL1.other (p := ⟨g, k, none⟩) (by show n ≠ g; omega) _).alloc _, (hL2.other (p := ⟨g, k, none⟩) (by show n + 1 ≠ g; omega) _).alloc _, h1.keep bb (by simpa using hHr), ?_, by simp; omega⟩
        exact (hb.setCell (p := ⟨g, k, none⟩) (by show w.heap.size ≤ g; have := HN.out; omega) _).alloc (by have := hb.size; simpa using this) _
      have HFIN := show Hid _ from hfin
      clear hfin hde hdl yk hgc hgf ho hL1 hL2
      cases hr : (reachB c).getD k false
      · have HV := show Hid (true = !keepB c k) from by unfold Hid; rw [HK.out, hr]; rfl
        rw [hr] at yw
        clear hr
        go_wp2_with fail
        obtain ⟨e1, e2, e3, e4, e5⟩ := HFIN.out _ HV.out
        exact ⟨⟨k + 1, by omega, by go_num, e1, e2, e3, e4, e5⟩, by simp [intOf]; omega⟩
      · rw [hr] at yw
        by_cases h8 : x.op = 8
        · have q8 : (x.op == 8) = true := by simp [h8]
          by_cases ha : x.a = (k : Int) + 1
          · have qa : (x.a == (k : Int) + 1) = true := by simp [ha]
            have HV := show Hid (true = !keepB c k) from by unfold Hid; rw [HK.out, hr]; simp [h8, ha]
            clear hr h8 ha
            go_wp2_with fail
            obtain ⟨e1, e2, e3, e4, e5⟩ := HFIN.out _ HV.out
            exact ⟨⟨k + 1, by omega, by go_num, e1, e2, e3, e4, e5⟩, by simp [intOf]; omega⟩
          · have qa : (x.a == (k : Int) + 1) = false := by simp [ha]
            have HV := show Hid (false = !keepB c k) from by unfold Hid; rw [HK.out, hr]; simp [ha]
            clear hr h8 ha
            go_wp2_with fail
            obtain ⟨e1, e2, e3, e4, e5⟩ := HFIN.out _ HV.out
            exact ⟨⟨k + 1, by omega, by go_num, e1, e2, e3, e4, e5⟩, by simp [intOf]; omega⟩
        · have q8 : (x.op == 8) = false := by simp [h8]
          have HV := show Hid (false = !keepB c k) from by unfold Hid; rw [HK.out, hr]; simp [h8]
          clear hr h8
          go_wp2_with fail
          obtain ⟨e1, e2, e3, e4, e5⟩ := HFIN.out _ HV.out
          exact ⟨⟨k + 1, by omega, by go_num, e1, e2, e3, e4, e5⟩, by simp [intOf]; omega⟩
    · have hkn : k = c.list.length := by omega
      subst hkn
      have x0 := hL1.cell 0
      have x1 := hL1.cell 1
      have x2 := hL1.cell 2
      simp only [List.getElem?_cons_zero, List.getElem?_cons_succ] at x0 x1 x2
      go_wp2_with fail
      refine (impl_without _ _ c (dropMix c c.list.length) (keepL c) hc _ (hrow.below hb) ho.row (keepL_len c) (dropMix_all c)).mono ?_
      rintro e w5 ⟨z, rfl, oz, b5⟩
      obtain ⟨y1, y2, y3, rfl, -⟩ := id oz
      obtain ⟨p1, q1, p2, q2, p3, q3, e1, e2, e3⟩ := Code.rowOf oz
      simp only at e1 e2 e3
      subst e1 e2 e3
      have hb5 := hb.trans (b5.mono hb.size)
      have hL25 := hL2.below b5 hL2.lt
      have hz2 := hL2.lt
      clear x0 x1 x2
      have z0 := hL25.cell 0
      have z1 := hL25.cell 1
      have z2 := hL25.cell 2
      simp only [List.getElem?_cons_zero, List.getElem?_cons_succ] at z0 z1 z2
      have f0 := hL25.free 0
      have f1 := hL25.free 1
      have f2 := hL25.free 2
      have s5 := b5.size
      go_wp2_with fail
      have hn := HN.out
      obtain ⟨l, hl⟩ : ∃ l, l = trimL c (keepL c) c.list.length := ⟨_, rfl⟩
      rw [← hl] at oz ⊢
      have L4 := ((hL25.set (j := 0) (.slice p1 c.vars.length q1)).set (j := 1) (.slice p2 c.arrays.length q2)).set (j := 2) (.slice p3 l.length q3)
      have hO : Out (n + 1) (n + 1 + 1) w5 (((w5.setCell ⟨n + 1, 0, none⟩ (.slice p1 c.vars.length q1)).setCell ⟨n + 1, 1, none⟩ (.slice p2 c.arrays.length q2)).setCell ⟨n + 1, 2, none⟩ (.slice p3 l.length q3)) :=
        (((Out.refl (n + 1) (n + 1 + 1) w5).setCell (p := ⟨n + 1, 0, none⟩) (Nat.le_refl _) (Nat.lt_succ_self _) _).setCell (p := ⟨n + 1, 1, none⟩) (Nat.le_refl _) (Nat.lt_succ_self _) _).setCell (p := ⟨n + 1, 2, none⟩) (Nat.le_refl _) (Nat.lt_succ_self _) _
      have oF := oz.out hO (.inr (by omega))
      have zF : (((w5.setCell ⟨n + 1, 0, none⟩ (.slice p1 c.vars.length q1)).setCell ⟨n + 1, 1, none⟩ (.slice p2 c.arrays.length q2)).setCell ⟨n + 1, 2, none⟩ (.slice p3 l.length q3)).heap.size = w5.heap.size := by simp
      have BF := ((hb5.setCell (p := ⟨n + 1, 0, none⟩) (by show w.heap.size ≤ n + 1; omega) (.slice p1 c.vars.length q1)).setCell (p := ⟨n + 1, 1, none⟩) (by show w.heap.size ≤ n + 1; omega) (.slice p2 c.arrays.length q2)).setCell (p := ⟨n + 1, 2, none⟩) (by show w.heap.size ≤ n + 1; omega) (.slice p3 l.length q3)
      have r0 := L4.cell 0
      have r1 := L4.cell 1
      have r2 := L4.cell 2
      simp only [List.getElem?_cons_zero, List.getElem?_cons_succ, List.set_cons_zero, List.set_cons_succ] at r0 r1 r2
      generalize ((w5.setCell ⟨n + 1, 0, none⟩ (.slice p1 c.vars.length q1)).setCell ⟨n + 1, 1, none⟩ (.slice p2 c.arrays.length q2)).setCell ⟨n + 1, 2, none⟩ (.slice p3 l.length q3) = WF at *
      have hTF : Hid (trimF c = { c with list := l }) := by unfold Hid trimF; rw [hl]
      exact bodyPost_ret (v := .agg #[.slice p1 c.vars.length q1, .slice p2 c.arrays.length q2, .slice p3 l.length q3]) (by simp [results, Try.results79, go_sem, r0, r1, r2]) rfl ⟨_, rfl, by rw [hTF.out]; exact oF.wide (by omega) (by omega), BF⟩

end Go.Proofs.Ytjlnaiifegjneaa
