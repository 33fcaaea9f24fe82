/-
  Texts of this claim, part 3: what the functions on the way do, and plain laws. Conditions: as each statement says.
-/
import Derived.WalkSpells
import Derived.Lib.SliceRun
import Derived.Test.YtimmlkmpbmbgdaaK2

namespace Go.Proofs.Ytimmlkmpbmbgdaa
set_option linter.unusedVariables false
set_option linter.unusedSimpArgs false
open Go Go.RowKit

theorem impl_operands (k : Int) (w : World) : Calls Try.prog 173 #[.int .i64 k] w fun e w' => e = .returned (.int .i64 (arity k)) ∧ w = w' := by
  by_cases h1 : k = 1
  · subst h1
    go_enter Try.func173, Try.ntmps173
    go_wp2_with fail
    go_ret
    exact ⟨ret_int (by simp [arity]), rfl⟩
  by_cases h2 : k = 2
  · subst h2
    go_enter Try.func173, Try.ntmps173
    go_wp2_with fail
    go_ret
    exact ⟨ret_int (by simp [arity]), rfl⟩
  by_cases h3 : k = 3
  · subst h3
    go_enter Try.func173, Try.ntmps173
    go_wp2_with fail
    go_ret
    exact ⟨ret_int (by simp [arity]), rfl⟩
  have p1 : (k == 1) = false := by simp [h1]
  have p2 : (k == 2) = false := by simp [h2]
  have p3 : (k == 3) = false := by simp [h3]
  have H := show Hid _ from And.intro h1 (And.intro h2 h3)
  clear h1 h2 h3
  go_enter Try.func173, Try.ntmps173
  go_wp2_with fail
  refine (impl_within k 4 10 _).mono ?_
  rintro x w1 ⟨rfl, rfl⟩
  by_cases h4 : 4 ≤ k ∧ k ≤ 10
  · have p4 : (decide (4 ≤ k) && decide (k ≤ 10)) = true := by simp [h4]
    rw [p4]
    have H4 := show Hid _ from h4
    clear h4 p4
    go_wp2_with fail
    go_ret
    exact ⟨ret_int (by have := H.out; have := H4.out; unfold arity; rw [if_neg (by omega), if_neg (by omega), if_pos (by omega)]), rfl⟩
  · have p4 : (decide (4 ≤ k) && decide (k ≤ 10)) = false := by simp; omega
    rw [p4]
    have H4 := show Hid _ from h4
    clear h4 p4
    by_cases h5 : k = 11
    · subst h5
      go_wp2_with fail
      go_ret
      exact ⟨ret_int (by simp [arity]), rfl⟩
    · have p5 : (k == 11) = false := by simp [h5]
      have H5 := show Hid _ from h5
      clear h5
      go_wp2_with fail
      go_ret
      exact ⟨ret_int (by have := H.out; have := H4.out; have := H5.out; unfold arity; rw [if_neg (by omega), if_neg (by omega), if_neg (by omega), if_neg (by omega)]), rfl⟩

theorem scanB_node {nv na d c : Nat} {e : LExpr} (h1 : nodeB nv na e = true) (h2 : readB e = true) : scanB nv na (d + 1) c e = scanPre nv na d (c + 1) e.kids e.kids.length := by
  unfold scanB scanPre
  rw [List.take_of_length_le (Nat.le_refl _), shapeB, h1, h2, szE_kids]
  simp
theorem scanPre_end {nv na d c k : Nat} {ks : List LExpr} (hk : k < ks.length) (hs : scanB nv na d (c + szEs (ks.take k)) ks[k] = false) : scanPre nv na d c ks ks.length = false := by
  unfold scanPre
  rw [List.take_of_length_le (Nat.le_refl _)]
  exact scanPre_fail nv na hk hs
theorem scanB_noNode {nv na d c : Nat} {e : LExpr} (h1 : nodeB nv na e = false) : scanB nv na (d + 1) c e = false := by
  unfold scanB; rw [shapeB, h1]; rfl
theorem scanB_noRead {nv na d c : Nat} {e : LExpr} (h1 : readB e = false) : scanB nv na (d + 1) c e = false := by
  unfold scanB; rw [shapeB, h1]; simp
theorem limit_high {nv na : Nat} {k n h : Int} (hh : h = limit nv na k - 1) : (decide (0 ≤ n) && decide (n ≤ h)) = (decide (0 ≤ n) && decide (n < limit nv na k)) := by
  congr 1; exact decide_eq_decide.2 (by omega)

set_option maxRecDepth 100000 in
set_option maxHeartbeats 8000000 in
theorem impl_scan (a1 a2 : Option Addr) (nv c1 na c2 : Nat) (v3 : Value) (h1 : nv ≤ 9223372036854775807) (h2 : na ≤ 9223372036854775807) : ∀ (d : Nat) (deep : Int), deep + d = 6 → 1 ≤ deep → ∀ (e : LExpr) (φ : Nat → Prop) (v : Value) (c cb : Nat) (w : World), ExprV w φ v e → ¬ φ cb → Blk w cb [.int .i64 c] → c ≤ 15 →
    Calls Try.prog 166 #[.agg #[.slice a1 nv c1, .slice a2 na c2, v3], v, .int .i64 deep, .pointer (some ⟨cb, 0, none⟩)] w fun x w' =>
      x = .returned (.bool (scanB nv na d c e)) ∧ (scanB nv na d c e = true → Blk w' cb [.int .i64 (c + 1 + szE e : Nat)]) ∧ (∃ u, Blk w' cb [u]) ∧ Kept (fun b => ¬ b = cb) w w' := by
  intro d
  induction d with
  | zero =>
    intro deep hdp hd1 e φ v c cb w h hcb hblk hc
    obtain ⟨kv, rfl, hk⟩ := h
    have HF : Hid (scanB nv na 0 c e = false) := rfl
    obtain rfl : deep = 6 := by omega
    have hl := hblk.lt
    have x0 : w.cell? ⟨cb, 0, none⟩ = some (.int .i64 c) := (hblk.cell 0).trans rfl
    have f0 := hblk.free
    obtain ⟨W, hW, M⟩ : ∃ W, W = (((w.setCell ⟨cb, 0, none⟩ (.int .i64 ((c : Int) + 1))).alloc (.cells #[.slice a1 nv c1, .slice a2 na c2, v3] 31)).alloc (.cells #[.int .i64 e.kind, .int .i64 e.value, kv] 58)) ∧ Mem (fun _ => True) (fun b => ¬ b = cb) w W [.box cb [.int .i64 ((c : Int) + 1)]] :=
      ⟨_, rfl, (((Mem.start fun _ _ => trivial).adopt (.box cb [.int .i64 c]) (fun _ ha => by cases ha) trivial hblk (fun _ ha => by cases ha) (fun g hg hn => by cases hg; exact hn rfl)).set 0 rfl 0 (.int .i64 ((c : Int) + 1))).call (by go_grown)⟩
    have y0 := M.c 0 0 rfl rfl
    have z0 := fun X => ext_cell y0 X
    clear hk y0 hblk
    by_cases q : (15 : Int) < (c : Int) + 1
    · have p : decide ((15 : Int) < (c : Int) + 1) = true := by simp; omega
      clear q
      go_enter Try.func166, Try.ntmps166
      go_wp2_with fail
      rw [← hW]
      clear hW
      refine wp_region_ext (by kernel_rfl) (by kernel_rfl) ?_
      repeat (any_goals (first | go_big_quiet_step (((fail))) | quiet_step (((fail)))))
      refine wpQuiet_nil ?_
      rintro _ ⟨X, rfl⟩
      replace M := M.call (ext_below W X)
      go_wp2_with fail
      go_ret
      exact ⟨ret_bool (by rw [HF.out]), fun h => absurd (h.symm.trans HF.out) (by simp), ⟨_, M.blk 0 rfl⟩, M.kept⟩
    · have p : decide ((15 : Int) < (c : Int) + 1) = false := by simp; omega
      clear q
      go_enter Try.func166, Try.ntmps166
      go_wp2_with fail
      rw [← hW]
      clear hW
      refine wp_region_ext (by kernel_rfl) (by kernel_rfl) ?_
      repeat (any_goals (first | go_big_quiet_step (((fail))) | quiet_step (((fail)))))
      refine wpQuiet_nil ?_
      rintro _ ⟨X, rfl⟩
      replace M := M.call (ext_below W X)
      go_wp2_with fail
      go_ret
      exact ⟨ret_bool (by rw [HF.out]), fun h => absurd (h.symm.trans HF.out) (by simp), ⟨_, M.blk 0 rfl⟩, M.kept⟩
  | succ d ih =>
    intro deep hdp hd1 e φ v c cb w h hcb hblk hc
    obtain ⟨kv, rfl, hk⟩ := h
    obtain ⟨ak, ck, rfl, -, hn, -, -⟩ := hk.open
    have hl := hblk.lt
    have hd5 : deep ≤ 5 := by omega
    obtain ⟨φ', hφ'⟩ : ∃ φ' : Nat → Prop, φ' = fun b => φ b ∨ w.heap.size ≤ b := ⟨_, rfl⟩
    have x0 : w.cell? ⟨cb, 0, none⟩ = some (.int .i64 c) := (hblk.cell 0).trans rfl
    have f0 := hblk.free
    obtain ⟨W, hW, M⟩ : ∃ W, W = (((w.setCell ⟨cb, 0, none⟩ (.int .i64 ((c : Int) + 1))).alloc (.cells #[.slice a1 nv c1, .slice a2 na c2, v3] 31)).alloc (.cells #[.int .i64 e.kind, .int .i64 e.value, .slice ak e.kids.length ck] 58)) ∧
        Mem φ' (fun b => ¬ b = cb) w W [.box cb [.int .i64 ((c : Int) + 1)], .box w.heap.size [.slice a1 nv c1, .slice a2 na c2, v3], .box (w.heap.size + 1) [.int .i64 e.kind, .int .i64 e.value, .slice ak e.kids.length ck], .dat (fun w φ => KidsV w φ (.slice ak e.kids.length ck) e.kids)] := by
      refine ⟨_, rfl, (((((Mem.start (by rw [hφ']; exact fun _ h => .inr h)).adopt (.box cb [.int .i64 c]) (fun _ ha => by cases ha) trivial hblk (fun _ ha => by cases ha) (fun g hg hn => by cases hg; exact hn rfl)).set 0 rfl 0 (.int .i64 ((c : Int) + 1))).box' _ _ (by simp)).box' _ _ (by simp)).dat (KidsV.nice _ _) (KidsV.nice _ _ _ _ _ _ ⟨by simp; omega, fun b hb hf => ⟨⟨by rw [hφ']; exact .inl hf, fun r hr he => ?_⟩, ?_⟩⟩ hk)⟩
      · simp at hr
        rcases hr with rfl | rfl | rfl
        · cases he; exact hcb hf
        · cases he; omega
        · cases he; omega
      · have hbc : b ≠ cb := fun he => hcb (he ▸ hf)
        exact (((Below.refl w.heap.size (w.setCell ⟨cb, 0, none⟩ (.int .i64 ((c : Int) + 1)))).alloc (by simp) _ |>.alloc (by simp) _).block b (by simpa using hb)).trans (Below.heap_setCell _ _ _ _ hbc)
    clear hk hblk hφ'
    have y0 := M.c 0 0 rfl rfl
    have y1 := M.c 2 0 rfl rfl
    have y2 := M.c 2 2 rfl rfl
    have z0 := fun X => ext_cell y0 X
    have z1 := fun X => ext_cell y1 X
    have z2 := fun X => ext_cell y2 X
    have HA : Hid (∀ X, Calls Try.prog 173 #[.int .i64 e.kind] (W.ext X) fun x w'' => x = .returned (.int .i64 (arity e.kind)) ∧ ∃ Y, w'' = W.ext Y) := fun X =>
      Calls.ext_of' ((impl_operands e.kind _).mono fun x w' h => ⟨h.1, h.2 ▸ Below.refl _ _⟩)
    clear y0 y1 y2
    have p2 : decide ((5 : Int) < deep) = false := decide_eq_false (by omega)
    by_cases q1 : (15 : Int) < (c : Int) + 1
    · have p1 : decide ((15 : Int) < (c : Int) + 1) = true := decide_eq_true q1
      have HF : Hid (scanB nv na (d + 1) c e = false) := by unfold Hid scanB; rw [decide_eq_false (by omega), Bool.and_false]
      clear q1
      go_enter Try.func166, Try.ntmps166
      go_wp2_with fail
      rw [← hW]
      clear hW
      refine wp_region_ext (by kernel_rfl) (by kernel_rfl) ?_
      repeat (any_goals (first | go_big_quiet_step (((go_at_call 173; exact HA.out _))) | quiet_step (((go_at_call 173; exact HA.out _)))))
      refine wpQuiet_nil ?_
      rintro _ ⟨X, rfl⟩
      replace M := M.call (ext_below W X)
      go_wp2_with fail
      go_ret
      exact ⟨ret_bool (by rw [HF.out]), fun h => absurd (h.symm.trans HF.out) (by simp), ⟨_, M.blk 0 rfl⟩, M.kept⟩
    have p1 : decide ((15 : Int) < (c : Int) + 1) = false := decide_eq_false q1
    by_cases q3 : (e.kids.length : Int) = arity e.kind
    case neg =>
      have p3 : (arity e.kind != (e.kids.length : Int)) = true := by simp; omega
      have HF : Hid (scanB nv na (d + 1) c e = false) := scanB_noNode (by unfold nodeB; rw [decide_eq_false q3]; rfl)
      clear q1 q3
      go_enter Try.func166, Try.ntmps166
      go_wp2_with fail
      rw [← hW]
      clear hW
      refine wp_region_ext (by kernel_rfl) (by kernel_rfl) ?_
      repeat (any_goals (first | go_big_quiet_step (((go_at_call 173; exact HA.out _))) | quiet_step (((go_at_call 173; exact HA.out _)))))
      refine wpQuiet_nil ?_
      rintro _ ⟨X, rfl⟩
      replace M := M.call (ext_below W X)
      go_wp2_with fail
      go_ret
      exact ⟨ret_bool (by rw [HF.out]), fun h => absurd (h.symm.trans HF.out) (by simp), ⟨_, M.blk 0 rfl⟩, M.kept⟩
    have p3 : (arity e.kind != (e.kids.length : Int)) = false := by simp; omega
    have HQ := show Hid _ from And.intro q1 q3
    clear q1 q3
    go_enter Try.func166, Try.ntmps166
    go_wp2_with fail
    rw [← hW]
    clear hW
    refine wp_region_ext (by kernel_rfl) (by kernel_rfl) ?_
    repeat (any_goals (first | go_big_quiet_step (((go_at_call 173; exact HA.out _))) | quiet_step (((go_at_call 173; exact HA.out _)))))
    refine wpQuiet_nil ?_
    rintro _ ⟨X, rfl⟩
    replace M := M.call (ext_below W X)
    generalize W.ext X = W1 at *
    clear z0 z1 z2 HA p1 p2 p3 f0 x0
    have y0 := M.c 1 0 rfl rfl
    have y1 := M.c 1 1 rfl rfl
    have y2 := M.c 2 0 rfl rfl
    have y3 := M.c 2 1 rfl rfl
    have y4 := M.c 2 2 rfl rfl
    have HM := show Hid _ from M
    clear M
    -- KINDS
    by_cases k1 : e.kind = 1
    · have qq1 : (e.kind == 1) = true := by simp [k1]
      have qq2 : (e.kind == 3) = false := by simp [k1]
      have HRD : Hid (readB e = true) := by unfold Hid readB; simp [k1]
      have hhi : (255 : Int) = limit nv na e.kind - 1 := by rw [k1]; simp [limit]
      clear k1
      have HNB := show Hid (nodeB nv na e = (decide (0 ≤ e.value) && decide (e.value ≤ 255))) from by
        unfold Hid nodeB; rw [decide_eq_true HQ.out.2, limit_high hhi]; rfl
      clear hhi
      go_wp2_with fail
      refine (impl_within e.value 0 _ _).mono ?_
      rintro x w1 ⟨rfl, rfl⟩
      have HNB2 := show Hid (nodeB nv na e = (decide (0 ≤ e.value) && decide (e.value ≤ 255))) from HNB.out
      clear HNB
      obtain ⟨qn, hqn⟩ : ∃ qn, qn = (decide (0 ≤ e.value) && decide (e.value ≤ 255)) := ⟨_, rfl⟩
      rw [← hqn]
      have HN := show Hid (nodeB nv na e = qn) from HNB2.out.trans hqn.symm
      clear hqn HNB2
      cases qn
      · have HF : Hid (scanB nv na (d + 1) c e = false) := scanB_noNode HN.out
        have M := HM.out
        clear HM
        go_wp2_with fail
        go_ret
        exact ⟨ret_bool (by rw [HF.out]), fun h => absurd (h.symm.trans HF.out) (by simp), ⟨_, M.blk 0 rfl⟩, M.kept⟩
      have HSC : Hid (scanB nv na (d + 1) c e = scanPre nv na d (c + 1) e.kids e.kids.length) := scanB_node HN.out HRD.out
      go_wp2_with fail
      clear y0 y1 y2 y3 y4
      have HST : Hid (scanPre nv na d (c + 1) e.kids 0 = true ∧ Mem φ' (fun b => ¬ b = cb) w W1 [.box cb [.int .i64 (c + 1 + szEs (e.kids.take 0) : Nat)], .box w.heap.size [.slice a1 nv c1, .slice a2 na c2, v3], .box (w.heap.size + 1) [.int .i64 e.kind, .int .i64 e.value, .slice ak e.kids.length ck], .dat (fun w φ => KidsV w φ (.slice ak e.kids.length ck) e.kids)]) := by
        refine ⟨?_, ?_⟩
        · have := HQ.out.1
          simp [scanPre, szEs]; omega
        · rw [show ((c + 1 + szEs (e.kids.take 0) : Nat) : Int) = (c : Int) + 1 by simp [szEs]]
          exact HM.out
      go_loopw [71] (fun i wr => ∃ k : Nat, k ≤ e.kids.length ∧ i = .int .i64 k ∧ scanPre nv na d (c + 1) e.kids k = true ∧ Mem φ' (fun b => ¬ b = cb) w wr [.box cb [.int .i64 (c + 1 + szEs (e.kids.take k) : Nat)], .box w.heap.size [.slice a1 nv c1, .slice a2 na c2, v3], .box (w.heap.size + 1) [.int .i64 e.kind, .int .i64 e.value, .slice ak e.kids.length ck], .dat (fun w φ => KidsV w φ (.slice ak e.kids.length ck) e.kids)]) (fun i _ => e.kids.length - (intOf i).toNat)
      case atStart => exact ⟨0, Nat.zero_le _, rfl, HST.out.1, HST.out.2⟩
      case round =>
        clear HM
        obtain ⟨k, hk, rfl, hpre, M⟩ := hrel
        have HPRE := show Hid _ from hpre
        have hle : c + 1 + szEs (e.kids.take k) ≤ 15 := by unfold scanPre at hpre; simp at hpre; exact hpre.2
        clear hpre
        by_cases hlt : k < e.kids.length
        · have hncb : ¬ Fr φ' [.box cb [.int .i64 (c + 1 + szEs (e.kids.take k) : Nat)], .box w.heap.size [.slice a1 nv c1, .slice a2 na c2, v3], .box (w.heap.size + 1) [.int .i64 e.kind, .int .i64 e.value, .slice ak e.kids.length ck], .dat (fun w φ => KidsV w φ (.slice ak e.kids.length ck) e.kids)] cb := fun h => h.2 _ List.mem_cons_self rfl
          obtain ⟨a', c', he, -, -, -, hcell⟩ := (M.d 3 rfl).open
          cases he
          obtain ⟨b, off, kv, hbo, hbk, hf, g0, g1, g2, hkk⟩ := hcell k hlt
          cases hbo
          obtain ⟨ka, kc, rfl, -, -, -, -⟩ := hkk.open
          have bz : Below wr.heap.size wr (wr.alloc (.cells #[.int .i64 e.kids[k].kind, .int .i64 e.kids[k].value, .slice ka e.kids[k].kids.length kc] 58)) := by go_grown
          have HE := show Hid _ from KidsV.nice _ _ _ _ _ _ (Agr.below bz) hkk
          have HNCB := show Hid _ from hncb
          have x0 := M.c 1 0 rfl rfl
          have x1 := M.c 1 1 rfl rfl
          have x2 := M.c 1 2 rfl rfl
          have s1 : w.heap.size < wr.heap.size := M.lt (r := .box w.heap.size [.slice a1 nv c1, .slice a2 na c2, v3]) (List.mem_cons_of_mem _ List.mem_cons_self) rfl
          have HM := show Hid _ from M.box [.int .i64 e.kids[k].kind, .int .i64 e.kids[k].value, .slice ka e.kids[k].kids.length kc] 58
          have HP := show Hid _ from scanPre_succ nv na (d := d) (c := c + 1) hlt
          have HX := show Hid (scanB nv na d (c + 1 + szEs (e.kids.take k)) e.kids[k] = false → scanB nv na (d + 1) c e = false) from fun h => HSC.out.trans (scanPre_end hlt h)
          have HT := show Hid _ from szEs_take1 hlt
          clear hcell hncb bz hkk M
          go_wp2_with fail
          refine (ih (deep + 1) (by omega) (by omega) e.kids[k] _ _ (c + 1 + szEs (e.kids.take k)) cb _ ⟨_, rfl, HE.out⟩ HNCB.out (HM.out.blk 0 rfl) hle).mono ?_
          rintro x w2 ⟨rfl, r1, ⟨u, r2⟩, kp⟩
          obtain ⟨q, hq⟩ : ∃ q, q = scanB nv na d (c + 1 + szEs (e.kids.take k)) e.kids[k] := ⟨_, rfl⟩
          rw [← hq] at r1 ⊢
          have HQ2 := show Hid _ from hq
          clear hq x0 x1 x2 g0 g1 g2
          cases q
          · have M2 := HM.out.callB 0 rfl kp r2
            have HF := show Hid _ from HX.out HQ2.out.symm
            clear r1 r2 kp
            go_wp2_with fail
            go_ret
            exact ⟨ret_bool (by rw [HF.out]), fun h => absurd (h.symm.trans HF.out) (by simp), ⟨_, M2.blk 0 rfl⟩, M2.kept⟩
          · have M2 := (HM.out.callB 0 rfl kp (r1 rfl)).take 4
            have HM2 := show Hid _ from M2
            clear r1 r2 kp M2
            go_wp2_with fail
            refine ⟨⟨k + 1, by omega, by go_num, by rw [HP.out, HPRE.out, ← HQ2.out]; rfl, ?_⟩, by simp [intOf]; omega⟩
            rw [HT.out, show c + 1 + (szEs (e.kids.take k) + (1 + szE e.kids[k])) = c + 1 + szEs (e.kids.take k) + 1 + szE e.kids[k] by omega]
            exact HM2.out
        · have hkn : k = e.kids.length := by omega
          subst hkn
          have HM := show Hid _ from M
          have HS : Hid (scanB nv na (d + 1) c e = true) := HSC.out.trans HPRE.out
          clear M
          go_wp2_with fail
          go_ret
          refine ⟨ret_bool (by rw [HS.out]), fun _ => ?_, ⟨_, HM.out.blk 0 rfl⟩, HM.out.kept⟩
          have := HM.out.blk 0 rfl
          rw [List.take_of_length_le (Nat.le_refl _)] at this
          rw [szE_kids]
          exact this
    have k1' : (e.kind == 1) = false := by simp [k1]
    by_cases k2 : e.kind = 2
    · have qq1 : (e.kind == 2) = true := by simp [k2]
      have qq2 : (e.kind == 3) = false := by simp [k2]
      have HRD : Hid (readB e = true) := by unfold Hid readB; simp [k2]
      have hhi : (nv : Int) - 1 = limit nv na e.kind - 1 := by rw [k2]; simp [limit]
      clear k1 k2
      have HNB := show Hid (nodeB nv na e = (decide (0 ≤ e.value) && decide (e.value ≤ (nv : Int) - 1))) from by
        unfold Hid nodeB; rw [decide_eq_true HQ.out.2, limit_high hhi]; rfl
      clear hhi
      go_wp2_with fail
      refine (impl_within e.value 0 _ _).mono ?_
      rintro x w1 ⟨rfl, rfl⟩
      have HNB2 := show Hid (nodeB nv na e = (decide (0 ≤ e.value) && decide (e.value ≤ (nv : Int) - 1))) from HNB.out
      clear HNB
      obtain ⟨qn, hqn⟩ : ∃ qn, qn = (decide (0 ≤ e.value) && decide (e.value ≤ (nv : Int) - 1)) := ⟨_, rfl⟩
      rw [← hqn]
      have HN := show Hid (nodeB nv na e = qn) from HNB2.out.trans hqn.symm
      clear hqn HNB2
      cases qn
      · have HF : Hid (scanB nv na (d + 1) c e = false) := scanB_noNode HN.out
        have M := HM.out
        clear HM
        go_wp2_with fail
        go_ret
        exact ⟨ret_bool (by rw [HF.out]), fun h => absurd (h.symm.trans HF.out) (by simp), ⟨_, M.blk 0 rfl⟩, M.kept⟩
      have HSC : Hid (scanB nv na (d + 1) c e = scanPre nv na d (c + 1) e.kids e.kids.length) := scanB_node HN.out HRD.out
      go_wp2_with fail
      clear y0 y1 y2 y3 y4
      have HST : Hid (scanPre nv na d (c + 1) e.kids 0 = true ∧ Mem φ' (fun b => ¬ b = cb) w W1 [.box cb [.int .i64 (c + 1 + szEs (e.kids.take 0) : Nat)], .box w.heap.size [.slice a1 nv c1, .slice a2 na c2, v3], .box (w.heap.size + 1) [.int .i64 e.kind, .int .i64 e.value, .slice ak e.kids.length ck], .dat (fun w φ => KidsV w φ (.slice ak e.kids.length ck) e.kids)]) := by
        refine ⟨?_, ?_⟩
        · have := HQ.out.1
          simp [scanPre, szEs]; omega
        · rw [show ((c + 1 + szEs (e.kids.take 0) : Nat) : Int) = (c : Int) + 1 by simp [szEs]]
          exact HM.out
      go_loopw [71] (fun i wr => ∃ k : Nat, k ≤ e.kids.length ∧ i = .int .i64 k ∧ scanPre nv na d (c + 1) e.kids k = true ∧ Mem φ' (fun b => ¬ b = cb) w wr [.box cb [.int .i64 (c + 1 + szEs (e.kids.take k) : Nat)], .box w.heap.size [.slice a1 nv c1, .slice a2 na c2, v3], .box (w.heap.size + 1) [.int .i64 e.kind, .int .i64 e.value, .slice ak e.kids.length ck], .dat (fun w φ => KidsV w φ (.slice ak e.kids.length ck) e.kids)]) (fun i _ => e.kids.length - (intOf i).toNat)
      case atStart => exact ⟨0, Nat.zero_le _, rfl, HST.out.1, HST.out.2⟩
      case round =>
        clear HM
        obtain ⟨k, hk, rfl, hpre, M⟩ := hrel
        have HPRE := show Hid _ from hpre
        have hle : c + 1 + szEs (e.kids.take k) ≤ 15 := by unfold scanPre at hpre; simp at hpre; exact hpre.2
        clear hpre
        by_cases hlt : k < e.kids.length
        · have hncb : ¬ Fr φ' [.box cb [.int .i64 (c + 1 + szEs (e.kids.take k) : Nat)], .box w.heap.size [.slice a1 nv c1, .slice a2 na c2, v3], .box (w.heap.size + 1) [.int .i64 e.kind, .int .i64 e.value, .slice ak e.kids.length ck], .dat (fun w φ => KidsV w φ (.slice ak e.kids.length ck) e.kids)] cb := fun h => h.2 _ List.mem_cons_self rfl
          obtain ⟨a', c', he, -, -, -, hcell⟩ := (M.d 3 rfl).open
          cases he
          obtain ⟨b, off, kv, hbo, hbk, hf, g0, g1, g2, hkk⟩ := hcell k hlt
          cases hbo
          obtain ⟨ka, kc, rfl, -, -, -, -⟩ := hkk.open
          have bz : Below wr.heap.size wr (wr.alloc (.cells #[.int .i64 e.kids[k].kind, .int .i64 e.kids[k].value, .slice ka e.kids[k].kids.length kc] 58)) := by go_grown
          have HE := show Hid _ from KidsV.nice _ _ _ _ _ _ (Agr.below bz) hkk
          have HNCB := show Hid _ from hncb
          have x0 := M.c 1 0 rfl rfl
          have x1 := M.c 1 1 rfl rfl
          have x2 := M.c 1 2 rfl rfl
          have s1 : w.heap.size < wr.heap.size := M.lt (r := .box w.heap.size [.slice a1 nv c1, .slice a2 na c2, v3]) (List.mem_cons_of_mem _ List.mem_cons_self) rfl
          have HM := show Hid _ from M.box [.int .i64 e.kids[k].kind, .int .i64 e.kids[k].value, .slice ka e.kids[k].kids.length kc] 58
          have HP := show Hid _ from scanPre_succ nv na (d := d) (c := c + 1) hlt
          have HX := show Hid (scanB nv na d (c + 1 + szEs (e.kids.take k)) e.kids[k] = false → scanB nv na (d + 1) c e = false) from fun h => HSC.out.trans (scanPre_end hlt h)
          have HT := show Hid _ from szEs_take1 hlt
          clear hcell hncb bz hkk M
          go_wp2_with fail
          refine (ih (deep + 1) (by omega) (by omega) e.kids[k] _ _ (c + 1 + szEs (e.kids.take k)) cb _ ⟨_, rfl, HE.out⟩ HNCB.out (HM.out.blk 0 rfl) hle).mono ?_
          rintro x w2 ⟨rfl, r1, ⟨u, r2⟩, kp⟩
          obtain ⟨q, hq⟩ : ∃ q, q = scanB nv na d (c + 1 + szEs (e.kids.take k)) e.kids[k] := ⟨_, rfl⟩
          rw [← hq] at r1 ⊢
          have HQ2 := show Hid _ from hq
          clear hq x0 x1 x2 g0 g1 g2
          cases q
          · have M2 := HM.out.callB 0 rfl kp r2
            have HF := show Hid _ from HX.out HQ2.out.symm
            clear r1 r2 kp
            go_wp2_with fail
            go_ret
            exact ⟨ret_bool (by rw [HF.out]), fun h => absurd (h.symm.trans HF.out) (by simp), ⟨_, M2.blk 0 rfl⟩, M2.kept⟩
          · have M2 := (HM.out.callB 0 rfl kp (r1 rfl)).take 4
            have HM2 := show Hid _ from M2
            clear r1 r2 kp M2
            go_wp2_with fail
            refine ⟨⟨k + 1, by omega, by go_num, by rw [HP.out, HPRE.out, ← HQ2.out]; rfl, ?_⟩, by simp [intOf]; omega⟩
            rw [HT.out, show c + 1 + (szEs (e.kids.take k) + (1 + szE e.kids[k])) = c + 1 + szEs (e.kids.take k) + 1 + szE e.kids[k] by omega]
            exact HM2.out
        · have hkn : k = e.kids.length := by omega
          subst hkn
          have HM := show Hid _ from M
          have HS : Hid (scanB nv na (d + 1) c e = true) := HSC.out.trans HPRE.out
          clear M
          go_wp2_with fail
          go_ret
          refine ⟨ret_bool (by rw [HS.out]), fun _ => ?_, ⟨_, HM.out.blk 0 rfl⟩, HM.out.kept⟩
          have := HM.out.blk 0 rfl
          rw [List.take_of_length_le (Nat.le_refl _)] at this
          rw [szE_kids]
          exact this
    have k2' : (e.kind == 2) = false := by simp [k2]
    by_cases k3 : e.kind = 3
    · have qq1 : (e.kind == 3) = true := by simp [k3]
      have qq2 := k2'
      have HRD : Hid (e.kind = 3) := k3
      have hhi : (na : Int) - 1 = limit nv na e.kind - 1 := by rw [k3]; simp [limit]
      clear k1 k2 k3
      have HNB := show Hid (nodeB nv na e = (decide (0 ≤ e.value) && decide (e.value ≤ (na : Int) - 1))) from by
        unfold Hid nodeB; rw [decide_eq_true HQ.out.2, limit_high hhi]; rfl
      clear hhi
      go_wp2_with fail
      refine (impl_within e.value 0 _ _).mono ?_
      rintro x w1 ⟨rfl, rfl⟩
      have HNB2 := show Hid (nodeB nv na e = (decide (0 ≤ e.value) && decide (e.value ≤ (na : Int) - 1))) from HNB.out
      clear HNB
      obtain ⟨qn, hqn⟩ : ∃ qn, qn = (decide (0 ≤ e.value) && decide (e.value ≤ (na : Int) - 1)) := ⟨_, rfl⟩
      rw [← hqn]
      have HN := show Hid (nodeB nv na e = qn) from HNB2.out.trans hqn.symm
      clear hqn HNB2
      cases qn
      · have HF : Hid (scanB nv na (d + 1) c e = false) := scanB_noNode HN.out
        have M := HM.out
        clear HM
        go_wp2_with fail
        go_ret
        exact ⟨ret_bool (by rw [HF.out]), fun h => absurd (h.symm.trans HF.out) (by simp), ⟨_, M.blk 0 rfl⟩, M.kept⟩
      have hl1 : e.kids.length = 1 := by have := HQ.out.2; rw [HRD.out] at this; simp [arity] at this; omega
      have hpos : 0 < (e.kids.length : Int) := by omega
      obtain ⟨a', c', he, -, -, -, hcell⟩ := (HM.out.d 3 rfl).open
      have e1 : ak = a' := by cases he; rfl
      have e2 : ck = c' := by cases he; rfl
      subst e1 e2
      obtain ⟨b, off, kv, rfl, hbk, hf, g0, g1, g2, hkk⟩ := hcell 0 (by omega)
      simp only [Nat.zero_mul, Nat.add_zero] at g0 g1 g2
      have HR := show Hid _ from readB_get HRD.out (by omega)
      clear hcell hkk
      go_wp2_with fail
      refine (impl_isPlain _ _ _ _).mono ?_
      rintro x w2 ⟨rfl, b2⟩
      replace HM := show Hid _ from HM.out.call b2
      obtain ⟨qr, hqr⟩ : ∃ qr, qr = (decide ((e.kids[0]'(by omega)).kind = 1) || decide ((e.kids[0]'(by omega)).kind = 2)) := ⟨_, rfl⟩
      rw [← hqr]
      have HRR := show Hid (readB e = qr) from HR.out.trans hqr.symm
      clear hqr b2 HR g0 g1 g2
      cases qr
      · have HF : Hid (scanB nv na (d + 1) c e = false) := scanB_noRead HRR.out
        have M := HM.out
        clear HM
        go_wp2_with fail
        go_ret
        exact ⟨ret_bool (by rw [HF.out]), fun h => absurd (h.symm.trans HF.out) (by simp), ⟨_, M.blk 0 rfl⟩, M.kept⟩
      clear y0 y1 y2 y3 y4
      have y4 := HM.out.c 2 2 rfl rfl
      have HSC : Hid (scanB nv na (d + 1) c e = scanPre nv na d (c + 1) e.kids e.kids.length) := scanB_node HN.out HRR.out
      go_wp2_with fail
      clear y4
      have HST : Hid (scanPre nv na d (c + 1) e.kids 0 = true ∧ Mem φ' (fun b => ¬ b = cb) w w2 [.box cb [.int .i64 (c + 1 + szEs (e.kids.take 0) : Nat)], .box w.heap.size [.slice a1 nv c1, .slice a2 na c2, v3], .box (w.heap.size + 1) [.int .i64 e.kind, .int .i64 e.value, .slice (some ⟨b, off, none⟩) e.kids.length ck], .dat (fun w φ => KidsV w φ (.slice (some ⟨b, off, none⟩) e.kids.length ck) e.kids)]) := by
        refine ⟨?_, ?_⟩
        · have := HQ.out.1
          simp [scanPre, szEs]; omega
        · rw [show ((c + 1 + szEs (e.kids.take 0) : Nat) : Int) = (c : Int) + 1 by simp [szEs]]
          exact HM.out
      go_loopw [71] (fun i wr => ∃ k : Nat, k ≤ e.kids.length ∧ i = .int .i64 k ∧ scanPre nv na d (c + 1) e.kids k = true ∧ Mem φ' (fun b => ¬ b = cb) w wr [.box cb [.int .i64 (c + 1 + szEs (e.kids.take k) : Nat)], .box w.heap.size [.slice a1 nv c1, .slice a2 na c2, v3], .box (w.heap.size + 1) [.int .i64 e.kind, .int .i64 e.value, .slice (some ⟨b, off, none⟩) e.kids.length ck], .dat (fun w φ => KidsV w φ (.slice (some ⟨b, off, none⟩) e.kids.length ck) e.kids)]) (fun i _ => e.kids.length - (intOf i).toNat)
      case atStart => exact ⟨0, Nat.zero_le _, rfl, HST.out.1, HST.out.2⟩
      case round =>
        clear HM
        obtain ⟨k, hk, rfl, hpre, M⟩ := hrel
        have HPRE := show Hid _ from hpre
        have hle : c + 1 + szEs (e.kids.take k) ≤ 15 := by unfold scanPre at hpre; simp at hpre; exact hpre.2
        clear hpre
        by_cases hlt : k < e.kids.length
        · have hncb : ¬ Fr φ' [.box cb [.int .i64 (c + 1 + szEs (e.kids.take k) : Nat)], .box w.heap.size [.slice a1 nv c1, .slice a2 na c2, v3], .box (w.heap.size + 1) [.int .i64 e.kind, .int .i64 e.value, .slice (some ⟨b, off, none⟩) e.kids.length ck], .dat (fun w φ => KidsV w φ (.slice (some ⟨b, off, none⟩) e.kids.length ck) e.kids)] cb := fun h => h.2 _ List.mem_cons_self rfl
          obtain ⟨a', c', he, -, -, -, hcell⟩ := (M.d 3 rfl).open
          cases he
          obtain ⟨b, off, kv, hbo, hbk, hf, g0, g1, g2, hkk⟩ := hcell k hlt
          cases hbo
          obtain ⟨ka, kc, rfl, -, -, -, -⟩ := hkk.open
          have bz : Below wr.heap.size wr (wr.alloc (.cells #[.int .i64 e.kids[k].kind, .int .i64 e.kids[k].value, .slice ka e.kids[k].kids.length kc] 58)) := by go_grown
          have HE := show Hid _ from KidsV.nice _ _ _ _ _ _ (Agr.below bz) hkk
          have HNCB := show Hid _ from hncb
          have x0 := M.c 1 0 rfl rfl
          have x1 := M.c 1 1 rfl rfl
          have x2 := M.c 1 2 rfl rfl
          have s1 : w.heap.size < wr.heap.size := M.lt (r := .box w.heap.size [.slice a1 nv c1, .slice a2 na c2, v3]) (List.mem_cons_of_mem _ List.mem_cons_self) rfl
          have HM := show Hid _ from M.box [.int .i64 e.kids[k].kind, .int .i64 e.kids[k].value, .slice ka e.kids[k].kids.length kc] 58
          have HP := show Hid _ from scanPre_succ nv na (d := d) (c := c + 1) hlt
          have HX := show Hid (scanB nv na d (c + 1 + szEs (e.kids.take k)) e.kids[k] = false → scanB nv na (d + 1) c e = false) from fun h => HSC.out.trans (scanPre_end hlt h)
          have HT := show Hid _ from szEs_take1 hlt
          clear hcell hncb bz hkk M
          go_wp2_with fail
          refine (ih (deep + 1) (by omega) (by omega) e.kids[k] _ _ (c + 1 + szEs (e.kids.take k)) cb _ ⟨_, rfl, HE.out⟩ HNCB.out (HM.out.blk 0 rfl) hle).mono ?_
          rintro x w2 ⟨rfl, r1, ⟨u, r2⟩, kp⟩
          obtain ⟨q, hq⟩ : ∃ q, q = scanB nv na d (c + 1 + szEs (e.kids.take k)) e.kids[k] := ⟨_, rfl⟩
          rw [← hq] at r1 ⊢
          have HQ2 := show Hid _ from hq
          clear hq x0 x1 x2 g0 g1 g2
          cases q
          · have M2 := HM.out.callB 0 rfl kp r2
            have HF := show Hid _ from HX.out HQ2.out.symm
            clear r1 r2 kp
            go_wp2_with fail
            go_ret
            exact ⟨ret_bool (by rw [HF.out]), fun h => absurd (h.symm.trans HF.out) (by simp), ⟨_, M2.blk 0 rfl⟩, M2.kept⟩
          · have M2 := (HM.out.callB 0 rfl kp (r1 rfl)).take 4
            have HM2 := show Hid _ from M2
            clear r1 r2 kp M2
            go_wp2_with fail
            refine ⟨⟨k + 1, by omega, by go_num, by rw [HP.out, HPRE.out, ← HQ2.out]; rfl, ?_⟩, by simp [intOf]; omega⟩
            rw [HT.out, show c + 1 + (szEs (e.kids.take k) + (1 + szE e.kids[k])) = c + 1 + szEs (e.kids.take k) + 1 + szE e.kids[k] by omega]
            exact HM2.out
        · have hkn : k = e.kids.length := by omega
          subst hkn
          have HM := show Hid _ from M
          have HS : Hid (scanB nv na (d + 1) c e = true) := HSC.out.trans HPRE.out
          clear M
          go_wp2_with fail
          go_ret
          refine ⟨ret_bool (by rw [HS.out]), fun _ => ?_, ⟨_, HM.out.blk 0 rfl⟩, HM.out.kept⟩
          have := HM.out.blk 0 rfl
          rw [List.take_of_length_le (Nat.le_refl _)] at this
          rw [szE_kids]
          exact this
    have qq1 : (e.kind == 3) = false := by simp [k3]
    have qq2 := qq1
    have HRD : Hid (readB e = true) := by unfold Hid readB; simp [k3]
    have hhi : (0 : Int) = limit nv na e.kind - 1 := by unfold limit; rw [if_neg k1, if_neg k2, if_neg k3]; rfl
    clear k1 k2 k3
    have HNB := show Hid (nodeB nv na e = (decide (0 ≤ e.value) && decide (e.value ≤ 0))) from by
      unfold Hid nodeB; rw [decide_eq_true HQ.out.2, limit_high hhi]; rfl
    clear hhi
    go_wp2_with fail
    refine (impl_within e.value 0 _ _).mono ?_
    rintro x w1 ⟨rfl, rfl⟩
    have HNB2 := show Hid (nodeB nv na e = (decide (0 ≤ e.value) && decide (e.value ≤ 0))) from HNB.out
    clear HNB
    obtain ⟨qn, hqn⟩ : ∃ qn, qn = (decide (0 ≤ e.value) && decide (e.value ≤ 0)) := ⟨_, rfl⟩
    rw [← hqn]
    have HN := show Hid (nodeB nv na e = qn) from HNB2.out.trans hqn.symm
    clear hqn HNB2
    cases qn
    · have HF : Hid (scanB nv na (d + 1) c e = false) := scanB_noNode HN.out
      have M := HM.out
      clear HM
      go_wp2_with fail
      go_ret
      exact ⟨ret_bool (by rw [HF.out]), fun h => absurd (h.symm.trans HF.out) (by simp), ⟨_, M.blk 0 rfl⟩, M.kept⟩
    have HSC : Hid (scanB nv na (d + 1) c e = scanPre nv na d (c + 1) e.kids e.kids.length) := scanB_node HN.out HRD.out
    go_wp2_with fail
    clear y0 y1 y2 y3 y4
    have HST : Hid (scanPre nv na d (c + 1) e.kids 0 = true ∧ Mem φ' (fun b => ¬ b = cb) w W1 [.box cb [.int .i64 (c + 1 + szEs (e.kids.take 0) : Nat)], .box w.heap.size [.slice a1 nv c1, .slice a2 na c2, v3], .box (w.heap.size + 1) [.int .i64 e.kind, .int .i64 e.value, .slice ak e.kids.length ck], .dat (fun w φ => KidsV w φ (.slice ak e.kids.length ck) e.kids)]) := by
      refine ⟨?_, ?_⟩
      · have := HQ.out.1
        simp [scanPre, szEs]; omega
      · rw [show ((c + 1 + szEs (e.kids.take 0) : Nat) : Int) = (c : Int) + 1 by simp [szEs]]
        exact HM.out
    go_loopw [71] (fun i wr => ∃ k : Nat, k ≤ e.kids.length ∧ i = .int .i64 k ∧ scanPre nv na d (c + 1) e.kids k = true ∧ Mem φ' (fun b => ¬ b = cb) w wr [.box cb [.int .i64 (c + 1 + szEs (e.kids.take k) : Nat)], .box w.heap.size [.slice a1 nv c1, .slice a2 na c2, v3], .box (w.heap.size + 1) [.int .i64 e.kind, .int .i64 e.value, .slice ak e.kids.length ck], .dat (fun w φ => KidsV w φ (.slice ak e.kids.length ck) e.kids)]) (fun i _ => e.kids.length - (intOf i).toNat)
    case atStart => exact ⟨0, Nat.zero_le _, rfl, HST.out.1, HST.out.2⟩
    case round =>
      clear HM
      obtain ⟨k, hk, rfl, hpre, M⟩ := hrel
      have HPRE := show Hid _ from hpre
      have hle : c + 1 + szEs (e.kids.take k) ≤ 15 := by unfold scanPre at hpre; simp at hpre; exact hpre.2
      clear hpre
      by_cases hlt : k < e.kids.length
      · have hncb : ¬ Fr φ' [.box cb [.int .i64 (c + 1 + szEs (e.kids.take k) : Nat)], .box w.heap.size [.slice a1 nv c1, .slice a2 na c2, v3], .box (w.heap.size + 1) [.int .i64 e.kind, .int .i64 e.value, .slice ak e.kids.length ck], .dat (fun w φ => KidsV w φ (.slice ak e.kids.length ck) e.kids)] cb := fun h => h.2 _ List.mem_cons_self rfl
        obtain ⟨a', c', he, -, -, -, hcell⟩ := (M.d 3 rfl).open
        cases he
        obtain ⟨b, off, kv, hbo, hbk, hf, g0, g1, g2, hkk⟩ := hcell k hlt
        cases hbo
        obtain ⟨ka, kc, rfl, -, -, -, -⟩ := hkk.open
        have bz : Below wr.heap.size wr (wr.alloc (.cells #[.int .i64 e.kids[k].kind, .int .i64 e.kids[k].value, .slice ka e.kids[k].kids.length kc] 58)) := by go_grown
        have HE := show Hid _ from KidsV.nice _ _ _ _ _ _ (Agr.below bz) hkk
        have HNCB := show Hid _ from hncb
        have x0 := M.c 1 0 rfl rfl
        have x1 := M.c 1 1 rfl rfl
        have x2 := M.c 1 2 rfl rfl
        have s1 : w.heap.size < wr.heap.size := M.lt (r := .box w.heap.size [.slice a1 nv c1, .slice a2 na c2, v3]) (List.mem_cons_of_mem _ List.mem_cons_self) rfl
        have HM := show Hid _ from M.box [.int .i64 e.kids[k].kind, .int .i64 e.kids[k].value, .slice ka e.kids[k].kids.length kc] 58
        have HP := show Hid _ from scanPre_succ nv na (d := d) (c := c + 1) hlt
        have HX := show Hid (scanB nv na d (c + 1 + szEs (e.kids.take k)) e.kids[k] = false → scanB nv na (d + 1) c e = false) from fun h => HSC.out.trans (scanPre_end hlt h)
        have HT := show Hid _ from szEs_take1 hlt
        clear hcell hncb bz hkk M
        go_wp2_with fail
        refine (ih (deep + 1) (by omega) (by omega) e.kids[k] _ _ (c + 1 + szEs (e.kids.take k)) cb _ ⟨_, rfl, HE.out⟩ HNCB.out (HM.out.blk 0 rfl) hle).mono ?_
        rintro x w2 ⟨rfl, r1, ⟨u, r2⟩, kp⟩
        obtain ⟨q, hq⟩ : ∃ q, q = scanB nv na d (c + 1 + szEs (e.kids.take k)) e.kids[k] := ⟨_, rfl⟩
        rw [← hq] at r1 ⊢
        have HQ2 := show Hid _ from hq
        clear hq x0 x1 x2 g0 g1 g2
        cases q
        · have M2 := HM.out.callB 0 rfl kp r2
          have HF := show Hid _ from HX.out HQ2.out.symm
          clear r1 r2 kp
          go_wp2_with fail
          go_ret
          exact ⟨ret_bool (by rw [HF.out]), fun h => absurd (h.symm.trans HF.out) (by simp), ⟨_, M2.blk 0 rfl⟩, M2.kept⟩
        · have M2 := (HM.out.callB 0 rfl kp (r1 rfl)).take 4
          have HM2 := show Hid _ from M2
          clear r1 r2 kp M2
          go_wp2_with fail
          refine ⟨⟨k + 1, by omega, by go_num, by rw [HP.out, HPRE.out, ← HQ2.out]; rfl, ?_⟩, by simp [intOf]; omega⟩
          rw [HT.out, show c + 1 + (szEs (e.kids.take k) + (1 + szE e.kids[k])) = c + 1 + szEs (e.kids.take k) + 1 + szE e.kids[k] by omega]
          exact HM2.out
      · have hkn : k = e.kids.length := by omega
        subst hkn
        have HM := show Hid _ from M
        have HS : Hid (scanB nv na (d + 1) c e = true) := HSC.out.trans HPRE.out
        clear M
        go_wp2_with fail
        go_ret
        refine ⟨ret_bool (by rw [HS.out]), fun _ => ?_, ⟨_, HM.out.blk 0 rfl⟩, HM.out.kept⟩
        have := HM.out.blk 0 rfl
        rw [List.take_of_length_le (Nat.le_refl _)] at this
        rw [szE_kids]
        exact this


theorem scan_right (nv na : Nat) (e : LExpr) : scanB nv na 5 0 e = rightB nv na e := by
  have h : (0 + 1 + szE e ≤ 15) = (1 + szE e ≤ 15) := by rw [Nat.zero_add]
  unfold scanB rightB
  simp only [h]

set_option maxHeartbeats 1000000 in
theorem impl_expr (a1 a2 : Option Addr) (nv c1 na c2 : Nat) (v3 : Value) (h1 : nv ≤ 9223372036854775807) (h2 : na ≤ 9223372036854775807) (e : LExpr) (φ : Nat → Prop) (v : Value) (w : World) (h : ExprV w φ v e) :
    Calls Try.prog 145 #[.agg #[.slice a1 nv c1, .slice a2 na c2, v3], v] w fun x w' => x = .returned (.bool (rightB nv na e)) ∧ Below w.heap.size w w' := by
  obtain ⟨kv, rfl, hk⟩ := h
  obtain ⟨W, hW, M⟩ : ∃ W, W = ((w.alloc (.cells #[.slice a1 nv c1, .slice a2 na c2, v3] 31)).alloc (.cells #[.int .i64 e.kind, .int .i64 e.value, kv] 58)).alloc (.cells #[.int .i64 0] 3) ∧ Mem (fun _ => True) (fun _ => True) w W [.box w.heap.size [.slice a1 nv c1, .slice a2 na c2, v3], .box (w.heap.size + 1) [.int .i64 e.kind, .int .i64 e.value, kv], .box (w.heap.size + 1 + 1) [.int .i64 0]] :=
    ⟨_, rfl, (((Mem.start fun _ _ => trivial).box _ _).box' _ _ (by simp)).box' _ _ (by simp)⟩
  have hb := M.below fun _ _ => trivial
  have HK := show Hid _ from KidsV.nice _ _ _ _ φ (fun b => φ b ∧ b < w.heap.size) ⟨hb.size, fun b hl hf => ⟨⟨hf, hl⟩, hb.block b hl⟩⟩ hk
  clear hb hk
  have x0 := M.c 0 0 rfl rfl
  have x1 := M.c 0 1 rfl rfl
  have x2 := M.c 0 2 rfl rfl
  have y0 := M.c 1 0 rfl rfl
  have y1 := M.c 1 1 rfl rfl
  have y2 := M.c 1 2 rfl rfl
  have HM := show Hid _ from M
  rw [hW] at x0 x1 x2 y0 y1 y2
  clear M
  go_enter Try.func145, Try.ntmps145
  go_wp2_with fail
  rw [← hW]
  clear hW x0 x1 x2 y0 y1 y2
  refine (impl_scan a1 a2 nv c1 na c2 v3 h1 h2 5 1 (by omega) (by omega) e _ _ 0 _ _ ⟨kv, rfl, HK.out⟩ (fun h => by have := h.2; omega) (HM.out.blk 2 rfl) (by omega)).mono ?_
  rintro x w1 ⟨rfl, -, ⟨u, r2⟩, kp⟩
  rw [scan_right]
  have M := HM.out.callB 2 rfl kp r2
  have HB := show Hid _ from M.below fun _ _ => trivial
  clear kp r2 M
  go_wp2_with fail
  go_ret
  exact ⟨rfl, HB.out⟩


set_option maxHeartbeats 400000 in
theorem spec_l2None (k n : Int) (a : Option Addr) (len c : Nat) (w : World) (hl : len ≤ 9223372036854775807) : Calls Try.prog 170 #[.agg #[.int .i64 k, .int .i64 n, .slice a len c]] w fun e w' => e = .returned (.bool (decide (k = 0) && decide (n = 0) && decide (len = 0))) ∧ Below w.heap.size w w' := by
  by_cases q1 : k = 0
  case neg =>
    have p1 : (k == 0) = false := by simp [q1]
    have HQ := show Hid _ from q1
    clear q1
    go_enter Try.func170, Try.ntmps170
    go_wp2_with fail
    go_ret
    exact ⟨ret_bool (by rw [decide_eq_false HQ.out]; rfl), by go_grown⟩
  have p1 : (k == 0) = true := by simp [q1]
  have HQ := show Hid _ from q1
  clear q1
  by_cases q2 : n = 0
  case neg =>
    have p2 : (n == 0) = false := by simp [q2]
    have HQ2 := show Hid _ from q2
    clear q2
    go_enter Try.func170, Try.ntmps170
    go_wp2_with fail
    go_ret
    exact ⟨ret_bool (by rw [decide_eq_true HQ.out, decide_eq_false HQ2.out]; rfl), by go_grown⟩
  have p2 : (n == 0) = true := by simp [q2]
  have HQ2 := show Hid _ from q2
  clear q2
  by_cases q3 : len = 0
  case neg =>
    have p3 : ((len : Int) == 0) = false := by simp [q3]
    have HQ3 := show Hid _ from q3
    clear q3
    go_enter Try.func170, Try.ntmps170
    go_wp2_with fail
    go_ret
    exact ⟨ret_bool (by rw [decide_eq_true HQ.out, decide_eq_true HQ2.out, decide_eq_false HQ3.out]; rfl), by go_grown⟩
  have p3 : ((len : Int) == 0) = true := by simp [q3]
  have HQ3 := show Hid _ from q3
  clear q3
  go_enter Try.func170, Try.ntmps170
  go_wp2_with fail
  go_ret
  exact ⟨ret_bool (by rw [decide_eq_true HQ.out, decide_eq_true HQ2.out, decide_eq_true HQ3.out]; rfl), by go_grown⟩

theorem StmtV.form {w : World} {φ : Nat → Prop} {v : Value} {s : LStmt} (h : StmtV w φ v s) : ∃ ai ci av cv ab cb ae ce, v = .agg #[.int .i64 s.kind, .int .i64 s.target, .int .i64 s.index.kind, .int .i64 s.index.value, .slice ai s.index.kids.length ci, .int .i64 s.value.kind, .int .i64 s.value.value, .slice av s.value.kids.length cv, .int .i64 s.count, .slice ab s.body.length cb, .slice ae s.els.length ce] ∧
    (KidsV w φ (.slice ai s.index.kids.length ci) s.index.kids ∧ KidsV w φ (.slice av s.value.kids.length cv) s.value.kids ∧ BlockV w φ (.slice ab s.body.length cb) s.body ∧ BlockV w φ (.slice ae s.els.length ce) s.els) ∧
    (s.index.kids.length ≤ 9223372036854775807 ∧ s.value.kids.length ≤ 9223372036854775807 ∧ s.body.length ≤ 9223372036854775807 ∧ s.els.length ≤ 9223372036854775807) := by
  obtain ⟨iv, vv, bv, ev, rfl, h1, h2, h3, h4⟩ := h
  obtain ⟨ai, ci, rfl, -, l1, -⟩ := h1.open
  obtain ⟨av, cv, rfl, -, l2, -⟩ := h2.open
  obtain ⟨ab, cb, rfl, -, l3, -⟩ := h3.open
  obtain ⟨ae, ce, rfl, -, l4, -⟩ := h4.open
  exact ⟨ai, ci, av, cv, ab, cb, ae, ce, rfl, ⟨h1, h2, h3, h4⟩, l1, l2, l3, l4⟩

set_option maxHeartbeats 4000000 in
theorem spec_l2Parts (φ : Nat → Prop) (v : Value) (s : LStmt) (w : World) (h : StmtV w φ v s) :
    Calls Try.prog 163 #[v] w fun x w' => x = .returned (.bool (partsB s)) ∧ Below w.heap.size w w' := by
  obtain ⟨ai, ci, av, cv, ab, cb, ae, ce, rfl, -, hl⟩ := h.form
  have HL := show Hid _ from hl
  have hl3 := hl.2.2.1
  have hl4 := hl.2.2.2
  clear h hl
  have HD : Hid (partsB s = if (s.kind = 3 ∨ s.kind = 4) then decide (s.target = 0) && (if s.kind = 4 then decide (s.els.length = 0) && decide (1 ≤ s.count) && decide (s.count ≤ 3) && noneB s.index && noneB s.value else decide (s.count = 0) && noneB s.index)
      else decide (s.body.length = 0) && decide (s.els.length = 0) && decide (s.count = 0) && (decide (s.kind = 2) || noneB s.index)) := rfl
  obtain ⟨W, hW, M⟩ : ∃ W, W = w.alloc (.cells #[.int .i64 s.kind, .int .i64 s.target, .int .i64 s.index.kind, .int .i64 s.index.value, .slice ai s.index.kids.length ci, .int .i64 s.value.kind, .int .i64 s.value.value, .slice av s.value.kids.length cv, .int .i64 s.count, .slice ab s.body.length cb, .slice ae s.els.length ce] 60) ∧ Mem (fun _ => True) (fun _ => True) w W [.box w.heap.size [.int .i64 s.kind, .int .i64 s.target, .int .i64 s.index.kind, .int .i64 s.index.value, .slice ai s.index.kids.length ci, .int .i64 s.value.kind, .int .i64 s.value.value, .slice av s.value.kids.length cv, .int .i64 s.count, .slice ab s.body.length cb, .slice ae s.els.length ce]] :=
    ⟨_, rfl, (Mem.start fun _ _ => trivial).box _ _⟩
  by_cases qk : s.kind = 3
  · have pk : (s.kind == 3) = true := by simp [qk]
    have pk4 : (s.kind == 4) = false := by simp [qk]
    have pk2 : (s.kind == 2) = false := by simp [qk]
    by_cases qpt : s.target = 0
    case neg =>
      have pt : (s.target != 0) = true := by first | (simp [qpt]; done) | (simp; omega) | exact decide_eq_true (by omega) | exact decide_eq_false (by omega)
      have HP : Hid (partsB s = false) := by rw [Hid, HD.out]; simp [qk, qpt]
      clear qpt qk HD
      have c0 := M.c 0 0 rfl rfl
      have c1 := M.c 0 1 rfl rfl
      have c2 := M.c 0 2 rfl rfl
      have c3 := M.c 0 3 rfl rfl
      have c4 := M.c 0 4 rfl rfl
      have c5 := M.c 0 5 rfl rfl
      have c6 := M.c 0 6 rfl rfl
      have c7 := M.c 0 7 rfl rfl
      have c8 := M.c 0 8 rfl rfl
      have c9 := M.c 0 9 rfl rfl
      have c10 := M.c 0 10 rfl rfl
      have HM := show Hid _ from M
      rw [hW] at c0 c1 c2 c3 c4 c5 c6 c7 c8 c9 c10
      clear M
      go_enter Try.func163, Try.ntmps163
      go_wp2_with fail
      rw [← hW]
      clear hW
      have M := HM.out
      clear HM c0 c1 c2 c3 c4 c5 c6 c7 c8 c9 c10
      go_ret
      exact ⟨ret_bool (by rw [HP.out]), M.below fun _ _ => trivial⟩
    have pt : (s.target != 0) = false := by first | (simp [qpt]; done) | (simp; omega) | exact decide_eq_true (by omega) | exact decide_eq_false (by omega)
    by_cases qpc : s.count = 0
    case neg =>
      have pc : (s.count == 0) = false := by first | (simp [qpc]; done) | (simp; omega) | exact decide_eq_true (by omega) | exact decide_eq_false (by omega)
      have HP : Hid (partsB s = false) := by rw [Hid, HD.out]; simp [qk, qpt, qpc]
      clear qpc qk qpt HD
      have c0 := M.c 0 0 rfl rfl
      have c1 := M.c 0 1 rfl rfl
      have c2 := M.c 0 2 rfl rfl
      have c3 := M.c 0 3 rfl rfl
      have c4 := M.c 0 4 rfl rfl
      have c5 := M.c 0 5 rfl rfl
      have c6 := M.c 0 6 rfl rfl
      have c7 := M.c 0 7 rfl rfl
      have c8 := M.c 0 8 rfl rfl
      have c9 := M.c 0 9 rfl rfl
      have c10 := M.c 0 10 rfl rfl
      have HM := show Hid _ from M
      rw [hW] at c0 c1 c2 c3 c4 c5 c6 c7 c8 c9 c10
      clear M
      go_enter Try.func163, Try.ntmps163
      go_wp2_with fail
      rw [← hW]
      clear hW
      have M := HM.out
      clear HM c0 c1 c2 c3 c4 c5 c6 c7 c8 c9 c10
      go_ret
      exact ⟨ret_bool (by rw [HP.out]), M.below fun _ _ => trivial⟩
    have pc : (s.count == 0) = true := by first | (simp [qpc]; done) | (simp; omega) | exact decide_eq_true (by omega) | exact decide_eq_false (by omega)
    have HP : Hid (partsB s = noneB s.index) := by rw [Hid, HD.out]; simp [qk, qpt, qpc]
    clear qpt qpc HD qk
    have c0 := M.c 0 0 rfl rfl
    have c1 := M.c 0 1 rfl rfl
    have c2 := M.c 0 2 rfl rfl
    have c3 := M.c 0 3 rfl rfl
    have c4 := M.c 0 4 rfl rfl
    have c5 := M.c 0 5 rfl rfl
    have c6 := M.c 0 6 rfl rfl
    have c7 := M.c 0 7 rfl rfl
    have c8 := M.c 0 8 rfl rfl
    have c9 := M.c 0 9 rfl rfl
    have c10 := M.c 0 10 rfl rfl
    have HM := show Hid _ from M
    rw [hW] at c0 c1 c2 c3 c4 c5 c6 c7 c8 c9 c10
    clear M
    go_enter Try.func163, Try.ntmps163
    go_wp2_with fail
    rw [← hW]
    clear hW
    have M := HM.out
    clear HM c0 c1 c2 c3 c4 c5 c6 c7 c8 c9 c10
    refine (spec_l2None s.index.kind s.index.value ai s.index.kids.length ci _ HL.out.1).mono ?_
    rintro x w1 ⟨rfl, b1⟩
    rw [show (decide (s.index.kind = 0) && decide (s.index.value = 0) && decide (s.index.kids.length = 0)) = noneB s.index from rfl]
    replace M := M.call b1
    clear b1
    have HM := show Hid _ from M
    clear M
    go_wp2_with fail
    go_ret
    exact ⟨ret_bool (by rw [HP.out]), HM.out.below fun _ _ => trivial⟩
  have qk3 := qk
  have pk3 : (s.kind == 3) = false := by simp [qk]
  clear qk
  by_cases qk : s.kind = 4
  · have pk4 : (s.kind == 4) = true := by simp [qk]
    clear qk3
    by_cases qpt : s.target = 0
    case neg =>
      have pt : (s.target != 0) = true := by first | (simp [qpt]; done) | (simp; omega) | exact decide_eq_true (by omega) | exact decide_eq_false (by omega)
      have HP : Hid (partsB s = false) := by rw [Hid, HD.out]; simp [qk, qpt]
      clear qpt qk HD
      have c0 := M.c 0 0 rfl rfl
      have c1 := M.c 0 1 rfl rfl
      have c2 := M.c 0 2 rfl rfl
      have c3 := M.c 0 3 rfl rfl
      have c4 := M.c 0 4 rfl rfl
      have c5 := M.c 0 5 rfl rfl
      have c6 := M.c 0 6 rfl rfl
      have c7 := M.c 0 7 rfl rfl
      have c8 := M.c 0 8 rfl rfl
      have c9 := M.c 0 9 rfl rfl
      have c10 := M.c 0 10 rfl rfl
      have HM := show Hid _ from M
      rw [hW] at c0 c1 c2 c3 c4 c5 c6 c7 c8 c9 c10
      clear M
      go_enter Try.func163, Try.ntmps163
      go_wp2_with fail
      rw [← hW]
      clear hW
      have M := HM.out
      clear HM c0 c1 c2 c3 c4 c5 c6 c7 c8 c9 c10
      go_ret
      exact ⟨ret_bool (by rw [HP.out]), M.below fun _ _ => trivial⟩
    have pt : (s.target != 0) = false := by first | (simp [qpt]; done) | (simp; omega) | exact decide_eq_true (by omega) | exact decide_eq_false (by omega)
    by_cases qpe : s.els.length = 0
    case neg =>
      have pe : ((s.els.length : Int) == 0) = false := by first | (simp [qpe]; done) | (simp; omega) | exact decide_eq_true (by omega) | exact decide_eq_false (by omega)
      have HP : Hid (partsB s = false) := by rw [Hid, HD.out]; simp [qk, qpt, qpe]
      clear qpe qk qpt HD
      have c0 := M.c 0 0 rfl rfl
      have c1 := M.c 0 1 rfl rfl
      have c2 := M.c 0 2 rfl rfl
      have c3 := M.c 0 3 rfl rfl
      have c4 := M.c 0 4 rfl rfl
      have c5 := M.c 0 5 rfl rfl
      have c6 := M.c 0 6 rfl rfl
      have c7 := M.c 0 7 rfl rfl
      have c8 := M.c 0 8 rfl rfl
      have c9 := M.c 0 9 rfl rfl
      have c10 := M.c 0 10 rfl rfl
      have HM := show Hid _ from M
      rw [hW] at c0 c1 c2 c3 c4 c5 c6 c7 c8 c9 c10
      clear M
      go_enter Try.func163, Try.ntmps163
      go_wp2_with fail
      rw [← hW]
      clear hW
      have M := HM.out
      clear HM c0 c1 c2 c3 c4 c5 c6 c7 c8 c9 c10
      go_ret
      exact ⟨ret_bool (by rw [HP.out]), M.below fun _ _ => trivial⟩
    have pe : ((s.els.length : Int) == 0) = true := by first | (simp [qpe]; done) | (simp; omega) | exact decide_eq_true (by omega) | exact decide_eq_false (by omega)
    by_cases qp1 : 1 ≤ s.count
    case neg =>
      have p1 : decide (1 ≤ s.count) = false := by first | (simp [qp1]; done) | (simp; omega) | exact decide_eq_true (by omega) | exact decide_eq_false (by omega)
      have HP : Hid (partsB s = false) := by rw [Hid, HD.out]; simp [qk, qpt, qpe, qp1]
      clear qp1 qk qpt qpe HD
      have c0 := M.c 0 0 rfl rfl
      have c1 := M.c 0 1 rfl rfl
      have c2 := M.c 0 2 rfl rfl
      have c3 := M.c 0 3 rfl rfl
      have c4 := M.c 0 4 rfl rfl
      have c5 := M.c 0 5 rfl rfl
      have c6 := M.c 0 6 rfl rfl
      have c7 := M.c 0 7 rfl rfl
      have c8 := M.c 0 8 rfl rfl
      have c9 := M.c 0 9 rfl rfl
      have c10 := M.c 0 10 rfl rfl
      have HM := show Hid _ from M
      rw [hW] at c0 c1 c2 c3 c4 c5 c6 c7 c8 c9 c10
      clear M
      go_enter Try.func163, Try.ntmps163
      go_wp2_with fail
      rw [← hW]
      clear hW
      have M := HM.out
      clear HM c0 c1 c2 c3 c4 c5 c6 c7 c8 c9 c10
      go_ret
      exact ⟨ret_bool (by rw [HP.out]), M.below fun _ _ => trivial⟩
    have p1 : decide (1 ≤ s.count) = true := by first | (simp [qp1]; done) | (simp; omega) | exact decide_eq_true (by omega) | exact decide_eq_false (by omega)
    by_cases qp3 : s.count ≤ 3
    case neg =>
      have p3 : decide (s.count ≤ 3) = false := by first | (simp [qp3]; done) | (simp; omega) | exact decide_eq_true (by omega) | exact decide_eq_false (by omega)
      have HP : Hid (partsB s = false) := by rw [Hid, HD.out]; simp [qk, qpt, qpe, qp1, qp3]
      clear qp3 qk qpt qpe qp1 HD
      have c0 := M.c 0 0 rfl rfl
      have c1 := M.c 0 1 rfl rfl
      have c2 := M.c 0 2 rfl rfl
      have c3 := M.c 0 3 rfl rfl
      have c4 := M.c 0 4 rfl rfl
      have c5 := M.c 0 5 rfl rfl
      have c6 := M.c 0 6 rfl rfl
      have c7 := M.c 0 7 rfl rfl
      have c8 := M.c 0 8 rfl rfl
      have c9 := M.c 0 9 rfl rfl
      have c10 := M.c 0 10 rfl rfl
      have HM := show Hid _ from M
      rw [hW] at c0 c1 c2 c3 c4 c5 c6 c7 c8 c9 c10
      clear M
      go_enter Try.func163, Try.ntmps163
      go_wp2_with fail
      rw [← hW]
      clear hW
      have M := HM.out
      clear HM c0 c1 c2 c3 c4 c5 c6 c7 c8 c9 c10
      go_ret
      exact ⟨ret_bool (by rw [HP.out]), M.below fun _ _ => trivial⟩
    have p3 : decide (s.count ≤ 3) = true := by first | (simp [qp3]; done) | (simp; omega) | exact decide_eq_true (by omega) | exact decide_eq_false (by omega)
    have HP0 : Hid (partsB s = (noneB s.index && noneB s.value)) := by rw [Hid, HD.out]; simp [qk, qpt, qpe, qp1, qp3]
    clear qpt qpe qp1 qp3 HD qk
    have c0 := M.c 0 0 rfl rfl
    have c1 := M.c 0 1 rfl rfl
    have c2 := M.c 0 2 rfl rfl
    have c3 := M.c 0 3 rfl rfl
    have c4 := M.c 0 4 rfl rfl
    have c5 := M.c 0 5 rfl rfl
    have c6 := M.c 0 6 rfl rfl
    have c7 := M.c 0 7 rfl rfl
    have c8 := M.c 0 8 rfl rfl
    have c9 := M.c 0 9 rfl rfl
    have c10 := M.c 0 10 rfl rfl
    have HM := show Hid _ from M
    rw [hW] at c0 c1 c2 c3 c4 c5 c6 c7 c8 c9 c10
    clear M
    go_enter Try.func163, Try.ntmps163
    go_wp2_with fail
    rw [← hW]
    clear hW
    have M := HM.out
    clear HM c0 c1 c2 c3 c4 c5 c6 c7 c8 c9 c10
    refine (spec_l2None s.index.kind s.index.value ai s.index.kids.length ci _ HL.out.1).mono ?_
    rintro x w1 ⟨rfl, b1⟩
    rw [show (decide (s.index.kind = 0) && decide (s.index.value = 0) && decide (s.index.kids.length = 0)) = noneB s.index from rfl]
    replace M := M.call b1
    clear b1
    obtain ⟨b, hb⟩ : ∃ b, b = noneB s.index := ⟨_, rfl⟩
    rw [← hb]
    have HB := show Hid _ from hb
    clear hb
    cases b
    · have HP : Hid (partsB s = false) := by rw [Hid, HP0.out, ← HB.out]; rfl
      clear HP0
      have HM := show Hid _ from M
      clear M
      go_wp2_with fail
      go_ret
      exact ⟨ret_bool (by rw [HP.out]), HM.out.below fun _ _ => trivial⟩
    · have HP : Hid (partsB s = noneB s.value) := by rw [Hid, HP0.out, ← HB.out]; rfl
      clear HP0
      have c5 := M.c 0 5 rfl rfl
      have c6 := M.c 0 6 rfl rfl
      have c7 := M.c 0 7 rfl rfl
      have HM := show Hid _ from M
      clear M
      go_wp2_with fail
      have M := HM.out
      clear HM c5 c6 c7
      refine (spec_l2None s.value.kind s.value.value av s.value.kids.length cv _ HL.out.2.1).mono ?_
      rintro x w1 ⟨rfl, b1⟩
      rw [show (decide (s.value.kind = 0) && decide (s.value.value = 0) && decide (s.value.kids.length = 0)) = noneB s.value from rfl]
      replace M := M.call b1
      clear b1
      have HM := show Hid _ from M
      clear M
      go_wp2_with fail
      go_ret
      exact ⟨ret_bool (by rw [HP.out]), HM.out.below fun _ _ => trivial⟩
  have qk4 := qk
  have pk4 : (s.kind == 4) = false := by simp [qk]
  clear qk
  by_cases qpb : s.body.length = 0
  case neg =>
    have pb : decide (0 < s.body.length) = true := by first | (simp [qpb]; done) | (simp; omega) | exact decide_eq_true (by omega) | exact decide_eq_false (by omega)
    have HP : Hid (partsB s = false) := by rw [Hid, HD.out]; simp [qk3, qk4, qpb]
    clear qpb qk3 qk4 HD
    have c0 := M.c 0 0 rfl rfl
    have c1 := M.c 0 1 rfl rfl
    have c2 := M.c 0 2 rfl rfl
    have c3 := M.c 0 3 rfl rfl
    have c4 := M.c 0 4 rfl rfl
    have c5 := M.c 0 5 rfl rfl
    have c6 := M.c 0 6 rfl rfl
    have c7 := M.c 0 7 rfl rfl
    have c8 := M.c 0 8 rfl rfl
    have c9 := M.c 0 9 rfl rfl
    have c10 := M.c 0 10 rfl rfl
    have HM := show Hid _ from M
    rw [hW] at c0 c1 c2 c3 c4 c5 c6 c7 c8 c9 c10
    clear M
    go_enter Try.func163, Try.ntmps163
    go_wp2_with fail
    rw [← hW]
    clear hW
    have M := HM.out
    clear HM c0 c1 c2 c3 c4 c5 c6 c7 c8 c9 c10
    go_ret
    exact ⟨ret_bool (by rw [HP.out]), M.below fun _ _ => trivial⟩
  have pb : decide (0 < s.body.length) = false := by first | (simp [qpb]; done) | (simp; omega) | exact decide_eq_true (by omega) | exact decide_eq_false (by omega)
  by_cases qpe : s.els.length = 0
  case neg =>
    have pe : decide (0 < s.els.length) = true := by first | (simp [qpe]; done) | (simp; omega) | exact decide_eq_true (by omega) | exact decide_eq_false (by omega)
    have HP : Hid (partsB s = false) := by rw [Hid, HD.out]; simp [qk3, qk4, qpb, qpe]
    clear qpe qk3 qk4 qpb HD
    have c0 := M.c 0 0 rfl rfl
    have c1 := M.c 0 1 rfl rfl
    have c2 := M.c 0 2 rfl rfl
    have c3 := M.c 0 3 rfl rfl
    have c4 := M.c 0 4 rfl rfl
    have c5 := M.c 0 5 rfl rfl
    have c6 := M.c 0 6 rfl rfl
    have c7 := M.c 0 7 rfl rfl
    have c8 := M.c 0 8 rfl rfl
    have c9 := M.c 0 9 rfl rfl
    have c10 := M.c 0 10 rfl rfl
    have HM := show Hid _ from M
    rw [hW] at c0 c1 c2 c3 c4 c5 c6 c7 c8 c9 c10
    clear M
    go_enter Try.func163, Try.ntmps163
    go_wp2_with fail
    rw [← hW]
    clear hW
    have M := HM.out
    clear HM c0 c1 c2 c3 c4 c5 c6 c7 c8 c9 c10
    go_ret
    exact ⟨ret_bool (by rw [HP.out]), M.below fun _ _ => trivial⟩
  have pe : decide (0 < s.els.length) = false := by first | (simp [qpe]; done) | (simp; omega) | exact decide_eq_true (by omega) | exact decide_eq_false (by omega)
  by_cases qpc : s.count = 0
  case neg =>
    have pc : (s.count == 0) = false := by first | (simp [qpc]; done) | (simp; omega) | exact decide_eq_true (by omega) | exact decide_eq_false (by omega)
    have HP : Hid (partsB s = false) := by rw [Hid, HD.out]; simp [qk3, qk4, qpb, qpe, qpc]
    clear qpc qk3 qk4 qpb qpe HD
    have c0 := M.c 0 0 rfl rfl
    have c1 := M.c 0 1 rfl rfl
    have c2 := M.c 0 2 rfl rfl
    have c3 := M.c 0 3 rfl rfl
    have c4 := M.c 0 4 rfl rfl
    have c5 := M.c 0 5 rfl rfl
    have c6 := M.c 0 6 rfl rfl
    have c7 := M.c 0 7 rfl rfl
    have c8 := M.c 0 8 rfl rfl
    have c9 := M.c 0 9 rfl rfl
    have c10 := M.c 0 10 rfl rfl
    have HM := show Hid _ from M
    rw [hW] at c0 c1 c2 c3 c4 c5 c6 c7 c8 c9 c10
    clear M
    go_enter Try.func163, Try.ntmps163
    go_wp2_with fail
    rw [← hW]
    clear hW
    have M := HM.out
    clear HM c0 c1 c2 c3 c4 c5 c6 c7 c8 c9 c10
    go_ret
    exact ⟨ret_bool (by rw [HP.out]), M.below fun _ _ => trivial⟩
  have pc : (s.count == 0) = true := by first | (simp [qpc]; done) | (simp; omega) | exact decide_eq_true (by omega) | exact decide_eq_false (by omega)
  by_cases qk2 : s.kind = 2
  · have pk2 : (s.kind == 2) = true := by simp [qk2]
    have HP : Hid (partsB s = true) := by rw [Hid, HD.out]; simp [qk2, qpb, qpe, qpc]
    clear qk2 qk3 qk4 qpb qpe qpc HD
    have c0 := M.c 0 0 rfl rfl
    have c1 := M.c 0 1 rfl rfl
    have c2 := M.c 0 2 rfl rfl
    have c3 := M.c 0 3 rfl rfl
    have c4 := M.c 0 4 rfl rfl
    have c5 := M.c 0 5 rfl rfl
    have c6 := M.c 0 6 rfl rfl
    have c7 := M.c 0 7 rfl rfl
    have c8 := M.c 0 8 rfl rfl
    have c9 := M.c 0 9 rfl rfl
    have c10 := M.c 0 10 rfl rfl
    have HM := show Hid _ from M
    rw [hW] at c0 c1 c2 c3 c4 c5 c6 c7 c8 c9 c10
    clear M
    go_enter Try.func163, Try.ntmps163
    go_wp2_with fail
    rw [← hW]
    clear hW
    have M := HM.out
    clear HM c0 c1 c2 c3 c4 c5 c6 c7 c8 c9 c10
    go_ret
    exact ⟨ret_bool (by rw [HP.out]), M.below fun _ _ => trivial⟩
  · have pk2 : (s.kind == 2) = false := by simp [qk2]
    have HP : Hid (partsB s = noneB s.index) := by rw [Hid, HD.out]; simp [qk2, qk3, qk4, qpb, qpe, qpc]
    clear qk2 qk3 qk4 qpb qpe qpc HD
    have c0 := M.c 0 0 rfl rfl
    have c1 := M.c 0 1 rfl rfl
    have c2 := M.c 0 2 rfl rfl
    have c3 := M.c 0 3 rfl rfl
    have c4 := M.c 0 4 rfl rfl
    have c5 := M.c 0 5 rfl rfl
    have c6 := M.c 0 6 rfl rfl
    have c7 := M.c 0 7 rfl rfl
    have c8 := M.c 0 8 rfl rfl
    have c9 := M.c 0 9 rfl rfl
    have c10 := M.c 0 10 rfl rfl
    have HM := show Hid _ from M
    rw [hW] at c0 c1 c2 c3 c4 c5 c6 c7 c8 c9 c10
    clear M
    go_enter Try.func163, Try.ntmps163
    go_wp2_with fail
    rw [← hW]
    clear hW
    have M := HM.out
    clear HM c0 c1 c2 c3 c4 c5 c6 c7 c8 c9 c10
    refine (spec_l2None s.index.kind s.index.value ai s.index.kids.length ci _ HL.out.1).mono ?_
    rintro x w1 ⟨rfl, b1⟩
    rw [show (decide (s.index.kind = 0) && decide (s.index.value = 0) && decide (s.index.kids.length = 0)) = noneB s.index from rfl]
    replace M := M.call b1
    clear b1
    have HM := show Hid _ from M
    clear M
    go_wp2_with fail
    go_ret
    exact ⟨ret_bool (by rw [HP.out]), HM.out.below fun _ _ => trivial⟩


def StB (a1 a2 : Option Addr) (nv c1 na c2 : Nat) (v3 : Value) (d : Nat) : Prop := ∀ (s : LStmt) (φ : Nat → Prop) (v : Value) (w : World), StmtV w φ v s →
  Calls Try.prog 144 #[.agg #[.slice a1 nv c1, .slice a2 na c2, v3], v, .int .i64 d] w fun x w' => x = .returned (.bool (stmtB nv na d s)) ∧ Below w.heap.size w w'
def BlB (a1 a2 : Option Addr) (nv c1 na c2 : Nat) (v3 : Value) (d : Nat) : Prop := ∀ (ss : List LStmt) (φ : Nat → Prop) (v : Value) (w : World), BlockV w φ v ss →
  Calls Try.prog 120 #[.agg #[.slice a1 nv c1, .slice a2 na c2, v3], v, .int .i64 d] w fun x w' => x = .returned (.bool (ss.all (stmtB nv na d))) ∧ Below w.heap.size w w'

set_option maxHeartbeats 2000000 in
theorem l2Block_of (a1 a2 : Option Addr) (nv c1 na c2 : Nat) (v3 : Value) (d : Nat) (hd : d ≤ 5) (ih : StB a1 a2 nv c1 na c2 v3 d) : BlB a1 a2 nv c1 na c2 v3 d := by
  intro ss φ v w h
  obtain ⟨ak, ck, rfl, -, hn, -, hc⟩ := h.open
  obtain ⟨W, hW, M⟩ : ∃ W, W = w.alloc (.cells #[.slice a1 nv c1, .slice a2 na c2, v3] 31) ∧ Mem (fun _ => True) (fun _ => True) w W [.box w.heap.size [.slice a1 nv c1, .slice a2 na c2, v3]] :=
    ⟨_, rfl, (Mem.start fun _ _ => trivial).box _ _⟩
  have HC := show Hid _ from hc
  clear h hc
  go_enter Try.func120, Try.ntmps120
  go_wp2_with fail
  rw [← hW]
  clear hW
  go_loopw [7] (fun i wr => ∃ k : Nat, k ≤ ss.length ∧ i = .int .i64 k ∧ (ss.take k).all (stmtB nv na d) = true ∧ Mem (fun _ => True) (fun _ => True) w wr [.box w.heap.size [.slice a1 nv c1, .slice a2 na c2, v3]]) (fun i _ => ss.length - (intOf i).toNat)
  case atStart => exact ⟨0, Nat.zero_le _, rfl, rfl, M⟩
  case round =>
    clear M
    obtain ⟨k, hk, rfl, hall, M⟩ := hrel
    have HALL := show Hid _ from hall
    clear hall
    have hB := M.below fun _ _ => trivial
    have x0 := M.c 0 0 rfl rfl
    have x1 := M.c 0 1 rfl rfl
    have x2 := M.c 0 2 rfl rfl
    by_cases hlt : k < ss.length
    · obtain ⟨b, off, iv, vv, bv, ev, rfl, hbk, hf, ⟨e0, e1, e2, e3, e4, e5, e6, e7, e8, e9, e10⟩, g1, g2, g3, g4⟩ := HC.out k hlt
      rw [← (bcell hB).1 _ _ hbk] at e0 e1 e2 e3 e4 e5 e6 e7 e8 e9 e10
      obtain ⟨q, hq⟩ : ∃ q, q = stmtB nv na d ss[k] := ⟨_, rfl⟩
      have HC3 : Hid (∀ X, Calls Try.prog 144 #[.agg #[.slice a1 nv c1, .slice a2 na c2, v3], .agg #[.int .i64 ss[k].kind, .int .i64 ss[k].target, .int .i64 ss[k].index.kind, .int .i64 ss[k].index.value, iv, .int .i64 ss[k].value.kind, .int .i64 ss[k].value.value, vv, .int .i64 ss[k].count, bv, ev], .int .i64 d] (wr.ext X) fun x w'' => x = .returned (.bool q) ∧ ∃ Y, w'' = wr.ext Y) := fun X => by
        have bb := hB.trans ((ext_below wr X).mono hB.size)
        rw [hq]
        exact Calls.ext_of' (ih _ φ _ _ (StmtV.nice _ _ _ _ _ _ (Agr.below bb) ⟨iv, vv, bv, ev, rfl, g1, g2, g3, g4⟩))
      have HQQ := show Hid _ from hq
      have HM := show Hid _ from M
      have j0 := fun X => ext_cell e0 X
      have j1 := fun X => ext_cell e1 X
      have j2 := fun X => ext_cell e2 X
      have j3 := fun X => ext_cell e3 X
      have j4 := fun X => ext_cell e4 X
      have j5 := fun X => ext_cell e5 X
      have j6 := fun X => ext_cell e6 X
      have j7 := fun X => ext_cell e7 X
      have j8 := fun X => ext_cell e8 X
      have j9 := fun X => ext_cell e9 X
      have j10 := fun X => ext_cell e10 X
      have z0 := fun X => ext_cell x0 X
      have z1 := fun X => ext_cell x1 X
      have z2 := fun X => ext_cell x2 X
      have hlt' : (k : Int) < ss.length := by omega
      clear g1 g2 g3 g4 hq e0 e1 e2 e3 e4 e5 e6 e7 e8 e9 e10 x0 x1 x2 M hB
      cases q
      · go_wp2_with fail
        refine wp_region_ext (by kernel_rfl) (by kernel_rfl) ?_
        repeat (any_goals (first | go_big_quiet_step (((go_at_call 144; exact HC3.out _))) | quiet_step (((go_at_call 144; exact HC3.out _)))))
        refine wpQuiet_nil ?_
        rintro _ ⟨X, rfl⟩
        go_wp2_with fail
        go_ret
        exact ⟨ret_bool (by symm; exact List.all_eq_false.2 ⟨_, List.getElem_mem hlt, by rw [← HQQ.out]; simp⟩), (HM.out.call (ext_below wr X)).below fun _ _ => trivial⟩
      · go_wp2_with fail
        refine wp_region_ext (by kernel_rfl) (by kernel_rfl) ?_
        repeat (any_goals (first | go_big_quiet_step (((go_at_call 144; exact HC3.out _))) | quiet_step (((go_at_call 144; exact HC3.out _)))))
        refine wpQuiet_nil ?_
        rintro _ ⟨X, rfl⟩
        go_wp2_with fail
        refine ⟨⟨k + 1, by omega, by go_num, ?_, HM.out.call (ext_below wr X)⟩, by simp [intOf]; omega⟩
        rw [p_take_succ _ _ hlt, List.all_append, HALL.out]
        simp [← HQQ.out]
    · have hkn : k = ss.length := by omega
      subst hkn
      have hall := HALL.out
      rw [List.take_of_length_le (Nat.le_refl _)] at hall
      have HAL := show Hid _ from hall
      have HB := show Hid _ from hB
      clear hall x0 x1 x2 M hB
      go_wp2_with fail
      go_ret
      exact ⟨ret_bool HAL.out.symm, HB.out⟩

set_option maxRecDepth 100000 in
set_option maxHeartbeats 8000000 in
theorem l2Stmt_of (a1 a2 : Option Addr) (nv c1 na c2 : Nat) (v3 : Value) (h1 : nv ≤ 9223372036854775807) (h2 : na ≤ 9223372036854775807) : ∀ d : Nat, d ≤ 5 → StB a1 a2 nv c1 na c2 v3 d := by
  intro d
  induction d with
  | zero =>
    intro _ s φ v w h
    obtain ⟨ai, ci, av, cv, ab, cb, ae, ce, rfl, -, -⟩ := h.form
    have HP : Hid (stmtB nv na 0 s = false) := rfl
    clear h
    go_enter Try.func144, Try.ntmps144
    go_wp2_with fail
    go_ret
    exact ⟨ret_bool HP.out.symm, by go_grown⟩
  | succ d ih0 =>
    intro hd5 s φ v w h
    have ih := ih0 (by omega)
    clear ih0
    have hfull := h
    obtain ⟨ai, ci, av, cv, ab, cb, ae, ce, rfl, ⟨g1, g2, g3, g4⟩, -⟩ := h.form
    have hd0 : (d : Int) ≤ 5 := by omega
    have p9 : decide ((d : Int) + 1 < 1) = false := decide_eq_false (by omega)
    have HD0 : Hid (stmtB nv na (d + 1) s = (partsB s && (if s.kind = 1 ∨ s.kind = 5 then decide (0 ≤ s.target) && decide (s.target < (nv : Int)) && rightB nv na s.value else if s.kind = 2 then decide (0 ≤ s.target) && decide (s.target < (na : Int)) && rightB nv na s.index && atomB s.index && rightB nv na s.value
      else if s.kind = 3 then rightB nv na s.value && s.body.all (stmtB nv na d) && s.els.all (stmtB nv na d) else if s.kind = 4 then s.body.all (stmtB nv na d) else false))) := rfl
    have HG : Hid (∀ W, Below w.heap.size w W → ExprV W φ (.agg #[.int .i64 s.index.kind, .int .i64 s.index.value, .slice ai s.index.kids.length ci]) s.index ∧ ExprV W φ (.agg #[.int .i64 s.value.kind, .int .i64 s.value.value, .slice av s.value.kids.length cv]) s.value ∧ BlockV W φ (.slice ab s.body.length cb) s.body ∧ BlockV W φ (.slice ae s.els.length ce) s.els) := fun W k =>
      ⟨⟨_, rfl, KidsV.nice _ _ _ _ _ _ (Agr.below k) g1⟩, ⟨_, rfl, KidsV.nice _ _ _ _ _ _ (Agr.below k) g2⟩, BlockV.nice _ _ _ _ _ _ (Agr.below k) g3, BlockV.nice _ _ _ _ _ _ (Agr.below k) g4⟩
    have HF : Hid (∀ W, Below w.heap.size w W → StmtV W φ (.agg #[.int .i64 s.kind, .int .i64 s.target, .int .i64 s.index.kind, .int .i64 s.index.value, .slice ai s.index.kids.length ci, .int .i64 s.value.kind, .int .i64 s.value.value, .slice av s.value.kids.length cv, .int .i64 s.count, .slice ab s.body.length cb, .slice ae s.els.length ce]) s) := fun W k => StmtV.nice _ _ _ _ _ _ (Agr.below k) hfull
    obtain ⟨W, hW, M⟩ : ∃ W, W = (w.alloc (.cells #[.slice a1 nv c1, .slice a2 na c2, v3] 31)).alloc (.cells #[.int .i64 s.kind, .int .i64 s.target, .int .i64 s.index.kind, .int .i64 s.index.value, .slice ai s.index.kids.length ci, .int .i64 s.value.kind, .int .i64 s.value.value, .slice av s.value.kids.length cv, .int .i64 s.count, .slice ab s.body.length cb, .slice ae s.els.length ce] 60) ∧ Mem (fun _ => True) (fun _ => True) w W [.box w.heap.size [.slice a1 nv c1, .slice a2 na c2, v3], .box (w.heap.size + 1) [.int .i64 s.kind, .int .i64 s.target, .int .i64 s.index.kind, .int .i64 s.index.value, .slice ai s.index.kids.length ci, .int .i64 s.value.kind, .int .i64 s.value.value, .slice av s.value.kids.length cv, .int .i64 s.count, .slice ab s.body.length cb, .slice ae s.els.length ce]] :=
      ⟨_, rfl, ((Mem.start fun _ _ => trivial).box _ _).box' _ _ (by simp)⟩
    clear g1 g2 g3 g4 h hfull
    have c0 := M.c 1 0 rfl rfl
    have c1 := M.c 1 1 rfl rfl
    have c2 := M.c 1 2 rfl rfl
    have c3 := M.c 1 3 rfl rfl
    have c4 := M.c 1 4 rfl rfl
    have c5 := M.c 1 5 rfl rfl
    have c6 := M.c 1 6 rfl rfl
    have c7 := M.c 1 7 rfl rfl
    have c8 := M.c 1 8 rfl rfl
    have c9 := M.c 1 9 rfl rfl
    have c10 := M.c 1 10 rfl rfl
    have x0 := M.c 0 0 rfl rfl
    have x1 := M.c 0 1 rfl rfl
    have x2 := M.c 0 2 rfl rfl
    have HM := show Hid _ from M
    rw [hW] at c0 c1 c2 c3 c4 c5 c6 c7 c8 c9 c10 x0 x1 x2
    clear M
    go_enter Try.func144, Try.ntmps144
    go_wp2_with fail
    rw [← hW]
    clear hW
    have M := HM.out
    clear HM c0 c1 c2 c3 c4 c5 c6 c7 c8 c9 c10 x0 x1 x2
    refine (spec_l2Parts φ _ s _ (HF.out _ (M.below fun _ _ => trivial))).mono ?_
    rintro x w1 ⟨rfl, b1⟩
    replace M := M.call b1
    clear b1
    obtain ⟨b, hb⟩ : ∃ b, b = partsB s := ⟨_, rfl⟩
    rw [← hb]
    have HB := show Hid _ from hb
    clear hb
    cases b
    · have HP : Hid (stmtB nv na (d + 1) s = false) := by rw [Hid, HD0.out, ← HB.out]; rfl
      clear HD0 HB
      have c0 := M.c 1 0 rfl rfl
      have c1 := M.c 1 1 rfl rfl
      have c2 := M.c 1 2 rfl rfl
      have c3 := M.c 1 3 rfl rfl
      have c4 := M.c 1 4 rfl rfl
      have c5 := M.c 1 5 rfl rfl
      have c6 := M.c 1 6 rfl rfl
      have c7 := M.c 1 7 rfl rfl
      have c8 := M.c 1 8 rfl rfl
      have c9 := M.c 1 9 rfl rfl
      have c10 := M.c 1 10 rfl rfl
      have x0 := M.c 0 0 rfl rfl
      have x1 := M.c 0 1 rfl rfl
      have x2 := M.c 0 2 rfl rfl
      have HM := show Hid _ from M
      clear M
      go_wp2_with fail
      go_ret
      exact ⟨ret_bool (by rw [HP.out]), HM.out.below fun _ _ => trivial⟩
    have HD := show Hid (stmtB nv na (d + 1) s = (if s.kind = 1 ∨ s.kind = 5 then decide (0 ≤ s.target) && decide (s.target < (nv : Int)) && rightB nv na s.value else if s.kind = 2 then decide (0 ≤ s.target) && decide (s.target < (na : Int)) && rightB nv na s.index && atomB s.index && rightB nv na s.value
      else if s.kind = 3 then rightB nv na s.value && s.body.all (stmtB nv na d) && s.els.all (stmtB nv na d) else if s.kind = 4 then s.body.all (stmtB nv na d) else false)) from by rw [Hid, HD0.out, ← HB.out]; rfl
    clear HD0 HB
    by_cases qk : s.kind = 1
    · have k1 : (s.kind == 1) = true := by simp [qk]
      have k5 : (s.kind == 5) = false := by simp [qk]
      have k2 : (s.kind == 2) = false := by simp [qk]
      have k3 : (s.kind == 3) = false := by simp [qk]
      have k4 : (s.kind == 4) = false := by simp [qk]
      have HP1 := show Hid (stmtB nv na (d + 1) s = (decide (0 ≤ s.target) && decide (s.target < (nv : Int)) && rightB nv na s.value)) from by rw [Hid, HD.out, if_pos (.inl qk)]
      clear qk
      have HP0 := show Hid (stmtB nv na (d + 1) s = (decide (0 ≤ s.target) && decide (s.target < (nv : Int)) && rightB nv na s.value)) from HP1.out
      clear HP1
      by_cases t0 : 0 ≤ s.target
      case neg =>
        have p0 : decide (0 ≤ s.target) = false := decide_eq_false t0
        have HP : Hid (stmtB nv na (d + 1) s = false) := by rw [Hid, HP0.out, p0]; rfl
        clear HP0 t0
        have c0 := M.c 1 0 rfl rfl
        have c1 := M.c 1 1 rfl rfl
        have c2 := M.c 1 2 rfl rfl
        have c3 := M.c 1 3 rfl rfl
        have c4 := M.c 1 4 rfl rfl
        have c5 := M.c 1 5 rfl rfl
        have c6 := M.c 1 6 rfl rfl
        have c7 := M.c 1 7 rfl rfl
        have c8 := M.c 1 8 rfl rfl
        have c9 := M.c 1 9 rfl rfl
        have c10 := M.c 1 10 rfl rfl
        have x0 := M.c 0 0 rfl rfl
        have x1 := M.c 0 1 rfl rfl
        have x2 := M.c 0 2 rfl rfl
        have HM := show Hid _ from M
        clear M
        go_wp2_with fail
        go_ret
        exact ⟨ret_bool (by rw [HP.out]), HM.out.below fun _ _ => trivial⟩
      have p0 : decide (0 ≤ s.target) = true := decide_eq_true t0
      by_cases t1 : s.target < (nv : Int)
      case neg =>
        have p1 : decide (s.target < (nv : Int)) = false := decide_eq_false t1
        have HP : Hid (stmtB nv na (d + 1) s = false) := by rw [Hid, HP0.out, p0, p1]; rfl
        clear HP0 t0 t1
        have c0 := M.c 1 0 rfl rfl
        have c1 := M.c 1 1 rfl rfl
        have c2 := M.c 1 2 rfl rfl
        have c3 := M.c 1 3 rfl rfl
        have c4 := M.c 1 4 rfl rfl
        have c5 := M.c 1 5 rfl rfl
        have c6 := M.c 1 6 rfl rfl
        have c7 := M.c 1 7 rfl rfl
        have c8 := M.c 1 8 rfl rfl
        have c9 := M.c 1 9 rfl rfl
        have c10 := M.c 1 10 rfl rfl
        have x0 := M.c 0 0 rfl rfl
        have x1 := M.c 0 1 rfl rfl
        have x2 := M.c 0 2 rfl rfl
        have HM := show Hid _ from M
        clear M
        go_wp2_with fail
        go_ret
        exact ⟨ret_bool (by rw [HP.out]), HM.out.below fun _ _ => trivial⟩
      have p1 : decide (s.target < (nv : Int)) = true := decide_eq_true t1
      have HP1 := show Hid (stmtB nv na (d + 1) s = (rightB nv na s.value)) from by rw [Hid, HP0.out, p0, p1]; rfl
      clear HP0 t0 t1
      have HP0 := show Hid (stmtB nv na (d + 1) s = (rightB nv na s.value)) from HP1.out
      clear HP1
      have c0 := M.c 1 0 rfl rfl
      have c1 := M.c 1 1 rfl rfl
      have c2 := M.c 1 2 rfl rfl
      have c3 := M.c 1 3 rfl rfl
      have c4 := M.c 1 4 rfl rfl
      have c5 := M.c 1 5 rfl rfl
      have c6 := M.c 1 6 rfl rfl
      have c7 := M.c 1 7 rfl rfl
      have c8 := M.c 1 8 rfl rfl
      have c9 := M.c 1 9 rfl rfl
      have c10 := M.c 1 10 rfl rfl
      have x0 := M.c 0 0 rfl rfl
      have x1 := M.c 0 1 rfl rfl
      have x2 := M.c 0 2 rfl rfl
      have HM := show Hid _ from M
      clear M
      go_wp2_with fail
      have M := HM.out
      clear HM c0 c1 c2 c3 c4 c5 c6 c7 c8 c9 c10 x0 x1 x2
      refine (spec_l2Right a1 a2 nv c1 na c2 v3 h1 h2 s.value φ _ _ (HG.out _ (M.below fun _ _ => trivial)).2.1).mono ?_
      rintro x w1 ⟨rfl, b1⟩
      replace M := M.call b1
      clear b1
      have HP : Hid (stmtB nv na (d + 1) s = rightB nv na s.value) := HP0.out
      clear HP0
      have HM := show Hid _ from M
      clear M
      go_wp2_with fail
      go_ret
      exact ⟨ret_bool (by rw [HP.out]), HM.out.below fun _ _ => trivial⟩
    have qn1 := qk
    clear qk
    by_cases qk : s.kind = 5
    · have k1 : (s.kind == 1) = false := by simp [qk]
      have k5 : (s.kind == 5) = true := by simp [qk]
      have k2 : (s.kind == 2) = false := by simp [qk]
      have k3 : (s.kind == 3) = false := by simp [qk]
      have k4 : (s.kind == 4) = false := by simp [qk]
      have HP1 := show Hid (stmtB nv na (d + 1) s = (decide (0 ≤ s.target) && decide (s.target < (nv : Int)) && rightB nv na s.value)) from by rw [Hid, HD.out, if_pos (.inr qk)]
      clear qk
      have HP0 := show Hid (stmtB nv na (d + 1) s = (decide (0 ≤ s.target) && decide (s.target < (nv : Int)) && rightB nv na s.value)) from HP1.out
      clear HP1
      by_cases t0 : 0 ≤ s.target
      case neg =>
        have p0 : decide (0 ≤ s.target) = false := decide_eq_false t0
        have HP : Hid (stmtB nv na (d + 1) s = false) := by rw [Hid, HP0.out, p0]; rfl
        clear HP0 t0
        have c0 := M.c 1 0 rfl rfl
        have c1 := M.c 1 1 rfl rfl
        have c2 := M.c 1 2 rfl rfl
        have c3 := M.c 1 3 rfl rfl
        have c4 := M.c 1 4 rfl rfl
        have c5 := M.c 1 5 rfl rfl
        have c6 := M.c 1 6 rfl rfl
        have c7 := M.c 1 7 rfl rfl
        have c8 := M.c 1 8 rfl rfl
        have c9 := M.c 1 9 rfl rfl
        have c10 := M.c 1 10 rfl rfl
        have x0 := M.c 0 0 rfl rfl
        have x1 := M.c 0 1 rfl rfl
        have x2 := M.c 0 2 rfl rfl
        have HM := show Hid _ from M
        clear M
        go_wp2_with fail
        go_ret
        exact ⟨ret_bool (by rw [HP.out]), HM.out.below fun _ _ => trivial⟩
      have p0 : decide (0 ≤ s.target) = true := decide_eq_true t0
      by_cases t1 : s.target < (nv : Int)
      case neg =>
        have p1 : decide (s.target < (nv : Int)) = false := decide_eq_false t1
        have HP : Hid (stmtB nv na (d + 1) s = false) := by rw [Hid, HP0.out, p0, p1]; rfl
        clear HP0 t0 t1
        have c0 := M.c 1 0 rfl rfl
        have c1 := M.c 1 1 rfl rfl
        have c2 := M.c 1 2 rfl rfl
        have c3 := M.c 1 3 rfl rfl
        have c4 := M.c 1 4 rfl rfl
        have c5 := M.c 1 5 rfl rfl
        have c6 := M.c 1 6 rfl rfl
        have c7 := M.c 1 7 rfl rfl
        have c8 := M.c 1 8 rfl rfl
        have c9 := M.c 1 9 rfl rfl
        have c10 := M.c 1 10 rfl rfl
        have x0 := M.c 0 0 rfl rfl
        have x1 := M.c 0 1 rfl rfl
        have x2 := M.c 0 2 rfl rfl
        have HM := show Hid _ from M
        clear M
        go_wp2_with fail
        go_ret
        exact ⟨ret_bool (by rw [HP.out]), HM.out.below fun _ _ => trivial⟩
      have p1 : decide (s.target < (nv : Int)) = true := decide_eq_true t1
      have HP1 := show Hid (stmtB nv na (d + 1) s = (rightB nv na s.value)) from by rw [Hid, HP0.out, p0, p1]; rfl
      clear HP0 t0 t1
      have HP0 := show Hid (stmtB nv na (d + 1) s = (rightB nv na s.value)) from HP1.out
      clear HP1
      have c0 := M.c 1 0 rfl rfl
      have c1 := M.c 1 1 rfl rfl
      have c2 := M.c 1 2 rfl rfl
      have c3 := M.c 1 3 rfl rfl
      have c4 := M.c 1 4 rfl rfl
      have c5 := M.c 1 5 rfl rfl
      have c6 := M.c 1 6 rfl rfl
      have c7 := M.c 1 7 rfl rfl
      have c8 := M.c 1 8 rfl rfl
      have c9 := M.c 1 9 rfl rfl
      have c10 := M.c 1 10 rfl rfl
      have x0 := M.c 0 0 rfl rfl
      have x1 := M.c 0 1 rfl rfl
      have x2 := M.c 0 2 rfl rfl
      have HM := show Hid _ from M
      clear M
      go_wp2_with fail
      have M := HM.out
      clear HM c0 c1 c2 c3 c4 c5 c6 c7 c8 c9 c10 x0 x1 x2
      refine (spec_l2Right a1 a2 nv c1 na c2 v3 h1 h2 s.value φ _ _ (HG.out _ (M.below fun _ _ => trivial)).2.1).mono ?_
      rintro x w1 ⟨rfl, b1⟩
      replace M := M.call b1
      clear b1
      have HP : Hid (stmtB nv na (d + 1) s = rightB nv na s.value) := HP0.out
      clear HP0
      have HM := show Hid _ from M
      clear M
      go_wp2_with fail
      go_ret
      exact ⟨ret_bool (by rw [HP.out]), HM.out.below fun _ _ => trivial⟩
    have qn5 := qk
    clear qk
    by_cases qk : s.kind = 2
    · have k1 : (s.kind == 1) = false := by simp [qk]
      have k5 : (s.kind == 5) = false := by simp [qk]
      have k2 : (s.kind == 2) = true := by simp [qk]
      have k3 : (s.kind == 3) = false := by simp [qk]
      have k4 : (s.kind == 4) = false := by simp [qk]
      have HP1 := show Hid (stmtB nv na (d + 1) s = (decide (0 ≤ s.target) && decide (s.target < (na : Int)) && rightB nv na s.index && atomB s.index && rightB nv na s.value)) from by rw [Hid, HD.out, if_neg (by omega), if_pos qk]
      clear qk
      have HP0 := show Hid (stmtB nv na (d + 1) s = (decide (0 ≤ s.target) && decide (s.target < (na : Int)) && rightB nv na s.index && atomB s.index && rightB nv na s.value)) from HP1.out
      clear HP1
      by_cases t0 : 0 ≤ s.target
      case neg =>
        have p0 : decide (0 ≤ s.target) = false := decide_eq_false t0
        have HP : Hid (stmtB nv na (d + 1) s = false) := by rw [Hid, HP0.out, p0]; rfl
        clear HP0 t0
        have c0 := M.c 1 0 rfl rfl
        have c1 := M.c 1 1 rfl rfl
        have c2 := M.c 1 2 rfl rfl
        have c3 := M.c 1 3 rfl rfl
        have c4 := M.c 1 4 rfl rfl
        have c5 := M.c 1 5 rfl rfl
        have c6 := M.c 1 6 rfl rfl
        have c7 := M.c 1 7 rfl rfl
        have c8 := M.c 1 8 rfl rfl
        have c9 := M.c 1 9 rfl rfl
        have c10 := M.c 1 10 rfl rfl
        have x0 := M.c 0 0 rfl rfl
        have x1 := M.c 0 1 rfl rfl
        have x2 := M.c 0 2 rfl rfl
        have HM := show Hid _ from M
        clear M
        go_wp2_with fail
        go_ret
        exact ⟨ret_bool (by rw [HP.out]), HM.out.below fun _ _ => trivial⟩
      have p0 : decide (0 ≤ s.target) = true := decide_eq_true t0
      by_cases t1 : s.target < (na : Int)
      case neg =>
        have p1 : decide (s.target < (na : Int)) = false := decide_eq_false t1
        have HP : Hid (stmtB nv na (d + 1) s = false) := by rw [Hid, HP0.out, p0, p1]; rfl
        clear HP0 t0 t1
        have c0 := M.c 1 0 rfl rfl
        have c1 := M.c 1 1 rfl rfl
        have c2 := M.c 1 2 rfl rfl
        have c3 := M.c 1 3 rfl rfl
        have c4 := M.c 1 4 rfl rfl
        have c5 := M.c 1 5 rfl rfl
        have c6 := M.c 1 6 rfl rfl
        have c7 := M.c 1 7 rfl rfl
        have c8 := M.c 1 8 rfl rfl
        have c9 := M.c 1 9 rfl rfl
        have c10 := M.c 1 10 rfl rfl
        have x0 := M.c 0 0 rfl rfl
        have x1 := M.c 0 1 rfl rfl
        have x2 := M.c 0 2 rfl rfl
        have HM := show Hid _ from M
        clear M
        go_wp2_with fail
        go_ret
        exact ⟨ret_bool (by rw [HP.out]), HM.out.below fun _ _ => trivial⟩
      have p1 : decide (s.target < (na : Int)) = true := decide_eq_true t1
      have HP1 := show Hid (stmtB nv na (d + 1) s = (rightB nv na s.index && atomB s.index && rightB nv na s.value)) from by rw [Hid, HP0.out, p0, p1]; rfl
      clear HP0 t0 t1
      have HP0 := show Hid (stmtB nv na (d + 1) s = (rightB nv na s.index && atomB s.index && rightB nv na s.value)) from HP1.out
      clear HP1
      have c0 := M.c 1 0 rfl rfl
      have c1 := M.c 1 1 rfl rfl
      have c2 := M.c 1 2 rfl rfl
      have c3 := M.c 1 3 rfl rfl
      have c4 := M.c 1 4 rfl rfl
      have c5 := M.c 1 5 rfl rfl
      have c6 := M.c 1 6 rfl rfl
      have c7 := M.c 1 7 rfl rfl
      have c8 := M.c 1 8 rfl rfl
      have c9 := M.c 1 9 rfl rfl
      have c10 := M.c 1 10 rfl rfl
      have x0 := M.c 0 0 rfl rfl
      have x1 := M.c 0 1 rfl rfl
      have x2 := M.c 0 2 rfl rfl
      have HM := show Hid _ from M
      clear M
      go_wp2_with fail
      have M := HM.out
      clear HM c0 c1 c2 c3 c4 c5 c6 c7 c8 c9 c10 x0 x1 x2
      refine (spec_l2Right a1 a2 nv c1 na c2 v3 h1 h2 s.index φ _ _ (HG.out _ (M.below fun _ _ => trivial)).1).mono ?_
      rintro x w1 ⟨rfl, b1⟩
      replace M := M.call b1
      clear b1
      obtain ⟨b, hb⟩ : ∃ b, b = rightB nv na s.index := ⟨_, rfl⟩
      rw [← hb]
      have HB := show Hid _ from hb
      clear hb
      cases b
      · have HP : Hid (stmtB nv na (d + 1) s = false) := by rw [Hid, HP0.out, ← HB.out]; rfl
        clear HP0
        have c0 := M.c 1 0 rfl rfl
        have c1 := M.c 1 1 rfl rfl
        have c2 := M.c 1 2 rfl rfl
        have c3 := M.c 1 3 rfl rfl
        have c4 := M.c 1 4 rfl rfl
        have c5 := M.c 1 5 rfl rfl
        have c6 := M.c 1 6 rfl rfl
        have c7 := M.c 1 7 rfl rfl
        have c8 := M.c 1 8 rfl rfl
        have c9 := M.c 1 9 rfl rfl
        have c10 := M.c 1 10 rfl rfl
        have x0 := M.c 0 0 rfl rfl
        have x1 := M.c 0 1 rfl rfl
        have x2 := M.c 0 2 rfl rfl
        have HM := show Hid _ from M
        clear M
        go_wp2_with fail
        go_ret
        exact ⟨ret_bool (by rw [HP.out]), HM.out.below fun _ _ => trivial⟩
      · have HP1 := show Hid (stmtB nv na (d + 1) s = (atomB s.index && rightB nv na s.value)) from by rw [Hid, HP0.out, ← HB.out]; rfl
        clear HP0 HB
        have HP0 := show Hid (stmtB nv na (d + 1) s = (atomB s.index && rightB nv na s.value)) from HP1.out
        clear HP1
        have c0 := M.c 1 0 rfl rfl
        have c1 := M.c 1 1 rfl rfl
        have c2 := M.c 1 2 rfl rfl
        have c3 := M.c 1 3 rfl rfl
        have c4 := M.c 1 4 rfl rfl
        have c5 := M.c 1 5 rfl rfl
        have c6 := M.c 1 6 rfl rfl
        have c7 := M.c 1 7 rfl rfl
        have c8 := M.c 1 8 rfl rfl
        have c9 := M.c 1 9 rfl rfl
        have c10 := M.c 1 10 rfl rfl
        have x0 := M.c 0 0 rfl rfl
        have x1 := M.c 0 1 rfl rfl
        have x2 := M.c 0 2 rfl rfl
        have HM := show Hid _ from M
        clear M
        go_wp2_with fail
        have M := HM.out
        clear HM c0 c1 c2 c3 c4 c5 c6 c7 c8 c9 c10 x0 x1 x2
        refine (spec_l2Atom _ _ _ _).mono ?_
        rintro x w1 ⟨rfl, b1⟩
        replace M := M.call b1
        clear b1
        rw [show (decide (s.index.kind = 1) || decide (s.index.kind = 2)) = atomB s.index from rfl]
        obtain ⟨b, hb⟩ : ∃ b, b = atomB s.index := ⟨_, rfl⟩
        rw [← hb]
        have HB := show Hid _ from hb
        clear hb
        cases b
        · have HP : Hid (stmtB nv na (d + 1) s = false) := by rw [Hid, HP0.out, ← HB.out]; rfl
          clear HP0
          have c0 := M.c 1 0 rfl rfl
          have c1 := M.c 1 1 rfl rfl
          have c2 := M.c 1 2 rfl rfl
          have c3 := M.c 1 3 rfl rfl
          have c4 := M.c 1 4 rfl rfl
          have c5 := M.c 1 5 rfl rfl
          have c6 := M.c 1 6 rfl rfl
          have c7 := M.c 1 7 rfl rfl
          have c8 := M.c 1 8 rfl rfl
          have c9 := M.c 1 9 rfl rfl
          have c10 := M.c 1 10 rfl rfl
          have x0 := M.c 0 0 rfl rfl
          have x1 := M.c 0 1 rfl rfl
          have x2 := M.c 0 2 rfl rfl
          have HM := show Hid _ from M
          clear M
          go_wp2_with fail
          go_ret
          exact ⟨ret_bool (by rw [HP.out]), HM.out.below fun _ _ => trivial⟩
        · have HP1 := show Hid (stmtB nv na (d + 1) s = (rightB nv na s.value)) from by rw [Hid, HP0.out, ← HB.out]; rfl
          clear HP0 HB
          have HP0 := show Hid (stmtB nv na (d + 1) s = (rightB nv na s.value)) from HP1.out
          clear HP1
          have c0 := M.c 1 0 rfl rfl
          have c1 := M.c 1 1 rfl rfl
          have c2 := M.c 1 2 rfl rfl
          have c3 := M.c 1 3 rfl rfl
          have c4 := M.c 1 4 rfl rfl
          have c5 := M.c 1 5 rfl rfl
          have c6 := M.c 1 6 rfl rfl
          have c7 := M.c 1 7 rfl rfl
          have c8 := M.c 1 8 rfl rfl
          have c9 := M.c 1 9 rfl rfl
          have c10 := M.c 1 10 rfl rfl
          have x0 := M.c 0 0 rfl rfl
          have x1 := M.c 0 1 rfl rfl
          have x2 := M.c 0 2 rfl rfl
          have HM := show Hid _ from M
          clear M
          go_wp2_with fail
          have M := HM.out
          clear HM c0 c1 c2 c3 c4 c5 c6 c7 c8 c9 c10 x0 x1 x2
          refine (spec_l2Right a1 a2 nv c1 na c2 v3 h1 h2 s.value φ _ _ (HG.out _ (M.below fun _ _ => trivial)).2.1).mono ?_
          rintro x w1 ⟨rfl, b1⟩
          replace M := M.call b1
          clear b1
          have HP : Hid (stmtB nv na (d + 1) s = rightB nv na s.value) := HP0.out
          clear HP0
          have HM := show Hid _ from M
          clear M
          go_wp2_with fail
          go_ret
          exact ⟨ret_bool (by rw [HP.out]), HM.out.below fun _ _ => trivial⟩
    have qn2 := qk
    clear qk
    by_cases qk : s.kind = 3
    · have k1 : (s.kind == 1) = false := by simp [qk]
      have k5 : (s.kind == 5) = false := by simp [qk]
      have k2 : (s.kind == 2) = false := by simp [qk]
      have k3 : (s.kind == 3) = true := by simp [qk]
      have k4 : (s.kind == 4) = false := by simp [qk]
      have HP1 := show Hid (stmtB nv na (d + 1) s = (rightB nv na s.value && s.body.all (stmtB nv na d) && s.els.all (stmtB nv na d))) from by rw [Hid, HD.out, if_neg (by omega), if_neg (by omega), if_pos qk]
      clear qk
      have HP0 := show Hid (stmtB nv na (d + 1) s = (rightB nv na s.value && s.body.all (stmtB nv na d) && s.els.all (stmtB nv na d))) from HP1.out
      clear HP1
      have c0 := M.c 1 0 rfl rfl
      have c1 := M.c 1 1 rfl rfl
      have c2 := M.c 1 2 rfl rfl
      have c3 := M.c 1 3 rfl rfl
      have c4 := M.c 1 4 rfl rfl
      have c5 := M.c 1 5 rfl rfl
      have c6 := M.c 1 6 rfl rfl
      have c7 := M.c 1 7 rfl rfl
      have c8 := M.c 1 8 rfl rfl
      have c9 := M.c 1 9 rfl rfl
      have c10 := M.c 1 10 rfl rfl
      have x0 := M.c 0 0 rfl rfl
      have x1 := M.c 0 1 rfl rfl
      have x2 := M.c 0 2 rfl rfl
      have HM := show Hid _ from M
      clear M
      go_wp2_with fail
      have M := HM.out
      clear HM c0 c1 c2 c3 c4 c5 c6 c7 c8 c9 c10 x0 x1 x2
      refine (spec_l2Right a1 a2 nv c1 na c2 v3 h1 h2 s.value φ _ _ (HG.out _ (M.below fun _ _ => trivial)).2.1).mono ?_
      rintro x w1 ⟨rfl, b1⟩
      replace M := M.call b1
      clear b1
      obtain ⟨b, hb⟩ : ∃ b, b = rightB nv na s.value := ⟨_, rfl⟩
      rw [← hb]
      have HB := show Hid _ from hb
      clear hb
      cases b
      · have HP : Hid (stmtB nv na (d + 1) s = false) := by rw [Hid, HP0.out, ← HB.out]; rfl
        clear HP0
        have c0 := M.c 1 0 rfl rfl
        have c1 := M.c 1 1 rfl rfl
        have c2 := M.c 1 2 rfl rfl
        have c3 := M.c 1 3 rfl rfl
        have c4 := M.c 1 4 rfl rfl
        have c5 := M.c 1 5 rfl rfl
        have c6 := M.c 1 6 rfl rfl
        have c7 := M.c 1 7 rfl rfl
        have c8 := M.c 1 8 rfl rfl
        have c9 := M.c 1 9 rfl rfl
        have c10 := M.c 1 10 rfl rfl
        have x0 := M.c 0 0 rfl rfl
        have x1 := M.c 0 1 rfl rfl
        have x2 := M.c 0 2 rfl rfl
        have HM := show Hid _ from M
        clear M
        go_wp2_with fail
        go_ret
        exact ⟨ret_bool (by rw [HP.out]), HM.out.below fun _ _ => trivial⟩
      · have HP1 := show Hid (stmtB nv na (d + 1) s = (s.body.all (stmtB nv na d) && s.els.all (stmtB nv na d))) from by rw [Hid, HP0.out, ← HB.out]; rfl
        clear HP0 HB
        have HP0 := show Hid (stmtB nv na (d + 1) s = (s.body.all (stmtB nv na d) && s.els.all (stmtB nv na d))) from HP1.out
        clear HP1
        have c0 := M.c 1 0 rfl rfl
        have c1 := M.c 1 1 rfl rfl
        have c2 := M.c 1 2 rfl rfl
        have c3 := M.c 1 3 rfl rfl
        have c4 := M.c 1 4 rfl rfl
        have c5 := M.c 1 5 rfl rfl
        have c6 := M.c 1 6 rfl rfl
        have c7 := M.c 1 7 rfl rfl
        have c8 := M.c 1 8 rfl rfl
        have c9 := M.c 1 9 rfl rfl
        have c10 := M.c 1 10 rfl rfl
        have x0 := M.c 0 0 rfl rfl
        have x1 := M.c 0 1 rfl rfl
        have x2 := M.c 0 2 rfl rfl
        have HM := show Hid _ from M
        clear M
        go_wp2_with fail
        have M := HM.out
        clear HM c0 c1 c2 c3 c4 c5 c6 c7 c8 c9 c10 x0 x1 x2
        refine (l2Block_of a1 a2 nv c1 na c2 v3 d (by omega) ih s.body φ _ _ (HG.out _ (M.below fun _ _ => trivial)).2.2.1).mono ?_
        rintro x w1 ⟨rfl, b1⟩
        replace M := M.call b1
        clear b1
        obtain ⟨b, hb⟩ : ∃ b, b = s.body.all (stmtB nv na d) := ⟨_, rfl⟩
        rw [← hb]
        have HB := show Hid _ from hb
        clear hb
        cases b
        · have HP : Hid (stmtB nv na (d + 1) s = false) := by rw [Hid, HP0.out, ← HB.out]; rfl
          clear HP0
          have c0 := M.c 1 0 rfl rfl
          have c1 := M.c 1 1 rfl rfl
          have c2 := M.c 1 2 rfl rfl
          have c3 := M.c 1 3 rfl rfl
          have c4 := M.c 1 4 rfl rfl
          have c5 := M.c 1 5 rfl rfl
          have c6 := M.c 1 6 rfl rfl
          have c7 := M.c 1 7 rfl rfl
          have c8 := M.c 1 8 rfl rfl
          have c9 := M.c 1 9 rfl rfl
          have c10 := M.c 1 10 rfl rfl
          have x0 := M.c 0 0 rfl rfl
          have x1 := M.c 0 1 rfl rfl
          have x2 := M.c 0 2 rfl rfl
          have HM := show Hid _ from M
          clear M
          go_wp2_with fail
          go_ret
          exact ⟨ret_bool (by rw [HP.out]), HM.out.below fun _ _ => trivial⟩
        · have HP1 := show Hid (stmtB nv na (d + 1) s = (s.els.all (stmtB nv na d))) from by rw [Hid, HP0.out, ← HB.out]; rfl
          clear HP0 HB
          have HP0 := show Hid (stmtB nv na (d + 1) s = (s.els.all (stmtB nv na d))) from HP1.out
          clear HP1
          have c0 := M.c 1 0 rfl rfl
          have c1 := M.c 1 1 rfl rfl
          have c2 := M.c 1 2 rfl rfl
          have c3 := M.c 1 3 rfl rfl
          have c4 := M.c 1 4 rfl rfl
          have c5 := M.c 1 5 rfl rfl
          have c6 := M.c 1 6 rfl rfl
          have c7 := M.c 1 7 rfl rfl
          have c8 := M.c 1 8 rfl rfl
          have c9 := M.c 1 9 rfl rfl
          have c10 := M.c 1 10 rfl rfl
          have x0 := M.c 0 0 rfl rfl
          have x1 := M.c 0 1 rfl rfl
          have x2 := M.c 0 2 rfl rfl
          have HM := show Hid _ from M
          clear M
          go_wp2_with fail
          have M := HM.out
          clear HM c0 c1 c2 c3 c4 c5 c6 c7 c8 c9 c10 x0 x1 x2
          refine (l2Block_of a1 a2 nv c1 na c2 v3 d (by omega) ih s.els φ _ _ (HG.out _ (M.below fun _ _ => trivial)).2.2.2).mono ?_
          rintro x w1 ⟨rfl, b1⟩
          replace M := M.call b1
          clear b1
          have HP : Hid (stmtB nv na (d + 1) s = (s.els.all (stmtB nv na d))) := HP0.out
          clear HP0
          have HM := show Hid _ from M
          clear M
          go_wp2_with fail
          go_ret
          exact ⟨ret_bool (by rw [HP.out]), HM.out.below fun _ _ => trivial⟩
    have qn3 := qk
    clear qk
    by_cases qk : s.kind = 4
    · have k1 : (s.kind == 1) = false := by simp [qk]
      have k5 : (s.kind == 5) = false := by simp [qk]
      have k2 : (s.kind == 2) = false := by simp [qk]
      have k3 : (s.kind == 3) = false := by simp [qk]
      have k4 : (s.kind == 4) = true := by simp [qk]
      have HP1 := show Hid (stmtB nv na (d + 1) s = ((s.body.all (stmtB nv na d)))) from by rw [Hid, HD.out, if_neg (by omega), if_neg (by omega), if_neg (by omega), if_pos qk]
      clear qk
      have HP0 := show Hid (stmtB nv na (d + 1) s = ((s.body.all (stmtB nv na d)))) from HP1.out
      clear HP1
      have c0 := M.c 1 0 rfl rfl
      have c1 := M.c 1 1 rfl rfl
      have c2 := M.c 1 2 rfl rfl
      have c3 := M.c 1 3 rfl rfl
      have c4 := M.c 1 4 rfl rfl
      have c5 := M.c 1 5 rfl rfl
      have c6 := M.c 1 6 rfl rfl
      have c7 := M.c 1 7 rfl rfl
      have c8 := M.c 1 8 rfl rfl
      have c9 := M.c 1 9 rfl rfl
      have c10 := M.c 1 10 rfl rfl
      have x0 := M.c 0 0 rfl rfl
      have x1 := M.c 0 1 rfl rfl
      have x2 := M.c 0 2 rfl rfl
      have HM := show Hid _ from M
      clear M
      go_wp2_with fail
      have M := HM.out
      clear HM c0 c1 c2 c3 c4 c5 c6 c7 c8 c9 c10 x0 x1 x2
      refine (l2Block_of a1 a2 nv c1 na c2 v3 d (by omega) ih s.body φ _ _ (HG.out _ (M.below fun _ _ => trivial)).2.2.1).mono ?_
      rintro x w1 ⟨rfl, b1⟩
      replace M := M.call b1
      clear b1
      have HP : Hid (stmtB nv na (d + 1) s = (s.body.all (stmtB nv na d))) := HP0.out
      clear HP0
      have HM := show Hid _ from M
      clear M
      go_wp2_with fail
      go_ret
      exact ⟨ret_bool (by rw [HP.out]), HM.out.below fun _ _ => trivial⟩
    have HP : Hid (stmtB nv na (d + 1) s = false) := by rw [Hid, HD.out, if_neg (by omega), if_neg qn2, if_neg qn3, if_neg qk]
    have k1 : (s.kind == 1) = false := by simp [qn1]
    have k5 : (s.kind == 5) = false := by simp [qn5]
    have k2 : (s.kind == 2) = false := by simp [qn2]
    have k3 : (s.kind == 3) = false := by simp [qn3]
    have k4 : (s.kind == 4) = false := by simp [qk]
    clear HD qn1 qn5 qn2 qn3 qk
    have c0 := M.c 1 0 rfl rfl
    have c1 := M.c 1 1 rfl rfl
    have c2 := M.c 1 2 rfl rfl
    have c3 := M.c 1 3 rfl rfl
    have c4 := M.c 1 4 rfl rfl
    have c5 := M.c 1 5 rfl rfl
    have c6 := M.c 1 6 rfl rfl
    have c7 := M.c 1 7 rfl rfl
    have c8 := M.c 1 8 rfl rfl
    have c9 := M.c 1 9 rfl rfl
    have c10 := M.c 1 10 rfl rfl
    have x0 := M.c 0 0 rfl rfl
    have x1 := M.c 0 1 rfl rfl
    have x2 := M.c 0 2 rfl rfl
    have HM := show Hid _ from M
    clear M
    go_wp2_with fail
    go_ret
    exact ⟨ret_bool (by rw [HP.out]), HM.out.below fun _ _ => trivial⟩


section
variable {P : Program} {f : FuncId}

theorem old_ok {args : List AV} {S : List It} {x : Value} (h : ∀ (φ : Nat → Prop) (w : World) (ρ : Nat → Value), (∀ i d, lst S i = .dat d → RD w φ d (ρ i)) → Calls P f (AV.vals ρ args).toArray w fun e w' => e = .returned x ∧ Below w.heap.size w w') : Ctr.ok P (fnC f args S (.v x)) := by
  intro ι φ ψ w0 w F ρ M
  refine (h (FrF φ (lay F ρ (lst S))) w ρ fun i d hi => M.datAt hi).mono ?_
  rintro e w' ⟨rfl, hb⟩
  exact ⟨ρ, fun _ _ => rfl, rfl, M.call hb⟩
end
theorem rd_form {w : World} {φ : Nat → Prop} {d : D} {v : Value} (h : RD w φ d v) : ∃ a cap, v = .slice a d.len cap ∧ d.len ≤ 9223372036854775807 := by
  obtain ⟨a, cap, h1, h2, h3, _⟩ := h.open
  unfold maxLen at h3
  exact ⟨a, cap, h1, by omega⟩

theorem c_within (n lo hi : Int) : Ctr.ok Try.prog (fnC 72 [iA n, iA lo, iA hi] [] (bA (decide (lo ≤ n) && decide (n ≤ hi)))) :=
  old_ok fun φ w ρ _ => (impl_within n lo hi w).mono fun e w' h => ⟨h.1, h.2 ▸ Below.refl _ _⟩
theorem c_l2Heads (p : LProg) : Ctr.ok Try.prog (fnC 119 [pA 0] (pS p) (bA (headsB p.vars p.arrays))) :=
  old_ok fun φ w ρ h => spec_l2Heads (ρ 0) (ρ 1) (ρ 2) _ _ w (RowF.row (h 0 _ rfl)) (RowF.row (h 1 _ rfl))
theorem c_declared (vs ars : List Int) : Ctr.ok Try.prog (fnC 71 [.ref 0, .ref 1] [.dat (.ints vs), .dat (.ints ars)] (bA (headsB vs ars))) :=
  old_ok fun φ w ρ h => (impl_declared (ρ 0) (ρ 1) _ _ w (RowF.row (h 0 _ rfl)) (RowF.row (h 1 _ rfl))).mono fun e w' h => ⟨h.1, h.2 ▸ Below.refl _ _⟩
theorem c_l2Right (p : LProg) (e : LExpr) : Ctr.ok Try.prog (fnC 164 [pA 0, eA e 3] (pS p ++ eS e) (bA (rightB p.vars.length p.arrays.length e))) :=
  old_ok fun φ w ρ h => by
    obtain ⟨a1, c1, h1, l1⟩ := rd_form (h 0 _ rfl)
    obtain ⟨a2, c2, h2, l2⟩ := rd_form (h 1 _ rfl)
    simp only [AV.vals, AV.val, h1, h2]
    exact spec_l2Right a1 a2 _ c1 _ c2 (ρ 2) l1 l2 e φ _ w ⟨_, rfl, h 3 _ rfl⟩
theorem c_expr (p : LProg) (e : LExpr) : Ctr.ok Try.prog (fnC 145 [pA 0, eA e 3] (pS p ++ eS e) (bA (rightB p.vars.length p.arrays.length e))) :=
  old_ok fun φ w ρ h => by
    obtain ⟨a1, c1, h1, l1⟩ := rd_form (h 0 _ rfl)
    obtain ⟨a2, c2, h2, l2⟩ := rd_form (h 1 _ rfl)
    simp only [AV.vals, AV.val, h1, h2]
    exact impl_expr a1 a2 _ c1 _ c2 (ρ 2) l1 l2 e φ _ w ⟨_, rfl, h 3 _ rfl⟩
theorem c_l2Block (p : LProg) (ss : List LStmt) (n : Int) (hn : n = 5) : Ctr.ok Try.prog (fnC 120 [pA 0, .ref 3, iA n] (pS p ++ [.dat (.stmts ss)]) (bA (blockB p.vars.length p.arrays.length 5 ss))) :=
  old_ok fun φ w ρ h => by
    subst hn
    obtain ⟨a1, c1, h1, l1⟩ := rd_form (h 0 _ rfl)
    obtain ⟨a2, c2, h2, l2⟩ := rd_form (h 1 _ rfl)
    simp only [AV.vals, AV.val, h1, h2]
    exact l2Block_of a1 a2 _ c1 _ c2 (ρ 2) 5 (by omega) (l2Stmt_of a1 a2 _ c1 _ c2 (ρ 2) l1 l2 5 (by omega)) ss φ _ w (h 3 _ rfl)
theorem c_isPlain (e : LExpr) : Ctr.ok Try.prog (fnC 146 [eA e 0] (eS e) (bA (atomB e))) :=
  old_ok fun φ w ρ h => impl_isPlain e.kind e.value (ρ 0) w

mutual
theorem nS_sz : ∀ s : LStmt, nS s ≤ 1 + szS s
  | ⟨_, _, _, _, _, b, e⟩ => by
    have h1 := nSs_sz b
    have h2 := nSs_sz e
    simp only [nS, szS]; omega
theorem nSs_sz : ∀ ss : List LStmt, nSs ss ≤ szSs ss
  | [] => Nat.le_refl _
  | s :: r => by
    have h1 := nS_sz s
    have h2 := nSs_sz r
    simp only [nSs, szSs]; omega
end
theorem nSs_append (a b : List LStmt) : nSs (a ++ b) = nSs a + nSs b := by
  induction a with
  | nil => simp [nSs]
  | cons x r ih => simp [nSs, ih]; omega
theorem nS_def (s : LStmt) : nS s = 1 + nSs s.body + nSs s.els := by cases s; simp only [nS]; rfl
theorem stmtB_blocks {nv na d : Nat} {s : LStmt} (h : stmtB nv na (d + 1) s = true) : s.body.all (stmtB nv na d) = true ∧ s.els.all (stmtB nv na d) = true := by
  rw [stmtB, Bool.and_eq_true] at h
  obtain ⟨h1, h2⟩ := h
  unfold partsB at h1
  by_cases k3 : s.kind = 3
  · rw [if_neg (by omega), if_neg (by omega), if_pos k3] at h2
    simp only [Bool.and_eq_true] at h2
    exact ⟨h2.1.2, h2.2⟩
  by_cases k4 : s.kind = 4
  · rw [if_neg (by omega), if_neg (by omega), if_neg (by omega), if_pos k4] at h2
    rw [if_pos (.inr k4), if_pos k4] at h1
    simp only [Bool.and_eq_true, decide_eq_true_eq] at h1
    exact ⟨h2, by rw [List.eq_nil_of_length_eq_zero h1.2.1.1.1.1]; rfl⟩
  · rw [if_neg (by omega)] at h1
    simp only [Bool.and_eq_true, decide_eq_true_eq] at h1
    exact ⟨by rw [List.eq_nil_of_length_eq_zero h1.1.1.1]; rfl, by rw [List.eq_nil_of_length_eq_zero h1.1.1.2]; rfl⟩

theorem szS_parts (s : LStmt) : szSs s.body ≤ szS s ∧ szSs s.els ≤ szS s := by
  rcases s with ⟨_, _, _, _, _, b, e⟩
  simp only [szS, LStmt.body, LStmt.els]
  omega
theorem flat_nSs {nv na : Nat} : ∀ {ss : List LStmt}, (∀ s ∈ ss, stmtB nv na 1 s = true) → nSs ss = ss.length
  | [], _ => rfl
  | s :: r, h => by
    have h1 := stmtB_blocks (h s List.mem_cons_self)
    have key : ∀ l : List LStmt, l.all (stmtB nv na 0) = true → l = [] := fun l hl => by
      cases l with
      | nil => rfl
      | cons a r => simp [stmtB] at hl
    have h2 := flat_nSs (ss := r) fun x hx => h x (List.mem_cons_of_mem _ hx)
    rw [nSs, nS_def, key _ h1.1, key _ h1.2, h2]
    simp [nSs]; omega


def xorI (x y : Int) : Int := IntKind.i64.wrap ((BitVec.ofInt (IntKind.bits .i64) x ^^^ BitVec.ofInt (IntKind.bits .i64) y).toNat : Int)

theorem Ctr.dup {P : Program} {f : FuncId} {args args' : List AV} {S S' : List It} {d : D} {res : AV} {i : Nat} (hc : Ctr.ok P ⟨f, args, S ++ [.dat d], S' ++ [.dat d], res⟩) (hi : S[i]? = some (.dat d)) (hl : S'.length = S.length)
    (hS : S.all (fun x => ltAll S.length x.ids) = true) (ha : ∀ ρ : Nat → Value, ρ S.length = ρ i → AV.vals ρ args = AV.vals ρ args') (hg : ltAll S.length (AV.idsL args') = true) : Ctr.ok P ⟨f, args', S, S', res⟩ := by
  intro ι φ ψ w0 w F ρ M
  have hi' : lst S i = .dat d := by simp [lst, hi]
  have hlt : i < S.length := (List.getElem?_eq_some_iff.1 hi).1
  have hinv : Inv (lst S) ρ [S.length] := fun ρ' h j => by
    by_cases hj : j < S.length
    · refine It.res_congr _ (fun k hk => h k ?_) (.inr (.inr (h j (by simp; omega))))
      have h1 := ltAll_iff (List.all_eq_true.1 hS (S[j]) (List.getElem_mem hj)) k (by simpa [lst, List.getD_eq_getElem?_getD, List.getElem?_eq_getElem hj] using hk)
      simp; omega
    · rw [show lst S j = .none by simp only [lst, List.getD_eq_getElem?_getD, List.getElem?_eq_none (Nat.le_of_not_lt hj)]; rfl]; rfl
  obtain ⟨ρ', h1, M1, h2⟩ := M.newDat (id := S.length) (by simp [lst]) hinv (M.datAt hi')
  have e : updS (lst S) [(S.length, .dat d)] = lst (S ++ [.dat d]) := by
    funext j
    simp only [updS, lst, List.getD_eq_getElem?_getD]
    by_cases hj : j = S.length
    · subst hj; simp
    · rw [if_neg hj]
      by_cases hj2 : j < S.length
      · rw [List.getElem?_append_left hj2]
      · rw [List.getElem?_eq_none (by omega), List.getElem?_eq_none (by simp; omega)]
  rw [e] at M1
  have hρ : ρ' i = ρ i := h1 i (by simp; omega)
  have ea : AV.vals ρ args' = AV.vals ρ' args := by
    rw [ha ρ' (by rw [← h2, hρ])]
    exact (AV.vals_congr _ fun k hk => by
      have := ltAll_iff hg k hk
      exact h1 k (by simp; omega)).symm
  simp only
  rw [ea]
  refine (hc ι φ ψ w0 w F ρ' M1).mono ?_
  rintro x w' ⟨ρ2, g1, g2, M2⟩
  refine ⟨ρ2, fun k hk => ?_, g2, ?_⟩
  · rw [g1 k (by simp; omega)]; exact h1 k (by simp; omega)
  · refine M2.map (fun k => match k with | .inl i => some (.inl i) | .inr j => if j < S'.length then some (.inr j) else none) ?_ ?_
    · intro k k' x h1 h2
      match k, k' with
      | .inl i, .inl i' => simp at h1 h2; rw [h1, h2]
      | .inl i, .inr j => simp at h1; subst h1; simp at h2
      | .inr j, .inl i => simp at h2; subst h2; simp at h1
      | .inr j, .inr j' => simp at h1 h2; rw [← h1.2] at h2; rw [Sum.inr.inj h2.2]
    · intro k
      match k with
      | .inl i => exact .inl ⟨.inl i, rfl, rfl⟩
      | .inr j =>
        by_cases hj : j < S'.length
        · refine .inl ⟨.inr j, by simp [hj], ?_⟩
          simp only [lay, lst, List.getD_eq_getElem?_getD, List.getElem?_append_left hj]
        · refine .inr ?_
          simp only [lay, lst, List.getD_eq_getElem?_getD, List.getElem?_eq_none (Nat.le_of_not_lt hj)]
          rfl





section
variable {P : Program} {ι κ : Type} {φ ψ : Nat → Prop} {w0 w w' : World} {F : ι → Rs} {ρ ρ0 : Nat → Value}
theorem MemF.grow {L L' : κ → Rs} (M : MemF φ ψ w0 w L) (hb : Below w.heap.size w w') (K : κ → Prop) (ho : ∀ k, ¬ K k → L' k = L k) (hg : ∀ k, K k → ∀ b, (L' k).blk b → w.heap.size ≤ b) (hd : ∀ j k b, j ≠ k → K j → K k → (L' j).blk b → ¬ (L' k).blk b) (h : ∀ k, K k → (L' k).holds w' (FrF φ L')) : MemF φ ψ w0 w' L' := by
  have M1 := M.call hb
  have old : ∀ k, ¬ K k → ∀ b, (L' k).blk b → b < w.heap.size := fun k hk b h1 => by rw [ho k hk] at h1; exact M.lt h1
  refine ⟨M1.kept, M.fresh, fun k => ?_, fun i j g hij h1 h2 => ?_, fun i b h1 => ?_, fun i b h1 => ?_⟩
  · by_cases e : K k
    · exact h k e
    · rw [ho k e]
      refine Rs.keep (M.holds k) ⟨hb.size, fun b hl hf => ⟨⟨hf.1, fun j hj => ?_⟩, hb.block b hl⟩⟩ fun g hgx => hb.block g (M.lt hgx)
      by_cases e2 : K j
      · have := hg j e2 b hj; omega
      · rw [ho j e2] at hj; exact hf.2 j hj
  · by_cases e1 : K i <;> by_cases e2 : K j
    · exact hd i j g hij e1 e2 h1 h2
    · have := hg i e1 g h1; have := old j e2 g h2; omega
    · have := hg j e2 g h2; have := old i e1 g h1; omega
    · rw [ho i e1] at h1; rw [ho j e2] at h2; exact M.dis i j g hij h1 h2
  · by_cases e : K i
    · exact .inl (Nat.le_trans M.size (hg i e b h1))
    · rw [ho i e] at h1; exact M.ge i b h1
  · by_cases e : K i
    · exact M.fresh b (Nat.le_trans M.size (hg i e b h1))
    · rw [ho i e] at h1; exact M.ph i b h1
end

abbrev oP (p : LProg) : List It := [.row 3 (.ints p.vars), .row 3 (.ints p.arrays), .tree (.stmts p.body)]
abbrev oA (r : Nat) : AV := .agg [.ref r, .ref (r + 1), .tref (r + 2)]
theorem row_holds {w : World} {φ : Nat → Prop} {v : Value} {l : List Int} (h : w.ownsRow 0 3 1 v l.length (ints l)) : (Rs.row 3 (D.ints l).sz v (D.ints l).len fun xs w φ => RW w φ (.ints l) xs).holds w φ := by
  refine ⟨fun xs => RW.nice (.ints l) xs, ints l, h, fun i hi j x hx => ?_⟩
  have hi' : i < l.length := hi
  simp only [D.elem] at hx
  have hj : j = 0 := by
    cases j with
    | zero => rfl
    | succ j => simp at hx
  subst hj
  simp at hx
  subst hx
  refine ⟨_, ?_, rfl⟩
  simp only [D.sz]
  rw [Nat.mul_one, Nat.add_zero]
  simp [ints, hi']


set_option maxRecDepth 100000 in
theorem clone_ints (v : Value) (t : List Int) (w : World) (h : Row w v t.length 1 (ints t)) (hb : t.length ≤ 1000000000000) :
    Calls Try.prog 62 #[v] w fun e w' => ∃ u, e = .returned u ∧ Own w' w.heap.size w'.heap.size 3 1 u t.length (ints t) ∧ Below w.heap.size w w' := by
  obtain ⟨a, cap, rfl, hc1, hc2, hc3, -⟩ := h.open
  have hnil := fun w => Lib.run_eql_slice_nil (P := Try.prog) w 22 3 a t.length cap 0 0 Try.underlying22
  rcases a with _ | a
  · have hn : t.length = 0 := by
      rcases Nat.eq_zero_or_pos t.length with h0 | h0
      · exact h0
      · obtain ⟨_, a, c, he, _, _, hx⟩ := h
        cases he
        obtain ⟨_, _, he, _⟩ := hx h0
        cases he
    have ht : t = [] := List.eq_nil_of_length_eq_zero hn
    subst ht
    simp only [List.length_nil, Option.isNone_none] at hnil
    go_enter Try.func62, Try.ntmps62
    go_wp2_with fail
    go_ret
    exact ⟨_, rfl, ⟨World.ownsRow_nil _ _ _ _, fun g hg => by cases hg⟩, Below.refl _ _⟩
  · go_enter Try.func62, Try.ntmps62
    simp only [Option.isNone_some] at hnil
    have ba := (Below.refl w.heap.size w).alloc (Nat.le_refl _) (.cells #[] 3)
    go_wp2_with (at_builtin; refine wpList_app rfl _ _ rfl Try.underlying22 infoI rfl (by omega) rfl (own_built w #[] 0 1 _ rfl rfl (by omega)).1 rfl (h.below ba) ints_one (by omega) (by omega) (by simp) ?_; rintro a4 q4 w4 o4 b4 - -)
    go_ret
    refine ⟨_, rfl, Own.mk' (by simpa using o4), ba.trans b4⟩

theorem c_cloneInts (l : List Int) (hb : l.length ≤ 1000000000000) : Ctr.ok Try.prog ⟨62, [.ref 0], [.dat (.ints l)], [.dat (.ints l), .row 3 (.ints l)], .ref 1⟩ := by
  intro ι φ ψ w0 w F ρ M
  have hr := M.datAt (id := 0) (d := .ints l) rfl
  refine (clone_ints (ρ 0) l w (RowF.row hr) hb).mono ?_
  rintro e w' ⟨u, rfl, ⟨ho, hg⟩, hbl⟩
  refine ⟨fun i => if i = 1 then u else ρ i, fun i hi => if_neg (show ¬ i = 1 by have : i < 1 := hi; omega), by simp [AV.val], ?_⟩
  refine M.grow hbl (fun k => k = .inr 1) (fun k hk => ?_) ?_ ?_ ?_
  · cases k with
    | inl i => rfl
    | inr j =>
      match j, hk with
      | 0, _ => rfl
      | 1, h => exact absurd rfl h
      | j + 2, _ => rfl
  · rintro k rfl b hb; exact (World.ownsRow.lt ho b hb).1
  · rintro j k b hjk rfl rfl; exact absurd rfl hjk
  · rintro k rfl; exact row_holds (owns_base ho (Nat.zero_le _))

set_option maxRecDepth 100000 in
theorem c_isNone (e : LExpr) : Ctr.ok Try.prog ⟨147, [.agg [.v (.int .i64 e.kind), .v (.int .i64 e.value), .ref 0]], [.dat (.exprs e.kids)], [.dat (.exprs e.kids)], .v (.bool (noneB e))⟩ := by
  refine rx_enter 17 Try.func147 (by rfl) (by kernel_rfl) (by kernel_rfl) ?_; intro ι φ ψ w0 w F ρ0 ρ a G; replace G := Gam.at G [dE e.kids] [(0, eA e 0)]; refine wp_seq ?_; refine rs0 G [0, 1] [dE e.kids, .box (eL e 0)] [(1, .ptr 1 0), (2, bA false)] fun ρ a w G => th_n (wp_seq ?_); cases h0 : (e.kind == (0 : Int))
  · have q0 : ¬ (e.kind = 0) := ne_of_beq_false h0; refine rs1 (dk := dkP) G ⟨[], [(e.kind == (0 : Int), false), (false, false)], us [(4, 6, 0), (1007, 1007, 0), (9, 12, 1), (1013, 1013, 1)]⟩ calls_nil ⟨(by assumption), (by kernel_rfl), trivial⟩ [0] [dE e.kids] [(2, bA false)] [] trivial fun ρ a w G => th_n (wp_ret ?_); exact rx_ret (v := bA false) G [0] (by kernel_rfl) (by kernel_rfl) (by kernel_rfl) (by have e1 : (noneB e : Bool) = (false) := (by rw [Bool.eq_iff_iff]; simp [noneB, h0, q0]; done); (first | rw [e1] | simp only [e1]) <;> rfl)
  ·
   have q0 : e.kind = 0 := eq_of_beq h0; cases h1 : (e.value == (0 : Int))
   · have q1 : ¬ (e.value = 0) := ne_of_beq_false h1; refine rs1 (dk := dkP) G ⟨[], [(e.kind == (0 : Int), true), (e.value == (0 : Int), false)], us [(4, 6, 0), (1007, 1007, 0), (9, 12, 1), (1013, 1013, 1)]⟩ calls_nil ⟨(by assumption), (by assumption), trivial⟩ [0] [dE e.kids] [(2, bA false)] [] trivial fun ρ a w G => th_n (wp_ret ?_); exact rx_ret (v := bA false) G [0] (by kernel_rfl) (by kernel_rfl) (by kernel_rfl) (by have e1 : (noneB e : Bool) = (false) := (by rw [Bool.eq_iff_iff]; simp [noneB, h0, q0, h1, q1]; done); (first | rw [e1] | simp only [e1]) <;> rfl)
   · have q1 : e.value = 0 := eq_of_beq h1; refine rs1 (dk := dkP) G ⟨[], [(e.kind == (0 : Int), true), (e.value == (0 : Int), true)], us [(4, 6, 0), (1007, 1007, 0), (9, 12, 1), (1013, 1013, 1)]⟩ calls_nil ⟨(by assumption), (by assumption), trivial⟩ [0] [dE e.kids] [(2, bA ((↑e.kids.length : Int) == 0))] [] trivial fun ρ a w G => th_n (wp_ret ?_); exact rx_ret (v := bA ((↑e.kids.length : Int) == 0)) G [0] (by kernel_rfl) (by kernel_rfl) (by kernel_rfl) (by have e1 : (noneB e : Bool) = ((↑e.kids.length : Int) == 0) := (by rw [Bool.eq_iff_iff]; simp [noneB, h0, q0, h1, q1]; done); (first | rw [e1] | simp only [e1]) <;> rfl)

set_option maxRecDepth 100000 in
theorem c_l2Arity (k : Int) : Ctr.ok Try.prog ⟨175, [.v (.int .i64 k)], [], [], .v (.int .i64 (arity k))⟩ := by
  refine rx_enter 23 Try.func175 (by rfl) (by kernel_rfl) (by kernel_rfl) ?_; intro ι φ ψ w0 w F ρ0 ρ a G; replace G := Gam.at G [] [(0, iA k)]; refine wp_seq ?_; refine rs0s G [(0, iA k), (2, iA 0)] fun ρ a w G => th_n (wp_seq (wp_block (wp_seq ?_))); cases h0 : (k == (1 : Int))
  ·
   have q0 : ¬ (k = 1) := ne_of_beq_false h0; refine rs1s G ⟨[], [(k == (1 : Int), false)], [(3, 0), (4, 0), (1005, 0)]⟩ calls_nil ⟨(by assumption), trivial⟩ [(0, iA k), (2, iA 0), (3, bA (k == 2))] [] trivial fun ρ a w G => th_n ?_; cases h1 : (k == (2 : Int))
   ·
    have q1 : ¬ (k = 2) := ne_of_beq_false h1; refine rF G (k == (2 : Int)) (by assumption) ?_; refine wp_seq ?_; refine rs0s G [(0, iA k), (2, iA 0), (10, bA (k == 3))] fun ρ a w G => th_n ?_; cases h2 : (k == (3 : Int))
    ·
     have q2 : ¬ (k = 3) := ne_of_beq_false h2; refine rF G (k == (3 : Int)) (by assumption) ?_; refine wp_seq ?_; cases h3 : (decide (k ≥ (4 : Int)))
     ·
      have q3 : ¬ (k ≥ 4) := dFf h3; refine rs1s G ⟨[], [(decide (k ≥ (4 : Int)), false)], [(3, 0), (4, 0), (1005, 0)]⟩ calls_nil ⟨(by assumption), trivial⟩ [(0, iA k), (2, iA 0), (13, bA false)] [] trivial fun ρ a w G => th_n ?_; refine rF G (false) (by kernel_rfl) ?_; refine wp_seq ?_; refine rs0s G [(2, iA 0), (20, bA (k == 11))] fun ρ a w G => th_n ?_; cases h4 : (k == (11 : Int))
      · have q4 : ¬ (k = 11) := ne_of_beq_false h4; refine rF G (k == (11 : Int)) (by assumption) ?_; refine wp_skip ?_; refine bl_n ?_; refine th_n (wp_seq ?_); refine rs0s G [(2, iA (-1))] fun ρ a w G => th_n (wp_ret ?_); exact rx_ret (v := iA (-1)) G [] (by kernel_rfl) (by kernel_rfl) (by kernel_rfl) (by have e1 : (arity k : Int) = (-1) := (by unfold arity; (repeat' split) <;> omega); (first | rw [e1] | simp only [e1]) <;> rfl)
      · have q4 : k = 11 := eq_of_beq h4; refine rT G (k == (11 : Int)) (by assumption) ?_; refine wp_seq ?_; refine rs0s G [(2, iA 3)] fun ρ a w G => th_n (wp_ret (bl_r (th_r ?_))); exact rx_ret (v := iA 3) G [] (by kernel_rfl) (by kernel_rfl) (by kernel_rfl) (by have e1 : (arity k : Int) = (3) := (by unfold arity; (repeat' split) <;> omega); (first | rw [e1] | simp only [e1]) <;> rfl)
     ·
      have q3 : k ≥ 4 := dTt h3; refine rs1s G ⟨[], [(decide (k ≥ (4 : Int)), true)], [(3, 0), (4, 0), (1005, 0)]⟩ calls_nil ⟨(by assumption), trivial⟩ [(0, iA k), (2, iA 0), (13, bA (decide (k ≤ 10)))] [] trivial fun ρ a w G => th_n ?_; cases h5 : (decide (k ≤ (10 : Int)))
      ·
       have q5 : ¬ (k ≤ 10) := dFf h5; refine rF G (decide (k ≤ (10 : Int))) (by assumption) ?_; refine wp_seq ?_; refine rs0s G [(2, iA 0), (20, bA (k == 11))] fun ρ a w G => th_n ?_; cases h6 : (k == (11 : Int))
       · have q6 : ¬ (k = 11) := ne_of_beq_false h6; refine rF G (k == (11 : Int)) (by assumption) ?_; refine wp_skip ?_; refine bl_n ?_; refine th_n (wp_seq ?_); refine rs0s G [(2, iA (-1))] fun ρ a w G => th_n (wp_ret ?_); exact rx_ret (v := iA (-1)) G [] (by kernel_rfl) (by kernel_rfl) (by kernel_rfl) (by have e1 : (arity k : Int) = (-1) := (by unfold arity; (repeat' split) <;> omega); (first | rw [e1] | simp only [e1]) <;> rfl)
       · have q6 : k = 11 := eq_of_beq h6; refine rT G (k == (11 : Int)) (by assumption) ?_; refine wp_seq ?_; refine rs0s G [(2, iA 3)] fun ρ a w G => th_n (wp_ret (bl_r (th_r ?_))); exact rx_ret (v := iA 3) G [] (by kernel_rfl) (by kernel_rfl) (by kernel_rfl) (by have e1 : (arity k : Int) = (3) := (by unfold arity; (repeat' split) <;> omega); (first | rw [e1] | simp only [e1]) <;> rfl)
      · have q5 : k ≤ 10 := dTt h5; refine rT G (decide (k ≤ (10 : Int))) (by assumption) ?_; refine wp_seq ?_; refine rs0s G [(2, iA 2)] fun ρ a w G => th_n (wp_ret (bl_r (th_r ?_))); exact rx_ret (v := iA 2) G [] (by kernel_rfl) (by kernel_rfl) (by kernel_rfl) (by have e1 : (arity k : Int) = (2) := (by unfold arity; (repeat' split) <;> omega); (first | rw [e1] | simp only [e1]) <;> rfl)
    · have q2 : k = 3 := eq_of_beq h2; refine rT G (k == (3 : Int)) (by assumption) ?_; refine wp_seq ?_; refine rs0s G [(2, iA 1)] fun ρ a w G => th_n (wp_ret (bl_r (th_r ?_))); exact rx_ret (v := iA 1) G [] (by kernel_rfl) (by kernel_rfl) (by kernel_rfl) (by have e1 : (arity k : Int) = (1) := (by unfold arity; (repeat' split) <;> omega); (first | rw [e1] | simp only [e1]) <;> rfl)
   · have q1 : k = 2 := eq_of_beq h1; refine rT G (k == (2 : Int)) (by assumption) ?_; refine wp_seq ?_; refine rs0s G [(2, iA 0)] fun ρ a w G => th_n (wp_ret (bl_r (th_r ?_))); exact rx_ret (v := iA 0) G [] (by kernel_rfl) (by kernel_rfl) (by kernel_rfl) (by have e1 : (arity k : Int) = (0) := (by unfold arity; (repeat' split) <;> omega); (first | rw [e1] | simp only [e1]) <;> rfl)
  · have q0 : k = 1 := eq_of_beq h0; refine rs1s G ⟨[], [(k == (1 : Int), true)], [(3, 0), (4, 0), (1005, 0)]⟩ calls_nil ⟨(by assumption), trivial⟩ [(0, iA k), (2, iA 0), (3, bA true)] [] trivial fun ρ a w G => th_n ?_; refine rT G (true) (by kernel_rfl) ?_; refine wp_seq ?_; refine rs0s G [(2, iA 0)] fun ρ a w G => th_n (wp_ret (bl_r (th_r ?_))); exact rx_ret (v := iA 0) G [] (by kernel_rfl) (by kernel_rfl) (by kernel_rfl) (by have e1 : (arity k : Int) = (0) := (by unfold arity; (repeat' split) <;> omega); (first | rw [e1] | simp only [e1]) <;> rfl)


section
variable {nv na d : Nat} {e : LExpr}
end


def sizeD : Nat → List LStmt → Nat
  | 0, ss => ss.length
  | d + 1, ss => ss.length + (ss.map fun s => sizeD d s.body + sizeD d s.els).sum
def szP (d : Nat) (ss : List LStmt) (k : Nat) : Nat := ss.length + ((ss.take k).map fun s => sizeD d s.body + sizeD d s.els).sum
theorem szP_all (d : Nat) (ss : List LStmt) {k : Nat} (h : ss.length ≤ k) : szP d ss k = sizeD (d + 1) ss := by unfold szP; rw [List.take_of_length_le h, sizeD]
theorem szP_succ {d : Nat} {ss : List LStmt} {k : Nat} (h : k < ss.length) : szP d ss (k + 1) = szP d ss k + (sizeD d (ss.getD k default).body + sizeD d (ss.getD k default).els) := by
  unfold szP
  rw [p_take_succ ss k h, List.map_append, List.sum_append, getD_lt h]
  simp; omega
theorem sizeD_le : ∀ (d : Nat) (ss : List LStmt), sizeD d ss ≤ szSs ss := by
  intro d
  induction d with
  | zero => intro ss; exact szSs_len ss
  | succ d ih =>
    intro ss
    induction ss with
    | nil => simp [sizeD]
    | cons s r ihr =>
      have h1 := ih s.body
      have h2 := ih s.els
      have h3 := szS_parts s
      simp only [sizeD, List.map_cons, List.sum_cons, List.length_cons, szSs] at ihr ⊢
      have h4 : szSs s.body + szSs s.els ≤ szS s := by
        rcases s with ⟨_, _, _, _, _, b, e⟩
        simp only [szS, LStmt.body, LStmt.els]; omega
      omega
theorem szP_le {d : Nat} {ss : List LStmt} {k : Nat} : szP d ss k ≤ szSs ss := by
  refine Nat.le_trans ?_ (sizeD_le (d + 1) ss)
  unfold szP
  rw [sizeD]
  have : ∀ (l : List Nat) (k : Nat), (l.take k).sum ≤ l.sum := fun l k => by
    have := List.sum_append (l₁ := l.take k) (l₂ := l.drop k)
    rw [List.take_append_drop] at this; omega
  have h := this (ss.map fun s => sizeD d s.body + sizeD d s.els) k
  rw [← List.map_take] at h
  omega
theorem body_le {ss : List LStmt} {k B : Nat} (h : szSs ss ≤ B) (hk : k < ss.length) : szSs (ss.getD k default).body ≤ B ∧ szSs (ss.getD k default).els ≤ B := by
  rw [getD_lt hk]
  have h1 := szS_mem (List.getElem_mem hk)
  have h2 := szS_parts ss[k]
  omega

set_option maxRecDepth 100000 in
theorem c_l2Size0 (ss : List LStmt) (n : Int) (hn : n = 1) (hb : szSs ss ≤ 1048576) : Ctr.ok Try.prog (fnC 121 [.ref 0, iA n] [.dat (.stmts ss)] (iA (sizeD 0 ss : Nat))) := by
  have h100 : decide (n > 1) = false := by simp; omega
  refine rx_enter 39 Try.func121 (by rfl) (by kernel_rfl) (by kernel_rfl) ?_; intro ι φ ψ w0 w F ρ0 ρ a G; replace G := Gam.at G [dT ss] [(0, .ref 0), (1, iA n)]; refine wp_seq ?_; refine rs0s G [(0, .ref 0), (1, iA n), (4, iA 0)] fun ρ a w G => th_n (wp_seq ?_); refine rs0s G [(0, .ref 0), (1, iA n), (4, iA 0), (5, iA (↑ss.length : Int))] fun ρ a w G => th_n (wp_seq (wp_seq ?_)); refine rs0s G [(0, .ref 0), (1, iA n), (4, iA 0), (5, iA (↑ss.length : Int)), (6, iA 0)] fun ρ a w G => th_n (wp_block ?_); refine rx_for (κ := Nat) (fun k => k = 0) (fun k => 0) (fun k => [dT ss]) (fun k => [(0, .ref 0), (1, iA n), (4, iA 0), (5, iA (ss.length : Nat)), (6, iA k)]) (0) (by kernel_rfl) (Gam.at G _ _) ?_; clear G; intro k ρ a w hp G; replace G := Gam.at G [dT ss] [(0, .ref 0), (1, iA n), (4, iA 0), (5, iA (↑ss.length : Int)), (6, iA (↑k : Int))]; refine wp_seq (wp_seq ?_); cases h0 : (decide ((↑k : Int) < (↑ss.length : Int)))
  · have q0 : ¬ ((↑k : Int) < (↑ss.length : Int)) := dFf h0; refine rs1s G ⟨[], [(decide ((↑k : Int) < (↑ss.length : Int)), false)], [(5, 0), (6, 0), (1007, 0)]⟩ calls_nil ⟨(by assumption), trivial⟩ [(0, .ref 0), (1, iA n), (4, iA 0), (5, iA (↑ss.length : Int)), (6, iA (↑k : Int)), (16, bA false)] [] trivial fun ρ a w G => th_n ?_; refine rF G (false) (by kernel_rfl) ?_; refine wp_exit (th_e (th_e (bl_hit (th_n (wp_seq ?_))))); refine rs0s G [(4, iA (↑ss.length : Int))] fun ρ a w G => th_n (wp_ret ?_); exact rx_ret (v := iA (↑ss.length : Int)) G [0] (by kernel_rfl) (by kernel_rfl) (by kernel_rfl) (by kernel_rfl)
  · have q0 : (↑k : Int) < (↑ss.length : Int) := dTt h0; refine rs1s G ⟨[], [(decide ((↑k : Int) < (↑ss.length : Int)), true)], [(5, 0), (6, 0), (1007, 0)]⟩ calls_nil ⟨(by assumption), trivial⟩ [(0, .ref 0), (1, iA n), (4, iA 0), (5, iA (↑ss.length : Int)), (6, iA (↑k : Int)), (16, bA (decide (n > 1)))] [] trivial fun ρ a w G => th_n ?_; refine rF G (decide (n > (1 : Int))) (by assumption) ?_; refine wp_exit (th_e (th_e (bl_hit (th_n (wp_seq ?_))))); refine rs0s G [(4, iA (↑ss.length : Int))] fun ρ a w G => th_n (wp_ret ?_); exact rx_ret (v := iA (↑ss.length : Int)) G [0] (by kernel_rfl) (by kernel_rfl) (by kernel_rfl) (by kernel_rfl)

set_option maxRecDepth 100000 in
theorem c_l2SizeS (d : Nat) (hd : d ≤ 5) (ih : ∀ (ss : List LStmt) (n : Int), n = (d + 1 : Nat) → szSs ss ≤ 1048576 → Ctr.ok Try.prog (fnC 121 [.ref 0, iA n] [.dat (.stmts ss)] (iA (sizeD d ss : Nat))))
    (ss : List LStmt) (n : Int) (hn : n = (d + 2 : Nat)) (hb : szSs ss ≤ 1048576) : Ctr.ok Try.prog (fnC 121 [.ref 0, iA n] [.dat (.stmts ss)] (iA (sizeD (d + 1) ss : Nat))) := by
  have h100 : decide (n > 1) = true := by simp; omega
  refine rx_enter 39 Try.func121 (by rfl) (by kernel_rfl) (by kernel_rfl) ?_; intro ι φ ψ w0 w F ρ0 ρ a G; replace G := Gam.at G [dT ss] [(0, .ref 0), (1, iA n)]; refine wp_seq ?_; refine rs0s G [(0, .ref 0), (1, iA n), (4, iA 0)] fun ρ a w G => th_n (wp_seq ?_); refine rs0s G [(0, .ref 0), (1, iA n), (4, iA 0), (5, iA (↑ss.length : Int))] fun ρ a w G => th_n (wp_seq (wp_seq ?_)); refine rs0s G [(0, .ref 0), (1, iA n), (4, iA 0), (5, iA (↑ss.length : Int)), (6, iA 0)] fun ρ a w G => th_n (wp_block ?_); refine rx_for (κ := Nat) (fun k => k ≤ ss.length) (fun k => ss.length - k) (fun k => [dT ss]) (fun k => [(0, .ref 0), (1, iA n), (4, iA 0), (5, iA (szP d ss k : Nat)), (6, iA k)]) (0) (by simp [h100]) (Gam.at G _ _) ?_; clear G; intro k ρ a w hp G; replace G := Gam.at G [dT ss] [(0, .ref 0), (1, iA n), (4, iA 0), (5, iA (↑(szP d ss k) : Int)), (6, iA (↑k : Int))]; have hlen := szSs_len ss; refine wp_seq (wp_seq ?_); cases h0 : (decide ((↑k : Int) < (↑ss.length : Int)))
  · have q0 : ¬ ((↑k : Int) < (↑ss.length : Int)) := dFf h0; refine rs1s G ⟨[], [(decide ((↑k : Int) < (↑ss.length : Int)), false)], [(5, 0), (6, 0), (1007, 0)]⟩ calls_nil ⟨(by assumption), trivial⟩ [(0, .ref 0), (1, iA n), (4, iA 0), (5, iA (↑(szP d ss k) : Int)), (6, iA (↑k : Int)), (16, bA false)] [] trivial fun ρ a w G => th_n ?_; refine rF G (false) (by kernel_rfl) ?_; refine wp_exit (th_e (th_e (bl_hit (th_n (wp_seq ?_))))); refine rs0s G [(4, iA (↑(szP d ss k) : Int))] fun ρ a w G => th_n (wp_ret ?_); exact rx_ret (v := iA (↑(szP d ss k) : Int)) G [0] (by kernel_rfl) (by kernel_rfl) (by kernel_rfl) (by have e1 : ((↑(sizeD (d + 1) ss) : Int) : Int) = ((↑(szP d ss k) : Int)) := (by have h1 := szP_all d ss (k := k) (by omega); omega); (first | rw [e1] | simp only [e1]) <;> rfl)
  · have q0 : (↑k : Int) < (↑ss.length : Int) := dTt h0; refine rs1s G ⟨[], [(decide ((↑k : Int) < (↑ss.length : Int)), true)], [(5, 0), (6, 0), (1007, 0)]⟩ calls_nil ⟨(by assumption), trivial⟩ [(0, .ref 0), (1, iA n), (4, iA 0), (5, iA (↑(szP d ss k) : Int)), (6, iA (↑k : Int)), (16, bA (decide (n > 1)))] [] trivial fun ρ a w G => th_n ?_; refine rT G (decide (n > (1 : Int))) (by assumption) ?_; refine wp_skip (th_n (wp_seq (wp_block ?_))); refine rd1s G ⟨[(8, _, [41]), (17, _, [113])], [], []⟩ (calls_cons (ih ((ss.getD k default).body) (n - 1) (by have h1 := szP_succ (d := d) (ss := ss) (k := k) (by omega); have h2 := szP_le (d := d) (ss := ss) (k := k + 1); omega) (by exact (body_le hb (by omega)).1)) (calls_cons (ih ((ss.getD k default).els) (n - 1) (by have h1 := szP_succ (d := d) (ss := ss) (k := k) (by omega); have h2 := szP_le (d := d) (ss := ss) (k := k + 1); omega) (by exact (body_le hb (by omega)).2)) calls_nil)) trivial [0, 0, 0, 6, 14, 30, 0, 64, 254, 511, 0, 0, 3072, 7168, 15360, 0, 32768, 130558, 262143, 524287] [(0, .ref 0), (1, iA n), (4, iA 0), (5, iA ((↑(szP d ss k) : Int) + (↑(sizeD d (ss.getD k default).body) : Int) + (↑(sizeD d (ss.getD k default).els) : Int))), (6, iA (↑k : Int))] [(0 : Int) ≤ (↑k : Int), (↑k : Int) < (↑ss.length : Int), k < ss.length, IntKind.i64.wrap (n - (1 : Int)) = n - (1 : Int), IntKind.i64.wrap ((↑(szP d ss k) : Int) + (↑(sizeD d (ss.getD k default).body) : Int)) = (↑(szP d ss k) : Int) + (↑(sizeD d (ss.getD k default).body) : Int), (0 : Int) ≤ (↑k : Int), (↑k : Int) < (↑ss.length : Int), k < ss.length, IntKind.i64.wrap (n - (1 : Int)) = n - (1 : Int), IntKind.i64.wrap ((↑(szP d ss k) : Int) + (↑(sizeD d (ss.getD k default).body) : Int) + (↑(sizeD d (ss.getD k default).els) : Int)) = (↑(szP d ss k) : Int) + (↑(sizeD d (ss.getD k default).body) : Int) + (↑(sizeD d (ss.getD k default).els) : Int)] ⟨(by simp [h100, h0]), (by assumption), (by have h1 := szP_succ (d := d) (ss := ss) (k := k) (by omega); have h2 := szP_le (d := d) (ss := ss) (k := k + 1); omega), (by have h1 := szP_succ (d := d) (ss := ss) (k := k) (by omega); have h2 := szP_le (d := d) (ss := ss) (k := k + 1); exact w64 (by omega) (by omega)), (by have h1 := szP_succ (d := d) (ss := ss) (k := k) (by omega); have h2 := szP_le (d := d) (ss := ss) (k := k + 1); exact w64 (by omega) (by omega)), (by simp [h100, h0]), (by assumption), (by have h1 := szP_succ (d := d) (ss := ss) (k := k) (by omega); have h2 := szP_le (d := d) (ss := ss) (k := k + 1); omega), (by have h1 := szP_succ (d := d) (ss := ss) (k := k) (by omega); have h2 := szP_le (d := d) (ss := ss) (k := k + 1); exact w64 (by omega) (by omega)), (by have h1 := szP_succ (d := d) (ss := ss) (k := k) (by omega); have h2 := szP_le (d := d) (ss := ss) (k := k + 1); exact w64 (by omega) (by omega)), trivial⟩ ?_; intro ρ a w G; refine bl_n ?_; refine th_n ?_; refine rs1s G ⟨[], [], []⟩ calls_nil trivial [(0, .ref 0), (1, iA n), (4, iA 0), (5, iA ((↑(szP d ss k) : Int) + (↑(sizeD d (ss.getD k default).body) : Int) + (↑(sizeD d (ss.getD k default).els) : Int))), (6, iA ((↑k : Int) + 1))] [IntKind.i64.wrap ((↑k : Int) + (1 : Int)) = (↑k : Int) + (1 : Int)] ⟨(by have h1 := szP_succ (d := d) (ss := ss) (k := k) (by omega); have h2 := szP_le (d := d) (ss := ss) (k := k + 1); exact w64 (by omega) (by omega)), trivial⟩ fun ρ a w G => th_n ?_; exact rx_next G (k + 1) (by have h1 := szP_succ (d := d) (ss := ss) (k := k) (by omega); have h2 := szP_le (d := d) (ss := ss) (k := k + 1); omega) (by have h1 := szP_succ (d := d) (ss := ss) (k := k) (by omega); have h2 := szP_le (d := d) (ss := ss) (k := k + 1); omega) [0] [dT ss] [(0, .ref 0), (1, iA n), (4, iA 0), (5, iA (↑(szP d ss (k + 1)) : Int)), (6, iA (↑(k + 1) : Int))] (by kernel_rfl) (by kernel_rfl) (by kernel_rfl) (by kernel_rfl) (by have e1 : ((↑(szP d ss (k + 1)) : Int) : Int) = ((↑(szP d ss k) : Int) + (↑(sizeD d (ss.getD k default).body) : Int) + (↑(sizeD d (ss.getD k default).els) : Int)) := (by have h1 := szP_succ (d := d) (ss := ss) (k := k) (by omega); have h2 := szP_le (d := d) (ss := ss) (k := k + 1); omega); (first | rw [e1] | simp only [e1]) <;> rfl)


theorem c_l2SizeD : ∀ d, d ≤ 5 → ∀ (ss : List LStmt) (n : Int), n = (d + 1 : Nat) → szSs ss ≤ 1048576 → Ctr.ok Try.prog (fnC 121 [.ref 0, iA n] [.dat (.stmts ss)] (iA (sizeD d ss : Nat))) := by
  intro d
  induction d with
  | zero => intro _ ss n hn hb; exact c_l2Size0 ss n (by omega) hb
  | succ d ih => intro hd ss n hn hb; exact c_l2SizeS d (by omega) (fun ss n hn hb => ih (by omega) ss n hn hb) ss n (by omega) hb
theorem c_l2Size (ss : List LStmt) (n : Int) (hn : n = 5) (hb : szSs ss ≤ 1048576) : Ctr.ok Try.prog (fnC 121 [.ref 0, iA n] [.dat (.stmts ss)] (iA (sizeD 4 ss : Nat))) :=
  c_l2SizeD 4 (by omega) ss n (by omega) hb
theorem sizeD_eq {nv na : Nat} : ∀ (d : Nat) (ss : List LStmt), (∀ s ∈ ss, stmtB nv na (d + 1) s = true) → sizeD d ss = nSs ss := by
  intro d
  induction d with
  | zero => intro ss h; rw [flat_nSs h]; rfl
  | succ d ih =>
    intro ss
    induction ss with
    | nil => intro _; rfl
    | cons s r ihr =>
      intro h
      have h1 := stmtB_blocks (h s List.mem_cons_self)
      have h2 := ih s.body fun x hx => List.all_eq_true.1 h1.1 x hx
      have h3 := ih s.els fun x hx => List.all_eq_true.1 h1.2 x hx
      have h4 := ihr fun x hx => h x (List.mem_cons_of_mem _ hx)
      rw [nSs, nS_def, ← h2, ← h3, ← h4]
      simp [sizeD]; omega
theorem progB_heads {p : LProg} (h : headsB p.vars p.arrays = false) : progB p = false := by simp [progB, h]
theorem progB_block {p : LProg} (h : blockB p.vars.length p.arrays.length 5 p.body = false) : progB p = false := by simp [progB, h]
theorem progB_size {p : LProg} (h1 : headsB p.vars p.arrays = true) (h2 : blockB p.vars.length p.arrays.length 5 p.body = true) : progB p = decide ((sizeD 4 p.body : Int) ≤ 60) := by
  have h3 := sizeD_eq (nv := p.vars.length) (na := p.arrays.length) 4 p.body (fun x hx => List.all_eq_true.1 h2 x hx)
  rw [progB, h1, h2, h3]
  simp
  exact ⟨fun h => by omega, fun h => by omega⟩

theorem c_l2Body (p : LProg) (n : Int) (hn : n = 5) : Ctr.ok Try.prog (fnC 120 [pA 0, .ref 2, iA n] (pS p) (bA (blockB p.vars.length p.arrays.length 5 p.body))) :=
  Ctr.dup (S := pS p) (S' := pS p) (d := .stmts p.body) (i := 2) (c_l2Block p p.body n hn) rfl rfl rfl (fun ρ h => by simp only [AV.vals, AV.val]; rw [show ρ 3 = ρ 2 from h]) rfl

set_option maxRecDepth 100000 in
theorem c_ProgramValid (p : LProg) (hb : szSs p.body ≤ 1048576) : Ctr.ok Try.prog (fnC 81 [pA 0] (pS p) (bA (progB p))) := by
  refine rx_enter 17 Try.func81 (by rfl) (by kernel_rfl) (by kernel_rfl) ?_; intro ι φ ψ w0 w F ρ0 ρ a G; replace G := Gam.at G [dI p.vars, dI p.arrays, dT p.body] [(0, pA 0)]; refine wp_seq ?_; refine rs0 G (rg 4) [dI p.vars, dI p.arrays, dT p.body, .box (pL 0)] [(1, .ptr 3 0), (2, bA false)] fun ρ a w G => th_n (wp_seq ?_); cases h0 : (headsB p.vars p.arrays)
  · refine rs1 (dk := dkP) G ⟨[(1, _, [0, 1, 2])], [(headsB p.vars p.arrays, false), (false, false)], us [(3, 6, 0), (1007, 1007, 0), (9, 12, 1), (1013, 1013, 1)]⟩ (calls_cons (c_l2Heads (p)) calls_nil) ⟨(by assumption), (by kernel_rfl), trivial⟩ [0, 1, 2] [dI p.vars, dI p.arrays, dT p.body] [(2, bA false)] [] trivial fun ρ a w G => th_n (wp_ret ?_); exact rx_ret (v := bA false) G [0, 1, 2] (by kernel_rfl) (by kernel_rfl) (by kernel_rfl) (by have e1 : (progB p : Bool) = (false) := (by exact progB_heads (by assumption)); (first | rw [e1] | simp only [e1]) <;> rfl)
  ·
   cases h1 : (blockB p.vars.length p.arrays.length (5 : Nat) p.body)
   · refine rs1 (dk := dkP) G ⟨[(1, _, [0, 1, 2]), (6, _, [0, 1, 2])], [(headsB p.vars p.arrays, true), (blockB p.vars.length p.arrays.length (5 : Nat) p.body, false)], us [(3, 6, 0), (1007, 1007, 0), (9, 12, 1), (1013, 1013, 1)]⟩ (calls_cons (c_l2Heads (p)) (calls_cons (c_l2Body (p) (5) (by kernel_rfl)) calls_nil)) ⟨(by assumption), (by assumption), trivial⟩ [0, 1, 2] [dI p.vars, dI p.arrays, dT p.body] [(2, bA false)] [] trivial fun ρ a w G => th_n (wp_ret ?_); exact rx_ret (v := bA false) G [0, 1, 2] (by kernel_rfl) (by kernel_rfl) (by kernel_rfl) (by have e1 : (progB p : Bool) = (false) := (by exact progB_block (by assumption)); (first | rw [e1] | simp only [e1]) <;> rfl)
   · refine rs1 (dk := dkP) G ⟨[(1, _, [0, 1, 2]), (6, _, [0, 1, 2]), (11, _, [2])], [(headsB p.vars p.arrays, true), (blockB p.vars.length p.arrays.length (5 : Nat) p.body, true)], us [(3, 6, 0), (1007, 1007, 0), (9, 12, 1), (1013, 1013, 1)]⟩ (calls_cons (c_l2Heads (p)) (calls_cons (c_l2Body (p) (5) (by kernel_rfl)) (calls_cons (c_l2Size (p.body) (5) (by kernel_rfl) (by assumption)) calls_nil))) ⟨(by assumption), (by assumption), trivial⟩ [0, 1, 2] [dI p.vars, dI p.arrays, dT p.body] [(2, bA (decide ((↑(sizeD 4 p.body) : Int) ≤ 60)))] [] trivial fun ρ a w G => th_n (wp_ret ?_); exact rx_ret (v := bA (decide ((↑(sizeD 4 p.body) : Int) ≤ 60))) G [0, 1, 2] (by kernel_rfl) (by kernel_rfl) (by kernel_rfl) (by have e1 : (progB p : Bool) = (decide ((↑(sizeD 4 p.body) : Int) ≤ 60)) := (by exact progB_size (by assumption) (by assumption)); (first | rw [e1] | simp only [e1]) <;> rfl)

def headB (nv na : Nat) (s : LStmt) : Bool := partsB s &&
    (if s.kind = 1 ∨ s.kind = 5 then decide (0 ≤ s.target) && decide (s.target < nv) && rightB nv na s.value
     else if s.kind = 2 then decide (0 ≤ s.target) && decide (s.target < na) && rightB nv na s.index && atomB s.index && rightB nv na s.value
     else if s.kind = 3 then rightB nv na s.value
     else decide (s.kind = 4))
theorem stmtB_head {nv na d : Nat} {s : LStmt} : stmtB nv na (d + 1) s = (headB nv na s && (s.body.all (stmtB nv na d) && s.els.all (stmtB nv na d))) := by
  rw [Bool.eq_iff_iff]
  constructor
  · intro h
    have h1 := stmtB_blocks h
    rw [h1.1, h1.2, Bool.and_true, Bool.and_true]
    rw [stmtB, Bool.and_eq_true] at h
    rw [headB, h.1, Bool.true_and]
    obtain ⟨-, h⟩ := h
    split at h
    · rw [if_pos (by assumption)]; exact h
    split at h
    · rw [if_neg (by assumption), if_pos (by assumption)]; exact h
    split at h
    · rw [if_neg (by assumption), if_neg (by assumption), if_pos (by assumption)]
      simp only [Bool.and_eq_true] at h; exact h.1.1
    split at h
    · rw [if_neg (by assumption), if_neg (by assumption), if_neg (by assumption)]; simp [*]
    · simp at h
  · intro h
    simp only [Bool.and_eq_true] at h
    obtain ⟨h, hb, he⟩ := h
    rw [headB, Bool.and_eq_true] at h
    obtain ⟨h0, h⟩ := h
    rw [stmtB, h0, Bool.true_and]
    split at h
    · rw [if_pos (by assumption)]; exact h
    split at h
    · rw [if_neg (by assumption), if_pos (by assumption)]; exact h
    split at h
    · rw [if_neg (by assumption), if_neg (by assumption), if_pos (by assumption), h, hb, he]; rfl
    · rw [if_neg (by assumption), if_neg (by assumption), if_neg (by assumption), if_pos (by simpa using h), hb]
def foldF (F : Nat → LStmt → Bool × Nat) : Nat → List LStmt → Bool × Nat
  | c, [] => (true, c)
  | c, s :: r => if (F c s).1 then foldF F (F c s).2 r else F c s
def stmtF (nv na : Nat) : Nat → Nat → LStmt → Bool × Nat
  | 0, c, _ => (false, c + 1)
  | d + 1, c, s => if 60 < c + 1 then (false, c + 1) else if headB nv na s then
      (if (foldF (stmtF nv na d) (c + 1) s.body).1 then foldF (stmtF nv na d) (foldF (stmtF nv na d) (c + 1) s.body).2 s.els else foldF (stmtF nv na d) (c + 1) s.body)
      else (false, c + 1)
abbrev stmtsF (nv na d c : Nat) (ss : List LStmt) : Bool × Nat := foldF (stmtF nv na d) c ss
theorem foldF_append (F : Nat → LStmt → Bool × Nat) : ∀ (a b : List LStmt) (c : Nat), foldF F c (a ++ b) = if (foldF F c a).1 then foldF F (foldF F c a).2 b else foldF F c a
  | [], b, c => by simp [foldF]
  | x :: r, b, c => by
    simp only [List.cons_append, foldF]
    by_cases h : (F c x).1 = true
    · simp only [h, if_true]; exact foldF_append F r b _
    · simp [h]
theorem foldF_next {F : Nat → LStmt → Bool × Nat} {c k : Nat} {ss : List LStmt} (h : (foldF F c (ss.take k)).1 = true) (hk : k < ss.length) : foldF F c (ss.take (k + 1)) = F (foldF F c (ss.take k)).2 (ss.getD k default) := by
  rw [take_succ_get _ _ hk, foldF_append, if_pos h, getD_lt hk]
  simp only [foldF]
  split
  · rename_i h; exact Prod.ext h.symm rfl
  · rfl
theorem foldF_stop {F : Nat → LStmt → Bool × Nat} {c k : Nat} {ss : List LStmt} (h : (foldF F c (ss.take k)).1 = true) (hk : k < ss.length) (hf : (F (foldF F c (ss.take k)).2 (ss.getD k default)).1 = false) : foldF F c ss = F (foldF F c (ss.take k)).2 (ss.getD k default) := by
  conv => lhs; rw [← List.take_append_drop (k + 1) ss]
  rw [foldF_append, foldF_next h hk, hf]
  rfl
theorem foldF_full {F : Nat → LStmt → Bool × Nat} {c k : Nat} {ss : List LStmt} (hk : ss.length ≤ k) : foldF F c (ss.take k) = foldF F c ss := by rw [List.take_of_length_le hk]
theorem foldF_le {F : Nat → LStmt → Bool × Nat} (hF : ∀ c s, c ≤ 60 → (F c s).2 ≤ 61 ∧ ((F c s).1 = true → (F c s).2 ≤ 60)) : ∀ (ss : List LStmt) (c : Nat), c ≤ 60 → (foldF F c ss).2 ≤ 61 ∧ ((foldF F c ss).1 = true → (foldF F c ss).2 ≤ 60)
  | [], c, h => ⟨by simp only [foldF]; omega, fun _ => by simp only [foldF]; omega⟩
  | s :: r, c, h => by
    simp only [foldF]
    by_cases h1 : (F c s).1 = true
    · rw [if_pos h1]; exact foldF_le hF r _ ((hF c s h).2 h1)
    · rw [if_neg h1]; exact hF c s h
theorem stmtF_le {nv na : Nat} : ∀ (d c : Nat) (s : LStmt), c ≤ 60 → (stmtF nv na d c s).2 ≤ 61 ∧ ((stmtF nv na d c s).1 = true → (stmtF nv na d c s).2 ≤ 60)
  | 0, c, s, h => by simp [stmtF]; omega
  | d + 1, c, s, h => by
    rw [stmtF]
    by_cases h1 : 60 < c + 1
    · rw [if_pos h1]; simp; omega
    rw [if_neg h1]
    by_cases h2 : headB nv na s = true
    · rw [if_pos h2]
      have h3 := foldF_le (stmtF_le (nv := nv) (na := na) d) s.body (c + 1) (by omega)
      by_cases h4 : (foldF (stmtF nv na d) (c + 1) s.body).1 = true
      · rw [if_pos h4]; exact foldF_le (stmtF_le d) s.els _ (h3.2 h4)
      · rw [if_neg h4]; exact h3
    · rw [if_neg h2]; simp; omega
theorem stmtsF_le {nv na d c : Nat} {ss : List LStmt} (h : c ≤ 60) (h1 : (stmtsF nv na d c ss).1 = true) : (stmtsF nv na d c ss).2 ≤ 60 := (foldF_le (stmtF_le d) ss c h).2 h1
section
variable {nv na d c : Nat} {s : LStmt}
theorem stmtF_over (h : 60 < c + 1) : stmtF nv na d c s = (false, c + 1) := by cases d with
  | zero => rfl
  | succ d => rw [stmtF, if_pos h]
theorem stmtF_bad (h : headB nv na s = false) : stmtF nv na d c s = (false, c + 1) := by cases d with
  | zero => rfl
  | succ d => rw [stmtF, h]; simp
theorem stmtF_body (h1 : c + 1 ≤ 60) (h : headB nv na s = true) (h2 : (stmtsF nv na d (c + 1) s.body).1 = false) : stmtF nv na (d + 1) c s = stmtsF nv na d (c + 1) s.body := by
  rw [stmtF, if_neg (by omega), if_pos h, if_neg (by simp [h2])]
theorem stmtF_els (h1 : c + 1 ≤ 60) (h : headB nv na s = true) (h2 : (stmtsF nv na d (c + 1) s.body).1 = true) : stmtF nv na (d + 1) c s = stmtsF nv na d (stmtsF nv na d (c + 1) s.body).2 s.els := by
  rw [stmtF, if_neg (by omega), if_pos h, if_pos h2]
end
theorem foldF_eq {nv na d : Nat} (hF : ∀ c s, c ≤ 60 → ((stmtF nv na d c s).1 = (stmtB nv na d s && decide (c + nS s ≤ 60))) ∧ ((stmtF nv na d c s).1 = true → (stmtF nv na d c s).2 = c + nS s)) : ∀ (ss : List LStmt) (c : Nat), c ≤ 60 → ((stmtsF nv na d c ss).1 = (ss.all (stmtB nv na d) && decide (c + nSs ss ≤ 60))) ∧ ((stmtsF nv na d c ss).1 = true → (stmtsF nv na d c ss).2 = c + nSs ss)
  | [], c, h => by simp [foldF, nSs, h]
  | s :: r, c, h => by
    obtain ⟨h1, h2⟩ := hF c s h
    simp only [stmtsF, foldF]
    by_cases h3 : (stmtF nv na d c s).1 = true
    · rw [if_pos h3]
      have e := h2 h3
      have l := (stmtF_le d c s h).2 h3
      obtain ⟨h4, h5⟩ := foldF_eq hF r (stmtF nv na d c s).2 l
      rw [h1, Bool.and_eq_true] at h3
      constructor
      · rw [show foldF (stmtF nv na d) (stmtF nv na d c s).2 r = stmtsF nv na d (stmtF nv na d c s).2 r from rfl, h4, List.all_cons, h3.1, Bool.true_and, e, nSs, Nat.add_assoc]
      · intro h6; rw [show foldF (stmtF nv na d) (stmtF nv na d c s).2 r = stmtsF nv na d (stmtF nv na d c s).2 r from rfl, h5 h6, e, nSs]; omega
    · rw [if_neg h3]
      refine ⟨?_, fun h => absurd h h3⟩
      have h4 := h3
      rw [h1] at h4
      rw [Bool.eq_false_iff.2 h3, List.all_cons, nSs]
      cases ha : stmtB nv na d s
      · simp
      · rw [ha, Bool.true_and, decide_eq_true_eq] at h4
        rw [Bool.true_and, show decide (c + (nS s + nSs r) ≤ 60) = false from decide_eq_false (by omega), Bool.and_false]
theorem stmtF_eq {nv na : Nat} : ∀ (d c : Nat) (s : LStmt), c ≤ 60 → ((stmtF nv na d c s).1 = (stmtB nv na d s && decide (c + nS s ≤ 60))) ∧ ((stmtF nv na d c s).1 = true → (stmtF nv na d c s).2 = c + nS s)
  | 0, c, s, h => by simp [stmtF, stmtB]
  | d + 1, c, s, h => by
    have hs := nS_def s
    by_cases h1 : 60 < c + 1
    · rw [stmtF_over h1, show decide (c + nS s ≤ 60) = false from decide_eq_false (by omega), Bool.and_false]; simp
    cases h2 : headB nv na s
    · rw [stmtF_bad h2, stmtB_head, h2]; simp
    obtain ⟨b1, b2⟩ := foldF_eq (stmtF_eq (nv := nv) (na := na) d) s.body (c + 1) (by omega)
    rw [stmtB_head, h2, Bool.true_and]
    cases h3 : (stmtsF nv na d (c + 1) s.body).1
    · rw [stmtF_body (by omega) h2 h3, h3]
      refine ⟨?_, fun h => by simp at h⟩
      rw [h3] at b1
      cases h4 : s.body.all (stmtB nv na d)
      · simp
      · rw [h4, Bool.true_and] at b1
        have := of_decide_eq_false b1.symm
        rw [show decide (c + nS s ≤ 60) = false from decide_eq_false (by omega), Bool.and_false]
    · rw [stmtF_els (by omega) h2 h3]
      have e := b2 h3
      have l := stmtsF_le (nv := nv) (na := na) (d := d) (c := c + 1) (by omega) h3
      obtain ⟨e1, e2⟩ := foldF_eq (stmtF_eq (nv := nv) (na := na) d) s.els _ l
      rw [h3] at b1
      have b3 := b1.symm
      rw [Bool.and_eq_true] at b3
      rw [b3.1, Bool.true_and, e1, e]
      refine ⟨by rw [show c + 1 + nSs s.body + nSs s.els = c + nS s by omega], fun h => ?_⟩
      have h' : (stmtsF nv na d (stmtsF nv na d (c + 1) s.body).2 s.els).1 = true := by rw [e1, e]; exact h
      have := e2 h'
      rw [e] at this
      rw [this]; omega
theorem stmtsF_prog {p : LProg} (h : headsB p.vars p.arrays = true) : (stmtsF p.vars.length p.arrays.length 5 0 p.body).1 = progB p := by
  rw [(foldF_eq (stmtF_eq 5) p.body 0 (by omega)).1, progB, h, Bool.true_and, blockB]; simp

set_option maxRecDepth 100000 in
theorem c_stmt0 (p : LProg) (s : LStmt) (c : Nat) (hc : c ≤ 60) (n : Int) (hn : n = 6) : Ctr.ok Try.prog ⟨122, [pA 0, sA s 4, iA n, .ptr 3 0], pS p ++ [.box [iA c]] ++ sS s, pS p ++ [.box [iA (stmtF p.vars.length p.arrays.length 0 c s).2]] ++ sS s, bA false⟩ := by
  have h100 : decide (n > 5) = true := by simp; omega
  refine rx_enter 149 Try.func122 (by rfl) (by kernel_rfl) (by kernel_rfl) ?_; intro ι φ ψ w0 w F ρ0 ρ a G; replace G := Gam.at G [dI p.vars, dI p.arrays, dT p.body, .box [iA (↑c : Int)], dE s.index.kids, dE s.value.kids, dT s.body, dT s.els] [(0, pA 0), (1, sA s 4), (2, iA n), (3, .ptr 3 0)]; refine wp_seq ?_; refine rs0 G [0, 1, 2, 3, 4, 5, 6, 7, 8, 16] [dI p.vars, dI p.arrays, dT p.body, .box [iA (↑c : Int)], dE s.index.kids, dE s.value.kids, dT s.body, dT s.els, .box (pL 0), .box (sL s 4)] [(2, iA n), (3, .ptr 3 0), (4, .ptr 8 0), (5, .ptr 9 0), (8, bA false)] fun ρ a w G => th_n (wp_seq ?_); refine rs1 (dk := dkP) G ⟨[], [], []⟩ calls_nil trivial (rg 10) [dI p.vars, dI p.arrays, dT p.body, .box [iA ((↑c : Int) + 1)], dE s.index.kids, dE s.value.kids, dT s.body, dT s.els, .box (pL 0), .box (sL s 4)] [(2, iA n), (3, .ptr 3 0), (4, .ptr 8 0), (5, .ptr 9 0), (8, bA false)] [IntKind.i64.wrap ((↑c : Int) + (1 : Int)) = (↑c : Int) + (1 : Int)] ⟨(by exact w64 (by omega) (by omega)), trivial⟩ fun ρ a w G => th_n (wp_seq (wp_seq ?_)); cases h0 : (decide ((↑c : Int) + (1 : Int) > (60 : Int)))
  · have q0 : ¬ ((↑c : Int) + 1 > 60) := dFf h0; refine rs1s G ⟨[], [(decide ((↑c : Int) + (1 : Int) > (60 : Int)), false)], [(5, 0), (6, 0), (1007, 0)]⟩ calls_nil ⟨(by assumption), trivial⟩ [(2, iA n), (3, .ptr 3 0), (4, .ptr 8 0), (5, .ptr 9 0), (8, bA false), (27, bA (decide (n > 5)))] [] trivial fun ρ a w G => th_n ?_; refine rT G (decide (n > (5 : Int))) (by assumption) ?_; refine wp_seq ?_; refine rs0s G [(2, iA n), (3, .ptr 3 0), (4, .ptr 8 0), (5, .ptr 9 0), (8, bA false)] fun ρ a w G => th_n (wp_ret (th_r ?_)); exact rx_ret (v := bA false) G (rg 8) (by kernel_rfl) (by kernel_rfl) (by kernel_rfl) (by kernel_rfl)
  · have q0 : (↑c : Int) + 1 > 60 := dTt h0; refine rs1s G ⟨[], [(decide ((↑c : Int) + (1 : Int) > (60 : Int)), true)], [(5, 0), (6, 0), (1007, 0)]⟩ calls_nil ⟨(by assumption), trivial⟩ [(2, iA n), (3, .ptr 3 0), (4, .ptr 8 0), (5, .ptr 9 0), (8, bA false), (27, bA true)] [] trivial fun ρ a w G => th_n ?_; refine rT G (true) (by kernel_rfl) ?_; refine wp_seq ?_; refine rs0s G [(2, iA n), (3, .ptr 3 0), (4, .ptr 8 0), (5, .ptr 9 0), (8, bA false)] fun ρ a w G => th_n (wp_ret (th_r ?_)); exact rx_ret (v := bA false) G (rg 8) (by kernel_rfl) (by kernel_rfl) (by kernel_rfl) (by kernel_rfl)


abbrev stmtC (p : LProg) (d c : Nat) (s : LStmt) (n : Int) : Ctr := ⟨122, [pA 0, sA s 4, iA n, .ptr 3 0], pS p ++ [.box [iA c]] ++ sS s, pS p ++ [.box [iA (stmtF p.vars.length p.arrays.length d c s).2]] ++ sS s, bA (stmtF p.vars.length p.arrays.length d c s).1⟩
abbrev stmtsC (p : LProg) (d c : Nat) (ss : List LStmt) (n : Int) : Ctr := ⟨83, [pA 0, .ref 4, iA n, .ptr 3 0], pS p ++ [.box [iA c]] ++ [.dat (.stmts ss)], pS p ++ [.box [iA (stmtsF p.vars.length p.arrays.length d c ss).2]] ++ [.dat (.stmts ss)], bA (stmtsF p.vars.length p.arrays.length d c ss).1⟩

set_option maxRecDepth 100000 in
theorem c_stmtsS (p : LProg) (d : Nat) (hd : d ≤ 5) (ih : ∀ (s : LStmt) (c : Nat) (n : Int), c ≤ 60 → n = 6 - (d : Int) → Ctr.ok Try.prog (stmtC p d c s n))
    (ss : List LStmt) (c : Nat) (n : Int) (hc : c ≤ 60) (hn : n = 6 - (d : Int)) : Ctr.ok Try.prog (stmtsC p d c ss n) := by
  refine rx_enter 24 Try.func83 (by rfl) (by kernel_rfl) (by kernel_rfl) ?_; intro ι φ ψ w0 w F ρ0 ρ a G; replace G := Gam.at G [dI p.vars, dI p.arrays, dT p.body, .box [iA (↑c : Int)], dT ss] [(0, pA 0), (1, .ref 4), (2, iA n), (3, .ptr 3 0)]; refine wp_seq ?_; refine rs0 G (rg 6) [dI p.vars, dI p.arrays, dT p.body, .box [iA (↑c : Int)], dT ss, .box (pL 0)] [(1, .ref 4), (2, iA n), (3, .ptr 3 0), (4, .ptr 5 0), (8, bA false)] fun ρ a w G => th_n (wp_seq (wp_seq ?_)); refine rs0s G [(2, iA n), (3, .ptr 3 0), (4, .ptr 5 0), (8, bA false), (11, .ref 4), (12, iA (↑ss.length : Int)), (13, iA 0)] fun ρ a w G => th_n (wp_block ?_); have hlen : ss.length ≤ 9223372036854775807 := G.len 4 (d := .stmts ss) (by kernel_rfl); refine rx_for (κ := Nat) (fun k => k ≤ ss.length ∧ (stmtsF p.vars.length p.arrays.length d c (ss.take k)).1 = true) (fun k => ss.length - k) (fun k => [dI p.vars, dI p.arrays, dT p.body, .box [iA (stmtsF p.vars.length p.arrays.length d c (ss.take k)).2], dT ss, .box (pL 0)]) (fun k => [(2, iA n), (3, .ptr 3 0), (4, .ptr 5 0), (8, bA false), (11, .ref 4), (12, iA (↑ss.length : Int)), (13, iA k)]) (0) (by simp [stmtsF, foldF]; done) (Gam.at G _ _) ?_; clear G; intro k ρ a w hp G; replace G := Gam.at G [dI p.vars, dI p.arrays, dT p.body, .box [iA (↑(stmtsF p.vars.length p.arrays.length d c (List.take k ss)).snd : Int)], dT ss, .box (pL 0)] [(2, iA n), (3, .ptr 3 0), (4, .ptr 5 0), (8, bA false), (11, .ref 4), (12, iA (↑ss.length : Int)), (13, iA (↑k : Int))]; refine wp_seq ?_; refine rs0s G [(2, iA n), (3, .ptr 3 0), (4, .ptr 5 0), (8, bA false), (11, .ref 4), (12, iA (↑ss.length : Int)), (13, iA (↑k : Int)), (14, bA (decide ((↑k : Int) < (↑ss.length : Int))))] fun ρ a w G => th_n (wp_seq ?_); cases h0 : (decide ((↑k : Int) < (↑ss.length : Int)))
  · have q0 : ¬ ((↑k : Int) < (↑ss.length : Int)) := dFf h0; refine rF G (decide ((↑k : Int) < (↑ss.length : Int))) (by assumption) ?_; refine wp_exit (th_e (th_e (bl_hit (th_n (wp_seq ?_))))); refine rs0 G (rg 5) [dI p.vars, dI p.arrays, dT p.body, .box [iA (↑(stmtsF p.vars.length p.arrays.length d c (List.take k ss)).snd : Int)], dT ss] [(8, bA true)] fun ρ a w G => th_n (wp_ret ?_); exact rx_ret (v := bA true) G (rg 5) (by kernel_rfl) (by kernel_rfl) (by show _ = List.map (It.ren (nth (rg 5))) [dI p.vars, dI p.arrays, dT p.body, .box [iA (↑(stmtsF p.vars.length p.arrays.length d c ss).snd : Int)], dT ss]; have e1 : ((↑(stmtsF p.vars.length p.arrays.length d c ss).snd : Int) : Int) = ((↑(stmtsF p.vars.length p.arrays.length d c (List.take k ss)).snd : Int)) := (by rw [stmtsF, ← foldF_full (k := k) (by omega)]); (first | rw [e1] | simp only [e1]) <;> rfl) (by have e1 : ((stmtsF p.vars.length p.arrays.length d c ss).fst : Bool) = (true) := (by rw [stmtsF, ← foldF_full (k := k) (by omega)]; exact hp.2); (first | rw [e1] | simp only [e1]) <;> rfl)
  ·
   have q0 : (↑k : Int) < (↑ss.length : Int) := dTt h0; refine rT G (decide ((↑k : Int) < (↑ss.length : Int))) (by assumption) ?_; refine wp_skip (th_n (wp_seq (wp_block (wp_seq ?_)))); refine rs1 (dk := dkP) G ⟨[], [], []⟩ calls_nil trivial [0, 1, 2, 3, 4, 5, 14, 15, 16, 17, 22] [dI p.vars, dI p.arrays, dT p.body, .box [iA (↑(stmtsF p.vars.length p.arrays.length d c (List.take k ss)).snd : Int)], dT ss, .box (pL 0), dE (ss.getD k default).index.kids, dE (ss.getD k default).value.kids, dT (ss.getD k default).body, dT (ss.getD k default).els, .box (sL (ss.getD k default) 6)] [(2, iA n), (3, .ptr 3 0), (4, .ptr 5 0), (8, bA false), (10, .ptr 10 0), (11, .ref 4), (12, iA (↑ss.length : Int)), (13, iA (↑k : Int))] [(0 : Int) ≤ (↑k : Int), (↑k : Int) < (↑ss.length : Int), k < ss.length] ⟨(by simp [h0]), (by assumption), (by have hp := hp; omega), trivial⟩ fun ρ a w G => th_n (wp_seq ?_); refine rs1 (dk := dkP) G ⟨[(4, _, [0, 1, 2, 3, 6, 7, 8, 9])], [], []⟩ (calls_cons (ih (ss.getD k default) ((stmtsF p.vars.length p.arrays.length d c (List.take k ss)).snd) (n) (by exact stmtsF_le (by omega) hp.2) (by assumption)) calls_nil) trivial (rg 6) [dI p.vars, dI p.arrays, dT p.body, .box [iA (↑(stmtF p.vars.length p.arrays.length d (stmtsF p.vars.length p.arrays.length d c (List.take k ss)).snd (ss.getD k default)).snd : Int)], dT ss, .box (pL 0)] [(2, iA n), (3, .ptr 3 0), (4, .ptr 5 0), (8, bA false), (11, .ref 4), (12, iA (↑ss.length : Int)), (13, iA (↑k : Int)), (22, .v (.bool !(stmtF p.vars.length p.arrays.length d (stmtsF p.vars.length p.arrays.length d c (List.take k ss)).snd (ss.getD k default)).fst))] [] trivial fun ρ a w G => th_n ?_; cases h1 : (!(stmtF p.vars.length p.arrays.length d (stmtsF p.vars.length p.arrays.length d c (List.take k ss)).snd (ss.getD k default)).fst)
   · have q1 : ((stmtF p.vars.length p.arrays.length d (stmtsF p.vars.length p.arrays.length d c (List.take k ss)).snd (ss.getD k default)).fst) = true := (Eq.mp (Bool.not_eq_false' _) h1); refine rF G (!(stmtF p.vars.length p.arrays.length d (stmtsF p.vars.length p.arrays.length d c (List.take k ss)).snd (ss.getD k default)).fst) (by assumption) ?_; refine wp_skip ?_; refine bl_n ?_; refine th_n ?_; refine rs1s G ⟨[], [], []⟩ calls_nil trivial [(2, iA n), (3, .ptr 3 0), (4, .ptr 5 0), (8, bA false), (11, .ref 4), (12, iA (↑ss.length : Int)), (13, iA ((↑k : Int) + 1))] [IntKind.i64.wrap ((↑k : Int) + (1 : Int)) = (↑k : Int) + (1 : Int)] ⟨(by exact w64 (by omega) (by omega)), trivial⟩ fun ρ a w G => th_n ?_; exact rx_next G (k + 1) (by exact ⟨by omega, by rw [stmtsF, foldF_next hp.2 (by omega)]; assumption⟩) (by have hp := hp; omega) (rg 6) [dI p.vars, dI p.arrays, dT p.body, .box [iA (↑(stmtsF p.vars.length p.arrays.length d c (List.take (k + 1) ss)).snd : Int)], dT ss, .box (pL 0)] [(2, iA n), (3, .ptr 3 0), (4, .ptr 5 0), (8, bA false), (11, .ref 4), (12, iA (↑ss.length : Int)), (13, iA (↑(k + 1) : Int))] (by kernel_rfl) (by kernel_rfl) (by kernel_rfl) (by have e1 : ((↑(stmtsF p.vars.length p.arrays.length d c (List.take (k + 1) ss)).snd : Int) : Int) = ((↑(stmtF p.vars.length p.arrays.length d (stmtsF p.vars.length p.arrays.length d c (List.take k ss)).snd (ss.getD k default)).snd : Int)) := (by rw [stmtsF, foldF_next hp.2 (by omega)]); (first | rw [e1] | simp only [e1]) <;> rfl) (by kernel_rfl)
   · have q1 : ((stmtF p.vars.length p.arrays.length d (stmtsF p.vars.length p.arrays.length d c (List.take k ss)).snd (ss.getD k default)).fst) = false := (Eq.mp (Bool.not_eq_true' _) h1); refine rT G (!(stmtF p.vars.length p.arrays.length d (stmtsF p.vars.length p.arrays.length d c (List.take k ss)).snd (ss.getD k default)).fst) (by assumption) ?_; refine wp_seq ?_; refine rs0s G [(2, iA n), (3, .ptr 3 0), (4, .ptr 5 0), (8, bA false), (11, .ref 4), (12, iA (↑ss.length : Int)), (13, iA (↑k : Int))] fun ρ a w G => th_n (wp_ret (bl_r (th_r (th_r (bl_r (th_r ?_)))))); exact rx_ret (v := bA false) G (rg 5) (by kernel_rfl) (by kernel_rfl) (by show _ = List.map (It.ren (nth (rg 5))) [dI p.vars, dI p.arrays, dT p.body, .box [iA (↑(stmtsF p.vars.length p.arrays.length d c ss).snd : Int)], dT ss]; have e1 : ((↑(stmtsF p.vars.length p.arrays.length d c ss).snd : Int) : Int) = ((↑(stmtF p.vars.length p.arrays.length d (stmtsF p.vars.length p.arrays.length d c (List.take k ss)).snd (ss.getD k default)).snd : Int)) := (by rw [stmtsF, foldF_stop hp.2 (by omega) (by assumption)]); (first | rw [e1] | simp only [e1]) <;> rfl) (by have e1 : ((stmtsF p.vars.length p.arrays.length d c ss).fst : Bool) = (false) := (by rw [stmtsF, foldF_stop hp.2 (by omega) (by assumption)]; assumption); (first | rw [e1] | simp only [e1]) <;> rfl)

section
variable {nv na : Nat} {s : LStmt}
theorem head1 (k : s.kind = 1 ∨ s.kind = 5) : headB nv na s = (decide (0 ≤ s.target ∧ s.target < nv ∧ s.body.length = 0 ∧ s.els.length = 0 ∧ s.count = 0) && (noneB s.index && rightB nv na s.value)) := by
  rw [headB, partsB, if_pos k, if_neg (by omega), show decide (s.kind = 2) = false from decide_eq_false (by omega), Bool.eq_iff_iff]
  simp only [Bool.and_eq_true, decide_eq_true_eq, Bool.false_or]
  constructor
  · rintro ⟨⟨⟨⟨a, b⟩, c⟩, d⟩, ⟨e, f⟩, g⟩; exact ⟨⟨e, f, a, b, c⟩, d, g⟩
  · rintro ⟨⟨e, f, a, b, c⟩, d, g⟩; exact ⟨⟨⟨⟨a, b⟩, c⟩, d⟩, ⟨e, f⟩, g⟩
theorem head2 (k : s.kind = 2) : headB nv na s = (decide (0 ≤ s.target ∧ s.target < na ∧ s.body.length = 0 ∧ s.els.length = 0 ∧ s.count = 0) && (rightB nv na s.index && (atomB s.index && rightB nv na s.value))) := by
  rw [headB, partsB, if_neg (by omega), if_pos k, if_neg (by omega), show decide (s.kind = 2) = true from decide_eq_true k, Bool.eq_iff_iff]
  simp only [Bool.and_eq_true, decide_eq_true_eq, Bool.true_or]
  constructor
  · rintro ⟨⟨⟨⟨a, b⟩, c⟩, -⟩, ⟨⟨⟨e, f⟩, i⟩, j⟩, g⟩; exact ⟨⟨e, f, a, b, c⟩, i, j, g⟩
  · rintro ⟨⟨e, f, a, b, c⟩, i, j, g⟩; exact ⟨⟨⟨⟨a, b⟩, c⟩, trivial⟩, ⟨⟨⟨e, f⟩, i⟩, j⟩, g⟩
theorem head3 (k : s.kind = 3) : headB nv na s = (decide (s.target = 0 ∧ s.count = 0) && (noneB s.index && rightB nv na s.value)) := by
  rw [headB, partsB, if_pos (show s.kind = 3 ∨ s.kind = 4 from .inl k), if_neg (show ¬ s.kind = 4 by omega), if_neg (by omega), if_neg (by omega), if_pos k, Bool.eq_iff_iff]
  simp only [Bool.and_eq_true, decide_eq_true_eq]
  constructor
  · rintro ⟨⟨a, b, c⟩, d⟩; exact ⟨⟨a, b⟩, c, d⟩
  · rintro ⟨⟨a, b⟩, c, d⟩; exact ⟨⟨a, b, c⟩, d⟩
theorem head4 (k : s.kind = 4) : headB nv na s = (decide (s.target = 0 ∧ s.els.length = 0 ∧ 1 ≤ s.count ∧ s.count ≤ 3) && (noneB s.index && noneB s.value)) := by
  rw [headB, partsB, if_pos (show s.kind = 3 ∨ s.kind = 4 from .inr k), if_pos k, if_neg (by omega), if_neg (by omega), if_neg (by omega), show decide (s.kind = 4) = true from decide_eq_true k, Bool.eq_iff_iff]
  simp only [Bool.and_eq_true, decide_eq_true_eq]
  constructor
  · rintro ⟨⟨a, ⟨⟨⟨b, c⟩, d⟩, e⟩, f⟩, -⟩; exact ⟨⟨a, b, c, d⟩, e, f⟩
  · rintro ⟨⟨a, b, c, d⟩, e, f⟩; exact ⟨⟨a, ⟨⟨⟨b, c⟩, d⟩, e⟩, f⟩, trivial⟩
theorem head0 (k : ¬ s.kind = 1 ∧ ¬ s.kind = 2 ∧ ¬ s.kind = 3 ∧ ¬ s.kind = 4 ∧ ¬ s.kind = 5) : headB nv na s = false := by
  rw [headB, if_neg (by omega), if_neg (by omega), if_neg (by omega), show decide (s.kind = 4) = false from decide_eq_false (by omega), Bool.and_false]
theorem and_t {p : Prop} [Decidable p] {a b : Bool} (hp : p) (ha : a = true) (hb : b = true) : (decide p && (a && b)) = true := by rw [ha, hb, decide_eq_true hp]; rfl
theorem and_t3 {p : Prop} [Decidable p] {a b c : Bool} (hp : p) (ha : a = true) (hb : b = true) (hc : c = true) : (decide p && (a && (b && c))) = true := by rw [ha, hb, hc, decide_eq_true hp]; rfl
end

abbrev yRvF0 (p : LProg) (d : Nat) (s : LStmt) (c : Nat) := stmtsF p.vars.length p.arrays.length d (stmtsF p.vars.length p.arrays.length d (c + 1) s.body).snd s.els
abbrev yRvF1 (p : LProg) (d : Nat) (s : LStmt) (c : Nat) := stmtsF p.vars.length p.arrays.length d (c + 1) s.body
abbrev yRvF2 (p : LProg) (d : Nat) (s : LStmt) (c : Nat) : List It := [dI p.vars, dI p.arrays, dT p.body, .box [iA (↑(stmtF p.vars.length p.arrays.length (d + 1) c s).snd : Int)], dE s.index.kids, dE s.value.kids, dT s.body, dT s.els]
set_option maxHeartbeats 4000000 in
set_option maxRecDepth 100000 in
theorem c_stmtS (p : LProg) (d : Nat) (hd : d ≤ 4) (ih : ∀ (ss : List LStmt) (c : Nat) (n : Int), c ≤ 60 → n = 6 - (d : Int) → Ctr.ok Try.prog (stmtsC p d c ss n))
    (s : LStmt) (c : Nat) (n : Int) (hc : c ≤ 60) (hn : n = 5 - (d : Int)) : Ctr.ok Try.prog (stmtC p (d + 1) c s n) := by
  have h100 : decide (n > 5) = false := by simp; omega
  refine rx_enter 149 Try.func122 (by rfl) (by kernel_rfl) (by kernel_rfl) ?_; intro ι φ ψ w0 w F ρ0 ρ a G; replace G := Gam.at G [dI p.vars, dI p.arrays, dT p.body, .box [iA (↑c : Int)], dE s.index.kids, dE s.value.kids, dT s.body, dT s.els] [(0, pA 0), (1, sA s 4), (2, iA n), (3, .ptr 3 0)]; have hl0 : p.vars.length ≤ 9223372036854775807 := G.len 0 (d := .ints p.vars) (by kernel_rfl); have hl1 : p.arrays.length ≤ 9223372036854775807 := G.len 1 (d := .ints p.arrays) (by kernel_rfl); refine wp_seq ?_; refine rs0 G [0, 1, 2, 3, 4, 5, 6, 7, 8, 16] [dI p.vars, dI p.arrays, dT p.body, .box [iA (↑c : Int)], dE s.index.kids, dE s.value.kids, dT s.body, dT s.els, .box (pL 0), .box (sL s 4)] [(2, iA n), (3, .ptr 3 0), (4, .ptr 8 0), (5, .ptr 9 0), (8, bA false)] fun ρ a w G => th_n (wp_seq ?_); refine rs1 (dk := dkP) G ⟨[], [], []⟩ calls_nil trivial (rg 10) [dI p.vars, dI p.arrays, dT p.body, .box [iA ((↑c : Int) + 1)], dE s.index.kids, dE s.value.kids, dT s.body, dT s.els, .box (pL 0), .box (sL s 4)] [(2, iA n), (3, .ptr 3 0), (4, .ptr 8 0), (5, .ptr 9 0), (8, bA false)] [IntKind.i64.wrap ((↑c : Int) + (1 : Int)) = (↑c : Int) + (1 : Int)] ⟨(by exact w64 (by omega) (by omega)), trivial⟩ fun ρ a w G => th_n (wp_seq (wp_seq ?_)); cases h0 : (decide ((↑c : Int) + (1 : Int) > (60 : Int)))
  ·
   have q0 : ¬ ((↑c : Int) + 1 > 60) := dFf h0; refine rs1s G ⟨[], [(decide ((↑c : Int) + (1 : Int) > (60 : Int)), false)], [(5, 0), (6, 0), (1007, 0)]⟩ calls_nil ⟨(by assumption), trivial⟩ [(2, iA n), (3, .ptr 3 0), (4, .ptr 8 0), (5, .ptr 9 0), (8, bA false), (27, bA (decide (n > 5)))] [] trivial fun ρ a w G => th_n ?_; refine rF G (decide (n > (5 : Int))) (by assumption) ?_; refine wp_skip (th_n (wp_seq ?_)); refine rs0s G [(2, iA n), (3, .ptr 3 0), (4, .ptr 8 0), (5, .ptr 9 0), (8, bA false), (9, iA 1), (10, bA false), (11, bA true), (12, bA false), (13, bA false), (14, bA false)] fun ρ a w G => th_n (wp_seq (wp_seq ?_)); refine rs0s G [(2, iA n), (3, .ptr 3 0), (4, .ptr 8 0), (5, .ptr 9 0), (8, bA false), (9, iA 1), (10, bA false), (11, bA true), (12, bA false), (13, bA false), (14, bA false), (29, iA s.kind)] fun ρ a w G => th_n (wp_block (wp_seq (wp_seq ?_))); refine rs0s G [(2, iA n), (3, .ptr 3 0), (4, .ptr 8 0), (5, .ptr 9 0), (8, bA false), (9, iA 1), (10, bA false), (11, bA true), (12, bA false), (13, bA false), (14, bA false), (29, iA s.kind), (30, bA (s.kind == 1))] fun ρ a w G => th_n ?_; cases h1 : (s.kind == (1 : Int))
   ·
    have q1 : ¬ (s.kind = 1) := ne_of_beq_false h1; refine rF G (s.kind == (1 : Int)) (by assumption) ?_; refine rs0s G [(2, iA n), (3, .ptr 3 0), (4, .ptr 8 0), (5, .ptr 9 0), (8, bA false), (9, iA 1), (10, bA false), (11, bA true), (12, bA false), (13, bA false), (14, bA false), (29, iA s.kind), (30, bA (s.kind == 5))] fun ρ a w G => th_n ?_; cases h2 : (s.kind == (5 : Int))
    ·
     have q2 : ¬ (s.kind = 5) := ne_of_beq_false h2; refine rF G (s.kind == (5 : Int)) (by assumption) ?_; refine wp_seq ?_; refine rs0s G [(2, iA n), (3, .ptr 3 0), (4, .ptr 8 0), (5, .ptr 9 0), (8, bA false), (9, iA 1), (10, bA false), (11, bA true), (12, bA false), (13, bA false), (14, bA false), (29, iA s.kind), (36, bA (s.kind == 2))] fun ρ a w G => th_n ?_; cases h3 : (s.kind == (2 : Int))
     ·
      have q3 : ¬ (s.kind = 2) := ne_of_beq_false h3; refine rF G (s.kind == (2 : Int)) (by assumption) ?_; refine wp_seq ?_; refine rs0s G [(2, iA n), (3, .ptr 3 0), (4, .ptr 8 0), (5, .ptr 9 0), (8, bA false), (9, iA 1), (10, bA false), (11, bA true), (12, bA false), (13, bA false), (14, bA false), (29, iA s.kind), (41, bA (s.kind == 3))] fun ρ a w G => th_n ?_; cases h4 : (s.kind == (3 : Int))
      ·
       have q4 : ¬ (s.kind = 3) := ne_of_beq_false h4; refine rF G (s.kind == (3 : Int)) (by assumption) ?_; refine wp_seq ?_; refine rs0s G [(2, iA n), (3, .ptr 3 0), (4, .ptr 8 0), (5, .ptr 9 0), (8, bA false), (9, iA 1), (10, bA false), (11, bA true), (12, bA false), (13, bA false), (14, bA false), (43, bA (s.kind == 4))] fun ρ a w G => th_n ?_; cases h5 : (s.kind == (4 : Int))
       · have q5 : ¬ (s.kind = 4) := ne_of_beq_false h5; refine rF G (s.kind == (4 : Int)) (by assumption) ?_; refine wp_seq ?_; refine rs0s G [(2, iA n), (3, .ptr 3 0), (4, .ptr 8 0), (5, .ptr 9 0), (8, bA false), (9, iA 1), (10, bA false), (11, bA true), (12, bA false), (13, bA false), (14, bA false)] fun ρ a w G => th_n (wp_ret (bl_r (th_r ?_))); exact rx_ret (v := bA false) G (rg 8) (by kernel_rfl) (by kernel_rfl) (by show _ = List.map (It.ren (nth (rg 8))) (yRvF2 p d s c); unfold yRvF2; rw [stmtF_bad (by exact head0 (by omega))] <;> rfl) (by have e1 : ((stmtF p.vars.length p.arrays.length (d + 1) c s).fst : Bool) = (false) := (by rw [stmtF_bad (by exact head0 (by omega))]; done); (first | rw [e1] | simp only [e1]) <;> rfl)
       ·
        have q5 : s.kind = 4 := eq_of_beq h5; refine rT G (s.kind == (4 : Int)) (by assumption) ?_; refine rs0s G [(2, iA n), (3, .ptr 3 0), (4, .ptr 8 0), (5, .ptr 9 0), (8, bA false), (9, iA 1), (10, bA false), (11, bA false), (12, bA true), (13, bA true), (14, bA false)] ?_; intro ρ a w G; refine bl_n ?_; refine th_n (wp_seq (wp_seq ?_)); cases h6 : (!(decide ((0 : Int) ≤ s.target) && decide (s.target ≤ (0 : Int))))
        ·
         have q6 : (0 ≤ s.target) ∧ (s.target ≤ 0) := (fun hq => And.imp (fun hq => of_decide_eq_true (hq)) (fun hq => of_decide_eq_true (hq)) (Bool.and_eq_true_iff.1 (hq))) (Eq.mp (Bool.not_eq_false' _) h6); cases h7 : (!(decide ((1 : Int) ≤ s.count) && decide (s.count ≤ (3 : Int))))
         ·
          have q7 : (1 ≤ s.count) ∧ (s.count ≤ 3) := (fun hq => And.imp (fun hq => of_decide_eq_true (hq)) (fun hq => of_decide_eq_true (hq)) (Bool.and_eq_true_iff.1 (hq))) (Eq.mp (Bool.not_eq_false' _) h7); refine rs1s G ⟨[(4, _, []), (11, _, [])], [(!(decide ((0 : Int) ≤ s.target) && decide (s.target ≤ (0 : Int))), false), (true, true), (!(decide ((1 : Int) ≤ s.count) && decide (s.count ≤ (3 : Int))), false), (false, false)], us [(7, 8, 0), (9, 12, 1), (13, 13, 0), (1013, 1013, 1), (1014, 1014, 0), (16, 18, 2), (19, 21, 3), (22, 22, 2), (1022, 1022, 3), (1023, 1023, 2), (25, 32, 3), (1032, 1033, 3), (35, 37, 3), (38, 41, 1), (42, 42, 3), (1042, 1042, 1), (1043, 1043, 3)]⟩ (calls_cons (c_within (s.target) (0) (0)) (calls_cons (c_within (s.count) (1) (3)) calls_nil)) ⟨(by assumption), (by kernel_rfl), (by assumption), (by kernel_rfl), trivial⟩ [(2, iA n), (3, .ptr 3 0), (4, .ptr 8 0), (5, .ptr 9 0), (8, bA false), (10, bA false), (11, bA false), (88, bA (decide ((↑s.els.length : Int) > 0)))] [IntKind.i64.wrap ((1 : Int) - (1 : Int)) = (1 : Int) - (1 : Int)] ⟨(by kernel_rfl), trivial⟩ fun ρ a w G => th_n ?_; cases h8 : (decide ((↑s.els.length : Int) > (0 : Int)))
          ·
           have q8 : ¬ ((↑s.els.length : Int) > 0) := dFf h8; refine rF G (decide ((↑s.els.length : Int) > (0 : Int))) (by assumption) ?_; refine wp_skip (th_n (wp_seq (wp_seq ?_))); cases h9 : (!noneB s.index)
           ·
            have q9 : (noneB s.index) = true := (Eq.mp (Bool.not_eq_false' _) h9); refine rs1s G ⟨[(20, _, [4]), (40, _, [5])], [(false, false), (true, true), (!noneB s.index, false)], us [(2, 7, 0), (12, 12, 0), (1013, 1013, 0), (15, 17, 0), (18, 21, 1), (22, 22, 0), (1022, 1022, 1), (1023, 1023, 0), (25, 26, 2), (27, 31, 0), (32, 32, 2), (1032, 1032, 0), (1033, 1033, 2), (35, 37, 0), (38, 41, 1), (42, 42, 0), (1042, 1042, 1), (1043, 1043, 0)]⟩ (calls_cons (c_isNone (s.index)) (calls_cons (c_isNone (s.value)) calls_nil)) ⟨(by kernel_rfl), (by kernel_rfl), (by assumption), trivial⟩ [(2, iA n), (3, .ptr 3 0), (4, .ptr 8 0), (5, .ptr 9 0), (8, bA false), (132, .v (.bool !noneB s.value))] [] trivial fun ρ a w G => th_n ?_; cases h10 : (!noneB s.value)
            ·
             have q10 : (noneB s.value) = true := (Eq.mp (Bool.not_eq_false' _) h10); refine rF G (!noneB s.value) (by assumption) ?_; refine wp_skip (th_n (wp_seq ?_)); cases h11 : ((stmtsF p.vars.length p.arrays.length d (c + (1 : Nat)) s.body).fst)
             · refine rs1 (dk := dkP) G ⟨[(6, _, [0, 1, 2, 3, 6])], [((stmtsF p.vars.length p.arrays.length d (c + (1 : Nat)) s.body).fst, false)], us [(8, 14, 0), (1015, 1015, 0)]⟩ (calls_cons (ih (s.body) (c + 1) (n + 1) (by simp; omega) (by omega)) calls_nil) ⟨(by assumption), trivial⟩ (rg 8) [dI p.vars, dI p.arrays, dT p.body, .box [iA (↑(yRvF1 p d s c).snd : Int)], dE s.index.kids, dE s.value.kids, dT s.body, dT s.els] [(8, bA false)] [IntKind.i64.wrap (n + (1 : Int)) = n + (1 : Int)] ⟨(by exact w64 (by omega) (by omega)), trivial⟩ fun ρ a w G => th_n (wp_ret ?_); exact rx_ret (v := bA false) G (rg 8) (by kernel_rfl) (by kernel_rfl) (by show _ = List.map (It.ren (nth (rg 8))) (yRvF2 p d s c); unfold yRvF2; rw [stmtF_body (by omega) (by (rw [head4 (by omega)]; exact and_t (by omega) (by assumption) (by assumption))) (by assumption)] <;> rfl) (by have e1 : ((stmtF p.vars.length p.arrays.length (d + 1) c s).fst : Bool) = (false) := (by rw [stmtF_body (by omega) (by (rw [head4 (by omega)]; exact and_t (by omega) (by assumption) (by assumption))) (by assumption)]; assumption); (first | rw [e1] | simp only [e1]) <;> rfl)
             · refine rs1 (dk := dkP) G ⟨[(6, _, [0, 1, 2, 3, 6]), (14, _, [0, 1, 2, 3, 7])], [((stmtsF p.vars.length p.arrays.length d (c + (1 : Nat)) s.body).fst, true)], us [(8, 14, 0), (1015, 1015, 0)]⟩ (calls_cons (ih (s.body) (c + 1) (n + 1) (by simp; omega) (by omega)) (calls_cons (ih (s.els) ((yRvF1 p d s c).snd) (n + 1) (by exact stmtsF_le (by omega) (by assumption)) (by omega)) calls_nil)) ⟨(by assumption), trivial⟩ (rg 8) [dI p.vars, dI p.arrays, dT p.body, .box [iA (↑(yRvF0 p d s c).snd : Int)], dE s.index.kids, dE s.value.kids, dT s.body, dT s.els] [(8, bA (yRvF0 p d s c).fst)] [IntKind.i64.wrap (n + (1 : Int)) = n + (1 : Int), IntKind.i64.wrap (n + (1 : Int)) = n + (1 : Int)] ⟨(by exact w64 (by omega) (by omega)), (by exact w64 (by omega) (by omega)), trivial⟩ fun ρ a w G => th_n (wp_ret ?_); exact rx_ret (v := bA (stmtsF p.vars.length p.arrays.length d (stmtsF p.vars.length p.arrays.length d (c + 1) s.body).snd s.els).fst) G (rg 8) (by kernel_rfl) (by kernel_rfl) (by show _ = List.map (It.ren (nth (rg 8))) (yRvF2 p d s c); unfold yRvF2; rw [stmtF_els (by omega) (by (rw [head4 (by omega)]; exact and_t (by omega) (by assumption) (by assumption))) (by assumption)] <;> rfl) (by have e1 : ((stmtF p.vars.length p.arrays.length (d + 1) c s).fst : Bool) = ((stmtsF p.vars.length p.arrays.length d (stmtsF p.vars.length p.arrays.length d (c + 1) s.body).snd s.els).fst) := (by rw [stmtF_els (by omega) (by (rw [head4 (by omega)]; exact and_t (by omega) (by assumption) (by assumption))) (by assumption)]; done); (first | rw [e1] | simp only [e1]) <;> rfl)
            · have q10 : (noneB s.value) = false := (Eq.mp (Bool.not_eq_true' _) h10); refine rT G (!noneB s.value) (by assumption) ?_; refine wp_seq ?_; refine rs0s G [(2, iA n), (3, .ptr 3 0), (4, .ptr 8 0), (5, .ptr 9 0), (8, bA false)] fun ρ a w G => th_n (wp_ret (th_r ?_)); exact rx_ret (v := bA false) G (rg 8) (by kernel_rfl) (by kernel_rfl) (by show _ = List.map (It.ren (nth (rg 8))) (yRvF2 p d s c); unfold yRvF2; rw [stmtF_bad (by (rw [head4 (by omega)]; simp [h100, h0, q0, h1, q1, h2, q2, h3, q3, h4, q4, h5, q5, h6, q6, h7, q7, h8, q8, h9, q9, h10, q10]; done))] <;> rfl) (by have e1 : ((stmtF p.vars.length p.arrays.length (d + 1) c s).fst : Bool) = (false) := (by rw [stmtF_bad (by (rw [head4 (by omega)]; simp [h100, h0, q0, h1, q1, h2, q2, h3, q3, h4, q4, h5, q5, h6, q6, h7, q7, h8, q8, h9, q9, h10, q10]; done))]; done); (first | rw [e1] | simp only [e1]) <;> rfl)
           · have q9 : (noneB s.index) = false := (Eq.mp (Bool.not_eq_true' _) h9); refine rs1s G ⟨[(20, _, [4])], [(false, false), (true, true), (!noneB s.index, true)], us [(2, 7, 0), (12, 12, 0), (1013, 1013, 0), (15, 17, 0), (18, 21, 1), (22, 22, 0), (1022, 1022, 1), (1023, 1023, 0), (25, 26, 2), (32, 32, 2), (1033, 1033, 2), (35, 37, 1), (42, 42, 1), (1043, 1043, 1)]⟩ (calls_cons (c_isNone (s.index)) calls_nil) ⟨(by kernel_rfl), (by kernel_rfl), (by assumption), trivial⟩ [(2, iA n), (3, .ptr 3 0), (4, .ptr 8 0), (5, .ptr 9 0), (8, bA false), (132, bA true)] [] trivial fun ρ a w G => th_n ?_; refine rT G (true) (by kernel_rfl) ?_; refine wp_seq ?_; refine rs0s G [(2, iA n), (3, .ptr 3 0), (4, .ptr 8 0), (5, .ptr 9 0), (8, bA false)] fun ρ a w G => th_n (wp_ret (th_r ?_)); exact rx_ret (v := bA false) G (rg 8) (by kernel_rfl) (by kernel_rfl) (by show _ = List.map (It.ren (nth (rg 8))) (yRvF2 p d s c); unfold yRvF2; rw [stmtF_bad (by (rw [head4 (by omega)]; simp [h100, h0, q0, h1, q1, h2, q2, h3, q3, h4, q4, h5, q5, h6, q6, h7, q7, h8, q8, h9, q9]; done))] <;> rfl) (by have e1 : ((stmtF p.vars.length p.arrays.length (d + 1) c s).fst : Bool) = (false) := (by rw [stmtF_bad (by (rw [head4 (by omega)]; simp [h100, h0, q0, h1, q1, h2, q2, h3, q3, h4, q4, h5, q5, h6, q6, h7, q7, h8, q8, h9, q9]; done))]; done); (first | rw [e1] | simp only [e1]) <;> rfl)
          · have q8 : (↑s.els.length : Int) > 0 := dTt h8; refine rT G (decide ((↑s.els.length : Int) > (0 : Int))) (by assumption) ?_; refine wp_seq ?_; refine rs0s G [(2, iA n), (3, .ptr 3 0), (4, .ptr 8 0), (5, .ptr 9 0), (8, bA false), (10, bA false), (11, bA false)] fun ρ a w G => th_n (wp_ret (th_r ?_)); exact rx_ret (v := bA false) G (rg 8) (by kernel_rfl) (by kernel_rfl) (by show _ = List.map (It.ren (nth (rg 8))) (yRvF2 p d s c); unfold yRvF2; rw [stmtF_bad (by (rw [head4 (by omega), decide_eq_false (by omega)]; rfl))] <;> rfl) (by have e1 : ((stmtF p.vars.length p.arrays.length (d + 1) c s).fst : Bool) = (false) := (by rw [stmtF_bad (by (rw [head4 (by omega), decide_eq_false (by omega)]; rfl))]; done); (first | rw [e1] | simp only [e1]) <;> rfl)
         · have q7 : (¬ (1 ≤ s.count)) ∨ (¬ (s.count ≤ 3)) := (fun hq => Or.imp (fun hq => of_decide_eq_false (hq)) (fun hq => of_decide_eq_false (hq)) (Bool.and_eq_false_iff.1 (hq))) (Eq.mp (Bool.not_eq_true' _) h7); refine rs1s G ⟨[(4, _, []), (11, _, [])], [(!(decide ((0 : Int) ≤ s.target) && decide (s.target ≤ (0 : Int))), false), (true, true), (!(decide ((1 : Int) ≤ s.count) && decide (s.count ≤ (3 : Int))), true)], us [(7, 8, 0), (9, 12, 1), (13, 13, 0), (1013, 1013, 1), (1014, 1014, 0), (16, 18, 2), (22, 22, 2), (1023, 1023, 2), (25, 27, 1), (32, 32, 1), (1033, 1033, 1), (35, 37, 1), (42, 42, 1), (1043, 1043, 1)]⟩ (calls_cons (c_within (s.target) (0) (0)) (calls_cons (c_within (s.count) (1) (3)) calls_nil)) ⟨(by assumption), (by kernel_rfl), (by assumption), trivial⟩ [(2, iA n), (3, .ptr 3 0), (4, .ptr 8 0), (5, .ptr 9 0), (8, bA false), (10, bA false), (11, bA false), (88, bA true)] [IntKind.i64.wrap ((1 : Int) - (1 : Int)) = (1 : Int) - (1 : Int)] ⟨(by kernel_rfl), trivial⟩ fun ρ a w G => th_n ?_; refine rT G (true) (by kernel_rfl) ?_; refine wp_seq ?_; refine rs0s G [(2, iA n), (3, .ptr 3 0), (4, .ptr 8 0), (5, .ptr 9 0), (8, bA false), (10, bA false), (11, bA false)] fun ρ a w G => th_n (wp_ret (th_r ?_)); exact rx_ret (v := bA false) G (rg 8) (by kernel_rfl) (by kernel_rfl) (by show _ = List.map (It.ren (nth (rg 8))) (yRvF2 p d s c); unfold yRvF2; rw [stmtF_bad (by (rw [head4 (by omega), decide_eq_false (by omega)]; rfl))] <;> rfl) (by have e1 : ((stmtF p.vars.length p.arrays.length (d + 1) c s).fst : Bool) = (false) := (by rw [stmtF_bad (by (rw [head4 (by omega), decide_eq_false (by omega)]; rfl))]; done); (first | rw [e1] | simp only [e1]) <;> rfl)
        · have q6 : (¬ (0 ≤ s.target)) ∨ (¬ (s.target ≤ 0)) := (fun hq => Or.imp (fun hq => of_decide_eq_false (hq)) (fun hq => of_decide_eq_false (hq)) (Bool.and_eq_false_iff.1 (hq))) (Eq.mp (Bool.not_eq_true' _) h6); refine rs1s G ⟨[(4, _, [])], [(!(decide ((0 : Int) ≤ s.target) && decide (s.target ≤ (0 : Int))), true), (true, true)], [(7, 0), (8, 0), (13, 0), (1014, 0), (16, 1), (17, 1), (18, 1), (22, 1), (1023, 1), (25, 1), (26, 1), (27, 1), (32, 1), (1033, 1), (35, 1), (36, 1), (37, 1), (42, 1), (1043, 1)]⟩ (calls_cons (c_within (s.target) (0) (0)) calls_nil) ⟨(by assumption), (by kernel_rfl), trivial⟩ [(2, iA n), (3, .ptr 3 0), (4, .ptr 8 0), (5, .ptr 9 0), (8, bA false), (10, bA false), (11, bA false), (88, bA true)] [IntKind.i64.wrap ((1 : Int) - (1 : Int)) = (1 : Int) - (1 : Int)] ⟨(by kernel_rfl), trivial⟩ fun ρ a w G => th_n ?_; refine rT G (true) (by kernel_rfl) ?_; refine wp_seq ?_; refine rs0s G [(2, iA n), (3, .ptr 3 0), (4, .ptr 8 0), (5, .ptr 9 0), (8, bA false), (10, bA false), (11, bA false)] fun ρ a w G => th_n (wp_ret (th_r ?_)); exact rx_ret (v := bA false) G (rg 8) (by kernel_rfl) (by kernel_rfl) (by show _ = List.map (It.ren (nth (rg 8))) (yRvF2 p d s c); unfold yRvF2; rw [stmtF_bad (by (rw [head4 (by omega), decide_eq_false (by omega)]; rfl))] <;> rfl) (by have e1 : ((stmtF p.vars.length p.arrays.length (d + 1) c s).fst : Bool) = (false) := (by rw [stmtF_bad (by (rw [head4 (by omega), decide_eq_false (by omega)]; rfl))]; done); (first | rw [e1] | simp only [e1]) <;> rfl)
      ·
       have q4 : s.kind = 3 := eq_of_beq h4; refine rT G (s.kind == (3 : Int)) (by assumption) ?_; refine rs0s G [(2, iA n), (3, .ptr 3 0), (4, .ptr 8 0), (5, .ptr 9 0), (8, bA false), (9, iA 1), (10, bA false), (11, bA true), (12, bA false), (13, bA true), (14, bA true)] ?_; intro ρ a w G; refine bl_n ?_; refine th_n (wp_seq (wp_seq ?_)); cases h12 : (!(decide ((0 : Int) ≤ s.target) && decide (s.target ≤ (0 : Int))))
       ·
        have q12 : (0 ≤ s.target) ∧ (s.target ≤ 0) := (fun hq => And.imp (fun hq => of_decide_eq_true (hq)) (fun hq => of_decide_eq_true (hq)) (Bool.and_eq_true_iff.1 (hq))) (Eq.mp (Bool.not_eq_false' _) h12); cases h13 : (s.count != (0 : Int))
        ·
         have q13 : s.count = 0 := (by simpa using h13); refine rs1s G ⟨[(4, _, [])], [(!(decide ((0 : Int) ≤ s.target) && decide (s.target ≤ (0 : Int))), false), (false, false), (true, true), (s.count != (0 : Int), false)], us [(7, 8, 0), (9, 12, 1), (13, 13, 0), (1013, 1013, 1), (1014, 1014, 0), (16, 18, 1), (19, 21, 2), (22, 22, 1), (1022, 1022, 2), (1023, 1023, 1), (25, 27, 3), (28, 31, 1), (32, 32, 3), (1032, 1032, 1), (1033, 1033, 3), (35, 42, 1), (1042, 1043, 1)]⟩ (calls_cons (c_within (s.target) (0) (0)) calls_nil) ⟨(by assumption), (by kernel_rfl), (by kernel_rfl), (by assumption), trivial⟩ [(2, iA n), (3, .ptr 3 0), (4, .ptr 8 0), (5, .ptr 9 0), (8, bA false), (10, bA false), (11, bA true), (88, bA false)] [IntKind.i64.wrap ((1 : Int) - (1 : Int)) = (1 : Int) - (1 : Int)] ⟨(by kernel_rfl), trivial⟩ fun ρ a w G => th_n ?_; refine rF G (false) (by kernel_rfl) ?_; refine wp_skip (th_n (wp_seq (wp_seq ?_))); cases h14 : (!noneB s.index)
         ·
          have q14 : (noneB s.index) = true := (Eq.mp (Bool.not_eq_false' _) h14); cases h15 : (!rightB p.vars.length p.arrays.length s.value)
          ·
           have q15 : (rightB p.vars.length p.arrays.length s.value) = true := (Eq.mp (Bool.not_eq_false' _) h15); refine rs1s G ⟨[(20, _, [4]), (30, _, [0, 1, 2, 5])], [(false, false), (true, true), (!noneB s.index, false), (!rightB p.vars.length p.arrays.length s.value, false)], us [(2, 7, 0), (12, 12, 0), (1013, 1013, 0), (15, 17, 0), (18, 21, 1), (22, 22, 0), (1022, 1022, 1), (1023, 1023, 0), (25, 26, 2), (27, 31, 1), (32, 32, 2), (1032, 1032, 1), (1033, 1033, 2), (35, 37, 3), (38, 41, 0), (42, 42, 3), (1042, 1042, 0), (1043, 1043, 3)]⟩ (calls_cons (c_isNone (s.index)) (calls_cons (c_expr (p) (s.value)) calls_nil)) ⟨(by kernel_rfl), (by kernel_rfl), (by assumption), (by assumption), trivial⟩ [(2, iA n), (3, .ptr 3 0), (4, .ptr 8 0), (5, .ptr 9 0), (8, bA false), (132, bA false)] [] trivial fun ρ a w G => th_n ?_; refine rF G (false) (by kernel_rfl) ?_; refine wp_skip (th_n (wp_seq ?_)); cases h16 : ((stmtsF p.vars.length p.arrays.length d (c + (1 : Nat)) s.body).fst)
           · refine rs1 (dk := dkP) G ⟨[(6, _, [0, 1, 2, 3, 6])], [((stmtsF p.vars.length p.arrays.length d (c + (1 : Nat)) s.body).fst, false)], us [(8, 14, 0), (1015, 1015, 0)]⟩ (calls_cons (ih (s.body) (c + 1) (n + 1) (by simp; omega) (by omega)) calls_nil) ⟨(by assumption), trivial⟩ (rg 8) [dI p.vars, dI p.arrays, dT p.body, .box [iA (↑(yRvF1 p d s c).snd : Int)], dE s.index.kids, dE s.value.kids, dT s.body, dT s.els] [(8, bA false)] [IntKind.i64.wrap (n + (1 : Int)) = n + (1 : Int)] ⟨(by exact w64 (by omega) (by omega)), trivial⟩ fun ρ a w G => th_n (wp_ret ?_); exact rx_ret (v := bA false) G (rg 8) (by kernel_rfl) (by kernel_rfl) (by show _ = List.map (It.ren (nth (rg 8))) (yRvF2 p d s c); unfold yRvF2; rw [stmtF_body (by omega) (by (rw [head3 (by omega)]; exact and_t (by omega) (by assumption) (by assumption))) (by assumption)] <;> rfl) (by have e1 : ((stmtF p.vars.length p.arrays.length (d + 1) c s).fst : Bool) = (false) := (by rw [stmtF_body (by omega) (by (rw [head3 (by omega)]; exact and_t (by omega) (by assumption) (by assumption))) (by assumption)]; assumption); (first | rw [e1] | simp only [e1]) <;> rfl)
           · refine rs1 (dk := dkP) G ⟨[(6, _, [0, 1, 2, 3, 6]), (14, _, [0, 1, 2, 3, 7])], [((stmtsF p.vars.length p.arrays.length d (c + (1 : Nat)) s.body).fst, true)], us [(8, 14, 0), (1015, 1015, 0)]⟩ (calls_cons (ih (s.body) (c + 1) (n + 1) (by simp; omega) (by omega)) (calls_cons (ih (s.els) ((yRvF1 p d s c).snd) (n + 1) (by exact stmtsF_le (by omega) (by assumption)) (by omega)) calls_nil)) ⟨(by assumption), trivial⟩ (rg 8) [dI p.vars, dI p.arrays, dT p.body, .box [iA (↑(yRvF0 p d s c).snd : Int)], dE s.index.kids, dE s.value.kids, dT s.body, dT s.els] [(8, bA (yRvF0 p d s c).fst)] [IntKind.i64.wrap (n + (1 : Int)) = n + (1 : Int), IntKind.i64.wrap (n + (1 : Int)) = n + (1 : Int)] ⟨(by exact w64 (by omega) (by omega)), (by exact w64 (by omega) (by omega)), trivial⟩ fun ρ a w G => th_n (wp_ret ?_); exact rx_ret (v := bA (stmtsF p.vars.length p.arrays.length d (stmtsF p.vars.length p.arrays.length d (c + 1) s.body).snd s.els).fst) G (rg 8) (by kernel_rfl) (by kernel_rfl) (by show _ = List.map (It.ren (nth (rg 8))) (yRvF2 p d s c); unfold yRvF2; rw [stmtF_els (by omega) (by (rw [head3 (by omega)]; exact and_t (by omega) (by assumption) (by assumption))) (by assumption)] <;> rfl) (by have e1 : ((stmtF p.vars.length p.arrays.length (d + 1) c s).fst : Bool) = ((stmtsF p.vars.length p.arrays.length d (stmtsF p.vars.length p.arrays.length d (c + 1) s.body).snd s.els).fst) := (by rw [stmtF_els (by omega) (by (rw [head3 (by omega)]; exact and_t (by omega) (by assumption) (by assumption))) (by assumption)]; done); (first | rw [e1] | simp only [e1]) <;> rfl)
          · have q15 : (rightB p.vars.length p.arrays.length s.value) = false := (Eq.mp (Bool.not_eq_true' _) h15); refine rs1s G ⟨[(20, _, [4]), (30, _, [0, 1, 2, 5])], [(false, false), (true, true), (!noneB s.index, false), (!rightB p.vars.length p.arrays.length s.value, true)], us [(2, 7, 0), (12, 12, 0), (1013, 1013, 0), (15, 17, 0), (18, 21, 1), (22, 22, 0), (1022, 1022, 1), (1023, 1023, 0), (25, 26, 2), (27, 31, 1), (32, 32, 2), (1032, 1032, 1), (1033, 1033, 2), (35, 37, 3), (42, 42, 3), (1043, 1043, 3)]⟩ (calls_cons (c_isNone (s.index)) (calls_cons (c_expr (p) (s.value)) calls_nil)) ⟨(by kernel_rfl), (by kernel_rfl), (by assumption), (by assumption), trivial⟩ [(2, iA n), (3, .ptr 3 0), (4, .ptr 8 0), (5, .ptr 9 0), (8, bA false), (132, bA true)] [] trivial fun ρ a w G => th_n ?_; refine rT G (true) (by kernel_rfl) ?_; refine wp_seq ?_; refine rs0s G [(2, iA n), (3, .ptr 3 0), (4, .ptr 8 0), (5, .ptr 9 0), (8, bA false)] fun ρ a w G => th_n (wp_ret (th_r ?_)); exact rx_ret (v := bA false) G (rg 8) (by kernel_rfl) (by kernel_rfl) (by show _ = List.map (It.ren (nth (rg 8))) (yRvF2 p d s c); unfold yRvF2; rw [stmtF_bad (by (rw [head3 (by omega)]; simp [h100, h0, q0, h1, q1, h2, q2, h3, q3, h4, q4, h12, q12, h13, q13, h14, q14, h15, q15]; done))] <;> rfl) (by have e1 : ((stmtF p.vars.length p.arrays.length (d + 1) c s).fst : Bool) = (false) := (by rw [stmtF_bad (by (rw [head3 (by omega)]; simp [h100, h0, q0, h1, q1, h2, q2, h3, q3, h4, q4, h12, q12, h13, q13, h14, q14, h15, q15]; done))]; done); (first | rw [e1] | simp only [e1]) <;> rfl)
         · have q14 : (noneB s.index) = false := (Eq.mp (Bool.not_eq_true' _) h14); refine rs1s G ⟨[(20, _, [4])], [(false, false), (true, true), (!noneB s.index, true)], us [(2, 7, 0), (12, 12, 0), (1013, 1013, 0), (15, 17, 0), (18, 21, 1), (22, 22, 0), (1022, 1022, 1), (1023, 1023, 0), (25, 26, 2), (32, 32, 2), (1033, 1033, 2), (35, 37, 1), (42, 42, 1), (1043, 1043, 1)]⟩ (calls_cons (c_isNone (s.index)) calls_nil) ⟨(by kernel_rfl), (by kernel_rfl), (by assumption), trivial⟩ [(2, iA n), (3, .ptr 3 0), (4, .ptr 8 0), (5, .ptr 9 0), (8, bA false), (132, bA true)] [] trivial fun ρ a w G => th_n ?_; refine rT G (true) (by kernel_rfl) ?_; refine wp_seq ?_; refine rs0s G [(2, iA n), (3, .ptr 3 0), (4, .ptr 8 0), (5, .ptr 9 0), (8, bA false)] fun ρ a w G => th_n (wp_ret (th_r ?_)); exact rx_ret (v := bA false) G (rg 8) (by kernel_rfl) (by kernel_rfl) (by show _ = List.map (It.ren (nth (rg 8))) (yRvF2 p d s c); unfold yRvF2; rw [stmtF_bad (by (rw [head3 (by omega)]; simp [h100, h0, q0, h1, q1, h2, q2, h3, q3, h4, q4, h12, q12, h13, q13, h14, q14]; done))] <;> rfl) (by have e1 : ((stmtF p.vars.length p.arrays.length (d + 1) c s).fst : Bool) = (false) := (by rw [stmtF_bad (by (rw [head3 (by omega)]; simp [h100, h0, q0, h1, q1, h2, q2, h3, q3, h4, q4, h12, q12, h13, q13, h14, q14]; done))]; done); (first | rw [e1] | simp only [e1]) <;> rfl)
        · have q13 : ¬ (s.count = 0) := bne_iff_ne.1 h13; refine rs1s G ⟨[(4, _, [])], [(!(decide ((0 : Int) ≤ s.target) && decide (s.target ≤ (0 : Int))), false), (false, false), (true, true), (s.count != (0 : Int), true)], us [(7, 8, 0), (9, 12, 1), (13, 13, 0), (1013, 1013, 1), (1014, 1014, 0), (16, 18, 1), (19, 21, 2), (22, 22, 1), (1022, 1022, 2), (1023, 1023, 1), (25, 27, 3), (32, 32, 3), (1033, 1033, 3), (35, 37, 2), (42, 42, 2), (1043, 1043, 2)]⟩ (calls_cons (c_within (s.target) (0) (0)) calls_nil) ⟨(by assumption), (by kernel_rfl), (by kernel_rfl), (by assumption), trivial⟩ [(2, iA n), (3, .ptr 3 0), (4, .ptr 8 0), (5, .ptr 9 0), (8, bA false), (10, bA false), (11, bA true), (88, bA true)] [IntKind.i64.wrap ((1 : Int) - (1 : Int)) = (1 : Int) - (1 : Int)] ⟨(by kernel_rfl), trivial⟩ fun ρ a w G => th_n ?_; refine rT G (true) (by kernel_rfl) ?_; refine wp_seq ?_; refine rs0s G [(2, iA n), (3, .ptr 3 0), (4, .ptr 8 0), (5, .ptr 9 0), (8, bA false), (10, bA false), (11, bA true)] fun ρ a w G => th_n (wp_ret (th_r ?_)); exact rx_ret (v := bA false) G (rg 8) (by kernel_rfl) (by kernel_rfl) (by show _ = List.map (It.ren (nth (rg 8))) (yRvF2 p d s c); unfold yRvF2; rw [stmtF_bad (by (rw [head3 (by omega), decide_eq_false (by omega)]; rfl))] <;> rfl) (by have e1 : ((stmtF p.vars.length p.arrays.length (d + 1) c s).fst : Bool) = (false) := (by rw [stmtF_bad (by (rw [head3 (by omega), decide_eq_false (by omega)]; rfl))]; done); (first | rw [e1] | simp only [e1]) <;> rfl)
       · have q12 : (¬ (0 ≤ s.target)) ∨ (¬ (s.target ≤ 0)) := (fun hq => Or.imp (fun hq => of_decide_eq_false (hq)) (fun hq => of_decide_eq_false (hq)) (Bool.and_eq_false_iff.1 (hq))) (Eq.mp (Bool.not_eq_true' _) h12); refine rs1s G ⟨[(4, _, [])], [(!(decide ((0 : Int) ≤ s.target) && decide (s.target ≤ (0 : Int))), true), (true, true)], [(7, 0), (8, 0), (13, 0), (1014, 0), (16, 1), (17, 1), (18, 1), (22, 1), (1023, 1), (25, 1), (26, 1), (27, 1), (32, 1), (1033, 1), (35, 1), (36, 1), (37, 1), (42, 1), (1043, 1)]⟩ (calls_cons (c_within (s.target) (0) (0)) calls_nil) ⟨(by assumption), (by kernel_rfl), trivial⟩ [(2, iA n), (3, .ptr 3 0), (4, .ptr 8 0), (5, .ptr 9 0), (8, bA false), (10, bA false), (11, bA true), (88, bA true)] [IntKind.i64.wrap ((1 : Int) - (1 : Int)) = (1 : Int) - (1 : Int)] ⟨(by kernel_rfl), trivial⟩ fun ρ a w G => th_n ?_; refine rT G (true) (by kernel_rfl) ?_; refine wp_seq ?_; refine rs0s G [(2, iA n), (3, .ptr 3 0), (4, .ptr 8 0), (5, .ptr 9 0), (8, bA false), (10, bA false), (11, bA true)] fun ρ a w G => th_n (wp_ret (th_r ?_)); exact rx_ret (v := bA false) G (rg 8) (by kernel_rfl) (by kernel_rfl) (by show _ = List.map (It.ren (nth (rg 8))) (yRvF2 p d s c); unfold yRvF2; rw [stmtF_bad (by (rw [head3 (by omega), decide_eq_false (by omega)]; rfl))] <;> rfl) (by have e1 : ((stmtF p.vars.length p.arrays.length (d + 1) c s).fst : Bool) = (false) := (by rw [stmtF_bad (by (rw [head3 (by omega), decide_eq_false (by omega)]; rfl))]; done); (first | rw [e1] | simp only [e1]) <;> rfl)
     ·
      have q3 : s.kind = 2 := eq_of_beq h3; refine rT G (s.kind == (2 : Int)) (by assumption) ?_; refine rs0s G [(2, iA n), (3, .ptr 3 0), (4, .ptr 8 0), (5, .ptr 9 0), (8, bA false), (9, iA (↑p.arrays.length : Int)), (10, bA true), (11, bA true), (12, bA false), (13, bA false), (14, bA false)] ?_; intro ρ a w G; refine bl_n ?_; refine th_n (wp_seq (wp_seq ?_)); cases h17 : (!(decide ((0 : Int) ≤ s.target) && decide (s.target ≤ (↑p.arrays.length : Int) - (1 : Int))))
      ·
       have q17 : (0 ≤ s.target) ∧ (s.target ≤ (↑p.arrays.length : Int) - 1) := (fun hq => And.imp (fun hq => of_decide_eq_true (hq)) (fun hq => of_decide_eq_true (hq)) (Bool.and_eq_true_iff.1 (hq))) (Eq.mp (Bool.not_eq_false' _) h17); cases h18 : (s.count != (0 : Int))
       ·
        have q18 : s.count = 0 := (by simpa using h18); cases h19 : (decide ((↑s.body.length : Int) > (0 : Int)))
        ·
         have q19 : ¬ ((↑s.body.length : Int) > 0) := dFf h19; refine rs1s G ⟨[(4, _, [])], [(!(decide ((0 : Int) ≤ s.target) && decide (s.target ≤ (↑p.arrays.length : Int) - (1 : Int))), false), (false, false), (true, true), (s.count != (0 : Int), false), (decide ((↑s.body.length : Int) > (0 : Int)), false)], us [(7, 8, 0), (9, 12, 1), (13, 13, 0), (1013, 1013, 1), (1014, 1014, 0), (16, 18, 1), (19, 21, 2), (22, 22, 1), (1022, 1022, 2), (1023, 1023, 1), (25, 27, 3), (28, 31, 2), (32, 32, 3), (1032, 1032, 2), (1033, 1033, 3), (35, 37, 4), (38, 41, 2), (42, 42, 4), (1042, 1042, 2), (1043, 1043, 4)]⟩ (calls_cons (c_within (s.target) (0) ((↑p.arrays.length : Int) - 1)) calls_nil) ⟨(by assumption), (by kernel_rfl), (by kernel_rfl), (by assumption), (by assumption), trivial⟩ [(2, iA n), (3, .ptr 3 0), (4, .ptr 8 0), (5, .ptr 9 0), (8, bA false), (10, bA true), (11, bA true), (88, bA (decide ((↑s.els.length : Int) > 0)))] [IntKind.i64.wrap ((↑p.arrays.length : Int) - (1 : Int)) = (↑p.arrays.length : Int) - (1 : Int)] ⟨(by exact w64 (by omega) (by omega)), trivial⟩ fun ρ a w G => th_n ?_; cases h20 : (decide ((↑s.els.length : Int) > (0 : Int)))
         ·
          have q20 : ¬ ((↑s.els.length : Int) > 0) := dFf h20; refine rF G (decide ((↑s.els.length : Int) > (0 : Int))) (by assumption) ?_; refine wp_skip (th_n (wp_seq (wp_seq ?_))); cases h21 : (!rightB p.vars.length p.arrays.length s.index)
          ·
           have q21 : (rightB p.vars.length p.arrays.length s.index) = true := (Eq.mp (Bool.not_eq_false' _) h21); cases h22 : (!atomB s.index)
           ·
            have q22 : (atomB s.index) = true := (Eq.mp (Bool.not_eq_false' _) h22); cases h23 : (!rightB p.vars.length p.arrays.length s.value)
            ·
             have q23 : (rightB p.vars.length p.arrays.length s.value) = true := (Eq.mp (Bool.not_eq_false' _) h23); refine rs1s G ⟨[(5, _, [0, 1, 2, 4]), (10, _, [4]), (30, _, [0, 1, 2, 5])], [(true, true), (!rightB p.vars.length p.arrays.length s.index, false), (!atomB s.index, false), (false, false), (!rightB p.vars.length p.arrays.length s.value, false)], us [(2, 7, 0), (8, 11, 1), (12, 12, 0), (1012, 1012, 1), (1013, 1013, 0), (15, 17, 2), (18, 21, 3), (22, 22, 2), (1022, 1022, 3), (1023, 1023, 2), (25, 26, 3), (27, 31, 0), (32, 32, 3), (1032, 1032, 0), (1033, 1033, 3), (35, 37, 4), (38, 41, 3), (42, 42, 4), (1042, 1042, 3), (1043, 1043, 4)]⟩ (calls_cons (c_expr (p) (s.index)) (calls_cons (c_isPlain (s.index)) (calls_cons (c_expr (p) (s.value)) calls_nil))) ⟨(by kernel_rfl), (by assumption), (by assumption), (by kernel_rfl), (by assumption), trivial⟩ [(2, iA n), (3, .ptr 3 0), (4, .ptr 8 0), (5, .ptr 9 0), (8, bA false), (132, bA false)] [] trivial fun ρ a w G => th_n ?_; refine rF G (false) (by kernel_rfl) ?_; refine wp_skip (th_n (wp_seq ?_)); cases h24 : ((stmtsF p.vars.length p.arrays.length d (c + (1 : Nat)) s.body).fst)
             · refine rs1 (dk := dkP) G ⟨[(6, _, [0, 1, 2, 3, 6])], [((stmtsF p.vars.length p.arrays.length d (c + (1 : Nat)) s.body).fst, false)], us [(8, 14, 0), (1015, 1015, 0)]⟩ (calls_cons (ih (s.body) (c + 1) (n + 1) (by simp; omega) (by omega)) calls_nil) ⟨(by assumption), trivial⟩ (rg 8) [dI p.vars, dI p.arrays, dT p.body, .box [iA (↑(yRvF1 p d s c).snd : Int)], dE s.index.kids, dE s.value.kids, dT s.body, dT s.els] [(8, bA false)] [IntKind.i64.wrap (n + (1 : Int)) = n + (1 : Int)] ⟨(by exact w64 (by omega) (by omega)), trivial⟩ fun ρ a w G => th_n (wp_ret ?_); exact rx_ret (v := bA false) G (rg 8) (by kernel_rfl) (by kernel_rfl) (by show _ = List.map (It.ren (nth (rg 8))) (yRvF2 p d s c); unfold yRvF2; rw [stmtF_body (by omega) (by (rw [head2 (by omega)]; exact and_t3 (by omega) (by assumption) (by assumption) (by assumption))) (by assumption)] <;> rfl) (by have e1 : ((stmtF p.vars.length p.arrays.length (d + 1) c s).fst : Bool) = (false) := (by rw [stmtF_body (by omega) (by (rw [head2 (by omega)]; exact and_t3 (by omega) (by assumption) (by assumption) (by assumption))) (by assumption)]; assumption); (first | rw [e1] | simp only [e1]) <;> rfl)
             · refine rs1 (dk := dkP) G ⟨[(6, _, [0, 1, 2, 3, 6]), (14, _, [0, 1, 2, 3, 7])], [((stmtsF p.vars.length p.arrays.length d (c + (1 : Nat)) s.body).fst, true)], us [(8, 14, 0), (1015, 1015, 0)]⟩ (calls_cons (ih (s.body) (c + 1) (n + 1) (by simp; omega) (by omega)) (calls_cons (ih (s.els) ((yRvF1 p d s c).snd) (n + 1) (by exact stmtsF_le (by omega) (by assumption)) (by omega)) calls_nil)) ⟨(by assumption), trivial⟩ (rg 8) [dI p.vars, dI p.arrays, dT p.body, .box [iA (↑(yRvF0 p d s c).snd : Int)], dE s.index.kids, dE s.value.kids, dT s.body, dT s.els] [(8, bA (yRvF0 p d s c).fst)] [IntKind.i64.wrap (n + (1 : Int)) = n + (1 : Int), IntKind.i64.wrap (n + (1 : Int)) = n + (1 : Int)] ⟨(by exact w64 (by omega) (by omega)), (by exact w64 (by omega) (by omega)), trivial⟩ fun ρ a w G => th_n (wp_ret ?_); exact rx_ret (v := bA (stmtsF p.vars.length p.arrays.length d (stmtsF p.vars.length p.arrays.length d (c + 1) s.body).snd s.els).fst) G (rg 8) (by kernel_rfl) (by kernel_rfl) (by show _ = List.map (It.ren (nth (rg 8))) (yRvF2 p d s c); unfold yRvF2; rw [stmtF_els (by omega) (by (rw [head2 (by omega)]; exact and_t3 (by omega) (by assumption) (by assumption) (by assumption))) (by assumption)] <;> rfl) (by have e1 : ((stmtF p.vars.length p.arrays.length (d + 1) c s).fst : Bool) = ((stmtsF p.vars.length p.arrays.length d (stmtsF p.vars.length p.arrays.length d (c + 1) s.body).snd s.els).fst) := (by rw [stmtF_els (by omega) (by (rw [head2 (by omega)]; exact and_t3 (by omega) (by assumption) (by assumption) (by assumption))) (by assumption)]; done); (first | rw [e1] | simp only [e1]) <;> rfl)
            · have q23 : (rightB p.vars.length p.arrays.length s.value) = false := (Eq.mp (Bool.not_eq_true' _) h23); refine rs1s G ⟨[(5, _, [0, 1, 2, 4]), (10, _, [4]), (30, _, [0, 1, 2, 5])], [(true, true), (!rightB p.vars.length p.arrays.length s.index, false), (!atomB s.index, false), (false, false), (!rightB p.vars.length p.arrays.length s.value, true)], us [(2, 7, 0), (8, 11, 1), (12, 12, 0), (1012, 1012, 1), (1013, 1013, 0), (15, 17, 2), (18, 21, 3), (22, 22, 2), (1022, 1022, 3), (1023, 1023, 2), (25, 26, 3), (27, 31, 0), (32, 32, 3), (1032, 1032, 0), (1033, 1033, 3), (35, 37, 4), (42, 42, 4), (1043, 1043, 4)]⟩ (calls_cons (c_expr (p) (s.index)) (calls_cons (c_isPlain (s.index)) (calls_cons (c_expr (p) (s.value)) calls_nil))) ⟨(by kernel_rfl), (by assumption), (by assumption), (by kernel_rfl), (by assumption), trivial⟩ [(2, iA n), (3, .ptr 3 0), (4, .ptr 8 0), (5, .ptr 9 0), (8, bA false), (132, bA true)] [] trivial fun ρ a w G => th_n ?_; refine rT G (true) (by kernel_rfl) ?_; refine wp_seq ?_; refine rs0s G [(2, iA n), (3, .ptr 3 0), (4, .ptr 8 0), (5, .ptr 9 0), (8, bA false)] fun ρ a w G => th_n (wp_ret (th_r ?_)); exact rx_ret (v := bA false) G (rg 8) (by kernel_rfl) (by kernel_rfl) (by show _ = List.map (It.ren (nth (rg 8))) (yRvF2 p d s c); unfold yRvF2; rw [stmtF_bad (by (rw [head2 (by omega)]; simp [h100, h0, q0, h1, q1, h2, q2, h3, q3, h17, q17, h18, q18, h19, q19, h20, q20, h21, q21, h22, q22, h23, q23]; done))] <;> rfl) (by have e1 : ((stmtF p.vars.length p.arrays.length (d + 1) c s).fst : Bool) = (false) := (by rw [stmtF_bad (by (rw [head2 (by omega)]; simp [h100, h0, q0, h1, q1, h2, q2, h3, q3, h17, q17, h18, q18, h19, q19, h20, q20, h21, q21, h22, q22, h23, q23]; done))]; done); (first | rw [e1] | simp only [e1]) <;> rfl)
           · have q22 : (atomB s.index) = false := (Eq.mp (Bool.not_eq_true' _) h22); refine rs1s G ⟨[(5, _, [0, 1, 2, 4]), (10, _, [4])], [(true, true), (!rightB p.vars.length p.arrays.length s.index, false), (!atomB s.index, true)], us [(2, 7, 0), (8, 11, 1), (12, 12, 0), (1012, 1012, 1), (1013, 1013, 0), (15, 17, 2), (22, 22, 2), (1023, 1023, 2), (25, 26, 0), (32, 32, 0), (1033, 1033, 0), (35, 37, 0), (42, 42, 0), (1043, 1043, 0)]⟩ (calls_cons (c_expr (p) (s.index)) (calls_cons (c_isPlain (s.index)) calls_nil)) ⟨(by kernel_rfl), (by assumption), (by assumption), trivial⟩ [(2, iA n), (3, .ptr 3 0), (4, .ptr 8 0), (5, .ptr 9 0), (8, bA false), (132, bA true)] [] trivial fun ρ a w G => th_n ?_; refine rT G (true) (by kernel_rfl) ?_; refine wp_seq ?_; refine rs0s G [(2, iA n), (3, .ptr 3 0), (4, .ptr 8 0), (5, .ptr 9 0), (8, bA false)] fun ρ a w G => th_n (wp_ret (th_r ?_)); exact rx_ret (v := bA false) G (rg 8) (by kernel_rfl) (by kernel_rfl) (by show _ = List.map (It.ren (nth (rg 8))) (yRvF2 p d s c); unfold yRvF2; rw [stmtF_bad (by (rw [head2 (by omega)]; simp [h100, h0, q0, h1, q1, h2, q2, h3, q3, h17, q17, h18, q18, h19, q19, h20, q20, h21, q21, h22, q22]; done))] <;> rfl) (by have e1 : ((stmtF p.vars.length p.arrays.length (d + 1) c s).fst : Bool) = (false) := (by rw [stmtF_bad (by (rw [head2 (by omega)]; simp [h100, h0, q0, h1, q1, h2, q2, h3, q3, h17, q17, h18, q18, h19, q19, h20, q20, h21, q21, h22, q22]; done))]; done); (first | rw [e1] | simp only [e1]) <;> rfl)
          · have q21 : (rightB p.vars.length p.arrays.length s.index) = false := (Eq.mp (Bool.not_eq_true' _) h21); refine rs1s G ⟨[(5, _, [0, 1, 2, 4])], [(true, true), (!rightB p.vars.length p.arrays.length s.index, true)], us [(2, 7, 0), (8, 11, 1), (12, 12, 0), (1012, 1012, 1), (1013, 1013, 0), (15, 17, 0), (22, 22, 0), (1023, 1023, 0), (25, 26, 0), (32, 32, 0), (1033, 1033, 0), (35, 37, 0), (42, 42, 0), (1043, 1043, 0)]⟩ (calls_cons (c_expr (p) (s.index)) calls_nil) ⟨(by kernel_rfl), (by assumption), trivial⟩ [(2, iA n), (3, .ptr 3 0), (4, .ptr 8 0), (5, .ptr 9 0), (8, bA false), (132, bA true)] [] trivial fun ρ a w G => th_n ?_; refine rT G (true) (by kernel_rfl) ?_; refine wp_seq ?_; refine rs0s G [(2, iA n), (3, .ptr 3 0), (4, .ptr 8 0), (5, .ptr 9 0), (8, bA false)] fun ρ a w G => th_n (wp_ret (th_r ?_)); exact rx_ret (v := bA false) G (rg 8) (by kernel_rfl) (by kernel_rfl) (by show _ = List.map (It.ren (nth (rg 8))) (yRvF2 p d s c); unfold yRvF2; rw [stmtF_bad (by (rw [head2 (by omega)]; simp [h100, h0, q0, h1, q1, h2, q2, h3, q3, h17, q17, h18, q18, h19, q19, h20, q20, h21, q21]; done))] <;> rfl) (by have e1 : ((stmtF p.vars.length p.arrays.length (d + 1) c s).fst : Bool) = (false) := (by rw [stmtF_bad (by (rw [head2 (by omega)]; simp [h100, h0, q0, h1, q1, h2, q2, h3, q3, h17, q17, h18, q18, h19, q19, h20, q20, h21, q21]; done))]; done); (first | rw [e1] | simp only [e1]) <;> rfl)
         · have q20 : (↑s.els.length : Int) > 0 := dTt h20; refine rT G (decide ((↑s.els.length : Int) > (0 : Int))) (by assumption) ?_; refine wp_seq ?_; refine rs0s G [(2, iA n), (3, .ptr 3 0), (4, .ptr 8 0), (5, .ptr 9 0), (8, bA false), (10, bA true), (11, bA true)] fun ρ a w G => th_n (wp_ret (th_r ?_)); exact rx_ret (v := bA false) G (rg 8) (by kernel_rfl) (by kernel_rfl) (by show _ = List.map (It.ren (nth (rg 8))) (yRvF2 p d s c); unfold yRvF2; rw [stmtF_bad (by (rw [head2 (by omega), decide_eq_false (by omega)]; rfl))] <;> rfl) (by have e1 : ((stmtF p.vars.length p.arrays.length (d + 1) c s).fst : Bool) = (false) := (by rw [stmtF_bad (by (rw [head2 (by omega), decide_eq_false (by omega)]; rfl))]; done); (first | rw [e1] | simp only [e1]) <;> rfl)
        · have q19 : (↑s.body.length : Int) > 0 := dTt h19; refine rs1s G ⟨[(4, _, [])], [(!(decide ((0 : Int) ≤ s.target) && decide (s.target ≤ (↑p.arrays.length : Int) - (1 : Int))), false), (false, false), (true, true), (s.count != (0 : Int), false), (decide ((↑s.body.length : Int) > (0 : Int)), true)], us [(7, 8, 0), (9, 12, 1), (13, 13, 0), (1013, 1013, 1), (1014, 1014, 0), (16, 18, 1), (19, 21, 2), (22, 22, 1), (1022, 1022, 2), (1023, 1023, 1), (25, 27, 3), (28, 31, 2), (32, 32, 3), (1032, 1032, 2), (1033, 1033, 3), (35, 37, 4), (42, 42, 4), (1043, 1043, 4)]⟩ (calls_cons (c_within (s.target) (0) ((↑p.arrays.length : Int) - 1)) calls_nil) ⟨(by assumption), (by kernel_rfl), (by kernel_rfl), (by assumption), (by assumption), trivial⟩ [(2, iA n), (3, .ptr 3 0), (4, .ptr 8 0), (5, .ptr 9 0), (8, bA false), (10, bA true), (11, bA true), (88, bA true)] [IntKind.i64.wrap ((↑p.arrays.length : Int) - (1 : Int)) = (↑p.arrays.length : Int) - (1 : Int)] ⟨(by exact w64 (by omega) (by omega)), trivial⟩ fun ρ a w G => th_n ?_; refine rT G (true) (by kernel_rfl) ?_; refine wp_seq ?_; refine rs0s G [(2, iA n), (3, .ptr 3 0), (4, .ptr 8 0), (5, .ptr 9 0), (8, bA false), (10, bA true), (11, bA true)] fun ρ a w G => th_n (wp_ret (th_r ?_)); exact rx_ret (v := bA false) G (rg 8) (by kernel_rfl) (by kernel_rfl) (by show _ = List.map (It.ren (nth (rg 8))) (yRvF2 p d s c); unfold yRvF2; rw [stmtF_bad (by (rw [head2 (by omega), decide_eq_false (by omega)]; rfl))] <;> rfl) (by have e1 : ((stmtF p.vars.length p.arrays.length (d + 1) c s).fst : Bool) = (false) := (by rw [stmtF_bad (by (rw [head2 (by omega), decide_eq_false (by omega)]; rfl))]; done); (first | rw [e1] | simp only [e1]) <;> rfl)
       · have q18 : ¬ (s.count = 0) := bne_iff_ne.1 h18; refine rs1s G ⟨[(4, _, [])], [(!(decide ((0 : Int) ≤ s.target) && decide (s.target ≤ (↑p.arrays.length : Int) - (1 : Int))), false), (false, false), (true, true), (s.count != (0 : Int), true)], us [(7, 8, 0), (9, 12, 1), (13, 13, 0), (1013, 1013, 1), (1014, 1014, 0), (16, 18, 1), (19, 21, 2), (22, 22, 1), (1022, 1022, 2), (1023, 1023, 1), (25, 27, 3), (32, 32, 3), (1033, 1033, 3), (35, 37, 2), (42, 42, 2), (1043, 1043, 2)]⟩ (calls_cons (c_within (s.target) (0) ((↑p.arrays.length : Int) - 1)) calls_nil) ⟨(by assumption), (by kernel_rfl), (by kernel_rfl), (by assumption), trivial⟩ [(2, iA n), (3, .ptr 3 0), (4, .ptr 8 0), (5, .ptr 9 0), (8, bA false), (10, bA true), (11, bA true), (88, bA true)] [IntKind.i64.wrap ((↑p.arrays.length : Int) - (1 : Int)) = (↑p.arrays.length : Int) - (1 : Int)] ⟨(by exact w64 (by omega) (by omega)), trivial⟩ fun ρ a w G => th_n ?_; refine rT G (true) (by kernel_rfl) ?_; refine wp_seq ?_; refine rs0s G [(2, iA n), (3, .ptr 3 0), (4, .ptr 8 0), (5, .ptr 9 0), (8, bA false), (10, bA true), (11, bA true)] fun ρ a w G => th_n (wp_ret (th_r ?_)); exact rx_ret (v := bA false) G (rg 8) (by kernel_rfl) (by kernel_rfl) (by show _ = List.map (It.ren (nth (rg 8))) (yRvF2 p d s c); unfold yRvF2; rw [stmtF_bad (by (rw [head2 (by omega), decide_eq_false (by omega)]; rfl))] <;> rfl) (by have e1 : ((stmtF p.vars.length p.arrays.length (d + 1) c s).fst : Bool) = (false) := (by rw [stmtF_bad (by (rw [head2 (by omega), decide_eq_false (by omega)]; rfl))]; done); (first | rw [e1] | simp only [e1]) <;> rfl)
      · have q17 : (¬ (0 ≤ s.target)) ∨ (¬ (s.target ≤ (↑p.arrays.length : Int) - 1)) := (fun hq => Or.imp (fun hq => of_decide_eq_false (hq)) (fun hq => of_decide_eq_false (hq)) (Bool.and_eq_false_iff.1 (hq))) (Eq.mp (Bool.not_eq_true' _) h17); refine rs1s G ⟨[(4, _, [])], [(!(decide ((0 : Int) ≤ s.target) && decide (s.target ≤ (↑p.arrays.length : Int) - (1 : Int))), true), (true, true)], [(7, 0), (8, 0), (13, 0), (1014, 0), (16, 1), (17, 1), (18, 1), (22, 1), (1023, 1), (25, 1), (26, 1), (27, 1), (32, 1), (1033, 1), (35, 1), (36, 1), (37, 1), (42, 1), (1043, 1)]⟩ (calls_cons (c_within (s.target) (0) ((↑p.arrays.length : Int) - 1)) calls_nil) ⟨(by assumption), (by kernel_rfl), trivial⟩ [(2, iA n), (3, .ptr 3 0), (4, .ptr 8 0), (5, .ptr 9 0), (8, bA false), (10, bA true), (11, bA true), (88, bA true)] [IntKind.i64.wrap ((↑p.arrays.length : Int) - (1 : Int)) = (↑p.arrays.length : Int) - (1 : Int)] ⟨(by exact w64 (by omega) (by omega)), trivial⟩ fun ρ a w G => th_n ?_; refine rT G (true) (by kernel_rfl) ?_; refine wp_seq ?_; refine rs0s G [(2, iA n), (3, .ptr 3 0), (4, .ptr 8 0), (5, .ptr 9 0), (8, bA false), (10, bA true), (11, bA true)] fun ρ a w G => th_n (wp_ret (th_r ?_)); exact rx_ret (v := bA false) G (rg 8) (by kernel_rfl) (by kernel_rfl) (by show _ = List.map (It.ren (nth (rg 8))) (yRvF2 p d s c); unfold yRvF2; rw [stmtF_bad (by (rw [head2 (by omega), decide_eq_false (by omega)]; rfl))] <;> rfl) (by have e1 : ((stmtF p.vars.length p.arrays.length (d + 1) c s).fst : Bool) = (false) := (by rw [stmtF_bad (by (rw [head2 (by omega), decide_eq_false (by omega)]; rfl))]; done); (first | rw [e1] | simp only [e1]) <;> rfl)
    ·
     have q2 : s.kind = 5 := eq_of_beq h2; refine rT G (s.kind == (5 : Int)) (by assumption) ?_; refine rs0s G [(2, iA n), (3, .ptr 3 0), (4, .ptr 8 0), (5, .ptr 9 0), (8, bA false), (9, iA (↑p.vars.length : Int)), (10, bA false), (11, bA true), (12, bA false), (13, bA false), (14, bA false)] ?_; intro ρ a w G; refine bl_n ?_; refine th_n (wp_seq (wp_seq ?_)); cases h25 : (!(decide ((0 : Int) ≤ s.target) && decide (s.target ≤ (↑p.vars.length : Int) - (1 : Int))))
     ·
      have q25 : (0 ≤ s.target) ∧ (s.target ≤ (↑p.vars.length : Int) - 1) := (fun hq => And.imp (fun hq => of_decide_eq_true (hq)) (fun hq => of_decide_eq_true (hq)) (Bool.and_eq_true_iff.1 (hq))) (Eq.mp (Bool.not_eq_false' _) h25); cases h26 : (s.count != (0 : Int))
      ·
       have q26 : s.count = 0 := (by simpa using h26); cases h27 : (decide ((↑s.body.length : Int) > (0 : Int)))
       ·
        have q27 : ¬ ((↑s.body.length : Int) > 0) := dFf h27; refine rs1s G ⟨[(4, _, [])], [(!(decide ((0 : Int) ≤ s.target) && decide (s.target ≤ (↑p.vars.length : Int) - (1 : Int))), false), (false, false), (true, true), (s.count != (0 : Int), false), (decide ((↑s.body.length : Int) > (0 : Int)), false)], us [(7, 8, 0), (9, 12, 1), (13, 13, 0), (1013, 1013, 1), (1014, 1014, 0), (16, 18, 1), (19, 21, 2), (22, 22, 1), (1022, 1022, 2), (1023, 1023, 1), (25, 27, 3), (28, 31, 2), (32, 32, 3), (1032, 1032, 2), (1033, 1033, 3), (35, 37, 4), (38, 41, 2), (42, 42, 4), (1042, 1042, 2), (1043, 1043, 4)]⟩ (calls_cons (c_within (s.target) (0) ((↑p.vars.length : Int) - 1)) calls_nil) ⟨(by assumption), (by kernel_rfl), (by kernel_rfl), (by assumption), (by assumption), trivial⟩ [(2, iA n), (3, .ptr 3 0), (4, .ptr 8 0), (5, .ptr 9 0), (8, bA false), (10, bA false), (11, bA true), (88, bA (decide ((↑s.els.length : Int) > 0)))] [IntKind.i64.wrap ((↑p.vars.length : Int) - (1 : Int)) = (↑p.vars.length : Int) - (1 : Int)] ⟨(by exact w64 (by omega) (by omega)), trivial⟩ fun ρ a w G => th_n ?_; cases h28 : (decide ((↑s.els.length : Int) > (0 : Int)))
        ·
         have q28 : ¬ ((↑s.els.length : Int) > 0) := dFf h28; refine rF G (decide ((↑s.els.length : Int) > (0 : Int))) (by assumption) ?_; refine wp_skip (th_n (wp_seq (wp_seq ?_))); cases h29 : (!noneB s.index)
         ·
          have q29 : (noneB s.index) = true := (Eq.mp (Bool.not_eq_false' _) h29); cases h30 : (!rightB p.vars.length p.arrays.length s.value)
          ·
           have q30 : (rightB p.vars.length p.arrays.length s.value) = true := (Eq.mp (Bool.not_eq_false' _) h30); refine rs1s G ⟨[(20, _, [4]), (30, _, [0, 1, 2, 5])], [(false, false), (true, true), (!noneB s.index, false), (!rightB p.vars.length p.arrays.length s.value, false)], us [(2, 7, 0), (12, 12, 0), (1013, 1013, 0), (15, 17, 0), (18, 21, 1), (22, 22, 0), (1022, 1022, 1), (1023, 1023, 0), (25, 26, 2), (27, 31, 1), (32, 32, 2), (1032, 1032, 1), (1033, 1033, 2), (35, 37, 3), (38, 41, 0), (42, 42, 3), (1042, 1042, 0), (1043, 1043, 3)]⟩ (calls_cons (c_isNone (s.index)) (calls_cons (c_expr (p) (s.value)) calls_nil)) ⟨(by kernel_rfl), (by kernel_rfl), (by assumption), (by assumption), trivial⟩ [(2, iA n), (3, .ptr 3 0), (4, .ptr 8 0), (5, .ptr 9 0), (8, bA false), (132, bA false)] [] trivial fun ρ a w G => th_n ?_; refine rF G (false) (by kernel_rfl) ?_; refine wp_skip (th_n (wp_seq ?_)); cases h31 : ((stmtsF p.vars.length p.arrays.length d (c + (1 : Nat)) s.body).fst)
           · refine rs1 (dk := dkP) G ⟨[(6, _, [0, 1, 2, 3, 6])], [((stmtsF p.vars.length p.arrays.length d (c + (1 : Nat)) s.body).fst, false)], us [(8, 14, 0), (1015, 1015, 0)]⟩ (calls_cons (ih (s.body) (c + 1) (n + 1) (by simp; omega) (by omega)) calls_nil) ⟨(by assumption), trivial⟩ (rg 8) [dI p.vars, dI p.arrays, dT p.body, .box [iA (↑(yRvF1 p d s c).snd : Int)], dE s.index.kids, dE s.value.kids, dT s.body, dT s.els] [(8, bA false)] [IntKind.i64.wrap (n + (1 : Int)) = n + (1 : Int)] ⟨(by exact w64 (by omega) (by omega)), trivial⟩ fun ρ a w G => th_n (wp_ret ?_); exact rx_ret (v := bA false) G (rg 8) (by kernel_rfl) (by kernel_rfl) (by show _ = List.map (It.ren (nth (rg 8))) (yRvF2 p d s c); unfold yRvF2; rw [stmtF_body (by omega) (by (rw [head1 (by omega)]; exact and_t (by omega) (by assumption) (by assumption))) (by assumption)] <;> rfl) (by have e1 : ((stmtF p.vars.length p.arrays.length (d + 1) c s).fst : Bool) = (false) := (by rw [stmtF_body (by omega) (by (rw [head1 (by omega)]; exact and_t (by omega) (by assumption) (by assumption))) (by assumption)]; assumption); (first | rw [e1] | simp only [e1]) <;> rfl)
           · refine rs1 (dk := dkP) G ⟨[(6, _, [0, 1, 2, 3, 6]), (14, _, [0, 1, 2, 3, 7])], [((stmtsF p.vars.length p.arrays.length d (c + (1 : Nat)) s.body).fst, true)], us [(8, 14, 0), (1015, 1015, 0)]⟩ (calls_cons (ih (s.body) (c + 1) (n + 1) (by simp; omega) (by omega)) (calls_cons (ih (s.els) ((yRvF1 p d s c).snd) (n + 1) (by exact stmtsF_le (by omega) (by assumption)) (by omega)) calls_nil)) ⟨(by assumption), trivial⟩ (rg 8) [dI p.vars, dI p.arrays, dT p.body, .box [iA (↑(yRvF0 p d s c).snd : Int)], dE s.index.kids, dE s.value.kids, dT s.body, dT s.els] [(8, bA (yRvF0 p d s c).fst)] [IntKind.i64.wrap (n + (1 : Int)) = n + (1 : Int), IntKind.i64.wrap (n + (1 : Int)) = n + (1 : Int)] ⟨(by exact w64 (by omega) (by omega)), (by exact w64 (by omega) (by omega)), trivial⟩ fun ρ a w G => th_n (wp_ret ?_); exact rx_ret (v := bA (stmtsF p.vars.length p.arrays.length d (stmtsF p.vars.length p.arrays.length d (c + 1) s.body).snd s.els).fst) G (rg 8) (by kernel_rfl) (by kernel_rfl) (by show _ = List.map (It.ren (nth (rg 8))) (yRvF2 p d s c); unfold yRvF2; rw [stmtF_els (by omega) (by (rw [head1 (by omega)]; exact and_t (by omega) (by assumption) (by assumption))) (by assumption)] <;> rfl) (by have e1 : ((stmtF p.vars.length p.arrays.length (d + 1) c s).fst : Bool) = ((stmtsF p.vars.length p.arrays.length d (stmtsF p.vars.length p.arrays.length d (c + 1) s.body).snd s.els).fst) := (by rw [stmtF_els (by omega) (by (rw [head1 (by omega)]; exact and_t (by omega) (by assumption) (by assumption))) (by assumption)]; done); (first | rw [e1] | simp only [e1]) <;> rfl)
          · have q30 : (rightB p.vars.length p.arrays.length s.value) = false := (Eq.mp (Bool.not_eq_true' _) h30); refine rs1s G ⟨[(20, _, [4]), (30, _, [0, 1, 2, 5])], [(false, false), (true, true), (!noneB s.index, false), (!rightB p.vars.length p.arrays.length s.value, true)], us [(2, 7, 0), (12, 12, 0), (1013, 1013, 0), (15, 17, 0), (18, 21, 1), (22, 22, 0), (1022, 1022, 1), (1023, 1023, 0), (25, 26, 2), (27, 31, 1), (32, 32, 2), (1032, 1032, 1), (1033, 1033, 2), (35, 37, 3), (42, 42, 3), (1043, 1043, 3)]⟩ (calls_cons (c_isNone (s.index)) (calls_cons (c_expr (p) (s.value)) calls_nil)) ⟨(by kernel_rfl), (by kernel_rfl), (by assumption), (by assumption), trivial⟩ [(2, iA n), (3, .ptr 3 0), (4, .ptr 8 0), (5, .ptr 9 0), (8, bA false), (132, bA true)] [] trivial fun ρ a w G => th_n ?_; refine rT G (true) (by kernel_rfl) ?_; refine wp_seq ?_; refine rs0s G [(2, iA n), (3, .ptr 3 0), (4, .ptr 8 0), (5, .ptr 9 0), (8, bA false)] fun ρ a w G => th_n (wp_ret (th_r ?_)); exact rx_ret (v := bA false) G (rg 8) (by kernel_rfl) (by kernel_rfl) (by show _ = List.map (It.ren (nth (rg 8))) (yRvF2 p d s c); unfold yRvF2; rw [stmtF_bad (by (rw [head1 (by omega)]; simp [h100, h0, q0, h1, q1, h2, q2, h25, q25, h26, q26, h27, q27, h28, q28, h29, q29, h30, q30]; done))] <;> rfl) (by have e1 : ((stmtF p.vars.length p.arrays.length (d + 1) c s).fst : Bool) = (false) := (by rw [stmtF_bad (by (rw [head1 (by omega)]; simp [h100, h0, q0, h1, q1, h2, q2, h25, q25, h26, q26, h27, q27, h28, q28, h29, q29, h30, q30]; done))]; done); (first | rw [e1] | simp only [e1]) <;> rfl)
         · have q29 : (noneB s.index) = false := (Eq.mp (Bool.not_eq_true' _) h29); refine rs1s G ⟨[(20, _, [4])], [(false, false), (true, true), (!noneB s.index, true)], us [(2, 7, 0), (12, 12, 0), (1013, 1013, 0), (15, 17, 0), (18, 21, 1), (22, 22, 0), (1022, 1022, 1), (1023, 1023, 0), (25, 26, 2), (32, 32, 2), (1033, 1033, 2), (35, 37, 1), (42, 42, 1), (1043, 1043, 1)]⟩ (calls_cons (c_isNone (s.index)) calls_nil) ⟨(by kernel_rfl), (by kernel_rfl), (by assumption), trivial⟩ [(2, iA n), (3, .ptr 3 0), (4, .ptr 8 0), (5, .ptr 9 0), (8, bA false), (132, bA true)] [] trivial fun ρ a w G => th_n ?_; refine rT G (true) (by kernel_rfl) ?_; refine wp_seq ?_; refine rs0s G [(2, iA n), (3, .ptr 3 0), (4, .ptr 8 0), (5, .ptr 9 0), (8, bA false)] fun ρ a w G => th_n (wp_ret (th_r ?_)); exact rx_ret (v := bA false) G (rg 8) (by kernel_rfl) (by kernel_rfl) (by show _ = List.map (It.ren (nth (rg 8))) (yRvF2 p d s c); unfold yRvF2; rw [stmtF_bad (by (rw [head1 (by omega)]; simp [h100, h0, q0, h1, q1, h2, q2, h25, q25, h26, q26, h27, q27, h28, q28, h29, q29]; done))] <;> rfl) (by have e1 : ((stmtF p.vars.length p.arrays.length (d + 1) c s).fst : Bool) = (false) := (by rw [stmtF_bad (by (rw [head1 (by omega)]; simp [h100, h0, q0, h1, q1, h2, q2, h25, q25, h26, q26, h27, q27, h28, q28, h29, q29]; done))]; done); (first | rw [e1] | simp only [e1]) <;> rfl)
        · have q28 : (↑s.els.length : Int) > 0 := dTt h28; refine rT G (decide ((↑s.els.length : Int) > (0 : Int))) (by assumption) ?_; refine wp_seq ?_; refine rs0s G [(2, iA n), (3, .ptr 3 0), (4, .ptr 8 0), (5, .ptr 9 0), (8, bA false), (10, bA false), (11, bA true)] fun ρ a w G => th_n (wp_ret (th_r ?_)); exact rx_ret (v := bA false) G (rg 8) (by kernel_rfl) (by kernel_rfl) (by show _ = List.map (It.ren (nth (rg 8))) (yRvF2 p d s c); unfold yRvF2; rw [stmtF_bad (by (rw [head1 (by omega), decide_eq_false (by omega)]; rfl))] <;> rfl) (by have e1 : ((stmtF p.vars.length p.arrays.length (d + 1) c s).fst : Bool) = (false) := (by rw [stmtF_bad (by (rw [head1 (by omega), decide_eq_false (by omega)]; rfl))]; done); (first | rw [e1] | simp only [e1]) <;> rfl)
       · have q27 : (↑s.body.length : Int) > 0 := dTt h27; refine rs1s G ⟨[(4, _, [])], [(!(decide ((0 : Int) ≤ s.target) && decide (s.target ≤ (↑p.vars.length : Int) - (1 : Int))), false), (false, false), (true, true), (s.count != (0 : Int), false), (decide ((↑s.body.length : Int) > (0 : Int)), true)], us [(7, 8, 0), (9, 12, 1), (13, 13, 0), (1013, 1013, 1), (1014, 1014, 0), (16, 18, 1), (19, 21, 2), (22, 22, 1), (1022, 1022, 2), (1023, 1023, 1), (25, 27, 3), (28, 31, 2), (32, 32, 3), (1032, 1032, 2), (1033, 1033, 3), (35, 37, 4), (42, 42, 4), (1043, 1043, 4)]⟩ (calls_cons (c_within (s.target) (0) ((↑p.vars.length : Int) - 1)) calls_nil) ⟨(by assumption), (by kernel_rfl), (by kernel_rfl), (by assumption), (by assumption), trivial⟩ [(2, iA n), (3, .ptr 3 0), (4, .ptr 8 0), (5, .ptr 9 0), (8, bA false), (10, bA false), (11, bA true), (88, bA true)] [IntKind.i64.wrap ((↑p.vars.length : Int) - (1 : Int)) = (↑p.vars.length : Int) - (1 : Int)] ⟨(by exact w64 (by omega) (by omega)), trivial⟩ fun ρ a w G => th_n ?_; refine rT G (true) (by kernel_rfl) ?_; refine wp_seq ?_; refine rs0s G [(2, iA n), (3, .ptr 3 0), (4, .ptr 8 0), (5, .ptr 9 0), (8, bA false), (10, bA false), (11, bA true)] fun ρ a w G => th_n (wp_ret (th_r ?_)); exact rx_ret (v := bA false) G (rg 8) (by kernel_rfl) (by kernel_rfl) (by show _ = List.map (It.ren (nth (rg 8))) (yRvF2 p d s c); unfold yRvF2; rw [stmtF_bad (by (rw [head1 (by omega), decide_eq_false (by omega)]; rfl))] <;> rfl) (by have e1 : ((stmtF p.vars.length p.arrays.length (d + 1) c s).fst : Bool) = (false) := (by rw [stmtF_bad (by (rw [head1 (by omega), decide_eq_false (by omega)]; rfl))]; done); (first | rw [e1] | simp only [e1]) <;> rfl)
      · have q26 : ¬ (s.count = 0) := bne_iff_ne.1 h26; refine rs1s G ⟨[(4, _, [])], [(!(decide ((0 : Int) ≤ s.target) && decide (s.target ≤ (↑p.vars.length : Int) - (1 : Int))), false), (false, false), (true, true), (s.count != (0 : Int), true)], us [(7, 8, 0), (9, 12, 1), (13, 13, 0), (1013, 1013, 1), (1014, 1014, 0), (16, 18, 1), (19, 21, 2), (22, 22, 1), (1022, 1022, 2), (1023, 1023, 1), (25, 27, 3), (32, 32, 3), (1033, 1033, 3), (35, 37, 2), (42, 42, 2), (1043, 1043, 2)]⟩ (calls_cons (c_within (s.target) (0) ((↑p.vars.length : Int) - 1)) calls_nil) ⟨(by assumption), (by kernel_rfl), (by kernel_rfl), (by assumption), trivial⟩ [(2, iA n), (3, .ptr 3 0), (4, .ptr 8 0), (5, .ptr 9 0), (8, bA false), (10, bA false), (11, bA true), (88, bA true)] [IntKind.i64.wrap ((↑p.vars.length : Int) - (1 : Int)) = (↑p.vars.length : Int) - (1 : Int)] ⟨(by exact w64 (by omega) (by omega)), trivial⟩ fun ρ a w G => th_n ?_; refine rT G (true) (by kernel_rfl) ?_; refine wp_seq ?_; refine rs0s G [(2, iA n), (3, .ptr 3 0), (4, .ptr 8 0), (5, .ptr 9 0), (8, bA false), (10, bA false), (11, bA true)] fun ρ a w G => th_n (wp_ret (th_r ?_)); exact rx_ret (v := bA false) G (rg 8) (by kernel_rfl) (by kernel_rfl) (by show _ = List.map (It.ren (nth (rg 8))) (yRvF2 p d s c); unfold yRvF2; rw [stmtF_bad (by (rw [head1 (by omega), decide_eq_false (by omega)]; rfl))] <;> rfl) (by have e1 : ((stmtF p.vars.length p.arrays.length (d + 1) c s).fst : Bool) = (false) := (by rw [stmtF_bad (by (rw [head1 (by omega), decide_eq_false (by omega)]; rfl))]; done); (first | rw [e1] | simp only [e1]) <;> rfl)
     · have q25 : (¬ (0 ≤ s.target)) ∨ (¬ (s.target ≤ (↑p.vars.length : Int) - 1)) := (fun hq => Or.imp (fun hq => of_decide_eq_false (hq)) (fun hq => of_decide_eq_false (hq)) (Bool.and_eq_false_iff.1 (hq))) (Eq.mp (Bool.not_eq_true' _) h25); refine rs1s G ⟨[(4, _, [])], [(!(decide ((0 : Int) ≤ s.target) && decide (s.target ≤ (↑p.vars.length : Int) - (1 : Int))), true), (true, true)], [(7, 0), (8, 0), (13, 0), (1014, 0), (16, 1), (17, 1), (18, 1), (22, 1), (1023, 1), (25, 1), (26, 1), (27, 1), (32, 1), (1033, 1), (35, 1), (36, 1), (37, 1), (42, 1), (1043, 1)]⟩ (calls_cons (c_within (s.target) (0) ((↑p.vars.length : Int) - 1)) calls_nil) ⟨(by assumption), (by kernel_rfl), trivial⟩ [(2, iA n), (3, .ptr 3 0), (4, .ptr 8 0), (5, .ptr 9 0), (8, bA false), (10, bA false), (11, bA true), (88, bA true)] [IntKind.i64.wrap ((↑p.vars.length : Int) - (1 : Int)) = (↑p.vars.length : Int) - (1 : Int)] ⟨(by exact w64 (by omega) (by omega)), trivial⟩ fun ρ a w G => th_n ?_; refine rT G (true) (by kernel_rfl) ?_; refine wp_seq ?_; refine rs0s G [(2, iA n), (3, .ptr 3 0), (4, .ptr 8 0), (5, .ptr 9 0), (8, bA false), (10, bA false), (11, bA true)] fun ρ a w G => th_n (wp_ret (th_r ?_)); exact rx_ret (v := bA false) G (rg 8) (by kernel_rfl) (by kernel_rfl) (by show _ = List.map (It.ren (nth (rg 8))) (yRvF2 p d s c); unfold yRvF2; rw [stmtF_bad (by (rw [head1 (by omega), decide_eq_false (by omega)]; rfl))] <;> rfl) (by have e1 : ((stmtF p.vars.length p.arrays.length (d + 1) c s).fst : Bool) = (false) := (by rw [stmtF_bad (by (rw [head1 (by omega), decide_eq_false (by omega)]; rfl))]; done); (first | rw [e1] | simp only [e1]) <;> rfl)
   ·
    have q1 : s.kind = 1 := eq_of_beq h1; refine rT G (s.kind == (1 : Int)) (by assumption) ?_; refine wp_skip (th_n ?_); refine rT G (s.kind == (1 : Int)) (by assumption) ?_; refine rs0s G [(2, iA n), (3, .ptr 3 0), (4, .ptr 8 0), (5, .ptr 9 0), (8, bA false), (9, iA (↑p.vars.length : Int)), (10, bA false), (11, bA true), (12, bA false), (13, bA false), (14, bA false)] ?_; intro ρ a w G; refine bl_n ?_; refine th_n (wp_seq (wp_seq ?_)); cases h32 : (!(decide ((0 : Int) ≤ s.target) && decide (s.target ≤ (↑p.vars.length : Int) - (1 : Int))))
    ·
     have q32 : (0 ≤ s.target) ∧ (s.target ≤ (↑p.vars.length : Int) - 1) := (fun hq => And.imp (fun hq => of_decide_eq_true (hq)) (fun hq => of_decide_eq_true (hq)) (Bool.and_eq_true_iff.1 (hq))) (Eq.mp (Bool.not_eq_false' _) h32); cases h33 : (s.count != (0 : Int))
     ·
      have q33 : s.count = 0 := (by simpa using h33); cases h34 : (decide ((↑s.body.length : Int) > (0 : Int)))
      ·
       have q34 : ¬ ((↑s.body.length : Int) > 0) := dFf h34; refine rs1s G ⟨[(4, _, [])], [(!(decide ((0 : Int) ≤ s.target) && decide (s.target ≤ (↑p.vars.length : Int) - (1 : Int))), false), (false, false), (true, true), (s.count != (0 : Int), false), (decide ((↑s.body.length : Int) > (0 : Int)), false)], us [(7, 8, 0), (9, 12, 1), (13, 13, 0), (1013, 1013, 1), (1014, 1014, 0), (16, 18, 1), (19, 21, 2), (22, 22, 1), (1022, 1022, 2), (1023, 1023, 1), (25, 27, 3), (28, 31, 2), (32, 32, 3), (1032, 1032, 2), (1033, 1033, 3), (35, 37, 4), (38, 41, 2), (42, 42, 4), (1042, 1042, 2), (1043, 1043, 4)]⟩ (calls_cons (c_within (s.target) (0) ((↑p.vars.length : Int) - 1)) calls_nil) ⟨(by assumption), (by kernel_rfl), (by kernel_rfl), (by assumption), (by assumption), trivial⟩ [(2, iA n), (3, .ptr 3 0), (4, .ptr 8 0), (5, .ptr 9 0), (8, bA false), (10, bA false), (11, bA true), (88, bA (decide ((↑s.els.length : Int) > 0)))] [IntKind.i64.wrap ((↑p.vars.length : Int) - (1 : Int)) = (↑p.vars.length : Int) - (1 : Int)] ⟨(by exact w64 (by omega) (by omega)), trivial⟩ fun ρ a w G => th_n ?_; cases h35 : (decide ((↑s.els.length : Int) > (0 : Int)))
       ·
        have q35 : ¬ ((↑s.els.length : Int) > 0) := dFf h35; refine rF G (decide ((↑s.els.length : Int) > (0 : Int))) (by assumption) ?_; refine wp_skip (th_n (wp_seq (wp_seq ?_))); cases h36 : (!noneB s.index)
        ·
         have q36 : (noneB s.index) = true := (Eq.mp (Bool.not_eq_false' _) h36); cases h37 : (!rightB p.vars.length p.arrays.length s.value)
         ·
          have q37 : (rightB p.vars.length p.arrays.length s.value) = true := (Eq.mp (Bool.not_eq_false' _) h37); refine rs1s G ⟨[(20, _, [4]), (30, _, [0, 1, 2, 5])], [(false, false), (true, true), (!noneB s.index, false), (!rightB p.vars.length p.arrays.length s.value, false)], us [(2, 7, 0), (12, 12, 0), (1013, 1013, 0), (15, 17, 0), (18, 21, 1), (22, 22, 0), (1022, 1022, 1), (1023, 1023, 0), (25, 26, 2), (27, 31, 1), (32, 32, 2), (1032, 1032, 1), (1033, 1033, 2), (35, 37, 3), (38, 41, 0), (42, 42, 3), (1042, 1042, 0), (1043, 1043, 3)]⟩ (calls_cons (c_isNone (s.index)) (calls_cons (c_expr (p) (s.value)) calls_nil)) ⟨(by kernel_rfl), (by kernel_rfl), (by assumption), (by assumption), trivial⟩ [(2, iA n), (3, .ptr 3 0), (4, .ptr 8 0), (5, .ptr 9 0), (8, bA false), (132, bA false)] [] trivial fun ρ a w G => th_n ?_; refine rF G (false) (by kernel_rfl) ?_; refine wp_skip (th_n (wp_seq ?_)); cases h38 : ((stmtsF p.vars.length p.arrays.length d (c + (1 : Nat)) s.body).fst)
          · refine rs1 (dk := dkP) G ⟨[(6, _, [0, 1, 2, 3, 6])], [((stmtsF p.vars.length p.arrays.length d (c + (1 : Nat)) s.body).fst, false)], us [(8, 14, 0), (1015, 1015, 0)]⟩ (calls_cons (ih (s.body) (c + 1) (n + 1) (by simp; omega) (by omega)) calls_nil) ⟨(by assumption), trivial⟩ (rg 8) [dI p.vars, dI p.arrays, dT p.body, .box [iA (↑(yRvF1 p d s c).snd : Int)], dE s.index.kids, dE s.value.kids, dT s.body, dT s.els] [(8, bA false)] [IntKind.i64.wrap (n + (1 : Int)) = n + (1 : Int)] ⟨(by exact w64 (by omega) (by omega)), trivial⟩ fun ρ a w G => th_n (wp_ret ?_); exact rx_ret (v := bA false) G (rg 8) (by kernel_rfl) (by kernel_rfl) (by show _ = List.map (It.ren (nth (rg 8))) (yRvF2 p d s c); unfold yRvF2; rw [stmtF_body (by omega) (by (rw [head1 (by omega)]; exact and_t (by omega) (by assumption) (by assumption))) (by assumption)] <;> rfl) (by have e1 : ((stmtF p.vars.length p.arrays.length (d + 1) c s).fst : Bool) = (false) := (by rw [stmtF_body (by omega) (by (rw [head1 (by omega)]; exact and_t (by omega) (by assumption) (by assumption))) (by assumption)]; assumption); (first | rw [e1] | simp only [e1]) <;> rfl)
          · refine rs1 (dk := dkP) G ⟨[(6, _, [0, 1, 2, 3, 6]), (14, _, [0, 1, 2, 3, 7])], [((stmtsF p.vars.length p.arrays.length d (c + (1 : Nat)) s.body).fst, true)], us [(8, 14, 0), (1015, 1015, 0)]⟩ (calls_cons (ih (s.body) (c + 1) (n + 1) (by simp; omega) (by omega)) (calls_cons (ih (s.els) ((yRvF1 p d s c).snd) (n + 1) (by exact stmtsF_le (by omega) (by assumption)) (by omega)) calls_nil)) ⟨(by assumption), trivial⟩ (rg 8) [dI p.vars, dI p.arrays, dT p.body, .box [iA (↑(yRvF0 p d s c).snd : Int)], dE s.index.kids, dE s.value.kids, dT s.body, dT s.els] [(8, bA (yRvF0 p d s c).fst)] [IntKind.i64.wrap (n + (1 : Int)) = n + (1 : Int), IntKind.i64.wrap (n + (1 : Int)) = n + (1 : Int)] ⟨(by exact w64 (by omega) (by omega)), (by exact w64 (by omega) (by omega)), trivial⟩ fun ρ a w G => th_n (wp_ret ?_); exact rx_ret (v := bA (stmtsF p.vars.length p.arrays.length d (stmtsF p.vars.length p.arrays.length d (c + 1) s.body).snd s.els).fst) G (rg 8) (by kernel_rfl) (by kernel_rfl) (by show _ = List.map (It.ren (nth (rg 8))) (yRvF2 p d s c); unfold yRvF2; rw [stmtF_els (by omega) (by (rw [head1 (by omega)]; exact and_t (by omega) (by assumption) (by assumption))) (by assumption)] <;> rfl) (by have e1 : ((stmtF p.vars.length p.arrays.length (d + 1) c s).fst : Bool) = ((stmtsF p.vars.length p.arrays.length d (stmtsF p.vars.length p.arrays.length d (c + 1) s.body).snd s.els).fst) := (by rw [stmtF_els (by omega) (by (rw [head1 (by omega)]; exact and_t (by omega) (by assumption) (by assumption))) (by assumption)]; done); (first | rw [e1] | simp only [e1]) <;> rfl)
         · have q37 : (rightB p.vars.length p.arrays.length s.value) = false := (Eq.mp (Bool.not_eq_true' _) h37); refine rs1s G ⟨[(20, _, [4]), (30, _, [0, 1, 2, 5])], [(false, false), (true, true), (!noneB s.index, false), (!rightB p.vars.length p.arrays.length s.value, true)], us [(2, 7, 0), (12, 12, 0), (1013, 1013, 0), (15, 17, 0), (18, 21, 1), (22, 22, 0), (1022, 1022, 1), (1023, 1023, 0), (25, 26, 2), (27, 31, 1), (32, 32, 2), (1032, 1032, 1), (1033, 1033, 2), (35, 37, 3), (42, 42, 3), (1043, 1043, 3)]⟩ (calls_cons (c_isNone (s.index)) (calls_cons (c_expr (p) (s.value)) calls_nil)) ⟨(by kernel_rfl), (by kernel_rfl), (by assumption), (by assumption), trivial⟩ [(2, iA n), (3, .ptr 3 0), (4, .ptr 8 0), (5, .ptr 9 0), (8, bA false), (132, bA true)] [] trivial fun ρ a w G => th_n ?_; refine rT G (true) (by kernel_rfl) ?_; refine wp_seq ?_; refine rs0s G [(2, iA n), (3, .ptr 3 0), (4, .ptr 8 0), (5, .ptr 9 0), (8, bA false)] fun ρ a w G => th_n (wp_ret (th_r ?_)); exact rx_ret (v := bA false) G (rg 8) (by kernel_rfl) (by kernel_rfl) (by show _ = List.map (It.ren (nth (rg 8))) (yRvF2 p d s c); unfold yRvF2; rw [stmtF_bad (by (rw [head1 (by omega)]; simp [h100, h0, q0, h1, q1, h32, q32, h33, q33, h34, q34, h35, q35, h36, q36, h37, q37]; done))] <;> rfl) (by have e1 : ((stmtF p.vars.length p.arrays.length (d + 1) c s).fst : Bool) = (false) := (by rw [stmtF_bad (by (rw [head1 (by omega)]; simp [h100, h0, q0, h1, q1, h32, q32, h33, q33, h34, q34, h35, q35, h36, q36, h37, q37]; done))]; done); (first | rw [e1] | simp only [e1]) <;> rfl)
        · have q36 : (noneB s.index) = false := (Eq.mp (Bool.not_eq_true' _) h36); refine rs1s G ⟨[(20, _, [4])], [(false, false), (true, true), (!noneB s.index, true)], us [(2, 7, 0), (12, 12, 0), (1013, 1013, 0), (15, 17, 0), (18, 21, 1), (22, 22, 0), (1022, 1022, 1), (1023, 1023, 0), (25, 26, 2), (32, 32, 2), (1033, 1033, 2), (35, 37, 1), (42, 42, 1), (1043, 1043, 1)]⟩ (calls_cons (c_isNone (s.index)) calls_nil) ⟨(by kernel_rfl), (by kernel_rfl), (by assumption), trivial⟩ [(2, iA n), (3, .ptr 3 0), (4, .ptr 8 0), (5, .ptr 9 0), (8, bA false), (132, bA true)] [] trivial fun ρ a w G => th_n ?_; refine rT G (true) (by kernel_rfl) ?_; refine wp_seq ?_; refine rs0s G [(2, iA n), (3, .ptr 3 0), (4, .ptr 8 0), (5, .ptr 9 0), (8, bA false)] fun ρ a w G => th_n (wp_ret (th_r ?_)); exact rx_ret (v := bA false) G (rg 8) (by kernel_rfl) (by kernel_rfl) (by show _ = List.map (It.ren (nth (rg 8))) (yRvF2 p d s c); unfold yRvF2; rw [stmtF_bad (by (rw [head1 (by omega)]; simp [h100, h0, q0, h1, q1, h32, q32, h33, q33, h34, q34, h35, q35, h36, q36]; done))] <;> rfl) (by have e1 : ((stmtF p.vars.length p.arrays.length (d + 1) c s).fst : Bool) = (false) := (by rw [stmtF_bad (by (rw [head1 (by omega)]; simp [h100, h0, q0, h1, q1, h32, q32, h33, q33, h34, q34, h35, q35, h36, q36]; done))]; done); (first | rw [e1] | simp only [e1]) <;> rfl)
       · have q35 : (↑s.els.length : Int) > 0 := dTt h35; refine rT G (decide ((↑s.els.length : Int) > (0 : Int))) (by assumption) ?_; refine wp_seq ?_; refine rs0s G [(2, iA n), (3, .ptr 3 0), (4, .ptr 8 0), (5, .ptr 9 0), (8, bA false), (10, bA false), (11, bA true)] fun ρ a w G => th_n (wp_ret (th_r ?_)); exact rx_ret (v := bA false) G (rg 8) (by kernel_rfl) (by kernel_rfl) (by show _ = List.map (It.ren (nth (rg 8))) (yRvF2 p d s c); unfold yRvF2; rw [stmtF_bad (by (rw [head1 (by omega), decide_eq_false (by omega)]; rfl))] <;> rfl) (by have e1 : ((stmtF p.vars.length p.arrays.length (d + 1) c s).fst : Bool) = (false) := (by rw [stmtF_bad (by (rw [head1 (by omega), decide_eq_false (by omega)]; rfl))]; done); (first | rw [e1] | simp only [e1]) <;> rfl)
      · have q34 : (↑s.body.length : Int) > 0 := dTt h34; refine rs1s G ⟨[(4, _, [])], [(!(decide ((0 : Int) ≤ s.target) && decide (s.target ≤ (↑p.vars.length : Int) - (1 : Int))), false), (false, false), (true, true), (s.count != (0 : Int), false), (decide ((↑s.body.length : Int) > (0 : Int)), true)], us [(7, 8, 0), (9, 12, 1), (13, 13, 0), (1013, 1013, 1), (1014, 1014, 0), (16, 18, 1), (19, 21, 2), (22, 22, 1), (1022, 1022, 2), (1023, 1023, 1), (25, 27, 3), (28, 31, 2), (32, 32, 3), (1032, 1032, 2), (1033, 1033, 3), (35, 37, 4), (42, 42, 4), (1043, 1043, 4)]⟩ (calls_cons (c_within (s.target) (0) ((↑p.vars.length : Int) - 1)) calls_nil) ⟨(by assumption), (by kernel_rfl), (by kernel_rfl), (by assumption), (by assumption), trivial⟩ [(2, iA n), (3, .ptr 3 0), (4, .ptr 8 0), (5, .ptr 9 0), (8, bA false), (10, bA false), (11, bA true), (88, bA true)] [IntKind.i64.wrap ((↑p.vars.length : Int) - (1 : Int)) = (↑p.vars.length : Int) - (1 : Int)] ⟨(by exact w64 (by omega) (by omega)), trivial⟩ fun ρ a w G => th_n ?_; refine rT G (true) (by kernel_rfl) ?_; refine wp_seq ?_; refine rs0s G [(2, iA n), (3, .ptr 3 0), (4, .ptr 8 0), (5, .ptr 9 0), (8, bA false), (10, bA false), (11, bA true)] fun ρ a w G => th_n (wp_ret (th_r ?_)); exact rx_ret (v := bA false) G (rg 8) (by kernel_rfl) (by kernel_rfl) (by show _ = List.map (It.ren (nth (rg 8))) (yRvF2 p d s c); unfold yRvF2; rw [stmtF_bad (by (rw [head1 (by omega), decide_eq_false (by omega)]; rfl))] <;> rfl) (by have e1 : ((stmtF p.vars.length p.arrays.length (d + 1) c s).fst : Bool) = (false) := (by rw [stmtF_bad (by (rw [head1 (by omega), decide_eq_false (by omega)]; rfl))]; done); (first | rw [e1] | simp only [e1]) <;> rfl)
     · have q33 : ¬ (s.count = 0) := bne_iff_ne.1 h33; refine rs1s G ⟨[(4, _, [])], [(!(decide ((0 : Int) ≤ s.target) && decide (s.target ≤ (↑p.vars.length : Int) - (1 : Int))), false), (false, false), (true, true), (s.count != (0 : Int), true)], us [(7, 8, 0), (9, 12, 1), (13, 13, 0), (1013, 1013, 1), (1014, 1014, 0), (16, 18, 1), (19, 21, 2), (22, 22, 1), (1022, 1022, 2), (1023, 1023, 1), (25, 27, 3), (32, 32, 3), (1033, 1033, 3), (35, 37, 2), (42, 42, 2), (1043, 1043, 2)]⟩ (calls_cons (c_within (s.target) (0) ((↑p.vars.length : Int) - 1)) calls_nil) ⟨(by assumption), (by kernel_rfl), (by kernel_rfl), (by assumption), trivial⟩ [(2, iA n), (3, .ptr 3 0), (4, .ptr 8 0), (5, .ptr 9 0), (8, bA false), (10, bA false), (11, bA true), (88, bA true)] [IntKind.i64.wrap ((↑p.vars.length : Int) - (1 : Int)) = (↑p.vars.length : Int) - (1 : Int)] ⟨(by exact w64 (by omega) (by omega)), trivial⟩ fun ρ a w G => th_n ?_; refine rT G (true) (by kernel_rfl) ?_; refine wp_seq ?_; refine rs0s G [(2, iA n), (3, .ptr 3 0), (4, .ptr 8 0), (5, .ptr 9 0), (8, bA false), (10, bA false), (11, bA true)] fun ρ a w G => th_n (wp_ret (th_r ?_)); exact rx_ret (v := bA false) G (rg 8) (by kernel_rfl) (by kernel_rfl) (by show _ = List.map (It.ren (nth (rg 8))) (yRvF2 p d s c); unfold yRvF2; rw [stmtF_bad (by (rw [head1 (by omega), decide_eq_false (by omega)]; rfl))] <;> rfl) (by have e1 : ((stmtF p.vars.length p.arrays.length (d + 1) c s).fst : Bool) = (false) := (by rw [stmtF_bad (by (rw [head1 (by omega), decide_eq_false (by omega)]; rfl))]; done); (first | rw [e1] | simp only [e1]) <;> rfl)
    · have q32 : (¬ (0 ≤ s.target)) ∨ (¬ (s.target ≤ (↑p.vars.length : Int) - 1)) := (fun hq => Or.imp (fun hq => of_decide_eq_false (hq)) (fun hq => of_decide_eq_false (hq)) (Bool.and_eq_false_iff.1 (hq))) (Eq.mp (Bool.not_eq_true' _) h32); refine rs1s G ⟨[(4, _, [])], [(!(decide ((0 : Int) ≤ s.target) && decide (s.target ≤ (↑p.vars.length : Int) - (1 : Int))), true), (true, true)], [(7, 0), (8, 0), (13, 0), (1014, 0), (16, 1), (17, 1), (18, 1), (22, 1), (1023, 1), (25, 1), (26, 1), (27, 1), (32, 1), (1033, 1), (35, 1), (36, 1), (37, 1), (42, 1), (1043, 1)]⟩ (calls_cons (c_within (s.target) (0) ((↑p.vars.length : Int) - 1)) calls_nil) ⟨(by assumption), (by kernel_rfl), trivial⟩ [(2, iA n), (3, .ptr 3 0), (4, .ptr 8 0), (5, .ptr 9 0), (8, bA false), (10, bA false), (11, bA true), (88, bA true)] [IntKind.i64.wrap ((↑p.vars.length : Int) - (1 : Int)) = (↑p.vars.length : Int) - (1 : Int)] ⟨(by exact w64 (by omega) (by omega)), trivial⟩ fun ρ a w G => th_n ?_; refine rT G (true) (by kernel_rfl) ?_; refine wp_seq ?_; refine rs0s G [(2, iA n), (3, .ptr 3 0), (4, .ptr 8 0), (5, .ptr 9 0), (8, bA false), (10, bA false), (11, bA true)] fun ρ a w G => th_n (wp_ret (th_r ?_)); exact rx_ret (v := bA false) G (rg 8) (by kernel_rfl) (by kernel_rfl) (by show _ = List.map (It.ren (nth (rg 8))) (yRvF2 p d s c); unfold yRvF2; rw [stmtF_bad (by (rw [head1 (by omega), decide_eq_false (by omega)]; rfl))] <;> rfl) (by have e1 : ((stmtF p.vars.length p.arrays.length (d + 1) c s).fst : Bool) = (false) := (by rw [stmtF_bad (by (rw [head1 (by omega), decide_eq_false (by omega)]; rfl))]; done); (first | rw [e1] | simp only [e1]) <;> rfl)
  · have q0 : (↑c : Int) + 1 > 60 := dTt h0; refine rs1s G ⟨[], [(decide ((↑c : Int) + (1 : Int) > (60 : Int)), true)], [(5, 0), (6, 0), (1007, 0)]⟩ calls_nil ⟨(by assumption), trivial⟩ [(2, iA n), (3, .ptr 3 0), (4, .ptr 8 0), (5, .ptr 9 0), (8, bA false), (27, bA true)] [] trivial fun ρ a w G => th_n ?_; refine rT G (true) (by kernel_rfl) ?_; refine wp_seq ?_; refine rs0s G [(2, iA n), (3, .ptr 3 0), (4, .ptr 8 0), (5, .ptr 9 0), (8, bA false)] fun ρ a w G => th_n (wp_ret (th_r ?_)); exact rx_ret (v := bA false) G (rg 8) (by kernel_rfl) (by kernel_rfl) (by show _ = List.map (It.ren (nth (rg 8))) (yRvF2 p d s c); unfold yRvF2; have e1 : ((↑(stmtF p.vars.length p.arrays.length (d + 1) c s).snd : Int) : Int) = ((↑c : Int) + 1) := (by simp [stmtF_over (d := d + 1) (s := s) (show 60 < c + 1 by omega)]; done); (first | rw [e1] | simp only [e1]) <;> rfl) (by have e1 : ((stmtF p.vars.length p.arrays.length (d + 1) c s).fst : Bool) = (false) := (by simp [stmtF_over (d := d + 1) (s := s) (show 60 < c + 1 by omega)]; done); (first | rw [e1] | simp only [e1]) <;> rfl)


theorem c_stmtsD (p : LProg) : ∀ (d : Nat), d ≤ 5 → ∀ (ss : List LStmt) (c : Nat) (n : Int), c ≤ 60 → n = 6 - (d : Int) → Ctr.ok Try.prog (stmtsC p d c ss n) := by
  intro d
  induction d with
  | zero => intro hd ss c n hc hn; exact c_stmtsS p 0 hd (fun s c n hc hn => c_stmt0 p s c hc n (by omega)) ss c n hc hn
  | succ d ih => intro hd ss c n hc hn; exact c_stmtsS p (d + 1) hd (fun s c n hc hn => c_stmtS p d (by omega) (ih (by omega)) s c n hc (by omega)) ss c n hc hn
theorem c_stmtsBody (p : LProg) (n : Int) (hn : n = 1) : Ctr.ok Try.prog ⟨83, [pA 0, .ref 2, iA n, .ptr 3 0], pS p ++ [.box [iA 0]], pS p ++ [.box [iA (stmtsF p.vars.length p.arrays.length 5 0 p.body).2]], bA (stmtsF p.vars.length p.arrays.length 5 0 p.body).1⟩ :=
  Ctr.dup (S := pS p ++ [.box [iA 0]]) (S' := pS p ++ [.box [iA (stmtsF p.vars.length p.arrays.length 5 0 p.body).2]]) (d := .stmts p.body) (i := 2) (c_stmtsD p 5 (by omega) p.body 0 n (by omega) (by omega)) rfl rfl rfl (fun ρ h => by simp only [AV.vals, AV.val]; rw [show ρ 4 = ρ 2 from h]) rfl

set_option maxRecDepth 100000 in
theorem c_iProgramValid (p : LProg) : Ctr.ok Try.prog (fnC 42 [pA 0] (pS p) (bA (progB p))) := by
  refine rx_enter 15 Try.func42 (by rfl) (by kernel_rfl) (by kernel_rfl) ?_; intro ι φ ψ w0 w F ρ0 ρ a G; replace G := Gam.at G [dI p.vars, dI p.arrays, dT p.body] [(0, pA 0)]; refine wp_seq ?_; refine rs0 G (rg 4) [dI p.vars, dI p.arrays, dT p.body, .box (pL 0)] [(1, .ptr 3 0), (2, bA false)] fun ρ a w G => th_n (wp_seq ?_); refine rs0 G (rg 5) [dI p.vars, dI p.arrays, dT p.body, .box (pL 0), .box [iA 0]] [(1, .ptr 3 0), (2, bA false), (3, .ptr 4 0)] fun ρ a w G => th_n (wp_seq ?_); cases h0 : (headsB p.vars p.arrays)
  · refine rs1 (dk := dkP) G ⟨[(4, _, [0, 1])], [(headsB p.vars p.arrays, false)], us [(6, 9, 0), (1010, 1010, 0)]⟩ (calls_cons (c_declared (p.vars) (p.arrays)) calls_nil) ⟨(by assumption), trivial⟩ [0, 1, 2] [dI p.vars, dI p.arrays, dT p.body] [(2, bA false)] [] trivial fun ρ a w G => th_n (wp_ret ?_); exact rx_ret (v := bA false) G [0, 1, 2] (by kernel_rfl) (by kernel_rfl) (by kernel_rfl) (by have e1 : (progB p : Bool) = (false) := (by exact progB_heads (by assumption)); (first | rw [e1] | simp only [e1]) <;> rfl)
  · refine rs1 (dk := dkP) G ⟨[(4, _, [0, 1]), (9, _, [0, 1, 2, 4])], [(headsB p.vars p.arrays, true)], us [(6, 9, 0), (1010, 1010, 0)]⟩ (calls_cons (c_declared (p.vars) (p.arrays)) (calls_cons (c_stmtsBody (p) (1) (by kernel_rfl)) calls_nil)) ⟨(by assumption), trivial⟩ [0, 1, 2] [dI p.vars, dI p.arrays, dT p.body] [(2, bA (stmtsF p.vars.length p.arrays.length 5 0 p.body).fst)] [] trivial fun ρ a w G => th_n (wp_ret ?_); exact rx_ret (v := bA (stmtsF p.vars.length p.arrays.length 5 0 p.body).fst) G [0, 1, 2] (by kernel_rfl) (by kernel_rfl) (by kernel_rfl) (by have e1 : (progB p : Bool) = ((stmtsF p.vars.length p.arrays.length 5 0 p.body).fst) := (by rw [← stmtsF_prog (p := p) (by assumption)]); (first | rw [e1] | simp only [e1]) <;> rfl)


theorem takeE {l : List LExpr} {k : Nat} (hk : k < l.length) : l.take k ++ [⟨(l.getD k default).kind, (l.getD k default).value, (l.getD k default).kids⟩] = l.take (k + 1) := by
  rw [LExpr.eta, take_succ_get _ _ hk, getD_lt hk]
theorem takeS {l : List LStmt} {k : Nat} (hk : k < l.length) : l.take k ++ [⟨(l.getD k default).kind, (l.getD k default).target, ⟨(l.getD k default).index.kind, (l.getD k default).index.value, (l.getD k default).index.kids⟩, ⟨(l.getD k default).value.kind, (l.getD k default).value.value, (l.getD k default).value.kids⟩, (l.getD k default).count, (l.getD k default).body, (l.getD k default).els⟩] = l.take (k + 1) := by
  rw [LExpr.eta, LExpr.eta, LStmt.eta, take_succ_get _ _ hk, getD_lt hk]
theorem take_is {α : Type} {l : List α} {k : Nat} (h1 : k ≤ l.length) (h2 : ¬ (k : Int) < l.length) : l.take k = l := by rw [List.take_of_length_le (by omega)]
theorem len_take {α : Type} {l : List α} {k n : Nat} (h1 : k ≤ l.length) (h : l.length ≤ n) : (l.take k).length ≤ n := by rw [List.length_take]; omega
theorem kids_fit {e : LExpr} (h : szE e ≤ 1048576) : e.kids.length ≤ 1048576 := by
  have h1 := szEs_len e.kids
  have h2 : szE e = szEs e.kids := by cases e; rfl
  omega
theorem block_fit {l : List LStmt} (h : szSs l ≤ 1048576) : l.length ≤ 1048576 := Nat.le_trans (szSs_len l) h
theorem len1 {α : Type} {l : List α} {x : α} {k : Nat} (h1 : k ≤ l.length) (h : l.length ≤ 1048576) : (l.take k).length + [x].length ≤ 1048577 := by
  have := len_take (k := k) h1 h
  simp only [List.length_cons, List.length_nil]; omega
theorem fitB {a b : Nat} (ha : a ≤ 1048577) (hb : Nat.ble b 1000 = true) : a * b ≤ 140737488355328 := by
  have h1 := Nat.le_of_ble_eq_true hb
  have h2 := Nat.mul_le_mul ha h1
  omega
theorem getE_mem {l : List LExpr} {k : Nat} (h : (k : Int) < l.length) : l.getD k default ∈ l := by rw [getD_lt (by omega)]; exact List.getElem_mem (by omega)
theorem getS_mem {l : List LStmt} {k : Nat} (h : (k : Int) < l.length) : l.getD k default ∈ l := by rw [getD_lt (by omega)]; exact List.getElem_mem (by omega)

abbrev cpC (e : LExpr) : Ctr := ⟨149, [eA e 0], eS e, eS e ++ [.tree (.exprs e.kids)], .agg [iA e.kind, iA e.value, .tref 1]⟩
abbrev yRvP0 : It := .box [iA 0, iA 0, .v (.slice none 0 0)]
abbrev yRvP1 (e : LExpr) : It := .box [iA e.kind, iA e.value, .tref 4]
set_option maxRecDepth 100000 in
theorem s_copyES (e : LExpr) (hb : szE e ≤ 1048576) (ih : ∀ (x : LExpr), x ∈ e.kids → Ctr.ok Try.prog (cpC x)) : Ctr.ok Try.prog (cpC e) := by
  refine rx_enter 29 Try.func149 (by rfl) (by kernel_rfl) (by kernel_rfl) ?_; intro ι φ ψ w0 w F ρ0 ρ a G; replace G := Gam.at G [dE e.kids] [(0, eA e 0)]; have hl := kids_fit hb; refine wp_seq ?_; refine rs0 G [0, 1, 9] [dE e.kids, .box (eL e 0), yRvP0] [(1, .ptr 1 0), (2, .ptr 2 0)] fun ρ a w G => th_n (wp_seq ?_); refine rs0 G [0, 1, 2, 43] [dE e.kids, .box (eL e 0), yRvP0, .box [iA e.kind, iA e.value, .v (.slice none 0 0)]] [(1, .ptr 1 0), (2, .ptr 2 0), (3, .ptr 3 0)] fun ρ a w G => th_n (wp_seq (wp_seq ?_)); refine rs0s G [(1, .ptr 1 0), (2, .ptr 2 0), (3, .ptr 3 0), (4, iA 0)] fun ρ a w G => th_n (wp_block ?_); have Gx := G.nilT 4 (.exprs []) [dE e.kids, .box (eL e 0), yRvP0, yRvP1 e] [(1, .ptr 1 0), (2, .ptr 2 0), (3, .ptr 3 0), (4, iA 0)]; clear G; obtain ⟨ρ, G⟩ := Gx; replace G := Gam.at G [dE e.kids, .box (eL e 0), yRvP0, yRvP1 e, .tree (D.exprs [])] [(1, .ptr 1 0), (2, .ptr 2 0), (3, .ptr 3 0), (4, iA 0)]; refine rx_for (κ := Nat) (fun k => k ≤ e.kids.length) (fun k => e.kids.length - k) (fun k => [dE e.kids, .box (eL e 0), yRvP0, yRvP1 e, .tree (.exprs (e.kids.take k))]) (fun k => [(1, .ptr 1 0), (2, .ptr 2 0), (3, .ptr 3 0), (4, iA k)]) (0) (by omega) (Gam.at G _ _) ?_; clear G; intro k ρ a w hp G; replace G := Gam.at G [dE e.kids, .box (eL e 0), yRvP0, yRvP1 e, .tree (D.exprs (List.take k e.kids))] [(1, .ptr 1 0), (2, .ptr 2 0), (3, .ptr 3 0), (4, iA (↑k : Int))]; refine wp_seq (wp_seq ?_); refine rs0s G [(1, .ptr 1 0), (2, .ptr 2 0), (3, .ptr 3 0), (4, iA (↑k : Int)), (14, bA (decide ((↑k : Int) < (↑e.kids.length : Int))))] fun ρ a w G => th_n ?_; cases h0 : (decide ((↑k : Int) < (↑e.kids.length : Int)))
  · have q0 : ¬ ((↑k : Int) < (↑e.kids.length : Int)) := dFf h0; refine rF G (decide ((↑k : Int) < (↑e.kids.length : Int))) (by assumption) ?_; refine wp_exit (th_e (th_e (bl_hit (th_n (wp_seq ?_))))); refine rs0 G [0, 2, 4] [dE e.kids, .box [iA e.kind, iA e.value, .tref 2], .tree (D.exprs (List.take k e.kids))] [(2, .ptr 1 0)] fun ρ a w G => th_n (wp_ret ?_); exact rx_ret (v := .agg [iA e.kind, iA e.value, .tref 2]) G [0, 2] (by kernel_rfl) (by kernel_rfl) (by show _ = List.map (It.ren (nth [0, 2])) [dE e.kids, .tree (D.exprs e.kids)]; have e1 : (List.take k e.kids : List LExpr) = (e.kids) := (by exact take_is hp (by assumption)); (first | rw [e1] | simp only [e1]) <;> rfl) (by kernel_rfl)
  · have q0 : (↑k : Int) < (↑e.kids.length : Int) := dTt h0; refine rT G (decide ((↑k : Int) < (↑e.kids.length : Int))) (by assumption) ?_; refine wp_skip (th_n (wp_seq (wp_block ?_))); refine rd1 (dk := dkP) G ⟨[(7, _, [53])], [], []⟩ (calls_cons (ih (e.kids.getD k default) (by exact getE_mem (by assumption))) calls_nil) trivial [0, 1, 0, 4, 0, 28, 60, 124, 252, 511, 1023, 2047] [0, 1, 2, 3, 77] [dE e.kids, .box (eL e 0), yRvP0, yRvP1 e, .tree (D.exprs (List.take k e.kids ++ [LExpr.mk (e.kids.getD k default).kind (e.kids.getD k default).value (e.kids.getD k default).kids]))] [(1, .ptr 1 0), (2, .ptr 2 0), (3, .ptr 3 0), (4, iA (↑k : Int))] [(0 : Int) ≤ (↑k : Int), (↑k : Int) < (↑e.kids.length : Int), k < e.kids.length, (List.take k e.kids).length + [LExpr.mk (e.kids.getD k default).kind (e.kids.getD k default).value (e.kids.getD k default).kids].length ≤ (9223372036854775807 : Nat), ((List.take k e.kids).length + [LExpr.mk (e.kids.getD k default).kind (e.kids.getD k default).value (e.kids.getD k default).kids].length) * (40 : Nat) ≤ (140737488355328 : Nat)] ⟨(by simp [h0]), (by assumption), (by have := len1 (x := (default : LExpr)) hp hl; simp only [List.length_cons, List.length_nil] at this ⊢; omega), (by have := len1 (x := (default : LExpr)) hp hl; simp only [List.length_cons, List.length_nil] at this ⊢; omega), (by exact fitB (len1 hp hl) (by kernel_rfl)), trivial⟩ ?_; intro ρ a w G; refine bl_n ?_; refine th_n ?_; refine rs1s G ⟨[], [], []⟩ calls_nil trivial [(1, .ptr 1 0), (2, .ptr 2 0), (3, .ptr 3 0), (4, iA ((↑k : Int) + 1))] [IntKind.i64.wrap ((↑k : Int) + (1 : Int)) = (↑k : Int) + (1 : Int)] ⟨(by exact w64 (by omega) (by omega)), trivial⟩ fun ρ a w G => th_n ?_; exact rx_next G (k + 1) (by have := len1 (x := (default : LExpr)) hp hl; simp only [List.length_cons, List.length_nil] at this ⊢; omega) (by have := len1 (x := (default : LExpr)) hp hl; simp only [List.length_cons, List.length_nil] at this ⊢; omega) (rg 5) [dE e.kids, .box (eL e 0), .box [iA 0, iA 0, .v (.slice none 0 0)], .box [iA e.kind, iA e.value, .tref 4], .tree (D.exprs (List.take (k + 1) e.kids))] [(1, .ptr 1 0), (2, .ptr 2 0), (3, .ptr 3 0), (4, iA (↑(k + 1) : Int))] (by kernel_rfl) (by kernel_rfl) (by kernel_rfl) (by have e1 : (List.take (k + 1) e.kids : List LExpr) = (List.take k e.kids ++ [LExpr.mk (e.kids.getD k default).kind (e.kids.getD k default).value (e.kids.getD k default).kids]) := (by exact (takeE (by omega)).symm); (first | rw [e1] | simp only [e1]) <;> rfl) (by kernel_rfl)

theorem c_copyE (e : LExpr) : szE e ≤ 1048576 → Ctr.ok Try.prog (cpC e) :=
  LExpr.ind (P := fun e => szE e ≤ 1048576 → Ctr.ok Try.prog (cpC e)) (fun k n ks ih hb => s_copyES ⟨k, n, ks⟩ hb fun x hx => ih x hx (by
    have h1 := szE_mem (show x ∈ ks from hx)
    have h2 : szE ⟨k, n, ks⟩ = szEs ks := rfl
    omega)) e

abbrev cpsC (l : List LStmt) : Ctr := ⟨126, [.ref 0], [dT l], [dT l, .tree (.stmts l)], .tref 1⟩
theorem fit_sub {l : List LStmt} {k : Nat} (hb : szSs l ≤ 1048576) (h : (k : Int) < l.length) : szE (l.getD k default).index ≤ 1048576 ∧ szE (l.getD k default).value ≤ 1048576 ∧ szSs (l.getD k default).body ≤ 1048576 ∧ szSs (l.getD k default).els ≤ 1048576 := by
  have h1 := szS_mem (getS_mem h)
  generalize l.getD k default = s at *
  rcases s with ⟨_, _, i, v, _, b, e⟩
  simp only [szS] at h1
  simp only [LStmt.index, LStmt.value, LStmt.body, LStmt.els]
  omega
set_option maxRecDepth 100000 in
theorem s_copySS (l : List LStmt) (hb : szSs l ≤ 1048576) (ih1 : ∀ (s : LStmt), s ∈ l → Ctr.ok Try.prog (cpsC s.body)) (ih2 : ∀ (s : LStmt), s ∈ l → Ctr.ok Try.prog (cpsC s.els)) : Ctr.ok Try.prog (cpsC l) := by
  refine rx_enter 38 Try.func126 (by rfl) (by kernel_rfl) (by kernel_rfl) ?_; intro ι φ ψ w0 w F ρ0 ρ a G; replace G := Gam.at G [dT l] [(0, .ref 0)]; have hl := block_fit hb; refine wp_seq ?_; refine rs0s G [(0, .ref 0), (2, .v (.slice none 0 0))] fun ρ a w G => th_n (wp_seq ?_); refine rs0 G [0, 1] [dT l, .tree (D.stmts [])] [(0, .ref 0), (2, .v (.slice none 0 0)), (3, .tref 1)] fun ρ a w G => th_n (wp_seq (wp_seq ?_)); refine rs0s G [(0, .ref 0), (2, .v (.slice none 0 0)), (3, .tref 1), (4, iA 0)] fun ρ a w G => th_n (wp_block ?_); refine rx_for (κ := Nat) (fun k => k ≤ l.length) (fun k => l.length - k) (fun k => [dT l, .tree (.stmts (l.take k))]) (fun k => [(0, .ref 0), (2, .v (.slice none 0 0)), (3, .tref 1), (4, iA k)]) (0) (by omega) (Gam.at G _ _) ?_; clear G; intro k ρ a w hp G; replace G := Gam.at G [dT l, .tree (D.stmts (List.take k l))] [(0, .ref 0), (2, .v (.slice none 0 0)), (3, .tref 1), (4, iA (↑k : Int))]; refine wp_seq (wp_seq ?_); refine rs0s G [(0, .ref 0), (2, .v (.slice none 0 0)), (3, .tref 1), (4, iA (↑k : Int)), (10, bA (decide ((↑k : Int) < (↑l.length : Int))))] fun ρ a w G => th_n ?_; cases h0 : (decide ((↑k : Int) < (↑l.length : Int)))
  · have q0 : ¬ ((↑k : Int) < (↑l.length : Int)) := dFf h0; refine rF G (decide ((↑k : Int) < (↑l.length : Int))) (by assumption) ?_; refine wp_exit (th_e (th_e (bl_hit (th_n (wp_seq ?_))))); refine rs0s G [(2, .tref 1)] fun ρ a w G => th_n (wp_ret ?_); exact rx_ret (v := .tref 1) G [0, 1] (by kernel_rfl) (by kernel_rfl) (by show _ = List.map (It.ren (nth [0, 1])) [dT l, .tree (D.stmts l)]; have e1 : (List.take k l : List LStmt) = (l) := (by exact take_is hp (by assumption)); (first | rw [e1] | simp only [e1]) <;> rfl) (by kernel_rfl)
  ·
   have q0 : (↑k : Int) < (↑l.length : Int) := dTt h0; refine rT G (decide ((↑k : Int) < (↑l.length : Int))) (by assumption) ?_; refine wp_skip (th_n (wp_seq (wp_block (wp_seq ?_)))); refine rs1 (dk := dkP) G ⟨[], [], []⟩ calls_nil trivial [0, 1, 26, 27, 28, 29, 34] [dT l, .tree (D.stmts (List.take k l)), dE (l.getD k default).index.kids, dE (l.getD k default).value.kids, dT (l.getD k default).body, dT (l.getD k default).els, .box (sL (l.getD k default) 2)] [(0, .ref 0), (2, .v (.slice none 0 0)), (3, .tref 1), (4, iA (↑k : Int)), (5, .ptr 6 0)] [(0 : Int) ≤ (↑k : Int), (↑k : Int) < (↑l.length : Int), k < l.length] ⟨(by simp [h0]), (by assumption), (by have := len1 (x := (default : LStmt)) hp hl; simp only [List.length_cons, List.length_nil] at this ⊢; omega), trivial⟩ fun ρ a w G => th_n (wp_seq ?_); refine rs1 (dk := dkP) G ⟨[(2, _, [2])], [], []⟩ (calls_cons (c_copyE ((l.getD k default).index) (by exact (fit_sub hb (by assumption)).1)) calls_nil) trivial [0, 1, 3, 4, 5, 6, 23] [dT l, .tree (D.stmts (List.take k l)), dE (l.getD k default).value.kids, dT (l.getD k default).body, dT (l.getD k default).els, .box [iA (l.getD k default).kind, iA (l.getD k default).target, iA (l.getD k default).index.kind, iA (l.getD k default).index.value, .tref 6, iA (l.getD k default).value.kind, iA (l.getD k default).value.value, .ref 2, iA (l.getD k default).count, .ref 3, .ref 4], .tree (D.exprs (l.getD k default).index.kids)] [(0, .ref 0), (2, .v (.slice none 0 0)), (3, .tref 1), (4, iA (↑k : Int)), (5, .ptr 5 0)] [] trivial fun ρ a w G => th_n (wp_seq ?_); refine rs1 (dk := dkP) G ⟨[(2, _, [2])], [], []⟩ (calls_cons (c_copyE ((l.getD k default).value) (by exact (fit_sub hb (by assumption)).2.1)) calls_nil) trivial [0, 1, 3, 4, 5, 6, 23] [dT l, .tree (D.stmts (List.take k l)), dT (l.getD k default).body, dT (l.getD k default).els, .box [iA (l.getD k default).kind, iA (l.getD k default).target, iA (l.getD k default).index.kind, iA (l.getD k default).index.value, .tref 5, iA (l.getD k default).value.kind, iA (l.getD k default).value.value, .tref 6, iA (l.getD k default).count, .ref 2, .ref 3], .tree (D.exprs (l.getD k default).index.kids), .tree (D.exprs (l.getD k default).value.kids)] [(0, .ref 0), (2, .v (.slice none 0 0)), (3, .tref 1), (4, iA (↑k : Int)), (5, .ptr 4 0)] [] trivial fun ρ a w G => th_n (wp_seq ?_); refine rs1 (dk := dkP) G ⟨[(2, _, [2])], [], []⟩ (calls_cons (ih1 (l.getD k default) (by exact getS_mem (by assumption))) calls_nil) trivial [0, 1, 3, 4, 5, 6, 23] [dT l, .tree (D.stmts (List.take k l)), dT (l.getD k default).els, .box [iA (l.getD k default).kind, iA (l.getD k default).target, iA (l.getD k default).index.kind, iA (l.getD k default).index.value, .tref 4, iA (l.getD k default).value.kind, iA (l.getD k default).value.value, .tref 5, iA (l.getD k default).count, .tref 6, .ref 2], .tree (D.exprs (l.getD k default).index.kids), .tree (D.exprs (l.getD k default).value.kids), .tree (D.stmts (l.getD k default).body)] [(0, .ref 0), (2, .v (.slice none 0 0)), (3, .tref 1), (4, iA (↑k : Int)), (5, .ptr 3 0)] [] trivial fun ρ a w G => th_n (wp_seq ?_); refine rs1 (dk := dkP) G ⟨[(2, _, [2])], [], []⟩ (calls_cons (ih2 (l.getD k default) (by exact getS_mem (by assumption))) calls_nil) trivial [0, 1, 3, 4, 5, 6, 23] [dT l, .tree (D.stmts (List.take k l)), .box [iA (l.getD k default).kind, iA (l.getD k default).target, iA (l.getD k default).index.kind, iA (l.getD k default).index.value, .tref 3, iA (l.getD k default).value.kind, iA (l.getD k default).value.value, .tref 4, iA (l.getD k default).count, .tref 5, .tref 6], .tree (D.exprs (l.getD k default).index.kids), .tree (D.exprs (l.getD k default).value.kids), .tree (D.stmts (l.getD k default).body), .tree (D.stmts (l.getD k default).els)] [(0, .ref 0), (2, .v (.slice none 0 0)), (3, .tref 1), (4, iA (↑k : Int)), (5, .ptr 2 0)] [] trivial ?_
   clear G; intro ρ a w G; refine th_n ?_; refine rs1 (dk := dkP) G ⟨[], [], []⟩ calls_nil trivial [0, 31] [dT l, .tree (D.stmts (List.take k l ++ [LStmt.mk (l.getD k default).kind (l.getD k default).target (LExpr.mk (l.getD k default).index.kind (l.getD k default).index.value (l.getD k default).index.kids) (LExpr.mk (l.getD k default).value.kind (l.getD k default).value.value (l.getD k default).value.kids) (l.getD k default).count (l.getD k default).body (l.getD k default).els]))] [(0, .ref 0), (2, .v (.slice none 0 0)), (3, .tref 1), (4, iA (↑k : Int))] [(List.take k l).length + [LStmt.mk (l.getD k default).kind (l.getD k default).target (LExpr.mk (l.getD k default).index.kind (l.getD k default).index.value (l.getD k default).index.kids) (LExpr.mk (l.getD k default).value.kind (l.getD k default).value.value (l.getD k default).value.kids) (l.getD k default).count (l.getD k default).body (l.getD k default).els].length ≤ (9223372036854775807 : Nat), ((List.take k l).length + [LStmt.mk (l.getD k default).kind (l.getD k default).target (LExpr.mk (l.getD k default).index.kind (l.getD k default).index.value (l.getD k default).index.kids) (LExpr.mk (l.getD k default).value.kind (l.getD k default).value.value (l.getD k default).value.kids) (l.getD k default).count (l.getD k default).body (l.getD k default).els].length) * (152 : Nat) ≤ (140737488355328 : Nat)] ⟨(by have := len1 (x := (default : LStmt)) hp hl; simp only [List.length_cons, List.length_nil] at this ⊢; omega), (by exact fitB (len1 hp hl) (by kernel_rfl)), trivial⟩ ?_; intro ρ a w G; refine bl_n ?_; refine th_n ?_; refine rs1s G ⟨[], [], []⟩ calls_nil trivial [(0, .ref 0), (2, .v (.slice none 0 0)), (3, .tref 1), (4, iA ((↑k : Int) + 1))] [IntKind.i64.wrap ((↑k : Int) + (1 : Int)) = (↑k : Int) + (1 : Int)] ⟨(by exact w64 (by omega) (by omega)), trivial⟩ fun ρ a w G => th_n ?_; exact rx_next G (k + 1) (by have := len1 (x := (default : LStmt)) hp hl; simp only [List.length_cons, List.length_nil] at this ⊢; omega) (by have := len1 (x := (default : LStmt)) hp hl; simp only [List.length_cons, List.length_nil] at this ⊢; omega) [0, 1] [dT l, .tree (D.stmts (List.take (k + 1) l))] [(0, .ref 0), (2, .v (.slice none 0 0)), (3, .tref 1), (4, iA (↑(k + 1) : Int))] (by kernel_rfl) (by kernel_rfl) (by kernel_rfl) (by have e1 : (List.take (k + 1) l : List LStmt) = (List.take k l ++ [LStmt.mk (l.getD k default).kind (l.getD k default).target (LExpr.mk (l.getD k default).index.kind (l.getD k default).index.value (l.getD k default).index.kids) (LExpr.mk (l.getD k default).value.kind (l.getD k default).value.value (l.getD k default).value.kids) (l.getD k default).count (l.getD k default).body (l.getD k default).els]) := (by exact (takeS (by omega)).symm); (first | rw [e1] | simp only [e1]) <;> rfl) (by kernel_rfl)

theorem c_copyS (l : List LStmt) : szSs l ≤ 1048576 → Ctr.ok Try.prog (cpsC l) := fun hb => s_copySS l hb
  (fun s hs => (c_copyS2 s).1 (Nat.le_trans (Nat.le_of_lt (szS_mem hs)) hb)) fun s hs => (c_copyS2 s).2 (Nat.le_trans (Nat.le_of_lt (szS_mem hs)) hb)
where
  c_copyS2 (s : LStmt) : (szS s ≤ 1048576 → Ctr.ok Try.prog (cpsC s.body)) ∧ (szS s ≤ 1048576 → Ctr.ok Try.prog (cpsC s.els)) :=
    LStmt.ind (P := fun s => (szS s ≤ 1048576 → Ctr.ok Try.prog (cpsC s.body)) ∧ (szS s ≤ 1048576 → Ctr.ok Try.prog (cpsC s.els))) (fun k t i v c b e h1 h2 => by
      have hz : szS ⟨k, t, i, v, c, b, e⟩ = szE i + szE v + szSs b + szSs e := rfl
      constructor
      · intro hb
        refine s_copySS b (by omega) (fun s hs => (h1 s hs).1 ?_) fun s hs => (h1 s hs).2 ?_
        · have := szS_mem hs; omega
        · have := szS_mem hs; omega
      · intro hb
        refine s_copySS e (by omega) (fun s hs => (h2 s hs).1 ?_) fun s hs => (h2 s hs).2 ?_
        · have := szS_mem hs; omega
        · have := szS_mem hs; omega) s

set_option maxRecDepth 100000 in
theorem c_l2Copy (p : LProg) (hb : p.size ≤ 1048576) : Ctr.ok Try.prog ⟨91, [pA 0], pS p, pS p ++ oP p, oA 3⟩ := by
  refine rx_enter 15 Try.func91 (by rfl) (by kernel_rfl) (by kernel_rfl) ?_; intro ι φ ψ w0 w F ρ0 ρ a G; replace G := Gam.at G [dI p.vars, dI p.arrays, dT p.body] [(0, pA 0)]
  have hb1 : p.vars.length ≤ 1048576 ∧ p.arrays.length ≤ 1048576 ∧ szSs p.body ≤ 1048576 := by unfold LProg.size at hb; omega
  refine wp_seq ?_; refine rs0 G [0, 1, 2, 3, 11] [dI p.vars, dI p.arrays, dT p.body, .box (pL 0), .box [.v (.slice none 0 0), .v (.slice none 0 0), .v (.slice none 0 0)]] [(1, .ptr 3 0), (2, .ptr 4 0)] fun ρ a w G => th_n (wp_seq ?_); refine rd1 (dk := dkP) G ⟨[(10, _, [2])], [], []⟩ (calls_cons (c_copyS (p.body) (by exact hb1.2.2)) calls_nil) trivial [0, 0, 2, 7, 0, 0, 32, 127, 0, 256, 1023, 2047, 4095] [0, 1, 2, 4, 29, 61, 85] [dI p.vars, dI p.arrays, dT p.body, .box [.ref 4, .ref 5, .tref 6], .row 3 (D.ints ([] ++ p.vars)), .row 3 (D.ints ([] ++ p.arrays)), .tree (D.stmts p.body)] [(2, .ptr 3 0)] [(0 : Nat) + p.vars.length ≤ (9223372036854775807 : Nat), ((0 : Nat) + p.vars.length) * (8 : Nat) ≤ (140737488355328 : Nat), (0 : Nat) + p.arrays.length ≤ (9223372036854775807 : Nat), ((0 : Nat) + p.arrays.length) * (8 : Nat) ≤ (140737488355328 : Nat)] ⟨(by omega), (by omega), (by omega), (by omega), trivial⟩ fun ρ a w G => th_n (wp_ret ?_); exact rx_ret (v := .agg [.ref 4, .ref 5, .tref 6]) G [0, 1, 2, 4, 5, 6] (by kernel_rfl) (by kernel_rfl) (by kernel_rfl) (by kernel_rfl)


def lastI (k v r : Int) : LIns := if k = 3 then ⟨4, r, v, r, 0⟩ else if k = 11 then ⟨7, r, r, r + 1, r + 2⟩ else ⟨6, r, k, r, r + 1⟩
mutual
def codeE : LExpr → Int → List LIns
  | ⟨k, v, ks⟩, r => if k = 1 then [⟨1, r, v, 0, 0⟩] else if k = 2 then [⟨2, r, v, 0, 0⟩] else codeEs ks r ++ [lastI k v r]
def codeEs : List LExpr → Int → List LIns
  | [], _ => []
  | e :: t, r => codeE e r ++ codeEs t (r + 1)
end
theorem codeE_def (e : LExpr) (r : Int) : codeE e r = if e.kind = 1 then [⟨1, r, e.value, 0, 0⟩] else if e.kind = 2 then [⟨2, r, e.value, 0, 0⟩] else codeEs e.kids r ++ [lastI e.kind e.value r] := by cases e; rw [codeE]; rfl
theorem codeEs_append : ∀ (a b : List LExpr) (r : Int), codeEs (a ++ b) r = codeEs a r ++ codeEs b (r + a.length)
  | [], b, r => by simp [codeEs]
  | e :: t, b, r => by
    simp only [List.cons_append, codeEs, List.append_assoc]
    rw [codeEs_append t b (r + 1)]
    congr 2
    simp only [List.length_cons]
    rw [show r + 1 + (t.length : Int) = r + ((t.length + 1 : Nat) : Int) by omega]
theorem codeEs_next {ks : List LExpr} {k : Nat} {r : Int} (hk : k < ks.length) : codeEs (ks.take (k + 1)) r = codeEs (ks.take k) r ++ codeE (ks.getD k default) (r + k) := by
  rw [take_succ_get _ _ hk, codeEs_append, getD_lt hk]
  simp [codeEs, List.length_take, Nat.min_eq_left (Nat.le_of_lt hk)]
mutual
theorem codeE_len : ∀ (e : LExpr) (r : Int), (codeE e r).length ≤ 1 + szE e
  | ⟨k, v, ks⟩, r => by
    have h := codeEs_len ks r
    rw [codeE]
    simp only [szE]
    split
    · simp
    · split
      · simp
      · simp only [List.length_append, List.length_cons, List.length_nil]; omega
theorem codeEs_len : ∀ (ks : List LExpr) (r : Int), (codeEs ks r).length ≤ szEs ks
  | [], _ => by simp [codeEs]
  | e :: t, r => by
    have h1 := codeE_len e r
    have h2 := codeEs_len t (r + 1)
    simp only [codeEs, szEs, List.length_append]; omega
end
abbrev ComS : Type := List LIns × List Int × Int
def addC (x : ComS) (n : Int) (c : List LIns) : ComS := (x.1 ++ c, x.2.1 ++ List.replicate c.length n, x.2.2)
def putB (l : List LIns) (i : Nat) (n : Int) : List LIns := l.set i ⟨(l.getD i default).op, (l.getD i default).a, n, (l.getD i default).c, (l.getD i default).d⟩
def putA (l : List LIns) (i : Nat) (n : Int) : List LIns := l.set i ⟨(l.getD i default).op, n, (l.getD i default).b, (l.getD i default).c, (l.getD i default).d⟩
mutual
def cmS : LStmt → Int → ComS → ComS
  | ⟨k, t, i, v, c, b, e⟩, d, x =>
    if k = 4 then addC (cmB b (d + 1) (addC (x.1, x.2.1, x.2.2 + 1) x.2.2 [⟨1, 9 + d, c, 0, 0⟩])) x.2.2 [⟨10, 9 + d, ((x.1.length + 1 : Nat) : Int), 0, 0⟩]
    else if k = 1 then addC (addC (x.1, x.2.1, x.2.2 + 1) x.2.2 (codeE v 0)) x.2.2 [⟨3, t, 0, 0, 0⟩]
    else if k = 5 then addC (addC (addC (x.1, x.2.1, x.2.2 + 1) x.2.2 (codeE v 0)) x.2.2 [⟨11, 0, 0, 0, 0⟩]) x.2.2 [⟨3, t, 0, 0, 0⟩]
    else if k = 2 then addC (addC (addC (x.1, x.2.1, x.2.2 + 1) x.2.2 (codeE v 0)) x.2.2 (codeE i 1)) x.2.2 [⟨5, t, 1, 0, 0⟩]
    else
      (fun (y : ComS) =>
        (fun (z : ComS) =>
          (fun (u : ComS) => (putA u.1 (z.1.length - 1) (u.1.length : Int), u.2)) (cmB e (d + 1) (putB z.1 y.1.length (z.1.length : Int), z.2)))
        (addC (cmB b (d + 1) (addC y x.2.2 [⟨9, 0, 0, 0, 0⟩])) x.2.2 [⟨8, 0, 0, 0, 0⟩]))
      (addC (x.1, x.2.1, x.2.2 + 1) x.2.2 (codeE v 0))
def cmB : List LStmt → Int → ComS → ComS
  | [], _, x => x
  | s :: r, d, x => cmB r d (cmS s d x)
end
theorem cmB_append (a b : List LStmt) (d : Int) (x : ComS) : cmB (a ++ b) d x = cmB b d (cmB a d x) := by
  induction a generalizing x with
  | nil => rfl
  | cons s r ih => simp only [List.cons_append, cmB]; exact ih _
theorem cmB_next {ss : List LStmt} {k : Nat} {d : Int} {x : ComS} (hk : k < ss.length) : cmB (ss.take (k + 1)) d x = cmS (ss.getD k default) d (cmB (ss.take k) d x) := by
  rw [take_succ_get _ _ hk, cmB_append, getD_lt hk]
  simp [cmB]

mutual
def cntS : LStmt → Nat
  | ⟨k, _, i, v, _, b, e⟩ => if k = 4 then 2 + cntB b else if k = 1 then (codeE v 0).length + 1 else if k = 5 then (codeE v 0).length + 2 else if k = 2 then (codeE v 0).length + (codeE i 1).length + 1 else (codeE v 0).length + 2 + cntB b + cntB e
def cntB : List LStmt → Nat
  | [] => 0
  | s :: r => cntS s + cntB r
end
mutual
theorem cmS_len : ∀ (s : LStmt) (d : Int) (x : ComS), (cmS s d x).1.length = x.1.length + cntS s ∧ (cmS s d x).2.1.length = x.2.1.length + cntS s
  | ⟨k, t, i, v, c, b, e⟩, d, x => by
    rw [cmS, cntS]
    split
    · have h := cmB_len b (d + 1) (addC (x.1, x.2.1, x.2.2 + 1) x.2.2 [⟨1, 9 + d, c, 0, 0⟩])
      simp only [addC, List.length_append, List.length_cons, List.length_nil, List.length_replicate] at h ⊢
      omega
    · split
      · simp only [addC, List.length_append, List.length_cons, List.length_nil, List.length_replicate]; omega
      · split
        · simp only [addC, List.length_append, List.length_cons, List.length_nil, List.length_replicate]; omega
        · split
          · simp only [addC, List.length_append, List.length_cons, List.length_nil, List.length_replicate]; omega
          · simp only
            generalize hy : addC (x.1, x.2.1, x.2.2 + 1) x.2.2 (codeE v 0) = y
            have hy1 : y.1.length = x.1.length + (codeE v 0).length := by rw [← hy]; simp [addC]
            have hy2 : y.2.1.length = x.2.1.length + (codeE v 0).length := by rw [← hy]; simp [addC]
            have h1 := cmB_len b (d + 1) (addC y x.2.2 [⟨9, 0, 0, 0, 0⟩])
            generalize cmB b (d + 1) (addC y x.2.2 [⟨9, 0, 0, 0, 0⟩]) = z at h1 ⊢
            have h2 := cmB_len e (d + 1) (putB (addC z x.2.2 [⟨8, 0, 0, 0, 0⟩]).1 y.1.length ((addC z x.2.2 [⟨8, 0, 0, 0, 0⟩]).1.length : Int), (addC z x.2.2 [⟨8, 0, 0, 0, 0⟩]).2)
            simp only [addC, putA, putB, List.length_set, List.length_append, List.length_cons, List.length_nil, List.length_replicate] at h1 h2 ⊢
            omega
theorem cmB_len : ∀ (ss : List LStmt) (d : Int) (x : ComS), (cmB ss d x).1.length = x.1.length + cntB ss ∧ (cmB ss d x).2.1.length = x.2.1.length + cntB ss
  | [], _, _ => ⟨rfl, rfl⟩
  | s :: r, d, x => by
    have h1 := cmS_len s d x
    have h2 := cmB_len r d (cmS s d x)
    rw [cmB, cntB]
    omega
end
mutual
theorem cntS_le : ∀ s : LStmt, cntS s ≤ 4 + 4 * szS s
  | ⟨k, t, i, v, c, b, e⟩ => by
    have h1 := codeE_len v 0
    have h2 := codeE_len i 1
    have h3 := cntB_le b
    have h4 := cntB_le e
    rw [cntS]
    simp only [szS]
    (repeat' split) <;> omega
theorem cntB_le : ∀ ss : List LStmt, cntB ss ≤ 4 * szSs ss
  | [] => Nat.zero_le _
  | s :: r => by
    have h1 := cntS_le s
    have h2 := cntB_le r
    simp only [cntB, szSs]; omega
end
end Go.Proofs.Ytimmlkmpbmbgdaa
