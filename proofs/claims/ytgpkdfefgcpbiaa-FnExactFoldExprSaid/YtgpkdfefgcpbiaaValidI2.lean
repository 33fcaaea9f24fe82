/-
  Validity of expressions, the program's: operands, scan, expr, ExprValid. Conditions: the arguments read as trees.
-/
import Derived.Test.YtgpkdfefgcpbiaaValidS3
import Derived.Test.YtgpkdfefgcpbiaaValidI
import Derived.Test.YtgpkdfefgcpbiaaMarkS
namespace Go.Proofs.Ytgpkdfefgcpbiaa
set_option linter.unusedVariables false
set_option linter.unusedSimpArgs false
open Go Go.RowKit

theorem impl_operands (k : Int) (w : World) : Calls Try.prog 192 #[.int .i64 k] w fun e w' => e = .returned (.int .i64 (arity k)) ∧ w = w' := by
  by_cases h1 : k = 1
  · subst h1
    go_enter Try.func192, Try.ntmps192
    go_wp2_with fail
    go_ret
    exact ⟨ret_int (by simp [arity]), rfl⟩
  by_cases h2 : k = 2
  · subst h2
    go_enter Try.func192, Try.ntmps192
    go_wp2_with fail
    go_ret
    exact ⟨ret_int (by simp [arity]), rfl⟩
  by_cases h3 : k = 3
  · subst h3
    go_enter Try.func192, Try.ntmps192
    go_wp2_with fail
    go_ret
    exact ⟨ret_int (by simp [arity]), rfl⟩
  have p1 : (k == 1) = false := by simp [h1]
  have p2 : (k == 2) = false := by simp [h2]
  have p3 : (k == 3) = false := by simp [h3]
  have H := show Hid _ from And.intro h1 (And.intro h2 h3)
  clear h1 h2 h3
  go_enter Try.func192, Try.ntmps192
  go_wp2_with fail
  refine (impl_within k 4 10 _).mono ?_
  rintro x w1 ⟨rfl, rfl⟩
  by_cases h4 : 4 ≤ k ∧ k ≤ 10
  · have p4 : (decide (4 ≤ k) && decide (k ≤ 10)) = true := by simp [h4]
    rw [p4]
    have H4 := show Hid _ from h4
    clear h4 p4
    go_wp2_with fail
    go_ret
    exact ⟨ret_int (by have := H.out; have := H4.out; unfold arity; rw [if_neg (by omega), if_neg (by omega), if_pos (by omega)]), rfl⟩
  · have p4 : (decide (4 ≤ k) && decide (k ≤ 10)) = false := by simp; omega
    rw [p4]
    have H4 := show Hid _ from h4
    clear h4 p4
    by_cases h5 : k = 11
    · subst h5
      go_wp2_with fail
      go_ret
      exact ⟨ret_int (by simp [arity]), rfl⟩
    · have p5 : (k == 11) = false := by simp [h5]
      have H5 := show Hid _ from h5
      clear h5
      go_wp2_with fail
      go_ret
      exact ⟨ret_int (by have := H.out; have := H4.out; have := H5.out; unfold arity; rw [if_neg (by omega), if_neg (by omega), if_neg (by omega), if_neg (by omega)]), rfl⟩

theorem scanB_node {nv na d c : Nat} {e : LExpr} (h1 : nodeB nv na e = true) (h2 : readB e = true) : scanB nv na (d + 1) c e = scanPre nv na d (c + 1) e.kids e.kids.length := by
  unfold scanB scanPre
  rw [List.take_of_length_le (Nat.le_refl _), shapeB, h1, h2, szE_kids]
  simp
theorem scanPre_end {nv na d c k : Nat} {ks : List LExpr} (hk : k < ks.length) (hs : scanB nv na d (c + szEs (ks.take k)) ks[k] = false) : scanPre nv na d c ks ks.length = false := by
  unfold scanPre
  rw [List.take_of_length_le (Nat.le_refl _)]
  exact scanPre_fail nv na hk hs
theorem scanB_noNode {nv na d c : Nat} {e : LExpr} (h1 : nodeB nv na e = false) : scanB nv na (d + 1) c e = false := by
  unfold scanB; rw [shapeB, h1]; rfl
theorem scanB_noRead {nv na d c : Nat} {e : LExpr} (h1 : readB e = false) : scanB nv na (d + 1) c e = false := by
  unfold scanB; rw [shapeB, h1]; simp
theorem limit_high {nv na : Nat} {k n h : Int} (hh : h = limit nv na k - 1) : (decide (0 ≤ n) && decide (n ≤ h)) = (decide (0 ≤ n) && decide (n < limit nv na k)) := by
  congr 1; exact decide_eq_decide.2 (by omega)

set_option maxRecDepth 100000 in
set_option maxHeartbeats 8000000 in
theorem impl_scan (a1 a2 : Option Addr) (nv c1 na c2 : Nat) (v3 : Value) (h1 : nv ≤ 9223372036854775807) (h2 : na ≤ 9223372036854775807) : ∀ (d : Nat) (deep : Int), deep + d = 6 → 1 ≤ deep → ∀ (e : LExpr) (φ : Nat → Prop) (v : Value) (c cb : Nat) (w : World), ExprV w φ v e → ¬ φ cb → Blk w cb [.int .i64 c] → c ≤ 15 →
    Calls Try.prog 163 #[.agg #[.slice a1 nv c1, .slice a2 na c2, v3], v, .int .i64 deep, .pointer (some ⟨cb, 0, none⟩)] w fun x w' =>
      x = .returned (.bool (scanB nv na d c e)) ∧ (scanB nv na d c e = true → Blk w' cb [.int .i64 (c + 1 + szE e : Nat)]) ∧ (∃ u, Blk w' cb [u]) ∧ Kept (fun b => ¬ b = cb) w w' := by
  intro d
  induction d with
  | zero =>
    intro deep hdp hd1 e φ v c cb w h hcb hblk hc
    obtain ⟨kv, rfl, hk⟩ := h
    have HF : Hid (scanB nv na 0 c e = false) := rfl
    obtain rfl : deep = 6 := by omega
    have hl := hblk.lt
    have x0 : w.cell? ⟨cb, 0, none⟩ = some (.int .i64 c) := (hblk.cell 0).trans rfl
    have f0 := hblk.free
    obtain ⟨W, hW, M⟩ : ∃ W, W = (((w.setCell ⟨cb, 0, none⟩ (.int .i64 ((c : Int) + 1))).alloc (.cells #[.slice a1 nv c1, .slice a2 na c2, v3] 31)).alloc (.cells #[.int .i64 e.kind, .int .i64 e.value, kv] 41)) ∧ Mem (fun _ => True) (fun b => ¬ b = cb) w W [.box cb [.int .i64 ((c : Int) + 1)]] :=
      ⟨_, rfl, (((Mem.start fun _ _ => trivial).adopt (.box cb [.int .i64 c]) (fun _ ha => by cases ha) trivial hblk (fun _ ha => by cases ha) (fun g hg hn => by cases hg; exact hn rfl)).set 0 rfl 0 (.int .i64 ((c : Int) + 1))).call (by go_grown)⟩
    have y0 := M.c 0 0 rfl rfl
    have z0 := fun X => ext_cell y0 X
    clear hk y0 hblk
    by_cases q : (15 : Int) < (c : Int) + 1
    · have p : decide ((15 : Int) < (c : Int) + 1) = true := by simp; omega
      clear q
      go_enter Try.func163, Try.ntmps163
      go_wp2_with fail
      rw [← hW]
      clear hW
      refine wp_region_ext (by kernel_rfl) (by kernel_rfl) ?_
      repeat (any_goals (first | go_big_quiet_step (((fail))) | quiet_step (((fail)))))
      refine wpQuiet_nil ?_
      rintro _ ⟨X, rfl⟩
      replace M := M.call (ext_below W X)
      go_wp2_with fail
      go_ret
      exact ⟨ret_bool (by rw [HF.out]), fun h => absurd (h.symm.trans HF.out) (by simp), ⟨_, M.blk 0 rfl⟩, M.kept⟩
    · have p : decide ((15 : Int) < (c : Int) + 1) = false := by simp; omega
      clear q
      go_enter Try.func163, Try.ntmps163
      go_wp2_with fail
      rw [← hW]
      clear hW
      refine wp_region_ext (by kernel_rfl) (by kernel_rfl) ?_
      repeat (any_goals (first | go_big_quiet_step (((fail))) | quiet_step (((fail)))))
      refine wpQuiet_nil ?_
      rintro _ ⟨X, rfl⟩
      replace M := M.call (ext_below W X)
      go_wp2_with fail
      go_ret
      exact ⟨ret_bool (by rw [HF.out]), fun h => absurd (h.symm.trans HF.out) (by simp), ⟨_, M.blk 0 rfl⟩, M.kept⟩
  | succ d ih =>
    intro deep hdp hd1 e φ v c cb w h hcb hblk hc
    obtain ⟨kv, rfl, hk⟩ := h
    obtain ⟨ak, ck, rfl, -, hn, -, -⟩ := hk.open
    have hl := hblk.lt
    have hd5 : deep ≤ 5 := by omega
    obtain ⟨φ', hφ'⟩ : ∃ φ' : Nat → Prop, φ' = fun b => φ b ∨ w.heap.size ≤ b := ⟨_, rfl⟩
    have x0 : w.cell? ⟨cb, 0, none⟩ = some (.int .i64 c) := (hblk.cell 0).trans rfl
    have f0 := hblk.free
    obtain ⟨W, hW, M⟩ : ∃ W, W = (((w.setCell ⟨cb, 0, none⟩ (.int .i64 ((c : Int) + 1))).alloc (.cells #[.slice a1 nv c1, .slice a2 na c2, v3] 31)).alloc (.cells #[.int .i64 e.kind, .int .i64 e.value, .slice ak e.kids.length ck] 41)) ∧
        Mem φ' (fun b => ¬ b = cb) w W [.box cb [.int .i64 ((c : Int) + 1)], .box w.heap.size [.slice a1 nv c1, .slice a2 na c2, v3], .box (w.heap.size + 1) [.int .i64 e.kind, .int .i64 e.value, .slice ak e.kids.length ck], .dat (fun w φ => KidsV w φ (.slice ak e.kids.length ck) e.kids)] := by
      refine ⟨_, rfl, (((((Mem.start (by rw [hφ']; exact fun _ h => .inr h)).adopt (.box cb [.int .i64 c]) (fun _ ha => by cases ha) trivial hblk (fun _ ha => by cases ha) (fun g hg hn => by cases hg; exact hn rfl)).set 0 rfl 0 (.int .i64 ((c : Int) + 1))).box' _ _ (by simp)).box' _ _ (by simp)).dat (KidsV.nice _ _) (KidsV.nice _ _ _ _ _ _ ⟨by simp; omega, fun b hb hf => ⟨⟨by rw [hφ']; exact .inl hf, fun r hr he => ?_⟩, ?_⟩⟩ hk)⟩
      · simp at hr
        rcases hr with rfl | rfl | rfl
        · cases he; exact hcb hf
        · cases he; omega
        · cases he; omega
      · have hbc : b ≠ cb := fun he => hcb (he ▸ hf)
        exact (((Below.refl w.heap.size (w.setCell ⟨cb, 0, none⟩ (.int .i64 ((c : Int) + 1)))).alloc (by simp) _ |>.alloc (by simp) _).block b (by simpa using hb)).trans (Below.heap_setCell _ _ _ _ hbc)
    clear hk hblk hφ'
    have y0 := M.c 0 0 rfl rfl
    have y1 := M.c 2 0 rfl rfl
    have y2 := M.c 2 2 rfl rfl
    have z0 := fun X => ext_cell y0 X
    have z1 := fun X => ext_cell y1 X
    have z2 := fun X => ext_cell y2 X
    have HA : Hid (∀ X, Calls Try.prog 192 #[.int .i64 e.kind] (W.ext X) fun x w'' => x = .returned (.int .i64 (arity e.kind)) ∧ ∃ Y, w'' = W.ext Y) := fun X =>
      Calls.ext_of' ((impl_operands e.kind _).mono fun x w' h => ⟨h.1, h.2 ▸ Below.refl _ _⟩)
    clear y0 y1 y2
    have p2 : decide ((5 : Int) < deep) = false := decide_eq_false (by omega)
    by_cases q1 : (15 : Int) < (c : Int) + 1
    · have p1 : decide ((15 : Int) < (c : Int) + 1) = true := decide_eq_true q1
      have HF : Hid (scanB nv na (d + 1) c e = false) := by unfold Hid scanB; rw [decide_eq_false (by omega), Bool.and_false]
      clear q1
      go_enter Try.func163, Try.ntmps163
      go_wp2_with fail
      rw [← hW]
      clear hW
      refine wp_region_ext (by kernel_rfl) (by kernel_rfl) ?_
      repeat (any_goals (first | go_big_quiet_step (((go_at_call 192; exact HA.out _))) | quiet_step (((go_at_call 192; exact HA.out _)))))
      refine wpQuiet_nil ?_
      rintro _ ⟨X, rfl⟩
      replace M := M.call (ext_below W X)
      go_wp2_with fail
      go_ret
      exact ⟨ret_bool (by rw [HF.out]), fun h => absurd (h.symm.trans HF.out) (by simp), ⟨_, M.blk 0 rfl⟩, M.kept⟩
    have p1 : decide ((15 : Int) < (c : Int) + 1) = false := decide_eq_false q1
    by_cases q3 : (e.kids.length : Int) = arity e.kind
    case neg =>
      have p3 : (arity e.kind != (e.kids.length : Int)) = true := by simp; omega
      have HF : Hid (scanB nv na (d + 1) c e = false) := scanB_noNode (by unfold nodeB; rw [decide_eq_false q3]; rfl)
      clear q1 q3
      go_enter Try.func163, Try.ntmps163
      go_wp2_with fail
      rw [← hW]
      clear hW
      refine wp_region_ext (by kernel_rfl) (by kernel_rfl) ?_
      repeat (any_goals (first | go_big_quiet_step (((go_at_call 192; exact HA.out _))) | quiet_step (((go_at_call 192; exact HA.out _)))))
      refine wpQuiet_nil ?_
      rintro _ ⟨X, rfl⟩
      replace M := M.call (ext_below W X)
      go_wp2_with fail
      go_ret
      exact ⟨ret_bool (by rw [HF.out]), fun h => absurd (h.symm.trans HF.out) (by simp), ⟨_, M.blk 0 rfl⟩, M.kept⟩
    have p3 : (arity e.kind != (e.kids.length : Int)) = false := by simp; omega
    have HQ := show Hid _ from And.intro q1 q3
    clear q1 q3
    go_enter Try.func163, Try.ntmps163
    go_wp2_with fail
    rw [← hW]
    clear hW
    refine wp_region_ext (by kernel_rfl) (by kernel_rfl) ?_
    repeat (any_goals (first | go_big_quiet_step (((go_at_call 192; exact HA.out _))) | quiet_step (((go_at_call 192; exact HA.out _)))))
    refine wpQuiet_nil ?_
    rintro _ ⟨X, rfl⟩
    replace M := M.call (ext_below W X)
    generalize W.ext X = W1 at *
    clear z0 z1 z2 HA p1 p2 p3 f0 x0
    have y0 := M.c 1 0 rfl rfl
    have y1 := M.c 1 1 rfl rfl
    have y2 := M.c 2 0 rfl rfl
    have y3 := M.c 2 1 rfl rfl
    have y4 := M.c 2 2 rfl rfl
    have HM := show Hid _ from M
    clear M
    -- KINDS
    by_cases k1 : e.kind = 1
    · have qq1 : (e.kind == 1) = true := by simp [k1]
      have qq2 : (e.kind == 3) = false := by simp [k1]
      have HRD : Hid (readB e = true) := by unfold Hid readB; simp [k1]
      have hhi : (255 : Int) = limit nv na e.kind - 1 := by rw [k1]; simp [limit]
      clear k1
      have HNB := show Hid (nodeB nv na e = (decide (0 ≤ e.value) && decide (e.value ≤ 255))) from by
        unfold Hid nodeB; rw [decide_eq_true HQ.out.2, limit_high hhi]; rfl
      clear hhi
      go_wp2_with fail
      refine (impl_within e.value 0 _ _).mono ?_
      rintro x w1 ⟨rfl, rfl⟩
      have HNB2 := show Hid (nodeB nv na e = (decide (0 ≤ e.value) && decide (e.value ≤ 255))) from HNB.out
      clear HNB
      obtain ⟨qn, hqn⟩ : ∃ qn, qn = (decide (0 ≤ e.value) && decide (e.value ≤ 255)) := ⟨_, rfl⟩
      rw [← hqn]
      have HN := show Hid (nodeB nv na e = qn) from HNB2.out.trans hqn.symm
      clear hqn HNB2
      cases qn
      · have HF : Hid (scanB nv na (d + 1) c e = false) := scanB_noNode HN.out
        have M := HM.out
        clear HM
        go_wp2_with fail
        go_ret
        exact ⟨ret_bool (by rw [HF.out]), fun h => absurd (h.symm.trans HF.out) (by simp), ⟨_, M.blk 0 rfl⟩, M.kept⟩
      have HSC : Hid (scanB nv na (d + 1) c e = scanPre nv na d (c + 1) e.kids e.kids.length) := scanB_node HN.out HRD.out
      go_wp2_with fail
      clear y0 y1 y2 y3 y4
      have HST : Hid (scanPre nv na d (c + 1) e.kids 0 = true ∧ Mem φ' (fun b => ¬ b = cb) w W1 [.box cb [.int .i64 (c + 1 + szEs (e.kids.take 0) : Nat)], .box w.heap.size [.slice a1 nv c1, .slice a2 na c2, v3], .box (w.heap.size + 1) [.int .i64 e.kind, .int .i64 e.value, .slice ak e.kids.length ck], .dat (fun w φ => KidsV w φ (.slice ak e.kids.length ck) e.kids)]) := by
        refine ⟨?_, ?_⟩
        · have := HQ.out.1
          simp [scanPre, szEs]; omega
        · rw [show ((c + 1 + szEs (e.kids.take 0) : Nat) : Int) = (c : Int) + 1 by simp [szEs]]
          exact HM.out
      go_loopw [71] (fun i wr => ∃ k : Nat, k ≤ e.kids.length ∧ i = .int .i64 k ∧ scanPre nv na d (c + 1) e.kids k = true ∧ Mem φ' (fun b => ¬ b = cb) w wr [.box cb [.int .i64 (c + 1 + szEs (e.kids.take k) : Nat)], .box w.heap.size [.slice a1 nv c1, .slice a2 na c2, v3], .box (w.heap.size + 1) [.int .i64 e.kind, .int .i64 e.value, .slice ak e.kids.length ck], .dat (fun w φ => KidsV w φ (.slice ak e.kids.length ck) e.kids)]) (fun i _ => e.kids.length - (intOf i).toNat)
      case atStart => exact ⟨0, Nat.zero_le _, rfl, HST.out.1, HST.out.2⟩
      case round =>
        clear HM
        obtain ⟨k, hk, rfl, hpre, M⟩ := hrel
        have HPRE := show Hid _ from hpre
        have hle : c + 1 + szEs (e.kids.take k) ≤ 15 := by unfold scanPre at hpre; simp at hpre; exact hpre.2
        clear hpre
        by_cases hlt : k < e.kids.length
        · have hncb : ¬ Fr φ' [.box cb [.int .i64 (c + 1 + szEs (e.kids.take k) : Nat)], .box w.heap.size [.slice a1 nv c1, .slice a2 na c2, v3], .box (w.heap.size + 1) [.int .i64 e.kind, .int .i64 e.value, .slice ak e.kids.length ck], .dat (fun w φ => KidsV w φ (.slice ak e.kids.length ck) e.kids)] cb := fun h => h.2 _ List.mem_cons_self rfl
          obtain ⟨a', c', he, -, -, -, hcell⟩ := (M.d 3 rfl).open
          cases he
          obtain ⟨b, off, kv, hbo, hbk, hf, g0, g1, g2, hkk⟩ := hcell k hlt
          cases hbo
          obtain ⟨ka, kc, rfl, -, -, -, -⟩ := hkk.open
          have bz : Below wr.heap.size wr (wr.alloc (.cells #[.int .i64 e.kids[k].kind, .int .i64 e.kids[k].value, .slice ka e.kids[k].kids.length kc] 41)) := by go_grown
          have HE := show Hid _ from KidsV.nice _ _ _ _ _ _ (Agr.below bz) hkk
          have HNCB := show Hid _ from hncb
          have x0 := M.c 1 0 rfl rfl
          have x1 := M.c 1 1 rfl rfl
          have x2 := M.c 1 2 rfl rfl
          have s1 : w.heap.size < wr.heap.size := M.lt (r := .box w.heap.size [.slice a1 nv c1, .slice a2 na c2, v3]) (List.mem_cons_of_mem _ List.mem_cons_self) rfl
          have HM := show Hid _ from M.box [.int .i64 e.kids[k].kind, .int .i64 e.kids[k].value, .slice ka e.kids[k].kids.length kc] 41
          have HP := show Hid _ from scanPre_succ nv na (d := d) (c := c + 1) hlt
          have HX := show Hid (scanB nv na d (c + 1 + szEs (e.kids.take k)) e.kids[k] = false → scanB nv na (d + 1) c e = false) from fun h => HSC.out.trans (scanPre_end hlt h)
          have HT := show Hid _ from szEs_take1 hlt
          clear hcell hncb bz hkk M
          go_wp2_with fail
          refine (ih (deep + 1) (by omega) (by omega) e.kids[k] _ _ (c + 1 + szEs (e.kids.take k)) cb _ ⟨_, rfl, HE.out⟩ HNCB.out (HM.out.blk 0 rfl) hle).mono ?_
          rintro x w2 ⟨rfl, r1, ⟨u, r2⟩, kp⟩
          obtain ⟨q, hq⟩ : ∃ q, q = scanB nv na d (c + 1 + szEs (e.kids.take k)) e.kids[k] := ⟨_, rfl⟩
          rw [← hq] at r1 ⊢
          have HQ2 := show Hid _ from hq
          clear hq x0 x1 x2 g0 g1 g2
          cases q
          · have M2 := HM.out.callB 0 rfl kp r2
            have HF := show Hid _ from HX.out HQ2.out.symm
            clear r1 r2 kp
            go_wp2_with fail
            go_ret
            exact ⟨ret_bool (by rw [HF.out]), fun h => absurd (h.symm.trans HF.out) (by simp), ⟨_, M2.blk 0 rfl⟩, M2.kept⟩
          · have M2 := (HM.out.callB 0 rfl kp (r1 rfl)).take 4
            have HM2 := show Hid _ from M2
            clear r1 r2 kp M2
            go_wp2_with fail
            refine ⟨⟨k + 1, by omega, by go_num, by rw [HP.out, HPRE.out, ← HQ2.out]; rfl, ?_⟩, by simp [intOf]; omega⟩
            rw [HT.out, show c + 1 + (szEs (e.kids.take k) + (1 + szE e.kids[k])) = c + 1 + szEs (e.kids.take k) + 1 + szE e.kids[k] by omega]
            exact HM2.out
        · have hkn : k = e.kids.length := by omega
          subst hkn
          have HM := show Hid _ from M
          have HS : Hid (scanB nv na (d + 1) c e = true) := HSC.out.trans HPRE.out
          clear M
          go_wp2_with fail
          go_ret
          refine ⟨ret_bool (by rw [HS.out]), fun _ => ?_, ⟨_, HM.out.blk 0 rfl⟩, HM.out.kept⟩
          have := HM.out.blk 0 rfl
          rw [List.take_of_length_le (Nat.le_refl _)] at this
          rw [szE_kids]
          exact this
    have k1' : (e.kind == 1) = false := by simp [k1]
    by_cases k2 : e.kind = 2
    · have qq1 : (e.kind == 2) = true := by simp [k2]
      have qq2 : (e.kind == 3) = false := by simp [k2]
      have HRD : Hid (readB e = true) := by unfold Hid readB; simp [k2]
      have hhi : (nv : Int) - 1 = limit nv na e.kind - 1 := by rw [k2]; simp [limit]
      clear k1 k2
      have HNB := show Hid (nodeB nv na e = (decide (0 ≤ e.value) && decide (e.value ≤ (nv : Int) - 1))) from by
        unfold Hid nodeB; rw [decide_eq_true HQ.out.2, limit_high hhi]; rfl
      clear hhi
      go_wp2_with fail
      refine (impl_within e.value 0 _ _).mono ?_
      rintro x w1 ⟨rfl, rfl⟩
      have HNB2 := show Hid (nodeB nv na e = (decide (0 ≤ e.value) && decide (e.value ≤ (nv : Int) - 1))) from HNB.out
      clear HNB
      obtain ⟨qn, hqn⟩ : ∃ qn, qn = (decide (0 ≤ e.value) && decide (e.value ≤ (nv : Int) - 1)) := ⟨_, rfl⟩
      rw [← hqn]
      have HN := show Hid (nodeB nv na e = qn) from HNB2.out.trans hqn.symm
      clear hqn HNB2
      cases qn
      · have HF : Hid (scanB nv na (d + 1) c e = false) := scanB_noNode HN.out
        have M := HM.out
        clear HM
        go_wp2_with fail
        go_ret
        exact ⟨ret_bool (by rw [HF.out]), fun h => absurd (h.symm.trans HF.out) (by simp), ⟨_, M.blk 0 rfl⟩, M.kept⟩
      have HSC : Hid (scanB nv na (d + 1) c e = scanPre nv na d (c + 1) e.kids e.kids.length) := scanB_node HN.out HRD.out
      go_wp2_with fail
      clear y0 y1 y2 y3 y4
      have HST : Hid (scanPre nv na d (c + 1) e.kids 0 = true ∧ Mem φ' (fun b => ¬ b = cb) w W1 [.box cb [.int .i64 (c + 1 + szEs (e.kids.take 0) : Nat)], .box w.heap.size [.slice a1 nv c1, .slice a2 na c2, v3], .box (w.heap.size + 1) [.int .i64 e.kind, .int .i64 e.value, .slice ak e.kids.length ck], .dat (fun w φ => KidsV w φ (.slice ak e.kids.length ck) e.kids)]) := by
        refine ⟨?_, ?_⟩
        · have := HQ.out.1
          simp [scanPre, szEs]; omega
        · rw [show ((c + 1 + szEs (e.kids.take 0) : Nat) : Int) = (c : Int) + 1 by simp [szEs]]
          exact HM.out
      go_loopw [71] (fun i wr => ∃ k : Nat, k ≤ e.kids.length ∧ i = .int .i64 k ∧ scanPre nv na d (c + 1) e.kids k = true ∧ Mem φ' (fun b => ¬ b = cb) w wr [.box cb [.int .i64 (c + 1 + szEs (e.kids.take k) : Nat)], .box w.heap.size [.slice a1 nv c1, .slice a2 na c2, v3], .box (w.heap.size + 1) [.int .i64 e.kind, .int .i64 e.value, .slice ak e.kids.length ck], .dat (fun w φ => KidsV w φ (.slice ak e.kids.length ck) e.kids)]) (fun i _ => e.kids.length - (intOf i).toNat)
      case atStart => exact ⟨0, Nat.zero_le _, rfl, HST.out.1, HST.out.2⟩
      case round =>
        clear HM
        obtain ⟨k, hk, rfl, hpre, M⟩ := hrel
        have HPRE := show Hid _ from hpre
        have hle : c + 1 + szEs (e.kids.take k) ≤ 15 := by unfold scanPre at hpre; simp at hpre; exact hpre.2
        clear hpre
        by_cases hlt : k < e.kids.length
        · have hncb : ¬ Fr φ' [.box cb [.int .i64 (c + 1 + szEs (e.kids.take k) : Nat)], .box w.heap.size [.slice a1 nv c1, .slice a2 na c2, v3], .box (w.heap.size + 1) [.int .i64 e.kind, .int .i64 e.value, .slice ak e.kids.length ck], .dat (fun w φ => KidsV w φ (.slice ak e.kids.length ck) e.kids)] cb := fun h => h.2 _ List.mem_cons_self rfl
          obtain ⟨a', c', he, -, -, -, hcell⟩ := (M.d 3 rfl).open
          cases he
          obtain ⟨b, off, kv, hbo, hbk, hf, g0, g1, g2, hkk⟩ := hcell k hlt
          cases hbo
          obtain ⟨ka, kc, rfl, -, -, -, -⟩ := hkk.open
          have bz : Below wr.heap.size wr (wr.alloc (.cells #[.int .i64 e.kids[k].kind, .int .i64 e.kids[k].value, .slice ka e.kids[k].kids.length kc] 41)) := by go_grown
          have HE := show Hid _ from KidsV.nice _ _ _ _ _ _ (Agr.below bz) hkk
          have HNCB := show Hid _ from hncb
          have x0 := M.c 1 0 rfl rfl
          have x1 := M.c 1 1 rfl rfl
          have x2 := M.c 1 2 rfl rfl
          have s1 : w.heap.size < wr.heap.size := M.lt (r := .box w.heap.size [.slice a1 nv c1, .slice a2 na c2, v3]) (List.mem_cons_of_mem _ List.mem_cons_self) rfl
          have HM := show Hid _ from M.box [.int .i64 e.kids[k].kind, .int .i64 e.kids[k].value, .slice ka e.kids[k].kids.length kc] 41
          have HP := show Hid _ from scanPre_succ nv na (d := d) (c := c + 1) hlt
          have HX := show Hid (scanB nv na d (c + 1 + szEs (e.kids.take k)) e.kids[k] = false → scanB nv na (d + 1) c e = false) from fun h => HSC.out.trans (scanPre_end hlt h)
          have HT := show Hid _ from szEs_take1 hlt
          clear hcell hncb bz hkk M
          go_wp2_with fail
          refine (ih (deep + 1) (by omega) (by omega) e.kids[k] _ _ (c + 1 + szEs (e.kids.take k)) cb _ ⟨_, rfl, HE.out⟩ HNCB.out (HM.out.blk 0 rfl) hle).mono ?_
          rintro x w2 ⟨rfl, r1, ⟨u, r2⟩, kp⟩
          obtain ⟨q, hq⟩ : ∃ q, q = scanB nv na d (c + 1 + szEs (e.kids.take k)) e.kids[k] := ⟨_, rfl⟩
          rw [← hq] at r1 ⊢
          have HQ2 := show Hid _ from hq
          clear hq x0 x1 x2 g0 g1 g2
          cases q
          · have M2 := HM.out.callB 0 rfl kp r2
            have HF := show Hid _ from HX.out HQ2.out.symm
            clear r1 r2 kp
            go_wp2_with fail
            go_ret
            exact ⟨ret_bool (by rw [HF.out]), fun h => absurd (h.symm.trans HF.out) (by simp), ⟨_, M2.blk 0 rfl⟩, M2.kept⟩
          · have M2 := (HM.out.callB 0 rfl kp (r1 rfl)).take 4
            have HM2 := show Hid _ from M2
            clear r1 r2 kp M2
            go_wp2_with fail
            refine ⟨⟨k + 1, by omega, by go_num, by rw [HP.out, HPRE.out, ← HQ2.out]; rfl, ?_⟩, by simp [intOf]; omega⟩
            rw [HT.out, show c + 1 + (szEs (e.kids.take k) + (1 + szE e.kids[k])) = c + 1 + szEs (e.kids.take k) + 1 + szE e.kids[k] by omega]
            exact HM2.out
        · have hkn : k = e.kids.length := by omega
          subst hkn
          have HM := show Hid _ from M
          have HS : Hid (scanB nv na (d + 1) c e = true) := HSC.out.trans HPRE.out
          clear M
          go_wp2_with fail
          go_ret
          refine ⟨ret_bool (by rw [HS.out]), fun _ => ?_, ⟨_, HM.out.blk 0 rfl⟩, HM.out.kept⟩
          have := HM.out.blk 0 rfl
          rw [List.take_of_length_le (Nat.le_refl _)] at this
          rw [szE_kids]
          exact this
    have k2' : (e.kind == 2) = false := by simp [k2]
    by_cases k3 : e.kind = 3
    · have qq1 : (e.kind == 3) = true := by simp [k3]
      have qq2 := k2'
      have HRD : Hid (e.kind = 3) := k3
      have hhi : (na : Int) - 1 = limit nv na e.kind - 1 := by rw [k3]; simp [limit]
      clear k1 k2 k3
      have HNB := show Hid (nodeB nv na e = (decide (0 ≤ e.value) && decide (e.value ≤ (na : Int) - 1))) from by
        unfold Hid nodeB; rw [decide_eq_true HQ.out.2, limit_high hhi]; rfl
      clear hhi
      go_wp2_with fail
      refine (impl_within e.value 0 _ _).mono ?_
      rintro x w1 ⟨rfl, rfl⟩
      have HNB2 := show Hid (nodeB nv na e = (decide (0 ≤ e.value) && decide (e.value ≤ (na : Int) - 1))) from HNB.out
      clear HNB
      obtain ⟨qn, hqn⟩ : ∃ qn, qn = (decide (0 ≤ e.value) && decide (e.value ≤ (na : Int) - 1)) := ⟨_, rfl⟩
      rw [← hqn]
      have HN := show Hid (nodeB nv na e = qn) from HNB2.out.trans hqn.symm
      clear hqn HNB2
      cases qn
      · have HF : Hid (scanB nv na (d + 1) c e = false) := scanB_noNode HN.out
        have M := HM.out
        clear HM
        go_wp2_with fail
        go_ret
        exact ⟨ret_bool (by rw [HF.out]), fun h => absurd (h.symm.trans HF.out) (by simp), ⟨_, M.blk 0 rfl⟩, M.kept⟩
      have hl1 : e.kids.length = 1 := by have := HQ.out.2; rw [HRD.out] at this; simp [arity] at this; omega
      have hpos : 0 < (e.kids.length : Int) := by omega
      obtain ⟨a', c', he, -, -, -, hcell⟩ := (HM.out.d 3 rfl).open
      have e1 : ak = a' := by cases he; rfl
      have e2 : ck = c' := by cases he; rfl
      subst e1 e2
      obtain ⟨b, off, kv, rfl, hbk, hf, g0, g1, g2, hkk⟩ := hcell 0 (by omega)
      simp only [Nat.zero_mul, Nat.add_zero] at g0 g1 g2
      have HR := show Hid _ from readB_get HRD.out (by omega)
      clear hcell hkk
      go_wp2_with fail
      refine (impl_isPlain _ _ _ _).mono ?_
      rintro x w2 ⟨rfl, b2⟩
      replace HM := show Hid _ from HM.out.call b2
      obtain ⟨qr, hqr⟩ : ∃ qr, qr = (decide ((e.kids[0]'(by omega)).kind = 1) || decide ((e.kids[0]'(by omega)).kind = 2)) := ⟨_, rfl⟩
      rw [← hqr]
      have HRR := show Hid (readB e = qr) from HR.out.trans hqr.symm
      clear hqr b2 HR g0 g1 g2
      cases qr
      · have HF : Hid (scanB nv na (d + 1) c e = false) := scanB_noRead HRR.out
        have M := HM.out
        clear HM
        go_wp2_with fail
        go_ret
        exact ⟨ret_bool (by rw [HF.out]), fun h => absurd (h.symm.trans HF.out) (by simp), ⟨_, M.blk 0 rfl⟩, M.kept⟩
      clear y0 y1 y2 y3 y4
      have y4 := HM.out.c 2 2 rfl rfl
      have HSC : Hid (scanB nv na (d + 1) c e = scanPre nv na d (c + 1) e.kids e.kids.length) := scanB_node HN.out HRR.out
      go_wp2_with fail
      clear y4
      have HST : Hid (scanPre nv na d (c + 1) e.kids 0 = true ∧ Mem φ' (fun b => ¬ b = cb) w w2 [.box cb [.int .i64 (c + 1 + szEs (e.kids.take 0) : Nat)], .box w.heap.size [.slice a1 nv c1, .slice a2 na c2, v3], .box (w.heap.size + 1) [.int .i64 e.kind, .int .i64 e.value, .slice (some ⟨b, off, none⟩) e.kids.length ck], .dat (fun w φ => KidsV w φ (.slice (some ⟨b, off, none⟩) e.kids.length ck) e.kids)]) := by
        refine ⟨?_, ?_⟩
        · have := HQ.out.1
          simp [scanPre, szEs]; omega
        · rw [show ((c + 1 + szEs (e.kids.take 0) : Nat) : Int) = (c : Int) + 1 by simp [szEs]]
          exact HM.out
      go_loopw [71] (fun i wr => ∃ k : Nat, k ≤ e.kids.length ∧ i = .int .i64 k ∧ scanPre nv na d (c + 1) e.kids k = true ∧ Mem φ' (fun b => ¬ b = cb) w wr [.box cb [.int .i64 (c + 1 + szEs (e.kids.take k) : Nat)], .box w.heap.size [.slice a1 nv c1, .slice a2 na c2, v3], .box (w.heap.size + 1) [.int .i64 e.kind, .int .i64 e.value, .slice (some ⟨b, off, none⟩) e.kids.length ck], .dat (fun w φ => KidsV w φ (.slice (some ⟨b, off, none⟩) e.kids.length ck) e.kids)]) (fun i _ => e.kids.length - (intOf i).toNat)
      case atStart => exact ⟨0, Nat.zero_le _, rfl, HST.out.1, HST.out.2⟩
      case round =>
        clear HM
        obtain ⟨k, hk, rfl, hpre, M⟩ := hrel
        have HPRE := show Hid _ from hpre
        have hle : c + 1 + szEs (e.kids.take k) ≤ 15 := by unfold scanPre at hpre; simp at hpre; exact hpre.2
        clear hpre
        by_cases hlt : k < e.kids.length
        · have hncb : ¬ Fr φ' [.box cb [.int .i64 (c + 1 + szEs (e.kids.take k) : Nat)], .box w.heap.size [.slice a1 nv c1, .slice a2 na c2, v3], .box (w.heap.size + 1) [.int .i64 e.kind, .int .i64 e.value, .slice (some ⟨b, off, none⟩) e.kids.length ck], .dat (fun w φ => KidsV w φ (.slice (some ⟨b, off, none⟩) e.kids.length ck) e.kids)] cb := fun h => h.2 _ List.mem_cons_self rfl
          obtain ⟨a', c', he, -, -, -, hcell⟩ := (M.d 3 rfl).open
          cases he
          obtain ⟨b, off, kv, hbo, hbk, hf, g0, g1, g2, hkk⟩ := hcell k hlt
          cases hbo
          obtain ⟨ka, kc, rfl, -, -, -, -⟩ := hkk.open
          have bz : Below wr.heap.size wr (wr.alloc (.cells #[.int .i64 e.kids[k].kind, .int .i64 e.kids[k].value, .slice ka e.kids[k].kids.length kc] 41)) := by go_grown
          have HE := show Hid _ from KidsV.nice _ _ _ _ _ _ (Agr.below bz) hkk
          have HNCB := show Hid _ from hncb
          have x0 := M.c 1 0 rfl rfl
          have x1 := M.c 1 1 rfl rfl
          have x2 := M.c 1 2 rfl rfl
          have s1 : w.heap.size < wr.heap.size := M.lt (r := .box w.heap.size [.slice a1 nv c1, .slice a2 na c2, v3]) (List.mem_cons_of_mem _ List.mem_cons_self) rfl
          have HM := show Hid _ from M.box [.int .i64 e.kids[k].kind, .int .i64 e.kids[k].value, .slice ka e.kids[k].kids.length kc] 41
          have HP := show Hid _ from scanPre_succ nv na (d := d) (c := c + 1) hlt
          have HX := show Hid (scanB nv na d (c + 1 + szEs (e.kids.take k)) e.kids[k] = false → scanB nv na (d + 1) c e = false) from fun h => HSC.out.trans (scanPre_end hlt h)
          have HT := show Hid _ from szEs_take1 hlt
          clear hcell hncb bz hkk M
          go_wp2_with fail
          refine (ih (deep + 1) (by omega) (by omega) e.kids[k] _ _ (c + 1 + szEs (e.kids.take k)) cb _ ⟨_, rfl, HE.out⟩ HNCB.out (HM.out.blk 0 rfl) hle).mono ?_
          rintro x w2 ⟨rfl, r1, ⟨u, r2⟩, kp⟩
          obtain ⟨q, hq⟩ : ∃ q, q = scanB nv na d (c + 1 + szEs (e.kids.take k)) e.kids[k] := ⟨_, rfl⟩
          rw [← hq] at r1 ⊢
          have HQ2 := show Hid _ from hq
          clear hq x0 x1 x2 g0 g1 g2
          cases q
          · have M2 := HM.out.callB 0 rfl kp r2
            have HF := show Hid _ from HX.out HQ2.out.symm
            clear r1 r2 kp
            go_wp2_with fail
            go_ret
            exact ⟨ret_bool (by rw [HF.out]), fun h => absurd (h.symm.trans HF.out) (by simp), ⟨_, M2.blk 0 rfl⟩, M2.kept⟩
          · have M2 := (HM.out.callB 0 rfl kp (r1 rfl)).take 4
            have HM2 := show Hid _ from M2
            clear r1 r2 kp M2
            go_wp2_with fail
            refine ⟨⟨k + 1, by omega, by go_num, by rw [HP.out, HPRE.out, ← HQ2.out]; rfl, ?_⟩, by simp [intOf]; omega⟩
            rw [HT.out, show c + 1 + (szEs (e.kids.take k) + (1 + szE e.kids[k])) = c + 1 + szEs (e.kids.take k) + 1 + szE e.kids[k] by omega]
            exact HM2.out
        · have hkn : k = e.kids.length := by omega
          subst hkn
          have HM := show Hid _ from M
          have HS : Hid (scanB nv na (d + 1) c e = true) := HSC.out.trans HPRE.out
          clear M
          go_wp2_with fail
          go_ret
          refine ⟨ret_bool (by rw [HS.out]), fun _ => ?_, ⟨_, HM.out.blk 0 rfl⟩, HM.out.kept⟩
          have := HM.out.blk 0 rfl
          rw [List.take_of_length_le (Nat.le_refl _)] at this
          rw [szE_kids]
          exact this
    have qq1 : (e.kind == 3) = false := by simp [k3]
    have qq2 := qq1
    have HRD : Hid (readB e = true) := by unfold Hid readB; simp [k3]
    have hhi : (0 : Int) = limit nv na e.kind - 1 := by unfold limit; rw [if_neg k1, if_neg k2, if_neg k3]; rfl
    clear k1 k2 k3
    have HNB := show Hid (nodeB nv na e = (decide (0 ≤ e.value) && decide (e.value ≤ 0))) from by
      unfold Hid nodeB; rw [decide_eq_true HQ.out.2, limit_high hhi]; rfl
    clear hhi
    go_wp2_with fail
    refine (impl_within e.value 0 _ _).mono ?_
    rintro x w1 ⟨rfl, rfl⟩
    have HNB2 := show Hid (nodeB nv na e = (decide (0 ≤ e.value) && decide (e.value ≤ 0))) from HNB.out
    clear HNB
    obtain ⟨qn, hqn⟩ : ∃ qn, qn = (decide (0 ≤ e.value) && decide (e.value ≤ 0)) := ⟨_, rfl⟩
    rw [← hqn]
    have HN := show Hid (nodeB nv na e = qn) from HNB2.out.trans hqn.symm
    clear hqn HNB2
    cases qn
    · have HF : Hid (scanB nv na (d + 1) c e = false) := scanB_noNode HN.out
      have M := HM.out
      clear HM
      go_wp2_with fail
      go_ret
      exact ⟨ret_bool (by rw [HF.out]), fun h => absurd (h.symm.trans HF.out) (by simp), ⟨_, M.blk 0 rfl⟩, M.kept⟩
    have HSC : Hid (scanB nv na (d + 1) c e = scanPre nv na d (c + 1) e.kids e.kids.length) := scanB_node HN.out HRD.out
    go_wp2_with fail
    clear y0 y1 y2 y3 y4
    have HST : Hid (scanPre nv na d (c + 1) e.kids 0 = true ∧ Mem φ' (fun b => ¬ b = cb) w W1 [.box cb [.int .i64 (c + 1 + szEs (e.kids.take 0) : Nat)], .box w.heap.size [.slice a1 nv c1, .slice a2 na c2, v3], .box (w.heap.size + 1) [.int .i64 e.kind, .int .i64 e.value, .slice ak e.kids.length ck], .dat (fun w φ => KidsV w φ (.slice ak e.kids.length ck) e.kids)]) := by
      refine ⟨?_, ?_⟩
      · have := HQ.out.1
        simp [scanPre, szEs]; omega
      · rw [show ((c + 1 + szEs (e.kids.take 0) : Nat) : Int) = (c : Int) + 1 by simp [szEs]]
        exact HM.out
    go_loopw [71] (fun i wr => ∃ k : Nat, k ≤ e.kids.length ∧ i = .int .i64 k ∧ scanPre nv na d (c + 1) e.kids k = true ∧ Mem φ' (fun b => ¬ b = cb) w wr [.box cb [.int .i64 (c + 1 + szEs (e.kids.take k) : Nat)], .box w.heap.size [.slice a1 nv c1, .slice a2 na c2, v3], .box (w.heap.size + 1) [.int .i64 e.kind, .int .i64 e.value, .slice ak e.kids.length ck], .dat (fun w φ => KidsV w φ (.slice ak e.kids.length ck) e.kids)]) (fun i _ => e.kids.length - (intOf i).toNat)
    case atStart => exact ⟨0, Nat.zero_le _, rfl, HST.out.1, HST.out.2⟩
    case round =>
      clear HM
      obtain ⟨k, hk, rfl, hpre, M⟩ := hrel
      have HPRE := show Hid _ from hpre
      have hle : c + 1 + szEs (e.kids.take k) ≤ 15 := by unfold scanPre at hpre; simp at hpre; exact hpre.2
      clear hpre
      by_cases hlt : k < e.kids.length
      · have hncb : ¬ Fr φ' [.box cb [.int .i64 (c + 1 + szEs (e.kids.take k) : Nat)], .box w.heap.size [.slice a1 nv c1, .slice a2 na c2, v3], .box (w.heap.size + 1) [.int .i64 e.kind, .int .i64 e.value, .slice ak e.kids.length ck], .dat (fun w φ => KidsV w φ (.slice ak e.kids.length ck) e.kids)] cb := fun h => h.2 _ List.mem_cons_self rfl
        obtain ⟨a', c', he, -, -, -, hcell⟩ := (M.d 3 rfl).open
        cases he
        obtain ⟨b, off, kv, hbo, hbk, hf, g0, g1, g2, hkk⟩ := hcell k hlt
        cases hbo
        obtain ⟨ka, kc, rfl, -, -, -, -⟩ := hkk.open
        have bz : Below wr.heap.size wr (wr.alloc (.cells #[.int .i64 e.kids[k].kind, .int .i64 e.kids[k].value, .slice ka e.kids[k].kids.length kc] 41)) := by go_grown
        have HE := show Hid _ from KidsV.nice _ _ _ _ _ _ (Agr.below bz) hkk
        have HNCB := show Hid _ from hncb
        have x0 := M.c 1 0 rfl rfl
        have x1 := M.c 1 1 rfl rfl
        have x2 := M.c 1 2 rfl rfl
        have s1 : w.heap.size < wr.heap.size := M.lt (r := .box w.heap.size [.slice a1 nv c1, .slice a2 na c2, v3]) (List.mem_cons_of_mem _ List.mem_cons_self) rfl
        have HM := show Hid _ from M.box [.int .i64 e.kids[k].kind, .int .i64 e.kids[k].value, .slice ka e.kids[k].kids.length kc] 41
        have HP := show Hid _ from scanPre_succ nv na (d := d) (c := c + 1) hlt
        have HX := show Hid (scanB nv na d (c + 1 + szEs (e.kids.take k)) e.kids[k] = false → scanB nv na (d + 1) c e = false) from fun h => HSC.out.trans (scanPre_end hlt h)
        have HT := show Hid _ from szEs_take1 hlt
        clear hcell hncb bz hkk M
        go_wp2_with fail
        refine (ih (deep + 1) (by omega) (by omega) e.kids[k] _ _ (c + 1 + szEs (e.kids.take k)) cb _ ⟨_, rfl, HE.out⟩ HNCB.out (HM.out.blk 0 rfl) hle).mono ?_
        rintro x w2 ⟨rfl, r1, ⟨u, r2⟩, kp⟩
        obtain ⟨q, hq⟩ : ∃ q, q = scanB nv na d (c + 1 + szEs (e.kids.take k)) e.kids[k] := ⟨_, rfl⟩
        rw [← hq] at r1 ⊢
        have HQ2 := show Hid _ from hq
        clear hq x0 x1 x2 g0 g1 g2
        cases q
        · have M2 := HM.out.callB 0 rfl kp r2
          have HF := show Hid _ from HX.out HQ2.out.symm
          clear r1 r2 kp
          go_wp2_with fail
          go_ret
          exact ⟨ret_bool (by rw [HF.out]), fun h => absurd (h.symm.trans HF.out) (by simp), ⟨_, M2.blk 0 rfl⟩, M2.kept⟩
        · have M2 := (HM.out.callB 0 rfl kp (r1 rfl)).take 4
          have HM2 := show Hid _ from M2
          clear r1 r2 kp M2
          go_wp2_with fail
          refine ⟨⟨k + 1, by omega, by go_num, by rw [HP.out, HPRE.out, ← HQ2.out]; rfl, ?_⟩, by simp [intOf]; omega⟩
          rw [HT.out, show c + 1 + (szEs (e.kids.take k) + (1 + szE e.kids[k])) = c + 1 + szEs (e.kids.take k) + 1 + szE e.kids[k] by omega]
          exact HM2.out
      · have hkn : k = e.kids.length := by omega
        subst hkn
        have HM := show Hid _ from M
        have HS : Hid (scanB nv na (d + 1) c e = true) := HSC.out.trans HPRE.out
        clear M
        go_wp2_with fail
        go_ret
        refine ⟨ret_bool (by rw [HS.out]), fun _ => ?_, ⟨_, HM.out.blk 0 rfl⟩, HM.out.kept⟩
        have := HM.out.blk 0 rfl
        rw [List.take_of_length_le (Nat.le_refl _)] at this
        rw [szE_kids]
        exact this

end Go.Proofs.Ytgpkdfefgcpbiaa
