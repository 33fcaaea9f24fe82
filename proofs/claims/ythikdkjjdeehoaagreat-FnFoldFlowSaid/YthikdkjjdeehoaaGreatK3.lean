/-
  Texts of this claim, part 3: what the functions on the way do, and plain laws. Conditions: as each statement says.
-/
import Derived.Test.YthikdkjjdeehoaaGreatK2
set_option maxRecDepth 100000
set_option maxHeartbeats 16000000
open Bool renaming and_eq_false_iff → bT9, and_eq_true → bR1, and_eq_true_iff → bU0, not_eq_false' → bS3, not_eq_true' → bS1
open Inhabited renaming default → bR0
open List renaming all_eq_true → bR9, eq_nil_of_length_eq_zero → bT3, getD_eq_getElem?_getD → bR6, getElem?_append_left → bU2, getElem?_eq_getElem → bR5, getElem?_eq_none → bU7, getElem?_eq_some_iff → bS0, getElem_mem → bS7, length_cons → bR7, map_cons → bU4, mem_cons_of_mem → bS9, mem_cons_self → bS4, take → bR4, take_of_length_le → bS6
open Nat renaming le_refl → bS8, le_trans → bU1, zero_add → bU9, zero_le → bU3
open True renaming intro → bR2

namespace Go.Proofs.YthikdkjjdeehoaaGreat
set_option linter.unusedVariables false
set_option linter.unusedSimpArgs false
open Go Go.RowKit
theorem aH3 (k : Int) (w : World) : Calls Tryz.prog 260 #[.int .i64 k] w fun e w' => e = .returned (.int .i64 (o6 k)) ∧ w = w' := by
 by_cases h1 : k = 1
 ·subst h1
  go_enter Tryz.func260, Tryz.ntmps260
  go_wp2_with fail
  go_ret
  exact ⟨B4 (by simp [o6]), rfl⟩
 by_cases h2 : k = 2
 ·subst h2
  go_enter Tryz.func260, Tryz.ntmps260
  go_wp2_with fail
  go_ret
  exact ⟨B4 (by simp [o6]), rfl⟩
 by_cases h3 : k = 3
 ·subst h3
  go_enter Tryz.func260, Tryz.ntmps260
  go_wp2_with fail
  go_ret
  exact ⟨B4 (by simp [o6]), rfl⟩
 have p1 : (k == 1) = false := by simp [h1]
 have p2 : (k == 2) = false := by simp [h2]
 have p3 : (k == 3) = false := by simp [h3]
 have H := show Hid _ from And.intro h1 (And.intro h2 h3)
 clear h1 h2 h3
 go_enter Tryz.func260, Tryz.ntmps260
 go_wp2_with fail
 refine (A7 k 4 10 _).mono ?_
 rintro x w1 ⟨rfl, rfl⟩
 by_cases h4 : 4 ≤ k ∧ k ≤ 10
 ·have p4 : (decide (4 ≤ k) && decide (k ≤ 10)) = true := by simp [h4]
  rw [p4]
  have H4 := show Hid _ from h4
  clear h4 p4
  go_wp2_with fail
  go_ret
  exact ⟨B4 (by have := H.out; have := H4.out; unfold o6; rw [if_neg (by omega), if_neg (by omega), if_pos (by omega)]), rfl⟩
 ·have p4 : (decide (4 ≤ k) && decide (k ≤ 10)) = false := by simp; omega
  rw [p4]
  have H4 := show Hid _ from h4
  clear h4 p4
  by_cases h5 : k = 11
  ·subst h5
   go_wp2_with fail
   go_ret
   exact ⟨B4 (by simp [o6]), rfl⟩
  ·have p5 : (k == 11) = false := by simp [h5]
   have H5 := show Hid _ from h5
   clear h5
   go_wp2_with fail
   go_ret
   exact ⟨B4 (by have := H.out; have := H4.out; have := H5.out; unfold o6; rw [if_neg (by omega), if_neg (by omega), if_neg (by omega), if_neg (by omega)]), rfl⟩
theorem aa8 {nv na d c : Nat} {e : b9} (h1 : B7 nv na e = true) (h2 : R3 e = true) : A2 nv na (d + 1) c e = y9 nv na d (c + 1) e.kids e.kids.length := by
 unfold A2 y9
 rw [bS6 (bS8 _), l0, h1, h2, J0]
 simp
theorem W7 {nv na d c k : Nat} {ks : List b9} (hk : k < ks.length) (hs : A2 nv na d (c + s8 (ks.take k)) ks[k] = false) : y9 nv na d c ks ks.length = false := by
 unfold y9
 rw [bS6 (bS8 _)]
 exact aN8 nv na hk hs
theorem N9 {nv na d c : Nat} {e : b9} (h1 : B7 nv na e = false) : A2 nv na (d + 1) c e = false := by
 unfold A2; rw [l0, h1]; rfl
theorem aN9 {nv na d c : Nat} {e : b9} (h1 : R3 e = false) : A2 nv na (d + 1) c e = false := by
 unfold A2; rw [l0, h1]; simp
theorem ab2 {nv na : Nat} {k n h : Int} (hh : h = K8 nv na k - 1) : (decide (0 ≤ n) && decide (n ≤ h)) = (decide (0 ≤ n) && decide (n < K8 nv na k)) := by
 congr 1; exact decide_eq_decide.2 (by omega)
theorem bf6 (a1 a2 : Option Addr) (nv c1 na c2 : Nat) (v3 : Value) (h1 : nv ≤ 9223372036854775807) (h2 : na ≤ 9223372036854775807) : ∀ (d : Nat) (deep : Int), deep + d = 6 → 1 ≤ deep → ∀ (e : b9) (φ : Nat → Prop) (v : Value) (c cb : Nat) (w : World), L1 w φ v e → ¬ φ cb → Y9 w cb [.int .i64 c] → c ≤ 15 →
  Calls Tryz.prog 249 #[.agg #[.slice a1 nv c1, .slice a2 na c2, v3], v, .int .i64 deep, .pointer (some ⟨cb, 0, none⟩)] w fun x w' =>
   x = .returned (.bool (A2 nv na d c e)) ∧ (A2 nv na d c e = true → Y9 w' cb [.int .i64 (c + 1 + L4 e : Nat)]) ∧ (∃ u, Y9 w' cb [u]) ∧ C6 (fun b => ¬ b = cb) w w' := by
 intro d
 induction d with
 | zero =>
  intro deep hdp hd1 e φ v c cb w h hcb hblk hc
  obtain ⟨kv, rfl, hk⟩ := h
  have HF : Hid (A2 nv na 0 c e = false) := rfl
  obtain rfl : deep = 6 := by omega
  have hl := hblk.lt
  have x0 : w.cell? ⟨cb, 0, none⟩ = some (.int .i64 c) := (hblk.cell 0).trans rfl
  have f0 := hblk.free
  obtain ⟨W, hW, M⟩ : ∃ W, W = (((w.setCell ⟨cb, 0, none⟩ (.int .i64 ((c : Int) + 1))).alloc (.cells #[.slice a1 nv c1, .slice a2 na c2, v3] 26)).alloc (.cells #[.int .i64 e.kind, .int .i64 e.value, kv] 104)) ∧ r8 (fun _ => True) (fun b => ¬ b = cb) w W [.box cb [.int .i64 ((c : Int) + 1)]] :=
   ⟨_, rfl, (((r8.start fun _ _ => trivial).adopt (.box cb [.int .i64 c]) (fun _ ha => by cases ha) bR2 hblk (fun _ ha => by cases ha) (fun g hg hn => by cases hg; exact hn rfl)).set 0 rfl 0 (.int .i64 ((c : Int) + 1))).call (by go_grown)⟩
  have y0 := M.c 0 0 rfl rfl
  have z0 := fun X => n7 y0 X
  clear hk y0 hblk
  by_cases q : (15 : Int) < (c : Int) + 1
  ·have p : decide ((15 : Int) < (c : Int) + 1) = true := by simp; omega
   clear q
   go_enter Tryz.func249, Tryz.ntmps249
   go_wp2_with fail
   rw [← hW]
   clear hW
   refine t5 (by kernel_rfl) (by kernel_rfl) ?_
   repeat (any_goals (first | go_big_quiet_step (((fail))) | quiet_step (((fail)))))
   refine wpQuiet_nil ?_
   rintro _ ⟨X, rfl⟩
   replace M := M.call (v9 W X)
   go_wp2_with fail
   go_ret
   exact ⟨f8 (by rw [HF.out]), fun h => absurd (h.symm.trans HF.out) (by simp), ⟨_, M.blk 0 rfl⟩, M.kept⟩
  ·have p : decide ((15 : Int) < (c : Int) + 1) = false := by simp; omega
   clear q
   go_enter Tryz.func249, Tryz.ntmps249
   go_wp2_with fail
   rw [← hW]
   clear hW
   refine t5 (by kernel_rfl) (by kernel_rfl) ?_
   repeat (any_goals (first | go_big_quiet_step (((fail))) | quiet_step (((fail)))))
   refine wpQuiet_nil ?_
   rintro _ ⟨X, rfl⟩
   replace M := M.call (v9 W X)
   go_wp2_with fail
   go_ret
   exact ⟨f8 (by rw [HF.out]), fun h => absurd (h.symm.trans HF.out) (by simp), ⟨_, M.blk 0 rfl⟩, M.kept⟩
 | succ d ih =>
  intro deep hdp hd1 e φ v c cb w h hcb hblk hc
  obtain ⟨kv, rfl, hk⟩ := h
  obtain ⟨ak, ck, rfl, -, hn, -, -⟩ := hk.open
  have hl := hblk.lt
  have hd5 : deep ≤ 5 := by omega
  obtain ⟨φ', hφ'⟩ : ∃ φ' : Nat → Prop, φ' = fun b => φ b ∨ w.heap.size ≤ b := ⟨_, rfl⟩
  have x0 : w.cell? ⟨cb, 0, none⟩ = some (.int .i64 c) := (hblk.cell 0).trans rfl
  have f0 := hblk.free
  obtain ⟨W, hW, M⟩ : ∃ W, W = (((w.setCell ⟨cb, 0, none⟩ (.int .i64 ((c : Int) + 1))).alloc (.cells #[.slice a1 nv c1, .slice a2 na c2, v3] 26)).alloc (.cells #[.int .i64 e.kind, .int .i64 e.value, .slice ak e.kids.length ck] 104)) ∧
    r8 φ' (fun b => ¬ b = cb) w W [.box cb [.int .i64 ((c : Int) + 1)], .box w.heap.size [.slice a1 nv c1, .slice a2 na c2, v3], .box (w.heap.size + 1) [.int .i64 e.kind, .int .i64 e.value, .slice ak e.kids.length ck], .dat (fun w φ => s7 w φ (.slice ak e.kids.length ck) e.kids)] := by
   refine ⟨_, rfl, (((((r8.start (by rw [hφ']; exact fun _ h => .inr h)).adopt (.box cb [.int .i64 c]) (fun _ ha => by cases ha) bR2 hblk (fun _ ha => by cases ha) (fun g hg hn => by cases hg; exact hn rfl)).set 0 rfl 0 (.int .i64 ((c : Int) + 1))).box' _ _ (by simp)).box' _ _ (by simp)).dat (s7.nice _ _) (s7.nice _ _ _ _ _ _ ⟨by simp; omega, fun b hb hf => ⟨⟨by rw [hφ']; exact .inl hf, fun r hr he => ?_⟩, ?_⟩⟩ hk)⟩
   ·simp at hr
    rcases hr with rfl | rfl | rfl
    ·cases he; exact hcb hf
    ·cases he; omega
    ·cases he; omega
   ·have hbc : b ≠ cb := fun he => hcb (he ▸ hf)
    exact (((Below.refl w.heap.size (w.setCell ⟨cb, 0, none⟩ (.int .i64 ((c : Int) + 1)))).alloc (by simp) _ |>.alloc (by simp) _).block b (by simpa using hb)).trans (Below.heap_setCell _ _ _ _ hbc)
  clear hk hblk hφ'
  have y0 := M.c 0 0 rfl rfl
  have y1 := M.c 2 0 rfl rfl
  have y2 := M.c 2 2 rfl rfl
  have z0 := fun X => n7 y0 X
  have z1 := fun X => n7 y1 X
  have z2 := fun X => n7 y2 X
  have HA : Hid (∀ X, Calls Tryz.prog 260 #[.int .i64 e.kind] (W.ext X) fun x w'' => x = .returned (.int .i64 (o6 e.kind)) ∧ ∃ Y, w'' = W.ext Y) := fun X =>
   Calls.ext_of' ((aH3 e.kind _).mono fun x w' h => ⟨h.1, h.2 ▸ Below.refl _ _⟩)
  clear y0 y1 y2
  have p2 : decide ((5 : Int) < deep) = false := decide_eq_false (by omega)
  by_cases q1 : (15 : Int) < (c : Int) + 1
  ·have p1 : decide ((15 : Int) < (c : Int) + 1) = true := decide_eq_true q1
   have HF : Hid (A2 nv na (d + 1) c e = false) := by unfold Hid A2; rw [decide_eq_false (by omega), Bool.and_false]
   clear q1
   go_enter Tryz.func249, Tryz.ntmps249
   go_wp2_with fail
   rw [← hW]
   clear hW
   refine t5 (by kernel_rfl) (by kernel_rfl) ?_
   repeat (any_goals (first | go_big_quiet_step (((go_at_call 260; exact HA.out _))) | quiet_step (((go_at_call 260; exact HA.out _)))))
   refine wpQuiet_nil ?_
   rintro _ ⟨X, rfl⟩
   replace M := M.call (v9 W X)
   go_wp2_with fail
   go_ret
   exact ⟨f8 (by rw [HF.out]), fun h => absurd (h.symm.trans HF.out) (by simp), ⟨_, M.blk 0 rfl⟩, M.kept⟩
  have p1 : decide ((15 : Int) < (c : Int) + 1) = false := decide_eq_false q1
  by_cases q3 : (e.kids.length : Int) = o6 e.kind
  case neg =>
   have p3 : (o6 e.kind != (e.kids.length : Int)) = true := by simp; omega
   have HF : Hid (A2 nv na (d + 1) c e = false) := N9 (by unfold B7; rw [decide_eq_false q3]; rfl)
   clear q1 q3
   go_enter Tryz.func249, Tryz.ntmps249
   go_wp2_with fail
   rw [← hW]
   clear hW
   refine t5 (by kernel_rfl) (by kernel_rfl) ?_
   repeat (any_goals (first | go_big_quiet_step (((go_at_call 260; exact HA.out _))) | quiet_step (((go_at_call 260; exact HA.out _)))))
   refine wpQuiet_nil ?_
   rintro _ ⟨X, rfl⟩
   replace M := M.call (v9 W X)
   go_wp2_with fail
   go_ret
   exact ⟨f8 (by rw [HF.out]), fun h => absurd (h.symm.trans HF.out) (by simp), ⟨_, M.blk 0 rfl⟩, M.kept⟩
  have p3 : (o6 e.kind != (e.kids.length : Int)) = false := by simp; omega
  have HQ := show Hid _ from And.intro q1 q3
  clear q1 q3
  go_enter Tryz.func249, Tryz.ntmps249
  go_wp2_with fail
  rw [← hW]
  clear hW
  refine t5 (by kernel_rfl) (by kernel_rfl) ?_
  repeat (any_goals (first | go_big_quiet_step (((go_at_call 260; exact HA.out _))) | quiet_step (((go_at_call 260; exact HA.out _)))))
  refine wpQuiet_nil ?_
  rintro _ ⟨X, rfl⟩
  replace M := M.call (v9 W X)
  generalize W.ext X = W1 at *
  clear z0 z1 z2 HA p1 p2 p3 f0 x0
  have y0 := M.c 1 0 rfl rfl
  have y1 := M.c 1 1 rfl rfl
  have y2 := M.c 2 0 rfl rfl
  have y3 := M.c 2 1 rfl rfl
  have y4 := M.c 2 2 rfl rfl
  have HM := show Hid _ from M
  clear M
  by_cases k1 : e.kind = 1
  ·have qq1 : (e.kind == 1) = true := by simp [k1]
   have qq2 : (e.kind == 3) = false := by simp [k1]
   have HRD : Hid (R3 e = true) := by unfold Hid R3; simp [k1]
   have hhi : (255 : Int) = K8 nv na e.kind - 1 := by rw [k1]; simp [K8]
   clear k1
   have HNB := show Hid (B7 nv na e = (decide (0 ≤ e.value) && decide (e.value ≤ 255))) from by
    unfold Hid B7; rw [decide_eq_true HQ.out.2, ab2 hhi]; rfl
   clear hhi
   go_wp2_with fail
   refine (A7 e.value 0 _ _).mono ?_
   rintro x w1 ⟨rfl, rfl⟩
   have HNB2 := show Hid (B7 nv na e = (decide (0 ≤ e.value) && decide (e.value ≤ 255))) from HNB.out
   clear HNB
   obtain ⟨qn, hqn⟩ : ∃ qn, qn = (decide (0 ≤ e.value) && decide (e.value ≤ 255)) := ⟨_, rfl⟩
   rw [← hqn]
   have HN := show Hid (B7 nv na e = qn) from HNB2.out.trans hqn.symm
   clear hqn HNB2
   cases qn
   ·have HF : Hid (A2 nv na (d + 1) c e = false) := N9 HN.out
    have M := HM.out
    clear HM
    go_wp2_with fail
    go_ret
    exact ⟨f8 (by rw [HF.out]), fun h => absurd (h.symm.trans HF.out) (by simp), ⟨_, M.blk 0 rfl⟩, M.kept⟩
   have HSC : Hid (A2 nv na (d + 1) c e = y9 nv na d (c + 1) e.kids e.kids.length) := aa8 HN.out HRD.out
   go_wp2_with fail
   clear y0 y1 y2 y3 y4
   have HST : Hid (y9 nv na d (c + 1) e.kids 0 = true ∧ r8 φ' (fun b => ¬ b = cb) w W1 [.box cb [.int .i64 (c + 1 + s8 (e.kids.take 0) : Nat)], .box w.heap.size [.slice a1 nv c1, .slice a2 na c2, v3], .box (w.heap.size + 1) [.int .i64 e.kind, .int .i64 e.value, .slice ak e.kids.length ck], .dat (fun w φ => s7 w φ (.slice ak e.kids.length ck) e.kids)]) := by
    refine ⟨?_, ?_⟩
    ·have := HQ.out.1
     simp [y9, s8]; omega
    ·rw [show ((c + 1 + s8 (e.kids.take 0) : Nat) : Int) = (c : Int) + 1 by simp [s8]]
     exact HM.out
   go_loopw [71] (fun i wr => ∃ k : Nat, k ≤ e.kids.length ∧ i = .int .i64 k ∧ y9 nv na d (c + 1) e.kids k = true ∧ r8 φ' (fun b => ¬ b = cb) w wr [.box cb [.int .i64 (c + 1 + s8 (e.kids.take k) : Nat)], .box w.heap.size [.slice a1 nv c1, .slice a2 na c2, v3], .box (w.heap.size + 1) [.int .i64 e.kind, .int .i64 e.value, .slice ak e.kids.length ck], .dat (fun w φ => s7 w φ (.slice ak e.kids.length ck) e.kids)]) (fun i _ => e.kids.length - (intOf i).toNat)
   case atStart => exact ⟨0, bU3 _, rfl, HST.out.1, HST.out.2⟩
   case round =>
    clear HM
    obtain ⟨k, hk, rfl, hpre, M⟩ := hrel
    have HPRE := show Hid _ from hpre
    have hle : c + 1 + s8 (e.kids.take k) ≤ 15 := by unfold y9 at hpre; simp at hpre; exact hpre.2
    clear hpre
    by_cases hlt : k < e.kids.length
    ·have hncb : ¬ Fr φ' [.box cb [.int .i64 (c + 1 + s8 (e.kids.take k) : Nat)], .box w.heap.size [.slice a1 nv c1, .slice a2 na c2, v3], .box (w.heap.size + 1) [.int .i64 e.kind, .int .i64 e.value, .slice ak e.kids.length ck], .dat (fun w φ => s7 w φ (.slice ak e.kids.length ck) e.kids)] cb := fun h => h.2 _ bS4 rfl
     obtain ⟨a', c', he, -, -, -, hcell⟩ := (M.d 3 rfl).open
     cases he
     obtain ⟨b, off, kv, hbo, hbk, hf, g0, g1, g2, hkk⟩ := hcell k hlt
     cases hbo
     obtain ⟨ka, kc, rfl, -, -, -, -⟩ := hkk.open
     have bz : Below wr.heap.size wr (wr.alloc (.cells #[.int .i64 e.kids[k].kind, .int .i64 e.kids[k].value, .slice ka e.kids[k].kids.length kc] 104)) := by go_grown
     have HE := show Hid _ from s7.nice _ _ _ _ _ _ (T3.below bz) hkk
     have HNCB := show Hid _ from hncb
     have x0 := M.c 1 0 rfl rfl
     have x1 := M.c 1 1 rfl rfl
     have x2 := M.c 1 2 rfl rfl
     have s1 : w.heap.size < wr.heap.size := M.lt (r := .box w.heap.size [.slice a1 nv c1, .slice a2 na c2, v3]) (bS9 _ bS4) rfl
     have HM := show Hid _ from M.box [.int .i64 e.kids[k].kind, .int .i64 e.kids[k].value, .slice ka e.kids[k].kids.length kc] 104
     have HP := show Hid _ from T5 nv na (d := d) (c := c + 1) hlt
     have HX := show Hid (A2 nv na d (c + 1 + s8 (e.kids.take k)) e.kids[k] = false → A2 nv na (d + 1) c e = false) from fun h => HSC.out.trans (W7 hlt h)
     have HT := show Hid _ from U7 hlt
     clear hcell hncb bz hkk M
     go_wp2_with fail
     refine (ih (deep + 1) (by omega) (by omega) e.kids[k] _ _ (c + 1 + s8 (e.kids.take k)) cb _ ⟨_, rfl, HE.out⟩ HNCB.out (HM.out.blk 0 rfl) hle).mono ?_
     rintro x w2 ⟨rfl, r1, ⟨u, r2⟩, kp⟩
     obtain ⟨q, hq⟩ : ∃ q, q = A2 nv na d (c + 1 + s8 (e.kids.take k)) e.kids[k] := ⟨_, rfl⟩
     rw [← hq] at r1 ⊢
     have HQ2 := show Hid _ from hq
     clear hq x0 x1 x2 g0 g1 g2
     cases q
     ·have M2 := HM.out.callB 0 rfl kp r2
      have HF := show Hid _ from HX.out HQ2.out.symm
      clear r1 r2 kp
      go_wp2_with fail
      go_ret
      exact ⟨f8 (by rw [HF.out]), fun h => absurd (h.symm.trans HF.out) (by simp), ⟨_, M2.blk 0 rfl⟩, M2.kept⟩
     ·have M2 := (HM.out.callB 0 rfl kp (r1 rfl)).take 4
      have HM2 := show Hid _ from M2
      clear r1 r2 kp M2
      go_wp2_with fail
      refine ⟨⟨k + 1, by omega, by go_num, by rw [HP.out, HPRE.out, ← HQ2.out]; rfl, ?_⟩, by simp [intOf]; omega⟩
      rw [HT.out, show c + 1 + (s8 (e.kids.take k) + (1 + L4 e.kids[k])) = c + 1 + s8 (e.kids.take k) + 1 + L4 e.kids[k] by omega]
      exact HM2.out
    ·have hkn : k = e.kids.length := by omega
     subst hkn
     have HM := show Hid _ from M
     have HS : Hid (A2 nv na (d + 1) c e = true) := HSC.out.trans HPRE.out
     clear M
     go_wp2_with fail
     go_ret
     refine ⟨f8 (by rw [HS.out]), fun _ => ?_, ⟨_, HM.out.blk 0 rfl⟩, HM.out.kept⟩
     have := HM.out.blk 0 rfl
     rw [bS6 (bS8 _)] at this
     rw [J0]
     exact this
  have k1' : (e.kind == 1) = false := by simp [k1]
  by_cases k2 : e.kind = 2
  ·have qq1 : (e.kind == 2) = true := by simp [k2]
   have qq2 : (e.kind == 3) = false := by simp [k2]
   have HRD : Hid (R3 e = true) := by unfold Hid R3; simp [k2]
   have hhi : (nv : Int) - 1 = K8 nv na e.kind - 1 := by rw [k2]; simp [K8]
   clear k1 k2
   have HNB := show Hid (B7 nv na e = (decide (0 ≤ e.value) && decide (e.value ≤ (nv : Int) - 1))) from by
    unfold Hid B7; rw [decide_eq_true HQ.out.2, ab2 hhi]; rfl
   clear hhi
   go_wp2_with fail
   refine (A7 e.value 0 _ _).mono ?_
   rintro x w1 ⟨rfl, rfl⟩
   have HNB2 := show Hid (B7 nv na e = (decide (0 ≤ e.value) && decide (e.value ≤ (nv : Int) - 1))) from HNB.out
   clear HNB
   obtain ⟨qn, hqn⟩ : ∃ qn, qn = (decide (0 ≤ e.value) && decide (e.value ≤ (nv : Int) - 1)) := ⟨_, rfl⟩
   rw [← hqn]
   have HN := show Hid (B7 nv na e = qn) from HNB2.out.trans hqn.symm
   clear hqn HNB2
   cases qn
   ·have HF : Hid (A2 nv na (d + 1) c e = false) := N9 HN.out
    have M := HM.out
    clear HM
    go_wp2_with fail
    go_ret
    exact ⟨f8 (by rw [HF.out]), fun h => absurd (h.symm.trans HF.out) (by simp), ⟨_, M.blk 0 rfl⟩, M.kept⟩
   have HSC : Hid (A2 nv na (d + 1) c e = y9 nv na d (c + 1) e.kids e.kids.length) := aa8 HN.out HRD.out
   go_wp2_with fail
   clear y0 y1 y2 y3 y4
   have HST : Hid (y9 nv na d (c + 1) e.kids 0 = true ∧ r8 φ' (fun b => ¬ b = cb) w W1 [.box cb [.int .i64 (c + 1 + s8 (e.kids.take 0) : Nat)], .box w.heap.size [.slice a1 nv c1, .slice a2 na c2, v3], .box (w.heap.size + 1) [.int .i64 e.kind, .int .i64 e.value, .slice ak e.kids.length ck], .dat (fun w φ => s7 w φ (.slice ak e.kids.length ck) e.kids)]) := by
    refine ⟨?_, ?_⟩
    ·have := HQ.out.1
     simp [y9, s8]; omega
    ·rw [show ((c + 1 + s8 (e.kids.take 0) : Nat) : Int) = (c : Int) + 1 by simp [s8]]
     exact HM.out
   go_loopw [71] (fun i wr => ∃ k : Nat, k ≤ e.kids.length ∧ i = .int .i64 k ∧ y9 nv na d (c + 1) e.kids k = true ∧ r8 φ' (fun b => ¬ b = cb) w wr [.box cb [.int .i64 (c + 1 + s8 (e.kids.take k) : Nat)], .box w.heap.size [.slice a1 nv c1, .slice a2 na c2, v3], .box (w.heap.size + 1) [.int .i64 e.kind, .int .i64 e.value, .slice ak e.kids.length ck], .dat (fun w φ => s7 w φ (.slice ak e.kids.length ck) e.kids)]) (fun i _ => e.kids.length - (intOf i).toNat)
   case atStart => exact ⟨0, bU3 _, rfl, HST.out.1, HST.out.2⟩
   case round =>
    clear HM
    obtain ⟨k, hk, rfl, hpre, M⟩ := hrel
    have HPRE := show Hid _ from hpre
    have hle : c + 1 + s8 (e.kids.take k) ≤ 15 := by unfold y9 at hpre; simp at hpre; exact hpre.2
    clear hpre
    by_cases hlt : k < e.kids.length
    ·have hncb : ¬ Fr φ' [.box cb [.int .i64 (c + 1 + s8 (e.kids.take k) : Nat)], .box w.heap.size [.slice a1 nv c1, .slice a2 na c2, v3], .box (w.heap.size + 1) [.int .i64 e.kind, .int .i64 e.value, .slice ak e.kids.length ck], .dat (fun w φ => s7 w φ (.slice ak e.kids.length ck) e.kids)] cb := fun h => h.2 _ bS4 rfl
     obtain ⟨a', c', he, -, -, -, hcell⟩ := (M.d 3 rfl).open
     cases he
     obtain ⟨b, off, kv, hbo, hbk, hf, g0, g1, g2, hkk⟩ := hcell k hlt
     cases hbo
     obtain ⟨ka, kc, rfl, -, -, -, -⟩ := hkk.open
     have bz : Below wr.heap.size wr (wr.alloc (.cells #[.int .i64 e.kids[k].kind, .int .i64 e.kids[k].value, .slice ka e.kids[k].kids.length kc] 104)) := by go_grown
     have HE := show Hid _ from s7.nice _ _ _ _ _ _ (T3.below bz) hkk
     have HNCB := show Hid _ from hncb
     have x0 := M.c 1 0 rfl rfl
     have x1 := M.c 1 1 rfl rfl
     have x2 := M.c 1 2 rfl rfl
     have s1 : w.heap.size < wr.heap.size := M.lt (r := .box w.heap.size [.slice a1 nv c1, .slice a2 na c2, v3]) (bS9 _ bS4) rfl
     have HM := show Hid _ from M.box [.int .i64 e.kids[k].kind, .int .i64 e.kids[k].value, .slice ka e.kids[k].kids.length kc] 104
     have HP := show Hid _ from T5 nv na (d := d) (c := c + 1) hlt
     have HX := show Hid (A2 nv na d (c + 1 + s8 (e.kids.take k)) e.kids[k] = false → A2 nv na (d + 1) c e = false) from fun h => HSC.out.trans (W7 hlt h)
     have HT := show Hid _ from U7 hlt
     clear hcell hncb bz hkk M
     go_wp2_with fail
     refine (ih (deep + 1) (by omega) (by omega) e.kids[k] _ _ (c + 1 + s8 (e.kids.take k)) cb _ ⟨_, rfl, HE.out⟩ HNCB.out (HM.out.blk 0 rfl) hle).mono ?_
     rintro x w2 ⟨rfl, r1, ⟨u, r2⟩, kp⟩
     obtain ⟨q, hq⟩ : ∃ q, q = A2 nv na d (c + 1 + s8 (e.kids.take k)) e.kids[k] := ⟨_, rfl⟩
     rw [← hq] at r1 ⊢
     have HQ2 := show Hid _ from hq
     clear hq x0 x1 x2 g0 g1 g2
     cases q
     ·have M2 := HM.out.callB 0 rfl kp r2
      have HF := show Hid _ from HX.out HQ2.out.symm
      clear r1 r2 kp
      go_wp2_with fail
      go_ret
      exact ⟨f8 (by rw [HF.out]), fun h => absurd (h.symm.trans HF.out) (by simp), ⟨_, M2.blk 0 rfl⟩, M2.kept⟩
     ·have M2 := (HM.out.callB 0 rfl kp (r1 rfl)).take 4
      have HM2 := show Hid _ from M2
      clear r1 r2 kp M2
      go_wp2_with fail
      refine ⟨⟨k + 1, by omega, by go_num, by rw [HP.out, HPRE.out, ← HQ2.out]; rfl, ?_⟩, by simp [intOf]; omega⟩
      rw [HT.out, show c + 1 + (s8 (e.kids.take k) + (1 + L4 e.kids[k])) = c + 1 + s8 (e.kids.take k) + 1 + L4 e.kids[k] by omega]
      exact HM2.out
    ·have hkn : k = e.kids.length := by omega
     subst hkn
     have HM := show Hid _ from M
     have HS : Hid (A2 nv na (d + 1) c e = true) := HSC.out.trans HPRE.out
     clear M
     go_wp2_with fail
     go_ret
     refine ⟨f8 (by rw [HS.out]), fun _ => ?_, ⟨_, HM.out.blk 0 rfl⟩, HM.out.kept⟩
     have := HM.out.blk 0 rfl
     rw [bS6 (bS8 _)] at this
     rw [J0]
     exact this
  have k2' : (e.kind == 2) = false := by simp [k2]
  by_cases k3 : e.kind = 3
  ·have qq1 : (e.kind == 3) = true := by simp [k3]
   have qq2 := k2'
   have HRD : Hid (e.kind = 3) := k3
   have hhi : (na : Int) - 1 = K8 nv na e.kind - 1 := by rw [k3]; simp [K8]
   clear k1 k2 k3
   have HNB := show Hid (B7 nv na e = (decide (0 ≤ e.value) && decide (e.value ≤ (na : Int) - 1))) from by
    unfold Hid B7; rw [decide_eq_true HQ.out.2, ab2 hhi]; rfl
   clear hhi
   go_wp2_with fail
   refine (A7 e.value 0 _ _).mono ?_
   rintro x w1 ⟨rfl, rfl⟩
   have HNB2 := show Hid (B7 nv na e = (decide (0 ≤ e.value) && decide (e.value ≤ (na : Int) - 1))) from HNB.out
   clear HNB
   obtain ⟨qn, hqn⟩ : ∃ qn, qn = (decide (0 ≤ e.value) && decide (e.value ≤ (na : Int) - 1)) := ⟨_, rfl⟩
   rw [← hqn]
   have HN := show Hid (B7 nv na e = qn) from HNB2.out.trans hqn.symm
   clear hqn HNB2
   cases qn
   ·have HF : Hid (A2 nv na (d + 1) c e = false) := N9 HN.out
    have M := HM.out
    clear HM
    go_wp2_with fail
    go_ret
    exact ⟨f8 (by rw [HF.out]), fun h => absurd (h.symm.trans HF.out) (by simp), ⟨_, M.blk 0 rfl⟩, M.kept⟩
   have hl1 : e.kids.length = 1 := by have := HQ.out.2; rw [HRD.out] at this; simp [o6] at this; omega
   have hpos : 0 < (e.kids.length : Int) := by omega
   obtain ⟨a', c', he, -, -, -, hcell⟩ := (HM.out.d 3 rfl).open
   have e1 : ak = a' := by cases he; rfl
   have e2 : ck = c' := by cases he; rfl
   subst e1 e2
   obtain ⟨b, off, kv, rfl, hbk, hf, g0, g1, g2, hkk⟩ := hcell 0 (by omega)
   simp only [Nat.zero_mul, Nat.add_zero] at g0 g1 g2
   have HR := show Hid _ from aK3 HRD.out (by omega)
   clear hcell hkk
   go_wp2_with fail
   refine (ap0 _ _ _ _).mono ?_
   rintro x w2 ⟨rfl, b2⟩
   replace HM := show Hid _ from HM.out.call b2
   obtain ⟨qr, hqr⟩ : ∃ qr, qr = (decide ((e.kids[0]'(by omega)).kind = 1) || decide ((e.kids[0]'(by omega)).kind = 2)) := ⟨_, rfl⟩
   rw [← hqr]
   have HRR := show Hid (R3 e = qr) from HR.out.trans hqr.symm
   clear hqr b2 HR g0 g1 g2
   cases qr
   ·have HF : Hid (A2 nv na (d + 1) c e = false) := aN9 HRR.out
    have M := HM.out
    clear HM
    go_wp2_with fail
    go_ret
    exact ⟨f8 (by rw [HF.out]), fun h => absurd (h.symm.trans HF.out) (by simp), ⟨_, M.blk 0 rfl⟩, M.kept⟩
   clear y0 y1 y2 y3 y4
   have y4 := HM.out.c 2 2 rfl rfl
   have HSC : Hid (A2 nv na (d + 1) c e = y9 nv na d (c + 1) e.kids e.kids.length) := aa8 HN.out HRR.out
   go_wp2_with fail
   clear y4
   have HST : Hid (y9 nv na d (c + 1) e.kids 0 = true ∧ r8 φ' (fun b => ¬ b = cb) w w2 [.box cb [.int .i64 (c + 1 + s8 (e.kids.take 0) : Nat)], .box w.heap.size [.slice a1 nv c1, .slice a2 na c2, v3], .box (w.heap.size + 1) [.int .i64 e.kind, .int .i64 e.value, .slice (some ⟨b, off, none⟩) e.kids.length ck], .dat (fun w φ => s7 w φ (.slice (some ⟨b, off, none⟩) e.kids.length ck) e.kids)]) := by
    refine ⟨?_, ?_⟩
    ·have := HQ.out.1
     simp [y9, s8]; omega
    ·rw [show ((c + 1 + s8 (e.kids.take 0) : Nat) : Int) = (c : Int) + 1 by simp [s8]]
     exact HM.out
   go_loopw [71] (fun i wr => ∃ k : Nat, k ≤ e.kids.length ∧ i = .int .i64 k ∧ y9 nv na d (c + 1) e.kids k = true ∧ r8 φ' (fun b => ¬ b = cb) w wr [.box cb [.int .i64 (c + 1 + s8 (e.kids.take k) : Nat)], .box w.heap.size [.slice a1 nv c1, .slice a2 na c2, v3], .box (w.heap.size + 1) [.int .i64 e.kind, .int .i64 e.value, .slice (some ⟨b, off, none⟩) e.kids.length ck], .dat (fun w φ => s7 w φ (.slice (some ⟨b, off, none⟩) e.kids.length ck) e.kids)]) (fun i _ => e.kids.length - (intOf i).toNat)
   case atStart => exact ⟨0, bU3 _, rfl, HST.out.1, HST.out.2⟩
   case round =>
    clear HM
    obtain ⟨k, hk, rfl, hpre, M⟩ := hrel
    have HPRE := show Hid _ from hpre
    have hle : c + 1 + s8 (e.kids.take k) ≤ 15 := by unfold y9 at hpre; simp at hpre; exact hpre.2
    clear hpre
    by_cases hlt : k < e.kids.length
    ·have hncb : ¬ Fr φ' [.box cb [.int .i64 (c + 1 + s8 (e.kids.take k) : Nat)], .box w.heap.size [.slice a1 nv c1, .slice a2 na c2, v3], .box (w.heap.size + 1) [.int .i64 e.kind, .int .i64 e.value, .slice (some ⟨b, off, none⟩) e.kids.length ck], .dat (fun w φ => s7 w φ (.slice (some ⟨b, off, none⟩) e.kids.length ck) e.kids)] cb := fun h => h.2 _ bS4 rfl
     obtain ⟨a', c', he, -, -, -, hcell⟩ := (M.d 3 rfl).open
     cases he
     obtain ⟨b, off, kv, hbo, hbk, hf, g0, g1, g2, hkk⟩ := hcell k hlt
     cases hbo
     obtain ⟨ka, kc, rfl, -, -, -, -⟩ := hkk.open
     have bz : Below wr.heap.size wr (wr.alloc (.cells #[.int .i64 e.kids[k].kind, .int .i64 e.kids[k].value, .slice ka e.kids[k].kids.length kc] 104)) := by go_grown
     have HE := show Hid _ from s7.nice _ _ _ _ _ _ (T3.below bz) hkk
     have HNCB := show Hid _ from hncb
     have x0 := M.c 1 0 rfl rfl
     have x1 := M.c 1 1 rfl rfl
     have x2 := M.c 1 2 rfl rfl
     have s1 : w.heap.size < wr.heap.size := M.lt (r := .box w.heap.size [.slice a1 nv c1, .slice a2 na c2, v3]) (bS9 _ bS4) rfl
     have HM := show Hid _ from M.box [.int .i64 e.kids[k].kind, .int .i64 e.kids[k].value, .slice ka e.kids[k].kids.length kc] 104
     have HP := show Hid _ from T5 nv na (d := d) (c := c + 1) hlt
     have HX := show Hid (A2 nv na d (c + 1 + s8 (e.kids.take k)) e.kids[k] = false → A2 nv na (d + 1) c e = false) from fun h => HSC.out.trans (W7 hlt h)
     have HT := show Hid _ from U7 hlt
     clear hcell hncb bz hkk M
     go_wp2_with fail
     refine (ih (deep + 1) (by omega) (by omega) e.kids[k] _ _ (c + 1 + s8 (e.kids.take k)) cb _ ⟨_, rfl, HE.out⟩ HNCB.out (HM.out.blk 0 rfl) hle).mono ?_
     rintro x w2 ⟨rfl, r1, ⟨u, r2⟩, kp⟩
     obtain ⟨q, hq⟩ : ∃ q, q = A2 nv na d (c + 1 + s8 (e.kids.take k)) e.kids[k] := ⟨_, rfl⟩
     rw [← hq] at r1 ⊢
     have HQ2 := show Hid _ from hq
     clear hq x0 x1 x2 g0 g1 g2
     cases q
     ·have M2 := HM.out.callB 0 rfl kp r2
      have HF := show Hid _ from HX.out HQ2.out.symm
      clear r1 r2 kp
      go_wp2_with fail
      go_ret
      exact ⟨f8 (by rw [HF.out]), fun h => absurd (h.symm.trans HF.out) (by simp), ⟨_, M2.blk 0 rfl⟩, M2.kept⟩
     ·have M2 := (HM.out.callB 0 rfl kp (r1 rfl)).take 4
      have HM2 := show Hid _ from M2
      clear r1 r2 kp M2
      go_wp2_with fail
      refine ⟨⟨k + 1, by omega, by go_num, by rw [HP.out, HPRE.out, ← HQ2.out]; rfl, ?_⟩, by simp [intOf]; omega⟩
      rw [HT.out, show c + 1 + (s8 (e.kids.take k) + (1 + L4 e.kids[k])) = c + 1 + s8 (e.kids.take k) + 1 + L4 e.kids[k] by omega]
      exact HM2.out
    ·have hkn : k = e.kids.length := by omega
     subst hkn
     have HM := show Hid _ from M
     have HS : Hid (A2 nv na (d + 1) c e = true) := HSC.out.trans HPRE.out
     clear M
     go_wp2_with fail
     go_ret
     refine ⟨f8 (by rw [HS.out]), fun _ => ?_, ⟨_, HM.out.blk 0 rfl⟩, HM.out.kept⟩
     have := HM.out.blk 0 rfl
     rw [bS6 (bS8 _)] at this
     rw [J0]
     exact this
  have qq1 : (e.kind == 3) = false := by simp [k3]
  have qq2 := qq1
  have HRD : Hid (R3 e = true) := by unfold Hid R3; simp [k3]
  have hhi : (0 : Int) = K8 nv na e.kind - 1 := by unfold K8; rw [if_neg k1, if_neg k2, if_neg k3]; rfl
  clear k1 k2 k3
  have HNB := show Hid (B7 nv na e = (decide (0 ≤ e.value) && decide (e.value ≤ 0))) from by
   unfold Hid B7; rw [decide_eq_true HQ.out.2, ab2 hhi]; rfl
  clear hhi
  go_wp2_with fail
  refine (A7 e.value 0 _ _).mono ?_
  rintro x w1 ⟨rfl, rfl⟩
  have HNB2 := show Hid (B7 nv na e = (decide (0 ≤ e.value) && decide (e.value ≤ 0))) from HNB.out
  clear HNB
  obtain ⟨qn, hqn⟩ : ∃ qn, qn = (decide (0 ≤ e.value) && decide (e.value ≤ 0)) := ⟨_, rfl⟩
  rw [← hqn]
  have HN := show Hid (B7 nv na e = qn) from HNB2.out.trans hqn.symm
  clear hqn HNB2
  cases qn
  ·have HF : Hid (A2 nv na (d + 1) c e = false) := N9 HN.out
   have M := HM.out
   clear HM
   go_wp2_with fail
   go_ret
   exact ⟨f8 (by rw [HF.out]), fun h => absurd (h.symm.trans HF.out) (by simp), ⟨_, M.blk 0 rfl⟩, M.kept⟩
  have HSC : Hid (A2 nv na (d + 1) c e = y9 nv na d (c + 1) e.kids e.kids.length) := aa8 HN.out HRD.out
  go_wp2_with fail
  clear y0 y1 y2 y3 y4
  have HST : Hid (y9 nv na d (c + 1) e.kids 0 = true ∧ r8 φ' (fun b => ¬ b = cb) w W1 [.box cb [.int .i64 (c + 1 + s8 (e.kids.take 0) : Nat)], .box w.heap.size [.slice a1 nv c1, .slice a2 na c2, v3], .box (w.heap.size + 1) [.int .i64 e.kind, .int .i64 e.value, .slice ak e.kids.length ck], .dat (fun w φ => s7 w φ (.slice ak e.kids.length ck) e.kids)]) := by
   refine ⟨?_, ?_⟩
   ·have := HQ.out.1
    simp [y9, s8]; omega
   ·rw [show ((c + 1 + s8 (e.kids.take 0) : Nat) : Int) = (c : Int) + 1 by simp [s8]]
    exact HM.out
  go_loopw [71] (fun i wr => ∃ k : Nat, k ≤ e.kids.length ∧ i = .int .i64 k ∧ y9 nv na d (c + 1) e.kids k = true ∧ r8 φ' (fun b => ¬ b = cb) w wr [.box cb [.int .i64 (c + 1 + s8 (e.kids.take k) : Nat)], .box w.heap.size [.slice a1 nv c1, .slice a2 na c2, v3], .box (w.heap.size + 1) [.int .i64 e.kind, .int .i64 e.value, .slice ak e.kids.length ck], .dat (fun w φ => s7 w φ (.slice ak e.kids.length ck) e.kids)]) (fun i _ => e.kids.length - (intOf i).toNat)
  case atStart => exact ⟨0, bU3 _, rfl, HST.out.1, HST.out.2⟩
  case round =>
   clear HM
   obtain ⟨k, hk, rfl, hpre, M⟩ := hrel
   have HPRE := show Hid _ from hpre
   have hle : c + 1 + s8 (e.kids.take k) ≤ 15 := by unfold y9 at hpre; simp at hpre; exact hpre.2
   clear hpre
   by_cases hlt : k < e.kids.length
   ·have hncb : ¬ Fr φ' [.box cb [.int .i64 (c + 1 + s8 (e.kids.take k) : Nat)], .box w.heap.size [.slice a1 nv c1, .slice a2 na c2, v3], .box (w.heap.size + 1) [.int .i64 e.kind, .int .i64 e.value, .slice ak e.kids.length ck], .dat (fun w φ => s7 w φ (.slice ak e.kids.length ck) e.kids)] cb := fun h => h.2 _ bS4 rfl
    obtain ⟨a', c', he, -, -, -, hcell⟩ := (M.d 3 rfl).open
    cases he
    obtain ⟨b, off, kv, hbo, hbk, hf, g0, g1, g2, hkk⟩ := hcell k hlt
    cases hbo
    obtain ⟨ka, kc, rfl, -, -, -, -⟩ := hkk.open
    have bz : Below wr.heap.size wr (wr.alloc (.cells #[.int .i64 e.kids[k].kind, .int .i64 e.kids[k].value, .slice ka e.kids[k].kids.length kc] 104)) := by go_grown
    have HE := show Hid _ from s7.nice _ _ _ _ _ _ (T3.below bz) hkk
    have HNCB := show Hid _ from hncb
    have x0 := M.c 1 0 rfl rfl
    have x1 := M.c 1 1 rfl rfl
    have x2 := M.c 1 2 rfl rfl
    have s1 : w.heap.size < wr.heap.size := M.lt (r := .box w.heap.size [.slice a1 nv c1, .slice a2 na c2, v3]) (bS9 _ bS4) rfl
    have HM := show Hid _ from M.box [.int .i64 e.kids[k].kind, .int .i64 e.kids[k].value, .slice ka e.kids[k].kids.length kc] 104
    have HP := show Hid _ from T5 nv na (d := d) (c := c + 1) hlt
    have HX := show Hid (A2 nv na d (c + 1 + s8 (e.kids.take k)) e.kids[k] = false → A2 nv na (d + 1) c e = false) from fun h => HSC.out.trans (W7 hlt h)
    have HT := show Hid _ from U7 hlt
    clear hcell hncb bz hkk M
    go_wp2_with fail
    refine (ih (deep + 1) (by omega) (by omega) e.kids[k] _ _ (c + 1 + s8 (e.kids.take k)) cb _ ⟨_, rfl, HE.out⟩ HNCB.out (HM.out.blk 0 rfl) hle).mono ?_
    rintro x w2 ⟨rfl, r1, ⟨u, r2⟩, kp⟩
    obtain ⟨q, hq⟩ : ∃ q, q = A2 nv na d (c + 1 + s8 (e.kids.take k)) e.kids[k] := ⟨_, rfl⟩
    rw [← hq] at r1 ⊢
    have HQ2 := show Hid _ from hq
    clear hq x0 x1 x2 g0 g1 g2
    cases q
    ·have M2 := HM.out.callB 0 rfl kp r2
     have HF := show Hid _ from HX.out HQ2.out.symm
     clear r1 r2 kp
     go_wp2_with fail
     go_ret
     exact ⟨f8 (by rw [HF.out]), fun h => absurd (h.symm.trans HF.out) (by simp), ⟨_, M2.blk 0 rfl⟩, M2.kept⟩
    ·have M2 := (HM.out.callB 0 rfl kp (r1 rfl)).take 4
     have HM2 := show Hid _ from M2
     clear r1 r2 kp M2
     go_wp2_with fail
     refine ⟨⟨k + 1, by omega, by go_num, by rw [HP.out, HPRE.out, ← HQ2.out]; rfl, ?_⟩, by simp [intOf]; omega⟩
     rw [HT.out, show c + 1 + (s8 (e.kids.take k) + (1 + L4 e.kids[k])) = c + 1 + s8 (e.kids.take k) + 1 + L4 e.kids[k] by omega]
     exact HM2.out
   ·have hkn : k = e.kids.length := by omega
    subst hkn
    have HM := show Hid _ from M
    have HS : Hid (A2 nv na (d + 1) c e = true) := HSC.out.trans HPRE.out
    clear M
    go_wp2_with fail
    go_ret
    refine ⟨f8 (by rw [HS.out]), fun _ => ?_, ⟨_, HM.out.blk 0 rfl⟩, HM.out.kept⟩
    have := HM.out.blk 0 rfl
    rw [bS6 (bS8 _)] at this
    rw [J0]
    exact this
theorem a22 (nv na : Nat) (e : b9) : A2 nv na 5 0 e = i9 nv na e := by
 have h : (0 + 1 + L4 e ≤ 15) = (1 + L4 e ≤ 15) := by rw [bU9]
 unfold A2 i9
 simp only [h]
theorem bf8 (a1 a2 : Option Addr) (nv c1 na c2 : Nat) (v3 : Value) (h1 : nv ≤ 9223372036854775807) (h2 : na ≤ 9223372036854775807) (e : b9) (φ : Nat → Prop) (v : Value) (w : World) (h : L1 w φ v e) :
  Calls Tryz.prog 227 #[.agg #[.slice a1 nv c1, .slice a2 na c2, v3], v] w fun x w' => x = .returned (.bool (i9 nv na e)) ∧ Below w.heap.size w w' := by
 obtain ⟨kv, rfl, hk⟩ := h
 obtain ⟨W, hW, M⟩ : ∃ W, W = ((w.alloc (.cells #[.slice a1 nv c1, .slice a2 na c2, v3] 26)).alloc (.cells #[.int .i64 e.kind, .int .i64 e.value, kv] 104)).alloc (.cells #[.int .i64 0] 3) ∧ r8 (fun _ => True) (fun _ => True) w W [.box w.heap.size [.slice a1 nv c1, .slice a2 na c2, v3], .box (w.heap.size + 1) [.int .i64 e.kind, .int .i64 e.value, kv], .box (w.heap.size + 1 + 1) [.int .i64 0]] :=
  ⟨_, rfl, (((r8.start fun _ _ => trivial).box _ _).box' _ _ (by simp)).box' _ _ (by simp)⟩
 have hb := M.below fun _ _ => trivial
 have HK := show Hid _ from s7.nice _ _ _ _ φ (fun b => φ b ∧ b < w.heap.size) ⟨hb.size, fun b hl hf => ⟨⟨hf, hl⟩, hb.block b hl⟩⟩ hk
 clear hb hk
 have x0 := M.c 0 0 rfl rfl
 have x1 := M.c 0 1 rfl rfl
 have x2 := M.c 0 2 rfl rfl
 have y0 := M.c 1 0 rfl rfl
 have y1 := M.c 1 1 rfl rfl
 have y2 := M.c 1 2 rfl rfl
 have HM := show Hid _ from M
 rw [hW] at x0 x1 x2 y0 y1 y2
 clear M
 go_enter Tryz.func227, Tryz.ntmps227
 go_wp2_with fail
 rw [← hW]
 clear hW x0 x1 x2 y0 y1 y2
 refine (bf6 a1 a2 nv c1 na c2 v3 h1 h2 5 1 (by omega) (by omega) e _ _ 0 _ _ ⟨kv, rfl, HK.out⟩ (fun h => by have := h.2; omega) (HM.out.blk 2 rfl) (by omega)).mono ?_
 rintro x w1 ⟨rfl, -, ⟨u, r2⟩, kp⟩
 rw [a22]
 have M := HM.out.callB 2 rfl kp r2
 have HB := show Hid _ from M.below fun _ _ => trivial
 clear kp r2 M
 go_wp2_with fail
 go_ret
 exact ⟨rfl, HB.out⟩
theorem W6 (k n : Int) (a : Option Addr) (len c : Nat) (w : World) (hl : len ≤ 9223372036854775807) : Calls Tryz.prog 251 #[.agg #[.int .i64 k, .int .i64 n, .slice a len c]] w fun e w' => e = .returned (.bool (decide (k = 0) && decide (n = 0) && decide (len = 0))) ∧ Below w.heap.size w w' := by
 by_cases q1 : k = 0
 case neg =>
  have p1 : (k == 0) = false := by simp [q1]
  have HQ := show Hid _ from q1
  clear q1
  go_enter Tryz.func251, Tryz.ntmps251
  go_wp2_with fail
  go_ret
  exact ⟨f8 (by rw [decide_eq_false HQ.out]; rfl), by go_grown⟩
 have p1 : (k == 0) = true := by simp [q1]
 have HQ := show Hid _ from q1
 clear q1
 by_cases q2 : n = 0
 case neg =>
  have p2 : (n == 0) = false := by simp [q2]
  have HQ2 := show Hid _ from q2
  clear q2
  go_enter Tryz.func251, Tryz.ntmps251
  go_wp2_with fail
  go_ret
  exact ⟨f8 (by rw [decide_eq_true HQ.out, decide_eq_false HQ2.out]; rfl), by go_grown⟩
 have p2 : (n == 0) = true := by simp [q2]
 have HQ2 := show Hid _ from q2
 clear q2
 by_cases q3 : len = 0
 case neg =>
  have p3 : ((len : Int) == 0) = false := by simp [q3]
  have HQ3 := show Hid _ from q3
  clear q3
  go_enter Tryz.func251, Tryz.ntmps251
  go_wp2_with fail
  go_ret
  exact ⟨f8 (by rw [decide_eq_true HQ.out, decide_eq_true HQ2.out, decide_eq_false HQ3.out]; rfl), by go_grown⟩
 have p3 : ((len : Int) == 0) = true := by simp [q3]
 have HQ3 := show Hid _ from q3
 clear q3
 go_enter Tryz.func251, Tryz.ntmps251
 go_wp2_with fail
 go_ret
 exact ⟨f8 (by rw [decide_eq_true HQ.out, decide_eq_true HQ2.out, decide_eq_true HQ3.out]; rfl), by go_grown⟩
theorem ah0.form {w : World} {φ : Nat → Prop} {v : Value} {s : b6} (h : ah0 w φ v s) : ∃ ai ci av cv ab cb ae ce, v = .agg #[.int .i64 s.kind, .int .i64 s.target, .int .i64 s.index.kind, .int .i64 s.index.value, .slice ai s.index.kids.length ci, .int .i64 s.value.kind, .int .i64 s.value.value, .slice av s.value.kids.length cv, .int .i64 s.count, .slice ab s.body.length cb, .slice ae s.els.length ce] ∧
  (s7 w φ (.slice ai s.index.kids.length ci) s.index.kids ∧ s7 w φ (.slice av s.value.kids.length cv) s.value.kids ∧ C5 w φ (.slice ab s.body.length cb) s.body ∧ C5 w φ (.slice ae s.els.length ce) s.els) ∧
  (s.index.kids.length ≤ 9223372036854775807 ∧ s.value.kids.length ≤ 9223372036854775807 ∧ s.body.length ≤ 9223372036854775807 ∧ s.els.length ≤ 9223372036854775807) := by
 obtain ⟨iv, vv, bv, ev, rfl, h1, h2, h3, h4⟩ := h
 obtain ⟨ai, ci, rfl, -, l1, -⟩ := h1.open
 obtain ⟨av, cv, rfl, -, l2, -⟩ := h2.open
 obtain ⟨ab, cb, rfl, -, l3, -⟩ := h3.open
 obtain ⟨ae, ce, rfl, -, l4, -⟩ := h4.open
 exact ⟨ai, ci, av, cv, ab, cb, ae, ce, rfl, ⟨h1, h2, h3, h4⟩, l1, l2, l3, l4⟩
theorem aM9 (φ : Nat → Prop) (v : Value) (s : b6) (w : World) (h : ah0 w φ v s) :
  Calls Tryz.prog 232 #[v] w fun x w' => x = .returned (.bool (B6 s)) ∧ Below w.heap.size w w' := by
 obtain ⟨ai, ci, av, cv, ab, cb, ae, ce, rfl, -, hl⟩ := h.form
 have HL := show Hid _ from hl
 have hl3 := hl.2.2.1
 have hl4 := hl.2.2.2
 clear h hl
 have HD : Hid (B6 s = if (s.kind = 3 ∨ s.kind = 4) then decide (s.target = 0) && (if s.kind = 4 then decide (s.els.length = 0) && decide (1 ≤ s.count) && decide (s.count ≤ 3) && noneB s.index && noneB s.value else decide (s.count = 0) && noneB s.index)
   else decide (s.body.length = 0) && decide (s.els.length = 0) && decide (s.count = 0) && (decide (s.kind = 2) || noneB s.index)) := rfl
 obtain ⟨W, hW, M⟩ : ∃ W, W = w.alloc (.cells #[.int .i64 s.kind, .int .i64 s.target, .int .i64 s.index.kind, .int .i64 s.index.value, .slice ai s.index.kids.length ci, .int .i64 s.value.kind, .int .i64 s.value.value, .slice av s.value.kids.length cv, .int .i64 s.count, .slice ab s.body.length cb, .slice ae s.els.length ce] 106) ∧ r8 (fun _ => True) (fun _ => True) w W [.box w.heap.size [.int .i64 s.kind, .int .i64 s.target, .int .i64 s.index.kind, .int .i64 s.index.value, .slice ai s.index.kids.length ci, .int .i64 s.value.kind, .int .i64 s.value.value, .slice av s.value.kids.length cv, .int .i64 s.count, .slice ab s.body.length cb, .slice ae s.els.length ce]] :=
  ⟨_, rfl, (r8.start fun _ _ => trivial).box _ _⟩
 by_cases qk : s.kind = 3
 ·have pk : (s.kind == 3) = true := by simp [qk]
  have pk4 : (s.kind == 4) = false := by simp [qk]
  have pk2 : (s.kind == 2) = false := by simp [qk]
  by_cases qpt : s.target = 0
  case neg =>
   have pt : (s.target != 0) = true := by first | (simp [qpt]; done) | (simp; omega) | exact decide_eq_true (by omega) | exact decide_eq_false (by omega)
   have HP : Hid (B6 s = false) := by rw [Hid, HD.out]; simp [qk, qpt]
   clear qpt qk HD
   have c0 := M.c 0 0 rfl rfl
   have c1 := M.c 0 1 rfl rfl
   have c2 := M.c 0 2 rfl rfl
   have c3 := M.c 0 3 rfl rfl
   have c4 := M.c 0 4 rfl rfl
   have c5 := M.c 0 5 rfl rfl
   have c6 := M.c 0 6 rfl rfl
   have c7 := M.c 0 7 rfl rfl
   have c8 := M.c 0 8 rfl rfl
   have c9 := M.c 0 9 rfl rfl
   have c10 := M.c 0 10 rfl rfl
   have HM := show Hid _ from M
   rw [hW] at c0 c1 c2 c3 c4 c5 c6 c7 c8 c9 c10
   clear M
   go_enter Tryz.func232, Tryz.ntmps232
   go_wp2_with fail
   rw [← hW]
   clear hW
   have M := HM.out
   clear HM c0 c1 c2 c3 c4 c5 c6 c7 c8 c9 c10
   go_ret
   exact ⟨f8 (by rw [HP.out]), M.below fun _ _ => trivial⟩
  have pt : (s.target != 0) = false := by first | (simp [qpt]; done) | (simp; omega) | exact decide_eq_true (by omega) | exact decide_eq_false (by omega)
  by_cases qpc : s.count = 0
  case neg =>
   have pc : (s.count == 0) = false := by first | (simp [qpc]; done) | (simp; omega) | exact decide_eq_true (by omega) | exact decide_eq_false (by omega)
   have HP : Hid (B6 s = false) := by rw [Hid, HD.out]; simp [qk, qpt, qpc]
   clear qpc qk qpt HD
   have c0 := M.c 0 0 rfl rfl
   have c1 := M.c 0 1 rfl rfl
   have c2 := M.c 0 2 rfl rfl
   have c3 := M.c 0 3 rfl rfl
   have c4 := M.c 0 4 rfl rfl
   have c5 := M.c 0 5 rfl rfl
   have c6 := M.c 0 6 rfl rfl
   have c7 := M.c 0 7 rfl rfl
   have c8 := M.c 0 8 rfl rfl
   have c9 := M.c 0 9 rfl rfl
   have c10 := M.c 0 10 rfl rfl
   have HM := show Hid _ from M
   rw [hW] at c0 c1 c2 c3 c4 c5 c6 c7 c8 c9 c10
   clear M
   go_enter Tryz.func232, Tryz.ntmps232
   go_wp2_with fail
   rw [← hW]
   clear hW
   have M := HM.out
   clear HM c0 c1 c2 c3 c4 c5 c6 c7 c8 c9 c10
   go_ret
   exact ⟨f8 (by rw [HP.out]), M.below fun _ _ => trivial⟩
  have pc : (s.count == 0) = true := by first | (simp [qpc]; done) | (simp; omega) | exact decide_eq_true (by omega) | exact decide_eq_false (by omega)
  have HP : Hid (B6 s = noneB s.index) := by rw [Hid, HD.out]; simp [qk, qpt, qpc]
  clear qpt qpc HD qk
  have c0 := M.c 0 0 rfl rfl
  have c1 := M.c 0 1 rfl rfl
  have c2 := M.c 0 2 rfl rfl
  have c3 := M.c 0 3 rfl rfl
  have c4 := M.c 0 4 rfl rfl
  have c5 := M.c 0 5 rfl rfl
  have c6 := M.c 0 6 rfl rfl
  have c7 := M.c 0 7 rfl rfl
  have c8 := M.c 0 8 rfl rfl
  have c9 := M.c 0 9 rfl rfl
  have c10 := M.c 0 10 rfl rfl
  have HM := show Hid _ from M
  rw [hW] at c0 c1 c2 c3 c4 c5 c6 c7 c8 c9 c10
  clear M
  go_enter Tryz.func232, Tryz.ntmps232
  go_wp2_with fail
  rw [← hW]
  clear hW
  have M := HM.out
  clear HM c0 c1 c2 c3 c4 c5 c6 c7 c8 c9 c10
  refine (W6 s.index.kind s.index.value ai s.index.kids.length ci _ HL.out.1).mono ?_
  rintro x w1 ⟨rfl, b1⟩
  rw [show (decide (s.index.kind = 0) && decide (s.index.value = 0) && decide (s.index.kids.length = 0)) = noneB s.index from rfl]
  replace M := M.call b1
  clear b1
  have HM := show Hid _ from M
  clear M
  go_wp2_with fail
  go_ret
  exact ⟨f8 (by rw [HP.out]), HM.out.below fun _ _ => trivial⟩
 have qk3 := qk
 have pk3 : (s.kind == 3) = false := by simp [qk]
 clear qk
 by_cases qk : s.kind = 4
 ·have pk4 : (s.kind == 4) = true := by simp [qk]
  clear qk3
  by_cases qpt : s.target = 0
  case neg =>
   have pt : (s.target != 0) = true := by first | (simp [qpt]; done) | (simp; omega) | exact decide_eq_true (by omega) | exact decide_eq_false (by omega)
   have HP : Hid (B6 s = false) := by rw [Hid, HD.out]; simp [qk, qpt]
   clear qpt qk HD
   have c0 := M.c 0 0 rfl rfl
   have c1 := M.c 0 1 rfl rfl
   have c2 := M.c 0 2 rfl rfl
   have c3 := M.c 0 3 rfl rfl
   have c4 := M.c 0 4 rfl rfl
   have c5 := M.c 0 5 rfl rfl
   have c6 := M.c 0 6 rfl rfl
   have c7 := M.c 0 7 rfl rfl
   have c8 := M.c 0 8 rfl rfl
   have c9 := M.c 0 9 rfl rfl
   have c10 := M.c 0 10 rfl rfl
   have HM := show Hid _ from M
   rw [hW] at c0 c1 c2 c3 c4 c5 c6 c7 c8 c9 c10
   clear M
   go_enter Tryz.func232, Tryz.ntmps232
   go_wp2_with fail
   rw [← hW]
   clear hW
   have M := HM.out
   clear HM c0 c1 c2 c3 c4 c5 c6 c7 c8 c9 c10
   go_ret
   exact ⟨f8 (by rw [HP.out]), M.below fun _ _ => trivial⟩
  have pt : (s.target != 0) = false := by first | (simp [qpt]; done) | (simp; omega) | exact decide_eq_true (by omega) | exact decide_eq_false (by omega)
  by_cases qpe : s.els.length = 0
  case neg =>
   have pe : ((s.els.length : Int) == 0) = false := by first | (simp [qpe]; done) | (simp; omega) | exact decide_eq_true (by omega) | exact decide_eq_false (by omega)
   have HP : Hid (B6 s = false) := by rw [Hid, HD.out]; simp [qk, qpt, qpe]
   clear qpe qk qpt HD
   have c0 := M.c 0 0 rfl rfl
   have c1 := M.c 0 1 rfl rfl
   have c2 := M.c 0 2 rfl rfl
   have c3 := M.c 0 3 rfl rfl
   have c4 := M.c 0 4 rfl rfl
   have c5 := M.c 0 5 rfl rfl
   have c6 := M.c 0 6 rfl rfl
   have c7 := M.c 0 7 rfl rfl
   have c8 := M.c 0 8 rfl rfl
   have c9 := M.c 0 9 rfl rfl
   have c10 := M.c 0 10 rfl rfl
   have HM := show Hid _ from M
   rw [hW] at c0 c1 c2 c3 c4 c5 c6 c7 c8 c9 c10
   clear M
   go_enter Tryz.func232, Tryz.ntmps232
   go_wp2_with fail
   rw [← hW]
   clear hW
   have M := HM.out
   clear HM c0 c1 c2 c3 c4 c5 c6 c7 c8 c9 c10
   go_ret
   exact ⟨f8 (by rw [HP.out]), M.below fun _ _ => trivial⟩
  have pe : ((s.els.length : Int) == 0) = true := by first | (simp [qpe]; done) | (simp; omega) | exact decide_eq_true (by omega) | exact decide_eq_false (by omega)
  by_cases qp1 : 1 ≤ s.count
  case neg =>
   have p1 : decide (1 ≤ s.count) = false := by first | (simp [qp1]; done) | (simp; omega) | exact decide_eq_true (by omega) | exact decide_eq_false (by omega)
   have HP : Hid (B6 s = false) := by rw [Hid, HD.out]; simp [qk, qpt, qpe, qp1]
   clear qp1 qk qpt qpe HD
   have c0 := M.c 0 0 rfl rfl
   have c1 := M.c 0 1 rfl rfl
   have c2 := M.c 0 2 rfl rfl
   have c3 := M.c 0 3 rfl rfl
   have c4 := M.c 0 4 rfl rfl
   have c5 := M.c 0 5 rfl rfl
   have c6 := M.c 0 6 rfl rfl
   have c7 := M.c 0 7 rfl rfl
   have c8 := M.c 0 8 rfl rfl
   have c9 := M.c 0 9 rfl rfl
   have c10 := M.c 0 10 rfl rfl
   have HM := show Hid _ from M
   rw [hW] at c0 c1 c2 c3 c4 c5 c6 c7 c8 c9 c10
   clear M
   go_enter Tryz.func232, Tryz.ntmps232
   go_wp2_with fail
   rw [← hW]
   clear hW
   have M := HM.out
   clear HM c0 c1 c2 c3 c4 c5 c6 c7 c8 c9 c10
   go_ret
   exact ⟨f8 (by rw [HP.out]), M.below fun _ _ => trivial⟩
  have p1 : decide (1 ≤ s.count) = true := by first | (simp [qp1]; done) | (simp; omega) | exact decide_eq_true (by omega) | exact decide_eq_false (by omega)
  by_cases qp3 : s.count ≤ 3
  case neg =>
   have p3 : decide (s.count ≤ 3) = false := by first | (simp [qp3]; done) | (simp; omega) | exact decide_eq_true (by omega) | exact decide_eq_false (by omega)
   have HP : Hid (B6 s = false) := by rw [Hid, HD.out]; simp [qk, qpt, qpe, qp1, qp3]
   clear qp3 qk qpt qpe qp1 HD
   have c0 := M.c 0 0 rfl rfl
   have c1 := M.c 0 1 rfl rfl
   have c2 := M.c 0 2 rfl rfl
   have c3 := M.c 0 3 rfl rfl
   have c4 := M.c 0 4 rfl rfl
   have c5 := M.c 0 5 rfl rfl
   have c6 := M.c 0 6 rfl rfl
   have c7 := M.c 0 7 rfl rfl
   have c8 := M.c 0 8 rfl rfl
   have c9 := M.c 0 9 rfl rfl
   have c10 := M.c 0 10 rfl rfl
   have HM := show Hid _ from M
   rw [hW] at c0 c1 c2 c3 c4 c5 c6 c7 c8 c9 c10
   clear M
   go_enter Tryz.func232, Tryz.ntmps232
   go_wp2_with fail
   rw [← hW]
   clear hW
   have M := HM.out
   clear HM c0 c1 c2 c3 c4 c5 c6 c7 c8 c9 c10
   go_ret
   exact ⟨f8 (by rw [HP.out]), M.below fun _ _ => trivial⟩
  have p3 : decide (s.count ≤ 3) = true := by first | (simp [qp3]; done) | (simp; omega) | exact decide_eq_true (by omega) | exact decide_eq_false (by omega)
  have HP0 : Hid (B6 s = (noneB s.index && noneB s.value)) := by rw [Hid, HD.out]; simp [qk, qpt, qpe, qp1, qp3]
  clear qpt qpe qp1 qp3 HD qk
  have c0 := M.c 0 0 rfl rfl
  have c1 := M.c 0 1 rfl rfl
  have c2 := M.c 0 2 rfl rfl
  have c3 := M.c 0 3 rfl rfl
  have c4 := M.c 0 4 rfl rfl
  have c5 := M.c 0 5 rfl rfl
  have c6 := M.c 0 6 rfl rfl
  have c7 := M.c 0 7 rfl rfl
  have c8 := M.c 0 8 rfl rfl
  have c9 := M.c 0 9 rfl rfl
  have c10 := M.c 0 10 rfl rfl
  have HM := show Hid _ from M
  rw [hW] at c0 c1 c2 c3 c4 c5 c6 c7 c8 c9 c10
  clear M
  go_enter Tryz.func232, Tryz.ntmps232
  go_wp2_with fail
  rw [← hW]
  clear hW
  have M := HM.out
  clear HM c0 c1 c2 c3 c4 c5 c6 c7 c8 c9 c10
  refine (W6 s.index.kind s.index.value ai s.index.kids.length ci _ HL.out.1).mono ?_
  rintro x w1 ⟨rfl, b1⟩
  rw [show (decide (s.index.kind = 0) && decide (s.index.value = 0) && decide (s.index.kids.length = 0)) = noneB s.index from rfl]
  replace M := M.call b1
  clear b1
  obtain ⟨b, hb⟩ : ∃ b, b = noneB s.index := ⟨_, rfl⟩
  rw [← hb]
  have HB := show Hid _ from hb
  clear hb
  cases b
  ·have HP : Hid (B6 s = false) := by rw [Hid, HP0.out, ← HB.out]; rfl
   clear HP0
   have HM := show Hid _ from M
   clear M
   go_wp2_with fail
   go_ret
   exact ⟨f8 (by rw [HP.out]), HM.out.below fun _ _ => trivial⟩
  ·have HP : Hid (B6 s = noneB s.value) := by rw [Hid, HP0.out, ← HB.out]; rfl
   clear HP0
   have c5 := M.c 0 5 rfl rfl
   have c6 := M.c 0 6 rfl rfl
   have c7 := M.c 0 7 rfl rfl
   have HM := show Hid _ from M
   clear M
   go_wp2_with fail
   have M := HM.out
   clear HM c5 c6 c7
   refine (W6 s.value.kind s.value.value av s.value.kids.length cv _ HL.out.2.1).mono ?_
   rintro x w1 ⟨rfl, b1⟩
   rw [show (decide (s.value.kind = 0) && decide (s.value.value = 0) && decide (s.value.kids.length = 0)) = noneB s.value from rfl]
   replace M := M.call b1
   clear b1
   have HM := show Hid _ from M
   clear M
   go_wp2_with fail
   go_ret
   exact ⟨f8 (by rw [HP.out]), HM.out.below fun _ _ => trivial⟩
 have qk4 := qk
 have pk4 : (s.kind == 4) = false := by simp [qk]
 clear qk
 by_cases qpb : s.body.length = 0
 case neg =>
  have pb : decide (0 < s.body.length) = true := by first | (simp [qpb]; done) | (simp; omega) | exact decide_eq_true (by omega) | exact decide_eq_false (by omega)
  have HP : Hid (B6 s = false) := by rw [Hid, HD.out]; simp [qk3, qk4, qpb]
  clear qpb qk3 qk4 HD
  have c0 := M.c 0 0 rfl rfl
  have c1 := M.c 0 1 rfl rfl
  have c2 := M.c 0 2 rfl rfl
  have c3 := M.c 0 3 rfl rfl
  have c4 := M.c 0 4 rfl rfl
  have c5 := M.c 0 5 rfl rfl
  have c6 := M.c 0 6 rfl rfl
  have c7 := M.c 0 7 rfl rfl
  have c8 := M.c 0 8 rfl rfl
  have c9 := M.c 0 9 rfl rfl
  have c10 := M.c 0 10 rfl rfl
  have HM := show Hid _ from M
  rw [hW] at c0 c1 c2 c3 c4 c5 c6 c7 c8 c9 c10
  clear M
  go_enter Tryz.func232, Tryz.ntmps232
  go_wp2_with fail
  rw [← hW]
  clear hW
  have M := HM.out
  clear HM c0 c1 c2 c3 c4 c5 c6 c7 c8 c9 c10
  go_ret
  exact ⟨f8 (by rw [HP.out]), M.below fun _ _ => trivial⟩
 have pb : decide (0 < s.body.length) = false := by first | (simp [qpb]; done) | (simp; omega) | exact decide_eq_true (by omega) | exact decide_eq_false (by omega)
 by_cases qpe : s.els.length = 0
 case neg =>
  have pe : decide (0 < s.els.length) = true := by first | (simp [qpe]; done) | (simp; omega) | exact decide_eq_true (by omega) | exact decide_eq_false (by omega)
  have HP : Hid (B6 s = false) := by rw [Hid, HD.out]; simp [qk3, qk4, qpb, qpe]
  clear qpe qk3 qk4 qpb HD
  have c0 := M.c 0 0 rfl rfl
  have c1 := M.c 0 1 rfl rfl
  have c2 := M.c 0 2 rfl rfl
  have c3 := M.c 0 3 rfl rfl
  have c4 := M.c 0 4 rfl rfl
  have c5 := M.c 0 5 rfl rfl
  have c6 := M.c 0 6 rfl rfl
  have c7 := M.c 0 7 rfl rfl
  have c8 := M.c 0 8 rfl rfl
  have c9 := M.c 0 9 rfl rfl
  have c10 := M.c 0 10 rfl rfl
  have HM := show Hid _ from M
  rw [hW] at c0 c1 c2 c3 c4 c5 c6 c7 c8 c9 c10
  clear M
  go_enter Tryz.func232, Tryz.ntmps232
  go_wp2_with fail
  rw [← hW]
  clear hW
  have M := HM.out
  clear HM c0 c1 c2 c3 c4 c5 c6 c7 c8 c9 c10
  go_ret
  exact ⟨f8 (by rw [HP.out]), M.below fun _ _ => trivial⟩
 have pe : decide (0 < s.els.length) = false := by first | (simp [qpe]; done) | (simp; omega) | exact decide_eq_true (by omega) | exact decide_eq_false (by omega)
 by_cases qpc : s.count = 0
 case neg =>
  have pc : (s.count == 0) = false := by first | (simp [qpc]; done) | (simp; omega) | exact decide_eq_true (by omega) | exact decide_eq_false (by omega)
  have HP : Hid (B6 s = false) := by rw [Hid, HD.out]; simp [qk3, qk4, qpb, qpe, qpc]
  clear qpc qk3 qk4 qpb qpe HD
  have c0 := M.c 0 0 rfl rfl
  have c1 := M.c 0 1 rfl rfl
  have c2 := M.c 0 2 rfl rfl
  have c3 := M.c 0 3 rfl rfl
  have c4 := M.c 0 4 rfl rfl
  have c5 := M.c 0 5 rfl rfl
  have c6 := M.c 0 6 rfl rfl
  have c7 := M.c 0 7 rfl rfl
  have c8 := M.c 0 8 rfl rfl
  have c9 := M.c 0 9 rfl rfl
  have c10 := M.c 0 10 rfl rfl
  have HM := show Hid _ from M
  rw [hW] at c0 c1 c2 c3 c4 c5 c6 c7 c8 c9 c10
  clear M
  go_enter Tryz.func232, Tryz.ntmps232
  go_wp2_with fail
  rw [← hW]
  clear hW
  have M := HM.out
  clear HM c0 c1 c2 c3 c4 c5 c6 c7 c8 c9 c10
  go_ret
  exact ⟨f8 (by rw [HP.out]), M.below fun _ _ => trivial⟩
 have pc : (s.count == 0) = true := by first | (simp [qpc]; done) | (simp; omega) | exact decide_eq_true (by omega) | exact decide_eq_false (by omega)
 by_cases qk2 : s.kind = 2
 ·have pk2 : (s.kind == 2) = true := by simp [qk2]
  have HP : Hid (B6 s = true) := by rw [Hid, HD.out]; simp [qk2, qpb, qpe, qpc]
  clear qk2 qk3 qk4 qpb qpe qpc HD
  have c0 := M.c 0 0 rfl rfl
  have c1 := M.c 0 1 rfl rfl
  have c2 := M.c 0 2 rfl rfl
  have c3 := M.c 0 3 rfl rfl
  have c4 := M.c 0 4 rfl rfl
  have c5 := M.c 0 5 rfl rfl
  have c6 := M.c 0 6 rfl rfl
  have c7 := M.c 0 7 rfl rfl
  have c8 := M.c 0 8 rfl rfl
  have c9 := M.c 0 9 rfl rfl
  have c10 := M.c 0 10 rfl rfl
  have HM := show Hid _ from M
  rw [hW] at c0 c1 c2 c3 c4 c5 c6 c7 c8 c9 c10
  clear M
  go_enter Tryz.func232, Tryz.ntmps232
  go_wp2_with fail
  rw [← hW]
  clear hW
  have M := HM.out
  clear HM c0 c1 c2 c3 c4 c5 c6 c7 c8 c9 c10
  go_ret
  exact ⟨f8 (by rw [HP.out]), M.below fun _ _ => trivial⟩
 ·have pk2 : (s.kind == 2) = false := by simp [qk2]
  have HP : Hid (B6 s = noneB s.index) := by rw [Hid, HD.out]; simp [qk2, qk3, qk4, qpb, qpe, qpc]
  clear qk2 qk3 qk4 qpb qpe qpc HD
  have c0 := M.c 0 0 rfl rfl
  have c1 := M.c 0 1 rfl rfl
  have c2 := M.c 0 2 rfl rfl
  have c3 := M.c 0 3 rfl rfl
  have c4 := M.c 0 4 rfl rfl
  have c5 := M.c 0 5 rfl rfl
  have c6 := M.c 0 6 rfl rfl
  have c7 := M.c 0 7 rfl rfl
  have c8 := M.c 0 8 rfl rfl
  have c9 := M.c 0 9 rfl rfl
  have c10 := M.c 0 10 rfl rfl
  have HM := show Hid _ from M
  rw [hW] at c0 c1 c2 c3 c4 c5 c6 c7 c8 c9 c10
  clear M
  go_enter Tryz.func232, Tryz.ntmps232
  go_wp2_with fail
  rw [← hW]
  clear hW
  have M := HM.out
  clear HM c0 c1 c2 c3 c4 c5 c6 c7 c8 c9 c10
  refine (W6 s.index.kind s.index.value ai s.index.kids.length ci _ HL.out.1).mono ?_
  rintro x w1 ⟨rfl, b1⟩
  rw [show (decide (s.index.kind = 0) && decide (s.index.value = 0) && decide (s.index.kids.length = 0)) = noneB s.index from rfl]
  replace M := M.call b1
  clear b1
  have HM := show Hid _ from M
  clear M
  go_wp2_with fail
  go_ret
  exact ⟨f8 (by rw [HP.out]), HM.out.below fun _ _ => trivial⟩
def StB (a1 a2 : Option Addr) (nv c1 na c2 : Nat) (v3 : Value) (d : Nat) : Prop := ∀ (s : b6) (φ : Nat → Prop) (v : Value) (w : World), ah0 w φ v s →
 Calls Tryz.prog 193 #[.agg #[.slice a1 nv c1, .slice a2 na c2, v3], v, .int .i64 d] w fun x w' => x = .returned (.bool (i5 nv na d s)) ∧ Below w.heap.size w w'
def BlB (a1 a2 : Option Addr) (nv c1 na c2 : Nat) (v3 : Value) (d : Nat) : Prop := ∀ (ss : List b6) (φ : Nat → Prop) (v : Value) (w : World), C5 w φ v ss →
 Calls Tryz.prog 130 #[.agg #[.slice a1 nv c1, .slice a2 na c2, v3], v, .int .i64 d] w fun x w' => x = .returned (.bool (ss.all (i5 nv na d))) ∧ Below w.heap.size w w'
theorem ab3 (a1 a2 : Option Addr) (nv c1 na c2 : Nat) (v3 : Value) (d : Nat) (hd : d ≤ 5) (ih : StB a1 a2 nv c1 na c2 v3 d) : BlB a1 a2 nv c1 na c2 v3 d := by
 intro ss φ v w h
 obtain ⟨ak, ck, rfl, -, hn, -, hc⟩ := h.open
 obtain ⟨W, hW, M⟩ : ∃ W, W = w.alloc (.cells #[.slice a1 nv c1, .slice a2 na c2, v3] 26) ∧ r8 (fun _ => True) (fun _ => True) w W [.box w.heap.size [.slice a1 nv c1, .slice a2 na c2, v3]] :=
  ⟨_, rfl, (r8.start fun _ _ => trivial).box _ _⟩
 have HC := show Hid _ from hc
 clear h hc
 go_enter Tryz.func130, Tryz.ntmps130
 go_wp2_with fail
 rw [← hW]
 clear hW
 go_loopw [7] (fun i wr => ∃ k : Nat, k ≤ ss.length ∧ i = .int .i64 k ∧ (ss.take k).all (i5 nv na d) = true ∧ r8 (fun _ => True) (fun _ => True) w wr [.box w.heap.size [.slice a1 nv c1, .slice a2 na c2, v3]]) (fun i _ => ss.length - (intOf i).toNat)
 case atStart => exact ⟨0, bU3 _, rfl, rfl, M⟩
 case round =>
  clear M
  obtain ⟨k, hk, rfl, hall, M⟩ := hrel
  have HALL := show Hid _ from hall
  clear hall
  have hB := M.below fun _ _ => trivial
  have x0 := M.c 0 0 rfl rfl
  have x1 := M.c 0 1 rfl rfl
  have x2 := M.c 0 2 rfl rfl
  by_cases hlt : k < ss.length
  ·obtain ⟨b, off, iv, vv, bv, ev, rfl, hbk, hf, ⟨e0, e1, e2, e3, e4, e5, e6, e7, e8, e9, e10⟩, g1, g2, g3, g4⟩ := HC.out k hlt
   rw [← (V8 hB).1 _ _ hbk] at e0 e1 e2 e3 e4 e5 e6 e7 e8 e9 e10
   obtain ⟨q, hq⟩ : ∃ q, q = i5 nv na d ss[k] := ⟨_, rfl⟩
   have HC3 : Hid (∀ X, Calls Tryz.prog 193 #[.agg #[.slice a1 nv c1, .slice a2 na c2, v3], .agg #[.int .i64 ss[k].kind, .int .i64 ss[k].target, .int .i64 ss[k].index.kind, .int .i64 ss[k].index.value, iv, .int .i64 ss[k].value.kind, .int .i64 ss[k].value.value, vv, .int .i64 ss[k].count, bv, ev], .int .i64 d] (wr.ext X) fun x w'' => x = .returned (.bool q) ∧ ∃ Y, w'' = wr.ext Y) := fun X => by
    have bb := hB.trans ((v9 wr X).mono hB.size)
    rw [hq]
    exact Calls.ext_of' (ih _ φ _ _ (ah0.nice _ _ _ _ _ _ (T3.below bb) ⟨iv, vv, bv, ev, rfl, g1, g2, g3, g4⟩))
   have HQQ := show Hid _ from hq
   have HM := show Hid _ from M
   have j0 := fun X => n7 e0 X
   have j1 := fun X => n7 e1 X
   have j2 := fun X => n7 e2 X
   have j3 := fun X => n7 e3 X
   have j4 := fun X => n7 e4 X
   have j5 := fun X => n7 e5 X
   have j6 := fun X => n7 e6 X
   have j7 := fun X => n7 e7 X
   have j8 := fun X => n7 e8 X
   have j9 := fun X => n7 e9 X
   have j10 := fun X => n7 e10 X
   have z0 := fun X => n7 x0 X
   have z1 := fun X => n7 x1 X
   have z2 := fun X => n7 x2 X
   have hlt' : (k : Int) < ss.length := by omega
   clear g1 g2 g3 g4 hq e0 e1 e2 e3 e4 e5 e6 e7 e8 e9 e10 x0 x1 x2 M hB
   cases q
   ·go_wp2_with fail
    refine t5 (by kernel_rfl) (by kernel_rfl) ?_
    repeat (any_goals (first | go_big_quiet_step (((go_at_call 193; exact HC3.out _))) | quiet_step (((go_at_call 193; exact HC3.out _)))))
    refine wpQuiet_nil ?_
    rintro _ ⟨X, rfl⟩
    go_wp2_with fail
    go_ret
    exact ⟨f8 (by symm; exact List.all_eq_false.2 ⟨_, bS7 hlt, by rw [← HQQ.out]; simp⟩), (HM.out.call (v9 wr X)).below fun _ _ => trivial⟩
   ·go_wp2_with fail
    refine t5 (by kernel_rfl) (by kernel_rfl) ?_
    repeat (any_goals (first | go_big_quiet_step (((go_at_call 193; exact HC3.out _))) | quiet_step (((go_at_call 193; exact HC3.out _)))))
    refine wpQuiet_nil ?_
    rintro _ ⟨X, rfl⟩
    go_wp2_with fail
    refine ⟨⟨k + 1, by omega, by go_num, ?_, HM.out.call (v9 wr X)⟩, by simp [intOf]; omega⟩
    rw [E8 _ _ hlt, List.all_append, HALL.out]
    simp [← HQQ.out]
  ·have hkn : k = ss.length := by omega
   subst hkn
   have hall := HALL.out
   rw [bS6 (bS8 _)] at hall
   have HAL := show Hid _ from hall
   have HB := show Hid _ from hB
   clear hall x0 x1 x2 M hB
   go_wp2_with fail
   go_ret
   exact ⟨f8 HAL.out.symm, HB.out⟩
theorem bf4 (a1 a2 : Option Addr) (nv c1 na c2 : Nat) (v3 : Value) (h1 : nv ≤ 9223372036854775807) (h2 : na ≤ 9223372036854775807) : ∀ d : Nat, d ≤ 5 → StB a1 a2 nv c1 na c2 v3 d := by
 intro d
 induction d with
 | zero =>
  intro _ s φ v w h
  obtain ⟨ai, ci, av, cv, ab, cb, ae, ce, rfl, -, -⟩ := h.form
  have HP : Hid (i5 nv na 0 s = false) := rfl
  clear h
  go_enter Tryz.func193, Tryz.ntmps193
  go_wp2_with fail
  go_ret
  exact ⟨f8 HP.out.symm, by go_grown⟩
 | succ d ih0 =>
  intro hd5 s φ v w h
  have ih := ih0 (by omega)
  clear ih0
  have hfull := h
  obtain ⟨ai, ci, av, cv, ab, cb, ae, ce, rfl, ⟨g1, g2, g3, g4⟩, -⟩ := h.form
  have hd0 : (d : Int) ≤ 5 := by omega
  have p9 : decide ((d : Int) + 1 < 1) = false := decide_eq_false (by omega)
  have HD0 : Hid (i5 nv na (d + 1) s = (B6 s && (if s.kind = 1 ∨ s.kind = 5 then decide (0 ≤ s.target) && decide (s.target < (nv : Int)) && i9 nv na s.value else if s.kind = 2 then decide (0 ≤ s.target) && decide (s.target < (na : Int)) && i9 nv na s.index && G5 s.index && i9 nv na s.value
   else if s.kind = 3 then i9 nv na s.value && s.body.all (i5 nv na d) && s.els.all (i5 nv na d) else if s.kind = 4 then s.body.all (i5 nv na d) else false))) := rfl
  have HG : Hid (∀ W, Below w.heap.size w W → L1 W φ (.agg #[.int .i64 s.index.kind, .int .i64 s.index.value, .slice ai s.index.kids.length ci]) s.index ∧ L1 W φ (.agg #[.int .i64 s.value.kind, .int .i64 s.value.value, .slice av s.value.kids.length cv]) s.value ∧ C5 W φ (.slice ab s.body.length cb) s.body ∧ C5 W φ (.slice ae s.els.length ce) s.els) := fun W k =>
   ⟨⟨_, rfl, s7.nice _ _ _ _ _ _ (T3.below k) g1⟩, ⟨_, rfl, s7.nice _ _ _ _ _ _ (T3.below k) g2⟩, C5.nice _ _ _ _ _ _ (T3.below k) g3, C5.nice _ _ _ _ _ _ (T3.below k) g4⟩
  have HF : Hid (∀ W, Below w.heap.size w W → ah0 W φ (.agg #[.int .i64 s.kind, .int .i64 s.target, .int .i64 s.index.kind, .int .i64 s.index.value, .slice ai s.index.kids.length ci, .int .i64 s.value.kind, .int .i64 s.value.value, .slice av s.value.kids.length cv, .int .i64 s.count, .slice ab s.body.length cb, .slice ae s.els.length ce]) s) := fun W k => ah0.nice _ _ _ _ _ _ (T3.below k) hfull
  obtain ⟨W, hW, M⟩ : ∃ W, W = (w.alloc (.cells #[.slice a1 nv c1, .slice a2 na c2, v3] 26)).alloc (.cells #[.int .i64 s.kind, .int .i64 s.target, .int .i64 s.index.kind, .int .i64 s.index.value, .slice ai s.index.kids.length ci, .int .i64 s.value.kind, .int .i64 s.value.value, .slice av s.value.kids.length cv, .int .i64 s.count, .slice ab s.body.length cb, .slice ae s.els.length ce] 106) ∧ r8 (fun _ => True) (fun _ => True) w W [.box w.heap.size [.slice a1 nv c1, .slice a2 na c2, v3], .box (w.heap.size + 1) [.int .i64 s.kind, .int .i64 s.target, .int .i64 s.index.kind, .int .i64 s.index.value, .slice ai s.index.kids.length ci, .int .i64 s.value.kind, .int .i64 s.value.value, .slice av s.value.kids.length cv, .int .i64 s.count, .slice ab s.body.length cb, .slice ae s.els.length ce]] :=
   ⟨_, rfl, ((r8.start fun _ _ => trivial).box _ _).box' _ _ (by simp)⟩
  clear g1 g2 g3 g4 h hfull
  have c0 := M.c 1 0 rfl rfl
  have c1 := M.c 1 1 rfl rfl
  have c2 := M.c 1 2 rfl rfl
  have c3 := M.c 1 3 rfl rfl
  have c4 := M.c 1 4 rfl rfl
  have c5 := M.c 1 5 rfl rfl
  have c6 := M.c 1 6 rfl rfl
  have c7 := M.c 1 7 rfl rfl
  have c8 := M.c 1 8 rfl rfl
  have c9 := M.c 1 9 rfl rfl
  have c10 := M.c 1 10 rfl rfl
  have x0 := M.c 0 0 rfl rfl
  have x1 := M.c 0 1 rfl rfl
  have x2 := M.c 0 2 rfl rfl
  have HM := show Hid _ from M
  rw [hW] at c0 c1 c2 c3 c4 c5 c6 c7 c8 c9 c10 x0 x1 x2
  clear M
  go_enter Tryz.func193, Tryz.ntmps193
  go_wp2_with fail
  rw [← hW]
  clear hW
  have M := HM.out
  clear HM c0 c1 c2 c3 c4 c5 c6 c7 c8 c9 c10 x0 x1 x2
  refine (aM9 φ _ s _ (HF.out _ (M.below fun _ _ => trivial))).mono ?_
  rintro x w1 ⟨rfl, b1⟩
  replace M := M.call b1
  clear b1
  obtain ⟨b, hb⟩ : ∃ b, b = B6 s := ⟨_, rfl⟩
  rw [← hb]
  have HB := show Hid _ from hb
  clear hb
  cases b
  ·have HP : Hid (i5 nv na (d + 1) s = false) := by rw [Hid, HD0.out, ← HB.out]; rfl
   clear HD0 HB
   have c0 := M.c 1 0 rfl rfl
   have c1 := M.c 1 1 rfl rfl
   have c2 := M.c 1 2 rfl rfl
   have c3 := M.c 1 3 rfl rfl
   have c4 := M.c 1 4 rfl rfl
   have c5 := M.c 1 5 rfl rfl
   have c6 := M.c 1 6 rfl rfl
   have c7 := M.c 1 7 rfl rfl
   have c8 := M.c 1 8 rfl rfl
   have c9 := M.c 1 9 rfl rfl
   have c10 := M.c 1 10 rfl rfl
   have x0 := M.c 0 0 rfl rfl
   have x1 := M.c 0 1 rfl rfl
   have x2 := M.c 0 2 rfl rfl
   have HM := show Hid _ from M
   clear M
   go_wp2_with fail
   go_ret
   exact ⟨f8 (by rw [HP.out]), HM.out.below fun _ _ => trivial⟩
  have HD := show Hid (i5 nv na (d + 1) s = (if s.kind = 1 ∨ s.kind = 5 then decide (0 ≤ s.target) && decide (s.target < (nv : Int)) && i9 nv na s.value else if s.kind = 2 then decide (0 ≤ s.target) && decide (s.target < (na : Int)) && i9 nv na s.index && G5 s.index && i9 nv na s.value
   else if s.kind = 3 then i9 nv na s.value && s.body.all (i5 nv na d) && s.els.all (i5 nv na d) else if s.kind = 4 then s.body.all (i5 nv na d) else false)) from by rw [Hid, HD0.out, ← HB.out]; rfl
  clear HD0 HB
  by_cases qk : s.kind = 1
  ·have k1 : (s.kind == 1) = true := by simp [qk]
   have k5 : (s.kind == 5) = false := by simp [qk]
   have k2 : (s.kind == 2) = false := by simp [qk]
   have k3 : (s.kind == 3) = false := by simp [qk]
   have k4 : (s.kind == 4) = false := by simp [qk]
   have HP1 := show Hid (i5 nv na (d + 1) s = (decide (0 ≤ s.target) && decide (s.target < (nv : Int)) && i9 nv na s.value)) from by rw [Hid, HD.out, if_pos (.inl qk)]
   clear qk
   have HP0 := show Hid (i5 nv na (d + 1) s = (decide (0 ≤ s.target) && decide (s.target < (nv : Int)) && i9 nv na s.value)) from HP1.out
   clear HP1
   by_cases t0 : 0 ≤ s.target
   case neg =>
    have p0 : decide (0 ≤ s.target) = false := decide_eq_false t0
    have HP : Hid (i5 nv na (d + 1) s = false) := by rw [Hid, HP0.out, p0]; rfl
    clear HP0 t0
    have c0 := M.c 1 0 rfl rfl
    have c1 := M.c 1 1 rfl rfl
    have c2 := M.c 1 2 rfl rfl
    have c3 := M.c 1 3 rfl rfl
    have c4 := M.c 1 4 rfl rfl
    have c5 := M.c 1 5 rfl rfl
    have c6 := M.c 1 6 rfl rfl
    have c7 := M.c 1 7 rfl rfl
    have c8 := M.c 1 8 rfl rfl
    have c9 := M.c 1 9 rfl rfl
    have c10 := M.c 1 10 rfl rfl
    have x0 := M.c 0 0 rfl rfl
    have x1 := M.c 0 1 rfl rfl
    have x2 := M.c 0 2 rfl rfl
    have HM := show Hid _ from M
    clear M
    go_wp2_with fail
    go_ret
    exact ⟨f8 (by rw [HP.out]), HM.out.below fun _ _ => trivial⟩
   have p0 : decide (0 ≤ s.target) = true := decide_eq_true t0
   by_cases t1 : s.target < (nv : Int)
   case neg =>
    have p1 : decide (s.target < (nv : Int)) = false := decide_eq_false t1
    have HP : Hid (i5 nv na (d + 1) s = false) := by rw [Hid, HP0.out, p0, p1]; rfl
    clear HP0 t0 t1
    have c0 := M.c 1 0 rfl rfl
    have c1 := M.c 1 1 rfl rfl
    have c2 := M.c 1 2 rfl rfl
    have c3 := M.c 1 3 rfl rfl
    have c4 := M.c 1 4 rfl rfl
    have c5 := M.c 1 5 rfl rfl
    have c6 := M.c 1 6 rfl rfl
    have c7 := M.c 1 7 rfl rfl
    have c8 := M.c 1 8 rfl rfl
    have c9 := M.c 1 9 rfl rfl
    have c10 := M.c 1 10 rfl rfl
    have x0 := M.c 0 0 rfl rfl
    have x1 := M.c 0 1 rfl rfl
    have x2 := M.c 0 2 rfl rfl
    have HM := show Hid _ from M
    clear M
    go_wp2_with fail
    go_ret
    exact ⟨f8 (by rw [HP.out]), HM.out.below fun _ _ => trivial⟩
   have p1 : decide (s.target < (nv : Int)) = true := decide_eq_true t1
   have HP1 := show Hid (i5 nv na (d + 1) s = (i9 nv na s.value)) from by rw [Hid, HP0.out, p0, p1]; rfl
   clear HP0 t0 t1
   have HP0 := show Hid (i5 nv na (d + 1) s = (i9 nv na s.value)) from HP1.out
   clear HP1
   have c0 := M.c 1 0 rfl rfl
   have c1 := M.c 1 1 rfl rfl
   have c2 := M.c 1 2 rfl rfl
   have c3 := M.c 1 3 rfl rfl
   have c4 := M.c 1 4 rfl rfl
   have c5 := M.c 1 5 rfl rfl
   have c6 := M.c 1 6 rfl rfl
   have c7 := M.c 1 7 rfl rfl
   have c8 := M.c 1 8 rfl rfl
   have c9 := M.c 1 9 rfl rfl
   have c10 := M.c 1 10 rfl rfl
   have x0 := M.c 0 0 rfl rfl
   have x1 := M.c 0 1 rfl rfl
   have x2 := M.c 0 2 rfl rfl
   have HM := show Hid _ from M
   clear M
   go_wp2_with fail
   have M := HM.out
   clear HM c0 c1 c2 c3 c4 c5 c6 c7 c8 c9 c10 x0 x1 x2
   refine (J9 a1 a2 nv c1 na c2 v3 h1 h2 s.value φ _ _ (HG.out _ (M.below fun _ _ => trivial)).2.1).mono ?_
   rintro x w1 ⟨rfl, b1⟩
   replace M := M.call b1
   clear b1
   have HP : Hid (i5 nv na (d + 1) s = i9 nv na s.value) := HP0.out
   clear HP0
   have HM := show Hid _ from M
   clear M
   go_wp2_with fail
   go_ret
   exact ⟨f8 (by rw [HP.out]), HM.out.below fun _ _ => trivial⟩
  have qn1 := qk
  clear qk
  by_cases qk : s.kind = 5
  ·have k1 : (s.kind == 1) = false := by simp [qk]
   have k5 : (s.kind == 5) = true := by simp [qk]
   have k2 : (s.kind == 2) = false := by simp [qk]
   have k3 : (s.kind == 3) = false := by simp [qk]
   have k4 : (s.kind == 4) = false := by simp [qk]
   have HP1 := show Hid (i5 nv na (d + 1) s = (decide (0 ≤ s.target) && decide (s.target < (nv : Int)) && i9 nv na s.value)) from by rw [Hid, HD.out, if_pos (.inr qk)]
   clear qk
   have HP0 := show Hid (i5 nv na (d + 1) s = (decide (0 ≤ s.target) && decide (s.target < (nv : Int)) && i9 nv na s.value)) from HP1.out
   clear HP1
   by_cases t0 : 0 ≤ s.target
   case neg =>
    have p0 : decide (0 ≤ s.target) = false := decide_eq_false t0
    have HP : Hid (i5 nv na (d + 1) s = false) := by rw [Hid, HP0.out, p0]; rfl
    clear HP0 t0
    have c0 := M.c 1 0 rfl rfl
    have c1 := M.c 1 1 rfl rfl
    have c2 := M.c 1 2 rfl rfl
    have c3 := M.c 1 3 rfl rfl
    have c4 := M.c 1 4 rfl rfl
    have c5 := M.c 1 5 rfl rfl
    have c6 := M.c 1 6 rfl rfl
    have c7 := M.c 1 7 rfl rfl
    have c8 := M.c 1 8 rfl rfl
    have c9 := M.c 1 9 rfl rfl
    have c10 := M.c 1 10 rfl rfl
    have x0 := M.c 0 0 rfl rfl
    have x1 := M.c 0 1 rfl rfl
    have x2 := M.c 0 2 rfl rfl
    have HM := show Hid _ from M
    clear M
    go_wp2_with fail
    go_ret
    exact ⟨f8 (by rw [HP.out]), HM.out.below fun _ _ => trivial⟩
   have p0 : decide (0 ≤ s.target) = true := decide_eq_true t0
   by_cases t1 : s.target < (nv : Int)
   case neg =>
    have p1 : decide (s.target < (nv : Int)) = false := decide_eq_false t1
    have HP : Hid (i5 nv na (d + 1) s = false) := by rw [Hid, HP0.out, p0, p1]; rfl
    clear HP0 t0 t1
    have c0 := M.c 1 0 rfl rfl
    have c1 := M.c 1 1 rfl rfl
    have c2 := M.c 1 2 rfl rfl
    have c3 := M.c 1 3 rfl rfl
    have c4 := M.c 1 4 rfl rfl
    have c5 := M.c 1 5 rfl rfl
    have c6 := M.c 1 6 rfl rfl
    have c7 := M.c 1 7 rfl rfl
    have c8 := M.c 1 8 rfl rfl
    have c9 := M.c 1 9 rfl rfl
    have c10 := M.c 1 10 rfl rfl
    have x0 := M.c 0 0 rfl rfl
    have x1 := M.c 0 1 rfl rfl
    have x2 := M.c 0 2 rfl rfl
    have HM := show Hid _ from M
    clear M
    go_wp2_with fail
    go_ret
    exact ⟨f8 (by rw [HP.out]), HM.out.below fun _ _ => trivial⟩
   have p1 : decide (s.target < (nv : Int)) = true := decide_eq_true t1
   have HP1 := show Hid (i5 nv na (d + 1) s = (i9 nv na s.value)) from by rw [Hid, HP0.out, p0, p1]; rfl
   clear HP0 t0 t1
   have HP0 := show Hid (i5 nv na (d + 1) s = (i9 nv na s.value)) from HP1.out
   clear HP1
   have c0 := M.c 1 0 rfl rfl
   have c1 := M.c 1 1 rfl rfl
   have c2 := M.c 1 2 rfl rfl
   have c3 := M.c 1 3 rfl rfl
   have c4 := M.c 1 4 rfl rfl
   have c5 := M.c 1 5 rfl rfl
   have c6 := M.c 1 6 rfl rfl
   have c7 := M.c 1 7 rfl rfl
   have c8 := M.c 1 8 rfl rfl
   have c9 := M.c 1 9 rfl rfl
   have c10 := M.c 1 10 rfl rfl
   have x0 := M.c 0 0 rfl rfl
   have x1 := M.c 0 1 rfl rfl
   have x2 := M.c 0 2 rfl rfl
   have HM := show Hid _ from M
   clear M
   go_wp2_with fail
   have M := HM.out
   clear HM c0 c1 c2 c3 c4 c5 c6 c7 c8 c9 c10 x0 x1 x2
   refine (J9 a1 a2 nv c1 na c2 v3 h1 h2 s.value φ _ _ (HG.out _ (M.below fun _ _ => trivial)).2.1).mono ?_
   rintro x w1 ⟨rfl, b1⟩
   replace M := M.call b1
   clear b1
   have HP : Hid (i5 nv na (d + 1) s = i9 nv na s.value) := HP0.out
   clear HP0
   have HM := show Hid _ from M
   clear M
   go_wp2_with fail
   go_ret
   exact ⟨f8 (by rw [HP.out]), HM.out.below fun _ _ => trivial⟩
  have qn5 := qk
  clear qk
  by_cases qk : s.kind = 2
  ·have k1 : (s.kind == 1) = false := by simp [qk]
   have k5 : (s.kind == 5) = false := by simp [qk]
   have k2 : (s.kind == 2) = true := by simp [qk]
   have k3 : (s.kind == 3) = false := by simp [qk]
   have k4 : (s.kind == 4) = false := by simp [qk]
   have HP1 := show Hid (i5 nv na (d + 1) s = (decide (0 ≤ s.target) && decide (s.target < (na : Int)) && i9 nv na s.index && G5 s.index && i9 nv na s.value)) from by rw [Hid, HD.out, if_neg (by omega), if_pos qk]
   clear qk
   have HP0 := show Hid (i5 nv na (d + 1) s = (decide (0 ≤ s.target) && decide (s.target < (na : Int)) && i9 nv na s.index && G5 s.index && i9 nv na s.value)) from HP1.out
   clear HP1
   by_cases t0 : 0 ≤ s.target
   case neg =>
    have p0 : decide (0 ≤ s.target) = false := decide_eq_false t0
    have HP : Hid (i5 nv na (d + 1) s = false) := by rw [Hid, HP0.out, p0]; rfl
    clear HP0 t0
    have c0 := M.c 1 0 rfl rfl
    have c1 := M.c 1 1 rfl rfl
    have c2 := M.c 1 2 rfl rfl
    have c3 := M.c 1 3 rfl rfl
    have c4 := M.c 1 4 rfl rfl
    have c5 := M.c 1 5 rfl rfl
    have c6 := M.c 1 6 rfl rfl
    have c7 := M.c 1 7 rfl rfl
    have c8 := M.c 1 8 rfl rfl
    have c9 := M.c 1 9 rfl rfl
    have c10 := M.c 1 10 rfl rfl
    have x0 := M.c 0 0 rfl rfl
    have x1 := M.c 0 1 rfl rfl
    have x2 := M.c 0 2 rfl rfl
    have HM := show Hid _ from M
    clear M
    go_wp2_with fail
    go_ret
    exact ⟨f8 (by rw [HP.out]), HM.out.below fun _ _ => trivial⟩
   have p0 : decide (0 ≤ s.target) = true := decide_eq_true t0
   by_cases t1 : s.target < (na : Int)
   case neg =>
    have p1 : decide (s.target < (na : Int)) = false := decide_eq_false t1
    have HP : Hid (i5 nv na (d + 1) s = false) := by rw [Hid, HP0.out, p0, p1]; rfl
    clear HP0 t0 t1
    have c0 := M.c 1 0 rfl rfl
    have c1 := M.c 1 1 rfl rfl
    have c2 := M.c 1 2 rfl rfl
    have c3 := M.c 1 3 rfl rfl
    have c4 := M.c 1 4 rfl rfl
    have c5 := M.c 1 5 rfl rfl
    have c6 := M.c 1 6 rfl rfl
    have c7 := M.c 1 7 rfl rfl
    have c8 := M.c 1 8 rfl rfl
    have c9 := M.c 1 9 rfl rfl
    have c10 := M.c 1 10 rfl rfl
    have x0 := M.c 0 0 rfl rfl
    have x1 := M.c 0 1 rfl rfl
    have x2 := M.c 0 2 rfl rfl
    have HM := show Hid _ from M
    clear M
    go_wp2_with fail
    go_ret
    exact ⟨f8 (by rw [HP.out]), HM.out.below fun _ _ => trivial⟩
   have p1 : decide (s.target < (na : Int)) = true := decide_eq_true t1
   have HP1 := show Hid (i5 nv na (d + 1) s = (i9 nv na s.index && G5 s.index && i9 nv na s.value)) from by rw [Hid, HP0.out, p0, p1]; rfl
   clear HP0 t0 t1
   have HP0 := show Hid (i5 nv na (d + 1) s = (i9 nv na s.index && G5 s.index && i9 nv na s.value)) from HP1.out
   clear HP1
   have c0 := M.c 1 0 rfl rfl
   have c1 := M.c 1 1 rfl rfl
   have c2 := M.c 1 2 rfl rfl
   have c3 := M.c 1 3 rfl rfl
   have c4 := M.c 1 4 rfl rfl
   have c5 := M.c 1 5 rfl rfl
   have c6 := M.c 1 6 rfl rfl
   have c7 := M.c 1 7 rfl rfl
   have c8 := M.c 1 8 rfl rfl
   have c9 := M.c 1 9 rfl rfl
   have c10 := M.c 1 10 rfl rfl
   have x0 := M.c 0 0 rfl rfl
   have x1 := M.c 0 1 rfl rfl
   have x2 := M.c 0 2 rfl rfl
   have HM := show Hid _ from M
   clear M
   go_wp2_with fail
   have M := HM.out
   clear HM c0 c1 c2 c3 c4 c5 c6 c7 c8 c9 c10 x0 x1 x2
   refine (J9 a1 a2 nv c1 na c2 v3 h1 h2 s.index φ _ _ (HG.out _ (M.below fun _ _ => trivial)).1).mono ?_
   rintro x w1 ⟨rfl, b1⟩
   replace M := M.call b1
   clear b1
   obtain ⟨b, hb⟩ : ∃ b, b = i9 nv na s.index := ⟨_, rfl⟩
   rw [← hb]
   have HB := show Hid _ from hb
   clear hb
   cases b
   ·have HP : Hid (i5 nv na (d + 1) s = false) := by rw [Hid, HP0.out, ← HB.out]; rfl
    clear HP0
    have c0 := M.c 1 0 rfl rfl
    have c1 := M.c 1 1 rfl rfl
    have c2 := M.c 1 2 rfl rfl
    have c3 := M.c 1 3 rfl rfl
    have c4 := M.c 1 4 rfl rfl
    have c5 := M.c 1 5 rfl rfl
    have c6 := M.c 1 6 rfl rfl
    have c7 := M.c 1 7 rfl rfl
    have c8 := M.c 1 8 rfl rfl
    have c9 := M.c 1 9 rfl rfl
    have c10 := M.c 1 10 rfl rfl
    have x0 := M.c 0 0 rfl rfl
    have x1 := M.c 0 1 rfl rfl
    have x2 := M.c 0 2 rfl rfl
    have HM := show Hid _ from M
    clear M
    go_wp2_with fail
    go_ret
    exact ⟨f8 (by rw [HP.out]), HM.out.below fun _ _ => trivial⟩
   ·have HP1 := show Hid (i5 nv na (d + 1) s = (G5 s.index && i9 nv na s.value)) from by rw [Hid, HP0.out, ← HB.out]; rfl
    clear HP0 HB
    have HP0 := show Hid (i5 nv na (d + 1) s = (G5 s.index && i9 nv na s.value)) from HP1.out
    clear HP1
    have c0 := M.c 1 0 rfl rfl
    have c1 := M.c 1 1 rfl rfl
    have c2 := M.c 1 2 rfl rfl
    have c3 := M.c 1 3 rfl rfl
    have c4 := M.c 1 4 rfl rfl
    have c5 := M.c 1 5 rfl rfl
    have c6 := M.c 1 6 rfl rfl
    have c7 := M.c 1 7 rfl rfl
    have c8 := M.c 1 8 rfl rfl
    have c9 := M.c 1 9 rfl rfl
    have c10 := M.c 1 10 rfl rfl
    have x0 := M.c 0 0 rfl rfl
    have x1 := M.c 0 1 rfl rfl
    have x2 := M.c 0 2 rfl rfl
    have HM := show Hid _ from M
    clear M
    go_wp2_with fail
    have M := HM.out
    clear HM c0 c1 c2 c3 c4 c5 c6 c7 c8 c9 c10 x0 x1 x2
    refine (au9 _ _ _ _).mono ?_
    rintro x w1 ⟨rfl, b1⟩
    replace M := M.call b1
    clear b1
    rw [show (decide (s.index.kind = 1) || decide (s.index.kind = 2)) = G5 s.index from rfl]
    obtain ⟨b, hb⟩ : ∃ b, b = G5 s.index := ⟨_, rfl⟩
    rw [← hb]
    have HB := show Hid _ from hb
    clear hb
    cases b
    ·have HP : Hid (i5 nv na (d + 1) s = false) := by rw [Hid, HP0.out, ← HB.out]; rfl
     clear HP0
     have c0 := M.c 1 0 rfl rfl
     have c1 := M.c 1 1 rfl rfl
     have c2 := M.c 1 2 rfl rfl
     have c3 := M.c 1 3 rfl rfl
     have c4 := M.c 1 4 rfl rfl
     have c5 := M.c 1 5 rfl rfl
     have c6 := M.c 1 6 rfl rfl
     have c7 := M.c 1 7 rfl rfl
     have c8 := M.c 1 8 rfl rfl
     have c9 := M.c 1 9 rfl rfl
     have c10 := M.c 1 10 rfl rfl
     have x0 := M.c 0 0 rfl rfl
     have x1 := M.c 0 1 rfl rfl
     have x2 := M.c 0 2 rfl rfl
     have HM := show Hid _ from M
     clear M
     go_wp2_with fail
     go_ret
     exact ⟨f8 (by rw [HP.out]), HM.out.below fun _ _ => trivial⟩
    ·have HP1 := show Hid (i5 nv na (d + 1) s = (i9 nv na s.value)) from by rw [Hid, HP0.out, ← HB.out]; rfl
     clear HP0 HB
     have HP0 := show Hid (i5 nv na (d + 1) s = (i9 nv na s.value)) from HP1.out
     clear HP1
     have c0 := M.c 1 0 rfl rfl
     have c1 := M.c 1 1 rfl rfl
     have c2 := M.c 1 2 rfl rfl
     have c3 := M.c 1 3 rfl rfl
     have c4 := M.c 1 4 rfl rfl
     have c5 := M.c 1 5 rfl rfl
     have c6 := M.c 1 6 rfl rfl
     have c7 := M.c 1 7 rfl rfl
     have c8 := M.c 1 8 rfl rfl
     have c9 := M.c 1 9 rfl rfl
     have c10 := M.c 1 10 rfl rfl
     have x0 := M.c 0 0 rfl rfl
     have x1 := M.c 0 1 rfl rfl
     have x2 := M.c 0 2 rfl rfl
     have HM := show Hid _ from M
     clear M
     go_wp2_with fail
     have M := HM.out
     clear HM c0 c1 c2 c3 c4 c5 c6 c7 c8 c9 c10 x0 x1 x2
     refine (J9 a1 a2 nv c1 na c2 v3 h1 h2 s.value φ _ _ (HG.out _ (M.below fun _ _ => trivial)).2.1).mono ?_
     rintro x w1 ⟨rfl, b1⟩
     replace M := M.call b1
     clear b1
     have HP : Hid (i5 nv na (d + 1) s = i9 nv na s.value) := HP0.out
     clear HP0
     have HM := show Hid _ from M
     clear M
     go_wp2_with fail
     go_ret
     exact ⟨f8 (by rw [HP.out]), HM.out.below fun _ _ => trivial⟩
  have qn2 := qk
  clear qk
  by_cases qk : s.kind = 3
  ·have k1 : (s.kind == 1) = false := by simp [qk]
   have k5 : (s.kind == 5) = false := by simp [qk]
   have k2 : (s.kind == 2) = false := by simp [qk]
   have k3 : (s.kind == 3) = true := by simp [qk]
   have k4 : (s.kind == 4) = false := by simp [qk]
   have HP1 := show Hid (i5 nv na (d + 1) s = (i9 nv na s.value && s.body.all (i5 nv na d) && s.els.all (i5 nv na d))) from by rw [Hid, HD.out, if_neg (by omega), if_neg (by omega), if_pos qk]
   clear qk
   have HP0 := show Hid (i5 nv na (d + 1) s = (i9 nv na s.value && s.body.all (i5 nv na d) && s.els.all (i5 nv na d))) from HP1.out
   clear HP1
   have c0 := M.c 1 0 rfl rfl
   have c1 := M.c 1 1 rfl rfl
   have c2 := M.c 1 2 rfl rfl
   have c3 := M.c 1 3 rfl rfl
   have c4 := M.c 1 4 rfl rfl
   have c5 := M.c 1 5 rfl rfl
   have c6 := M.c 1 6 rfl rfl
   have c7 := M.c 1 7 rfl rfl
   have c8 := M.c 1 8 rfl rfl
   have c9 := M.c 1 9 rfl rfl
   have c10 := M.c 1 10 rfl rfl
   have x0 := M.c 0 0 rfl rfl
   have x1 := M.c 0 1 rfl rfl
   have x2 := M.c 0 2 rfl rfl
   have HM := show Hid _ from M
   clear M
   go_wp2_with fail
   have M := HM.out
   clear HM c0 c1 c2 c3 c4 c5 c6 c7 c8 c9 c10 x0 x1 x2
   refine (J9 a1 a2 nv c1 na c2 v3 h1 h2 s.value φ _ _ (HG.out _ (M.below fun _ _ => trivial)).2.1).mono ?_
   rintro x w1 ⟨rfl, b1⟩
   replace M := M.call b1
   clear b1
   obtain ⟨b, hb⟩ : ∃ b, b = i9 nv na s.value := ⟨_, rfl⟩
   rw [← hb]
   have HB := show Hid _ from hb
   clear hb
   cases b
   ·have HP : Hid (i5 nv na (d + 1) s = false) := by rw [Hid, HP0.out, ← HB.out]; rfl
    clear HP0
    have c0 := M.c 1 0 rfl rfl
    have c1 := M.c 1 1 rfl rfl
    have c2 := M.c 1 2 rfl rfl
    have c3 := M.c 1 3 rfl rfl
    have c4 := M.c 1 4 rfl rfl
    have c5 := M.c 1 5 rfl rfl
    have c6 := M.c 1 6 rfl rfl
    have c7 := M.c 1 7 rfl rfl
    have c8 := M.c 1 8 rfl rfl
    have c9 := M.c 1 9 rfl rfl
    have c10 := M.c 1 10 rfl rfl
    have x0 := M.c 0 0 rfl rfl
    have x1 := M.c 0 1 rfl rfl
    have x2 := M.c 0 2 rfl rfl
    have HM := show Hid _ from M
    clear M
    go_wp2_with fail
    go_ret
    exact ⟨f8 (by rw [HP.out]), HM.out.below fun _ _ => trivial⟩
   ·have HP1 := show Hid (i5 nv na (d + 1) s = (s.body.all (i5 nv na d) && s.els.all (i5 nv na d))) from by rw [Hid, HP0.out, ← HB.out]; rfl
    clear HP0 HB
    have HP0 := show Hid (i5 nv na (d + 1) s = (s.body.all (i5 nv na d) && s.els.all (i5 nv na d))) from HP1.out
    clear HP1
    have c0 := M.c 1 0 rfl rfl
    have c1 := M.c 1 1 rfl rfl
    have c2 := M.c 1 2 rfl rfl
    have c3 := M.c 1 3 rfl rfl
    have c4 := M.c 1 4 rfl rfl
    have c5 := M.c 1 5 rfl rfl
    have c6 := M.c 1 6 rfl rfl
    have c7 := M.c 1 7 rfl rfl
    have c8 := M.c 1 8 rfl rfl
    have c9 := M.c 1 9 rfl rfl
    have c10 := M.c 1 10 rfl rfl
    have x0 := M.c 0 0 rfl rfl
    have x1 := M.c 0 1 rfl rfl
    have x2 := M.c 0 2 rfl rfl
    have HM := show Hid _ from M
    clear M
    go_wp2_with fail
    have M := HM.out
    clear HM c0 c1 c2 c3 c4 c5 c6 c7 c8 c9 c10 x0 x1 x2
    refine (ab3 a1 a2 nv c1 na c2 v3 d (by omega) ih s.body φ _ _ (HG.out _ (M.below fun _ _ => trivial)).2.2.1).mono ?_
    rintro x w1 ⟨rfl, b1⟩
    replace M := M.call b1
    clear b1
    obtain ⟨b, hb⟩ : ∃ b, b = s.body.all (i5 nv na d) := ⟨_, rfl⟩
    rw [← hb]
    have HB := show Hid _ from hb
    clear hb
    cases b
    ·have HP : Hid (i5 nv na (d + 1) s = false) := by rw [Hid, HP0.out, ← HB.out]; rfl
     clear HP0
     have c0 := M.c 1 0 rfl rfl
     have c1 := M.c 1 1 rfl rfl
     have c2 := M.c 1 2 rfl rfl
     have c3 := M.c 1 3 rfl rfl
     have c4 := M.c 1 4 rfl rfl
     have c5 := M.c 1 5 rfl rfl
     have c6 := M.c 1 6 rfl rfl
     have c7 := M.c 1 7 rfl rfl
     have c8 := M.c 1 8 rfl rfl
     have c9 := M.c 1 9 rfl rfl
     have c10 := M.c 1 10 rfl rfl
     have x0 := M.c 0 0 rfl rfl
     have x1 := M.c 0 1 rfl rfl
     have x2 := M.c 0 2 rfl rfl
     have HM := show Hid _ from M
     clear M
     go_wp2_with fail
     go_ret
     exact ⟨f8 (by rw [HP.out]), HM.out.below fun _ _ => trivial⟩
    ·have HP1 := show Hid (i5 nv na (d + 1) s = (s.els.all (i5 nv na d))) from by rw [Hid, HP0.out, ← HB.out]; rfl
     clear HP0 HB
     have HP0 := show Hid (i5 nv na (d + 1) s = (s.els.all (i5 nv na d))) from HP1.out
     clear HP1
     have c0 := M.c 1 0 rfl rfl
     have c1 := M.c 1 1 rfl rfl
     have c2 := M.c 1 2 rfl rfl
     have c3 := M.c 1 3 rfl rfl
     have c4 := M.c 1 4 rfl rfl
     have c5 := M.c 1 5 rfl rfl
     have c6 := M.c 1 6 rfl rfl
     have c7 := M.c 1 7 rfl rfl
     have c8 := M.c 1 8 rfl rfl
     have c9 := M.c 1 9 rfl rfl
     have c10 := M.c 1 10 rfl rfl
     have x0 := M.c 0 0 rfl rfl
     have x1 := M.c 0 1 rfl rfl
     have x2 := M.c 0 2 rfl rfl
     have HM := show Hid _ from M
     clear M
     go_wp2_with fail
     have M := HM.out
     clear HM c0 c1 c2 c3 c4 c5 c6 c7 c8 c9 c10 x0 x1 x2
     refine (ab3 a1 a2 nv c1 na c2 v3 d (by omega) ih s.els φ _ _ (HG.out _ (M.below fun _ _ => trivial)).2.2.2).mono ?_
     rintro x w1 ⟨rfl, b1⟩
     replace M := M.call b1
     clear b1
     have HP : Hid (i5 nv na (d + 1) s = (s.els.all (i5 nv na d))) := HP0.out
     clear HP0
     have HM := show Hid _ from M
     clear M
     go_wp2_with fail
     go_ret
     exact ⟨f8 (by rw [HP.out]), HM.out.below fun _ _ => trivial⟩
  have qn3 := qk
  clear qk
  by_cases qk : s.kind = 4
  ·have k1 : (s.kind == 1) = false := by simp [qk]
   have k5 : (s.kind == 5) = false := by simp [qk]
   have k2 : (s.kind == 2) = false := by simp [qk]
   have k3 : (s.kind == 3) = false := by simp [qk]
   have k4 : (s.kind == 4) = true := by simp [qk]
   have HP1 := show Hid (i5 nv na (d + 1) s = ((s.body.all (i5 nv na d)))) from by rw [Hid, HD.out, if_neg (by omega), if_neg (by omega), if_neg (by omega), if_pos qk]
   clear qk
   have HP0 := show Hid (i5 nv na (d + 1) s = ((s.body.all (i5 nv na d)))) from HP1.out
   clear HP1
   have c0 := M.c 1 0 rfl rfl
   have c1 := M.c 1 1 rfl rfl
   have c2 := M.c 1 2 rfl rfl
   have c3 := M.c 1 3 rfl rfl
   have c4 := M.c 1 4 rfl rfl
   have c5 := M.c 1 5 rfl rfl
   have c6 := M.c 1 6 rfl rfl
   have c7 := M.c 1 7 rfl rfl
   have c8 := M.c 1 8 rfl rfl
   have c9 := M.c 1 9 rfl rfl
   have c10 := M.c 1 10 rfl rfl
   have x0 := M.c 0 0 rfl rfl
   have x1 := M.c 0 1 rfl rfl
   have x2 := M.c 0 2 rfl rfl
   have HM := show Hid _ from M
   clear M
   go_wp2_with fail
   have M := HM.out
   clear HM c0 c1 c2 c3 c4 c5 c6 c7 c8 c9 c10 x0 x1 x2
   refine (ab3 a1 a2 nv c1 na c2 v3 d (by omega) ih s.body φ _ _ (HG.out _ (M.below fun _ _ => trivial)).2.2.1).mono ?_
   rintro x w1 ⟨rfl, b1⟩
   replace M := M.call b1
   clear b1
   have HP : Hid (i5 nv na (d + 1) s = (s.body.all (i5 nv na d))) := HP0.out
   clear HP0
   have HM := show Hid _ from M
   clear M
   go_wp2_with fail
   go_ret
   exact ⟨f8 (by rw [HP.out]), HM.out.below fun _ _ => trivial⟩
  have HP : Hid (i5 nv na (d + 1) s = false) := by rw [Hid, HD.out, if_neg (by omega), if_neg qn2, if_neg qn3, if_neg qk]
  have k1 : (s.kind == 1) = false := by simp [qn1]
  have k5 : (s.kind == 5) = false := by simp [qn5]
  have k2 : (s.kind == 2) = false := by simp [qn2]
  have k3 : (s.kind == 3) = false := by simp [qn3]
  have k4 : (s.kind == 4) = false := by simp [qk]
  clear HD qn1 qn5 qn2 qn3 qk
  have c0 := M.c 1 0 rfl rfl
  have c1 := M.c 1 1 rfl rfl
  have c2 := M.c 1 2 rfl rfl
  have c3 := M.c 1 3 rfl rfl
  have c4 := M.c 1 4 rfl rfl
  have c5 := M.c 1 5 rfl rfl
  have c6 := M.c 1 6 rfl rfl
  have c7 := M.c 1 7 rfl rfl
  have c8 := M.c 1 8 rfl rfl
  have c9 := M.c 1 9 rfl rfl
  have c10 := M.c 1 10 rfl rfl
  have x0 := M.c 0 0 rfl rfl
  have x1 := M.c 0 1 rfl rfl
  have x2 := M.c 0 2 rfl rfl
  have HM := show Hid _ from M
  clear M
  go_wp2_with fail
  go_ret
  exact ⟨f8 (by rw [HP.out]), HM.out.below fun _ _ => trivial⟩
section
variable {P : Program} {f : FuncId}
theorem ab0 {args : List AV} {S : List It} {x : Value} (h : ∀ (φ : Nat → Prop) (w : World) (ρ : Nat → Value), (∀ i d, v5 S i = .dat d → RD w φ d (ρ i)) → Calls P f (AV.vals ρ args).toArray w fun e w' => e = .returned x ∧ Below w.heap.size w w') : l7.ok P (I7 f args S (.v x)) := by
 intro ι φ ψ w0 w F ρ M
 refine (h (X5 φ (s6 F ρ (v5 S))) w ρ fun i d hi => M.datAt hi).mono ?_
 rintro e w' ⟨rfl, hb⟩
 exact ⟨ρ, fun _ _ => rfl, rfl, M.call hb⟩
end
theorem ah5 {w : World} {φ : Nat → Prop} {d : D} {v : Value} (h : RD w φ d v) : ∃ a cap, v = .slice a d.len cap ∧ d.len ≤ 9223372036854775807 := by
 obtain ⟨a, cap, h1, h2, h3, _⟩ := h.open
 unfold maxLen at h3
 exact ⟨a, cap, h1, by omega⟩
theorem D4 (l : Int) : l7.ok Tryz.prog (I7 192 [iA l] [] (bA (f7 l))) :=
 ab0 fun φ w ρ _ => (R9 l w).mono fun e w' h => ⟨h.1, h.2 ▸ Below.refl _ _⟩
theorem Q8 (l : Int) : l7.ok Tryz.prog (I7 105 [iA l] [] (bA (f7 l))) :=
 ab0 fun φ w ρ _ => (ac8 l w).mono fun e w' h => ⟨h.1, h.2 ▸ Below.refl _ _⟩
theorem A8 (n lo hi : Int) : l7.ok Tryz.prog (I7 101 [iA n, iA lo, iA hi] [] (bA (decide (lo ≤ n) && decide (n ≤ hi)))) :=
 ab0 fun φ w ρ _ => (A7 n lo hi w).mono fun e w' h => ⟨h.1, h.2 ▸ Below.refl _ _⟩
theorem at0 (p : f5) : l7.ok Tryz.prog (I7 129 [pA 0] (pS p) (bA (D3 p.vars p.arrays))) :=
 ab0 fun φ w ρ h => aN1 (ρ 0) (ρ 1) (ρ 2) _ _ w (B9.row (h 0 _ rfl)) (B9.row (h 1 _ rfl))
theorem aF9 (vs ars : List Int) : l7.ok Tryz.prog (I7 100 [.ref 0, .ref 1] [.dat (.ints vs), .dat (.ints ars)] (bA (D3 vs ars))) :=
 ab0 fun φ w ρ h => (aH4 (ρ 0) (ρ 1) _ _ w (B9.row (h 0 _ rfl)) (B9.row (h 1 _ rfl))).mono fun e w' h => ⟨h.1, h.2 ▸ Below.refl _ _⟩
theorem bh5 (p : f5) (e : b9) : l7.ok Tryz.prog (I7 233 [pA 0, eA e 3] (pS p ++ eS e) (bA (i9 p.vars.length p.arrays.length e))) :=
 ab0 fun φ w ρ h => by
  obtain ⟨a1, c1, h1, l1⟩ := ah5 (h 0 _ rfl)
  obtain ⟨a2, c2, h2, l2⟩ := ah5 (h 1 _ rfl)
  simp only [AV.vals, AV.val, h1, h2]
  exact J9 a1 a2 _ c1 _ c2 (ρ 2) l1 l2 e φ _ w ⟨_, rfl, h 3 _ rfl⟩
theorem S4 (p : f5) (e : b9) : l7.ok Tryz.prog (I7 227 [pA 0, eA e 3] (pS p ++ eS e) (bA (i9 p.vars.length p.arrays.length e))) :=
 ab0 fun φ w ρ h => by
  obtain ⟨a1, c1, h1, l1⟩ := ah5 (h 0 _ rfl)
  obtain ⟨a2, c2, h2, l2⟩ := ah5 (h 1 _ rfl)
  simp only [AV.vals, AV.val, h1, h2]
  exact bf8 a1 a2 _ c1 _ c2 (ρ 2) l1 l2 e φ _ w ⟨_, rfl, h 3 _ rfl⟩
theorem bh6 (p : f5) (ss : List b6) (n : Int) (hn : n = 5) : l7.ok Tryz.prog (I7 130 [pA 0, .ref 3, iA n] (pS p ++ [.dat (.stmts ss)]) (bA (Q4 p.vars.length p.arrays.length 5 ss))) :=
 ab0 fun φ w ρ h => by
  subst hn
  obtain ⟨a1, c1, h1, l1⟩ := ah5 (h 0 _ rfl)
  obtain ⟨a2, c2, h2, l2⟩ := ah5 (h 1 _ rfl)
  simp only [AV.vals, AV.val, h1, h2]
  exact ab3 a1 a2 _ c1 _ c2 (ρ 2) 5 (by omega) (bf4 a1 a2 _ c1 _ c2 (ρ 2) l1 l2 5 (by omega)) ss φ _ w (h 3 _ rfl)
theorem at2 (e : b9) : l7.ok Tryz.prog (I7 228 [eA e 0] (eS e) (bA (G5 e))) :=
 ab0 fun φ w ρ h => ap0 e.kind e.value (ρ 0) w
theorem aC9 (a b : List b6) : I8 (a ++ b) = I8 a + I8 b := by
 induction a with
 | nil => simp [I8]
 | cons x r ih => simp [I8, ih]; omega
theorem bf0 {ss : List b6} {k : Nat} (h : k < ss.length) : I8 (ss.take (k + 1)) = I8 (ss.take k) + nS ss[k] := by
 rw [s5 _ _ h, aC9]; simp [I8]
theorem aV3 (ss : List b6) (k : Nat) : I8 (ss.take k) ≤ I8 ss := by
 have := aC9 (ss.take k) (ss.drop k)
 rw [List.take_append_drop] at this
 omega
theorem ar9 (s : b6) : nS s = 1 + I8 s.body + I8 s.els := by cases s; simp only [nS]; rfl
theorem aa7 {nv na d : Nat} {s : b6} (h : i5 nv na (d + 1) s = true) : s.body.all (i5 nv na d) = true ∧ s.els.all (i5 nv na d) = true := by
 rw [i5, bR1] at h
 obtain ⟨h1, h2⟩ := h
 unfold B6 at h1
 by_cases k3 : s.kind = 3
 ·rw [if_neg (by omega), if_neg (by omega), if_pos k3] at h2
  simp only [bR1] at h2
  exact ⟨h2.1.2, h2.2⟩
 by_cases k4 : s.kind = 4
 ·rw [if_neg (by omega), if_neg (by omega), if_neg (by omega), if_pos k4] at h2
  rw [if_pos (.inr k4), if_pos k4] at h1
  simp only [bR1, decide_eq_true_eq] at h1
  exact ⟨h2, by rw [bT3 h1.2.1.1.1.1]; rfl⟩
 ·rw [if_neg (by omega)] at h1
  simp only [bR1, decide_eq_true_eq] at h1
  exact ⟨by rw [bT3 h1.1.1.1]; rfl, by rw [bT3 h1.1.1.2]; rfl⟩
theorem aJ5 (s : b6) : r6 s.body ≤ V9 s ∧ r6 s.els ≤ V9 s := by
 rcases s with ⟨_, _, _, _, _, b, e⟩
 simp only [V9, b6.body, b6.els]
 omega
theorem aX1 {nv na : Nat} : ∀ {ss : List b6}, (∀ s ∈ ss, i5 nv na 1 s = true) → I8 ss = ss.length
 | [], _ => rfl
 | s :: r, h => by
  have h1 := aa7 (h s bS4)
  have key : ∀ l : List b6, l.all (i5 nv na 0) = true → l = [] := fun l hl => by
   cases l with
   | nil => rfl
   | cons a r => simp [i5] at hl
  have h2 := aX1 (ss := r) fun x hx => h x (bS9 _ hx)
  rw [I8, ar9, key _ h1.1, key _ h1.2, h2]
  simp [I8]; omega
def o7 (x y : Int) : Int := IntKind.i64.wrap ((BitVec.ofInt (IntKind.bits .i64) x ||| BitVec.ofInt (IntKind.bits .i64) y).toNat : Int)
def a04 (x y : Int) : Int := IntKind.i64.wrap ((BitVec.ofInt (IntKind.bits .i64) x &&& BitVec.ofInt (IntKind.bits .i64) y).toNat : Int)
def a08 (x y : Int) : Int := IntKind.i64.wrap ((BitVec.ofInt (IntKind.bits .i64) x ^^^ BitVec.ofInt (IntKind.bits .i64) y).toNat : Int)
def anI (x y : Int) : Int := IntKind.i64.wrap ((BitVec.ofInt (IntKind.bits .i64) x &&& ~~~(BitVec.ofInt (IntKind.bits .i64) y)).toNat : Int)
theorem l7.dup {P : Program} {f : FuncId} {args args' : List AV} {S S' : List It} {d : D} {res : AV} {i : Nat} (hc : l7.ok P ⟨f, args, S ++ [.dat d], S' ++ [.dat d], res⟩) (hi : S[i]? = some (.dat d)) (hl : S'.length = S.length)
  (hS : S.all (fun x => af7 S.length x.ids) = true) (ha : ∀ ρ : Nat → Value, ρ S.length = ρ i → AV.vals ρ args = AV.vals ρ args') (hg : af7 S.length (AV.idsL args') = true) : l7.ok P ⟨f, args', S, S', res⟩ := by
 intro ι φ ψ w0 w F ρ M
 have hi' : v5 S i = .dat d := by simp [v5, hi]
 have hlt : i < S.length := (bS0.1 hi).1
 have hinv : Inv (v5 S) ρ [S.length] := fun ρ' h j => by
  by_cases hj : j < S.length
  ·refine It.res_congr _ (fun k hk => h k ?_) (.inr (.inr (h j (by simp; omega))))
   have h1 := N3 (bR9.1 hS (S[j]) (bS7 hj)) k (by simpa [v5, bR6, bR5 hj] using hk)
   simp; omega
  ·rw [show v5 S j = .none by simp only [v5, bR6, bU7 (Nat.le_of_not_lt hj)]; rfl]; rfl
 obtain ⟨ρ', h1, M1, h2⟩ := M.newDat (id := S.length) (by simp [v5]) hinv (M.datAt hi')
 have e : s3 (v5 S) [(S.length, .dat d)] = v5 (S ++ [.dat d]) := by
  funext j
  simp only [s3, v5, bR6]
  by_cases hj : j = S.length
  ·subst hj; simp
  ·rw [if_neg hj]
   by_cases hj2 : j < S.length
   ·rw [bU2 hj2]
   ·rw [bU7 (by omega), bU7 (by simp; omega)]
 rw [e] at M1
 have hρ : ρ' i = ρ i := h1 i (by simp; omega)
 have ea : AV.vals ρ args' = AV.vals ρ' args := by
  rw [ha ρ' (by rw [← h2, hρ])]
  exact (AV.vals_congr _ fun k hk => by
   have := N3 hg k hk
   exact h1 k (by simp; omega)).symm
 simp only
 rw [ea]
 refine (hc ι φ ψ w0 w F ρ' M1).mono ?_
 rintro x w' ⟨ρ2, g1, g2, M2⟩
 refine ⟨ρ2, fun k hk => ?_, g2, ?_⟩
 ·rw [g1 k (by simp; omega)]; exact h1 k (by simp; omega)
 ·refine M2.map (fun k => match k with | .inl i => some (.inl i) | .inr j => if j < S'.length then some (.inr j) else none) ?_ ?_
  ·intro k k' x h1 h2
   match k, k' with
   | .inl i, .inl i' => simp at h1 h2; rw [h1, h2]
   | .inl i, .inr j => simp at h1; subst h1; simp at h2
   | .inr j, .inl i => simp at h2; subst h2; simp at h1
   | .inr j, .inr j' => simp at h1 h2; rw [← h1.2] at h2; rw [Sum.inr.inj h2.2]
  ·intro k
   match k with
   | .inl i => exact .inl ⟨.inl i, rfl, rfl⟩
   | .inr j =>
    by_cases hj : j < S'.length
    ·refine .inl ⟨.inr j, by simp [hj], ?_⟩
     simp only [s6, v5, bR6, bU2 hj]
    ·refine .inr ?_
     simp only [s6, v5, bR6, bU7 (Nat.le_of_not_lt hj)]
     rfl
theorem H6 (e : b9) : l7.ok Tryz.prog ⟨229, [.agg [.v (.int .i64 e.kind), .v (.int .i64 e.value), .ref 0]], [.dat (.exprs e.kids)], [.dat (.exprs e.kids)], .v (.bool (noneB e))⟩ := by
  refine G3 17 Tryz.func229 [dE e.kids] [(0, eA e 0)] fun G => ?_; refine wp_seq (m6 G f9 [0, 1] [dE e.kids, .box (eL e 0)] [(1, .ptr 1 0), (2, bA false)] fun G => b5 (wp_seq ?_)); cases h0 : (e.kind == 0)
  · have q0 := ne_of_beq_false h0; refine m6 G (F8 (fc h0 (fc (b := false) rfl fz)) (us [(4, 6, 0), (1007, 1007, 0), (9, 12, 1), (1013, 1013, 1)])) [0] [dE e.kids] [(2, bA false)] fun G => b5 (wp_ret ?_); exact C7 false G [0] (by rw [Bool.eq_iff_iff]; simp [noneB, h0, q0]; done)
  ·
   have q0 := eq_of_beq h0; cases h1 : (e.value == 0)
   · have q1 := ne_of_beq_false h1; refine m6 G (F8 (fc h0 (fc h1 fz)) (us [(4, 6, 0), (1007, 1007, 0), (9, 12, 1), (1013, 1013, 1)])) [0] [dE e.kids] [(2, bA false)] fun G => b5 (wp_ret ?_); exact C7 false G [0] (by rw [Bool.eq_iff_iff]; simp [noneB, h0, q0, h1, q1]; done)
   · have q1 := eq_of_beq h1; refine m6 G (F8 (fc h0 (fc h1 fz)) (us [(4, 6, 0), (1007, 1007, 0), (9, 12, 1), (1013, 1013, 1)])) [0] [dE e.kids] [(2, bA ((e.kids.length : Int) == 0))] fun G => b5 (wp_ret ?_); exact C7 ((e.kids.length : Int) == 0) G [0] (by rw [Bool.eq_iff_iff]; simp [noneB, h0, q0, h1, q1]; done)
theorem bh7 (k : Int) : l7.ok Tryz.prog ⟨261, [.v (.int .i64 k)], [], [], .v (.int .i64 (o6 k))⟩ := by
  refine G3 23 Tryz.func261 [] [(0, iA k)] fun G => ?_; refine wp_seq (l5 G f9 [(2, iA 0)] fun G => b5 (wp_seq (wp_block (wp_seq ?_)))); cases h0 : (k == 1)
  ·
   have q0 := ne_of_beq_false h0; refine l5 G (F8 (fc h0 fz) [(3, 0), (4, 0), (1005, 0)]) [(3, bA (k == 2))] fun G => b5 (U9 G (fun h1 q1 => ?_) fun h1 q1 => ?_)
   ·
    refine wp_seq (l5 G f9 [(10, bA (k == 3))] fun G => b5 (U9 G (fun h2 q2 => ?_) fun h2 q2 => ?_))
    ·
     refine wp_seq ?_; cases h3 : (decide (k ≥ 4))
     ·
      have q3 := dFf h3; refine l5 G (F8 (fc h3 fz) [(3, 0), (4, 0), (1005, 0)]) [(13, bA false)] fun G => b5 (rF G false (by kernel_rfl) (wp_seq (J3 G f9 [(2, iA 0), (20, bA (k == 11))] fun G => b5 ?_))); cases h4 : (k == 11)
      · have q4 := ne_of_beq_false h4; refine rF G _ h4 (wp_skip (o5 (b5 (wp_seq (l5 G f9 [(2, iA (-1))] fun G => b5 (wp_ret ?_)))))); exact N1 (-1) G [] (by unfold o6; (repeat' split) <;> omega)
      · have q4 := eq_of_beq h4; exact False.elim (by omega)
     ·
      have q3 := dTt h3; refine l5 G (F8 (fc h3 fz) [(3, 0), (4, 0), (1005, 0)]) [(13, bA (decide (k ≤ 10)))] fun G => b5 (W0 G (fun h5 q5 => ?_) fun h5 q5 => ?_)
      ·
       refine wp_seq (l5 G f9 [(20, bA (k == 11))] fun G => b5 (U9 G (fun h6 q6 => ?_) fun h6 q6 => ?_))
       · refine wp_skip (o5 (b5 (wp_seq (l5 G f9 [(2, iA (-1))] fun G => b5 (wp_ret ?_))))); exact N1 (-1) G [] (by unfold o6; (repeat' split) <;> omega)
       · refine wp_seq (l5 G f9 [(2, iA 3)] fun G => b5 (wp_ret (C9 (m8 ?_)))); exact N1 3 G [] (by unfold o6; (repeat' split) <;> omega)
      · refine wp_seq (l5 G f9 [(2, iA 2)] fun G => b5 (wp_ret (C9 (m8 ?_)))); exact N1 2 G [] (by unfold o6; (repeat' split) <;> omega)
    · refine wp_seq (l5 G f9 [(2, iA 1)] fun G => b5 (wp_ret (C9 (m8 ?_)))); exact N1 1 G [] (by unfold o6; (repeat' split) <;> omega)
   · refine wp_seq (l5 G f9 [] fun G => b5 (wp_ret (C9 (m8 ?_)))); exact N1 0 G [] (by unfold o6; (repeat' split) <;> omega)
  · have q0 := eq_of_beq h0; refine l5 G (F8 (fc h0 fz) [(3, 0), (4, 0), (1005, 0)]) [(3, bA true)] fun G => b5 (rT G true (by kernel_rfl) (wp_seq (l5 G f9 [] fun G => b5 (wp_ret (C9 (m8 ?_)))))); exact N1 0 G [] (by unfold o6; (repeat' split) <;> omega)
section
variable {nv na d : Nat} {e : b9}
end
def E0 : Nat → List b6 → Nat
 | 0, ss => ss.length
 | d + 1, ss => ss.length + (ss.map fun s => E0 d s.body + E0 d s.els).sum
def szP (d : Nat) (ss : List b6) (k : Nat) : Nat := ss.length + ((ss.take k).map fun s => E0 d s.body + E0 d s.els).sum
theorem bv2 (d : Nat) (ss : List b6) {k : Nat} (h : ss.length ≤ k) : szP d ss k = E0 (d + 1) ss := by unfold szP; rw [bS6 h, E0]
theorem H2 {d : Nat} {ss : List b6} {k : Nat} (h : k < ss.length) : szP d ss (k + 1) = szP d ss k + (E0 d (ss.getD k bR0).body + E0 d (ss.getD k bR0).els) := by
 unfold szP
 rw [E8 ss k h, List.map_append, List.sum_append, s4 h]
 simp; omega
theorem bl2 : ∀ (d : Nat) (ss : List b6), E0 d ss ≤ r6 ss := by
 intro d
 induction d with
 | zero => intro ss; exact Z3 ss
 | succ d ih =>
  intro ss
  induction ss with
  | nil => simp [E0]
  | cons s r ihr =>
   have h1 := ih s.body
   have h2 := ih s.els
   have h3 := aJ5 s
   simp only [E0, bU4, List.sum_cons, bR7, r6] at ihr ⊢
   have h4 : r6 s.body + r6 s.els ≤ V9 s := by
    rcases s with ⟨_, _, _, _, _, b, e⟩
    simp only [V9, b6.body, b6.els]; omega
   omega
theorem R8 {d : Nat} {ss : List b6} {k : Nat} : szP d ss k ≤ r6 ss := by
 refine bU1 ?_ (bl2 (d + 1) ss)
 unfold szP
 rw [E0]
 have : ∀ (l : List Nat) (k : Nat), (l.take k).sum ≤ l.sum := fun l k => by
  have := List.sum_append (l₁ := l.take k) (l₂ := l.drop k)
  rw [List.take_append_drop] at this; omega
 have h := this (ss.map fun s => E0 d s.body + E0 d s.els) k
 rw [← List.map_take] at h
 omega
theorem bd4 {ss : List b6} {k B : Nat} (h : r6 ss ≤ B) (hk : k < ss.length) : r6 (ss.getD k bR0).body ≤ B ∧ r6 (ss.getD k bR0).els ≤ B := by
 rw [s4 hk]
 have h1 := E6 (bS7 hk)
 have h2 := aJ5 ss[k]
 omega
theorem bh4 (ss : List b6) (n : Int) (hn : n = 1) (hb : r6 ss ≤ 1048576) : l7.ok Tryz.prog (I7 131 [.ref 0, iA n] [.dat (.stmts ss)] (iA (E0 0 ss : Nat))) := by
 have h100 : decide (n > 1) = false := by simp; omega
 refine G3 39 Tryz.func131 [dT ss] [(0, .ref 0), (1, iA n)] fun G => ?_; refine wp_seq (l5 G f9 [(4, iA 0)] fun G => b5 (wp_seq (l5 G f9 [(5, iA (ss.length : Int))] fun G => b5 (wp_seq (wp_seq (J3 G f9 [(0, .ref 0), (1, iA n), (4, iA 0), (5, iA (ss.length : Int)), (6, iA 0)] fun G => b5 (wp_block ?_))))))); refine x7 (κ := Nat) (fun k => k = 0) (fun k => 0) (fun k => [dT ss]) (fun k => [(0, .ref 0), (1, iA n), (4, iA 0), (5, iA (ss.length : Nat)), (6, iA k)]) 0 (by kernel_rfl) (x9.at G _ _) ?_; clear G; intro k ρ a w hp G; replace G := x9.at G [dT ss] [(0, .ref 0), (1, iA n), (4, iA 0), (5, iA (ss.length : Int)), (6, iA k)]; refine wp_seq (wp_seq ?_); cases h0 : (decide ((k : Int) < ss.length))
 ·have q0 := dFf h0; refine l5 G (F8 (fc h0 fz) [(5, 0), (6, 0), (1007, 0)]) [(16, bA false)] fun G => b5 (rF G false (by kernel_rfl) (wp_exit (v8 (v8 (v7 (b5 (wp_seq (l5 G f9 [(4, iA (ss.length : Int))] fun G => b5 (wp_ret ?_))))))))); exact M6 G [0]
 ·have q0 := dTt h0; refine l5 G (F8 (fc h0 fz) [(5, 0), (6, 0), (1007, 0)]) [(16, bA (decide (n > 1)))] fun G => b5 (rF G (decide (n > 1)) (by assumption) (wp_exit (v8 (v8 (v7 (b5 (wp_seq (l5 G f9 [(4, iA (ss.length : Int))] fun G => b5 (wp_ret ?_))))))))); exact M6 G [0]
theorem bh2 (d : Nat) (hd : d ≤ 5) (ih : ∀ (ss : List b6) (n : Int), n = (d + 1 : Nat) → r6 ss ≤ 1048576 → l7.ok Tryz.prog (I7 131 [.ref 0, iA n] [.dat (.stmts ss)] (iA (E0 d ss : Nat))))
  (ss : List b6) (n : Int) (hn : n = (d + 2 : Nat)) (hb : r6 ss ≤ 1048576) : l7.ok Tryz.prog (I7 131 [.ref 0, iA n] [.dat (.stmts ss)] (iA (E0 (d + 1) ss : Nat))) := by
 have h100 : decide (n > 1) = true := by simp; omega
 refine G3 39 Tryz.func131 [dT ss] [(0, .ref 0), (1, iA n)] fun G => ?_; refine wp_seq (l5 G f9 [(4, iA 0)] fun G => b5 (wp_seq (l5 G f9 [(5, iA (ss.length : Int))] fun G => b5 (wp_seq (wp_seq (J3 G f9 [(0, .ref 0), (1, iA n), (4, iA 0), (5, iA (ss.length : Int)), (6, iA 0)] fun G => b5 (wp_block ?_))))))); refine x7 (κ := Nat) (fun k => k ≤ ss.length) (fun k => ss.length - k) (fun k => [dT ss]) (fun k => [(0, .ref 0), (1, iA n), (4, iA 0), (5, iA (szP d ss k : Nat)), (6, iA k)]) 0 (by simp [h100]) (x9.at G _ _) ?_; clear G; intro k ρ a w hp G; replace G := x9.at G [dT ss] [(0, .ref 0), (1, iA n), (4, iA 0), (5, iA ((szP d ss k) : Int)), (6, iA k)]; have hlen := Z3 ss; refine wp_seq (wp_seq ?_); cases h0 : (decide ((k : Int) < ss.length))
 ·have q0 := dFf h0; refine l5 G (F8 (fc h0 fz) [(5, 0), (6, 0), (1007, 0)]) [(16, bA false)] fun G => b5 (rF G false (by kernel_rfl) (wp_exit (v8 (v8 (v7 (b5 (wp_seq (l5 G f9 [(4, iA ((szP d ss k) : Int))] fun G => b5 (wp_ret ?_))))))))); exact N1 (((szP d ss k) : Int)) G [0] (by have h1 := bv2 d ss (k := k) (by omega); omega)
 ·have q0 := dTt h0; refine l5 G (F8 (fc h0 fz) [(5, 0), (6, 0), (1007, 0)]) [(16, bA (decide (n > 1)))] fun G => b5 (rT G (decide (n > 1)) (by assumption) (wp_skip (b5 (wp_seq (wp_block (ar8 G (B1 ⟨[(8, _, [41]), (17, _, [113])], [], []⟩ (b8 (ih ((ss.getD k bR0).body) (n - 1) (by have h1 := H2 (d := d) (ss := ss) (k := k) (by omega); have h2 := R8 (d := d) (ss := ss) (k := k + 1); omega) ((bd4 hb (by omega)).1)) (b8 (ih ((ss.getD k bR0).els) (n - 1) (by have h1 := H2 (d := d) (ss := ss) (k := k) (by omega); have h2 := R8 (d := d) (ss := ss) (k := k + 1); omega) ((bd4 hb (by omega)).2)) d7)) bR2) [0, 0, 0, 6, 14, 30, 0, 64, 254, 511, 0, 0, 3072, 7168, 15360, 0, 32768, 130558, 262143, 524287] [(5, iA (((szP d ss k) : Int) + ((E0 d (ss.getD k bR0).body) : Int) + ((E0 d (ss.getD k bR0).els) : Int)))] (iX k k ss.length ((wO (n - 1)) :: ((wO (((szP d ss k) : Int) + ((E0 d (ss.getD k bR0).body) : Int))) :: (iX k k ss.length ((wO (n - 1)) :: ((wO (((szP d ss k) : Int) + ((E0 d (ss.getD k bR0).body) : Int) + ((E0 d (ss.getD k bR0).els) : Int))) :: [])))))) (iK (by have h1 := H2 (d := d) (ss := ss) (k := k) (by omega); have h2 := R8 (d := d) (ss := ss) (k := k + 1); omega) ⟨(by have h1 := H2 (d := d) (ss := ss) (k := k) (by omega); have h2 := R8 (d := d) (ss := ss) (k := k + 1); exact w64 (by omega) (by omega)), ⟨(by have h1 := H2 (d := d) (ss := ss) (k := k) (by omega); have h2 := R8 (d := d) (ss := ss) (k := k + 1); exact w64 (by omega) (by omega)), (iK (by have h1 := H2 (d := d) (ss := ss) (k := k) (by omega); have h2 := R8 (d := d) (ss := ss) (k := k + 1); omega) ⟨(by have h1 := H2 (d := d) (ss := ss) (k := k) (by omega); have h2 := R8 (d := d) (ss := ss) (k := k + 1); exact w64 (by omega) (by omega)), ⟨(by have h1 := H2 (d := d) (ss := ss) (k := k) (by omega); have h2 := R8 (d := d) (ss := ss) (k := k + 1); exact w64 (by omega) (by omega)), bR2⟩⟩)⟩⟩) fun G => o5 (b5 (H0 G f9 [(6, iA ((k : Int) + 1))] [wO ((k : Int) + 1)] ⟨(by have h1 := H2 (d := d) (ss := ss) (k := k) (by omega); have h2 := R8 (d := d) (ss := ss) (k := k + 1); exact w64 (by omega) (by omega)), bR2⟩ fun G => b5 ?_)))))))); exact Q6 G (k + 1) (by have h1 := H2 (d := d) (ss := ss) (k := k) (by omega); have h2 := R8 (d := d) (ss := ss) (k := k + 1); omega) (by have h1 := H2 (d := d) (ss := ss) (k := k) (by omega); have h2 := R8 (d := d) (ss := ss) (k := k + 1); omega) [0] (ht := by have e1 : (((szP d ss (k + 1)) : Int) : Int) = (((szP d ss k) : Int) + ((E0 d (ss.getD k bR0).body) : Int) + ((E0 d (ss.getD k bR0).els) : Int)) := (by have h1 := H2 (d := d) (ss := ss) (k := k) (by omega); have h2 := R8 (d := d) (ss := ss) (k := k + 1); omega); (first | rw [e1] | simp only [e1]) <;> rfl)
theorem bh3 : ∀ d, d ≤ 5 → ∀ (ss : List b6) (n : Int), n = (d + 1 : Nat) → r6 ss ≤ 1048576 → l7.ok Tryz.prog (I7 131 [.ref 0, iA n] [.dat (.stmts ss)] (iA (E0 d ss : Nat))) := by
 intro d
 induction d with
 | zero => intro _ ss n hn hb; exact bh4 ss n (by omega) hb
 | succ d ih => intro hd ss n hn hb; exact bh2 d (by omega) (fun ss n hn hb => ih (by omega) ss n hn hb) ss n (by omega) hb
theorem bt6 (ss : List b6) (n : Int) (hn : n = 5) (hb : r6 ss ≤ 1048576) : l7.ok Tryz.prog (I7 131 [.ref 0, iA n] [.dat (.stmts ss)] (iA (E0 4 ss : Nat))) :=
 bh3 4 (by omega) ss n (by omega) hb
theorem bl3 {nv na : Nat} : ∀ (d : Nat) (ss : List b6), (∀ s ∈ ss, i5 nv na (d + 1) s = true) → E0 d ss = I8 ss := by
 intro d
 induction d with
 | zero => intro ss h; rw [aX1 h]; rfl
 | succ d ih =>
  intro ss
  induction ss with
  | nil => intro _; rfl
  | cons s r ihr =>
   intro h
   have h1 := aa7 (h s bS4)
   have h2 := ih s.body fun x hx => bR9.1 h1.1 x hx
   have h3 := ih s.els fun x hx => bR9.1 h1.2 x hx
   have h4 := ihr fun x hx => h x (bS9 _ hx)
   rw [I8, ar9, ← h2, ← h3, ← h4]
   simp [E0]; omega
theorem av5 {p : f5} (h : D3 p.vars p.arrays = false) : m0 p = false := by simp [m0, h]
theorem aU7 {p : f5} (h : Q4 p.vars.length p.arrays.length 5 p.body = false) : m0 p = false := by simp [m0, h]
theorem a32 {p : f5} (h1 : D3 p.vars p.arrays = true) (h2 : Q4 p.vars.length p.arrays.length 5 p.body = true) : m0 p = decide ((E0 4 p.body : Int) ≤ 60) := by
 have h3 := bl3 (nv := p.vars.length) (na := p.arrays.length) 4 p.body (fun x hx => bR9.1 h2 x hx)
 rw [m0, h1, h2, h3]
 simp
 exact ⟨fun h => by omega, fun h => by omega⟩
theorem aY9 (p : f5) (n : Int) (hn : n = 5) : l7.ok Tryz.prog (I7 130 [pA 0, .ref 2, iA n] (pS p) (bA (Q4 p.vars.length p.arrays.length 5 p.body))) :=
 l7.dup (S := pS p) (S' := pS p) (d := .stmts p.body) (i := 2) (bh6 p p.body n hn) rfl rfl rfl (fun ρ h => by simp only [AV.vals, AV.val]; rw [show ρ 3 = ρ 2 from h]) rfl
theorem O6 (p : f5) (hb : r6 p.body ≤ 1048576) : l7.ok Tryz.prog (I7 62 [pA 0] (pS p) (bA (m0 p))) := by
  refine G3 17 Tryz.func62 [dI p.vars, dI p.arrays, dT p.body] [(0, pA 0)] fun G => ?_; refine wp_seq (m6 G f9 (rg 4) [dI p.vars, dI p.arrays, dT p.body, .box (pL 0)] [(1, .ptr 3 0), (2, bA false)] fun G => b5 (wp_seq ?_)); cases h0 : (D3 p.vars p.arrays)
  · refine m6 G (B1 ⟨[(1, _, [0, 1, 2])], [(D3 p.vars p.arrays, false), (false, false)], us [(3, 6, 0), (1007, 1007, 0), (9, 12, 1), (1013, 1013, 1)]⟩ (b8 (at0 p) d7) ⟨(by assumption), (by kernel_rfl), bR2⟩) [0, 1, 2] [dI p.vars, dI p.arrays, dT p.body] [(2, bA false)] fun G => b5 (wp_ret ?_); exact C7 false G [0, 1, 2] (av5 (by assumption))
  ·
   cases h1 : (Q4 p.vars.length p.arrays.length (5 : Nat) p.body)
   · refine m6 G (B1 ⟨[(1, _, [0, 1, 2]), (6, _, [0, 1, 2])], [(D3 p.vars p.arrays, true), (Q4 p.vars.length p.arrays.length (5 : Nat) p.body, false)], us [(3, 6, 0), (1007, 1007, 0), (9, 12, 1), (1013, 1013, 1)]⟩ (b8 (at0 p) (b8 (aY9 p 5 (by kernel_rfl)) d7)) ⟨(by assumption), (by assumption), bR2⟩) [0, 1, 2] [dI p.vars, dI p.arrays, dT p.body] [(2, bA false)] fun G => b5 (wp_ret ?_); exact C7 false G [0, 1, 2] (aU7 (by assumption))
   · refine m6 G (B1 ⟨[(1, _, [0, 1, 2]), (6, _, [0, 1, 2]), (11, _, [2])], [(D3 p.vars p.arrays, true), (Q4 p.vars.length p.arrays.length (5 : Nat) p.body, true)], us [(3, 6, 0), (1007, 1007, 0), (9, 12, 1), (1013, 1013, 1)]⟩ (b8 (at0 p) (b8 (aY9 p 5 (by kernel_rfl)) (b8 (bt6 p.body 5 (by kernel_rfl) (by assumption)) d7))) ⟨(by assumption), (by assumption), bR2⟩) [0, 1, 2] [dI p.vars, dI p.arrays, dT p.body] [(2, bA (decide (((E0 4 p.body) : Int) ≤ 60)))] fun G => b5 (wp_ret ?_); exact C7 (decide (((E0 4 p.body) : Int) ≤ 60)) G [0, 1, 2] (a32 (by assumption) (by assumption))
def C1 (nv na : Nat) (s : b6) : Bool := B6 s &&
    (if s.kind = 1 ∨ s.kind = 5 then decide (0 ≤ s.target) && decide (s.target < nv) && i9 nv na s.value
     else if s.kind = 2 then decide (0 ≤ s.target) && decide (s.target < na) && i9 nv na s.index && G5 s.index && i9 nv na s.value
     else if s.kind = 3 then i9 nv na s.value
     else decide (s.kind = 4))
theorem F2 {nv na d : Nat} {s : b6} : i5 nv na (d + 1) s = (C1 nv na s && (s.body.all (i5 nv na d) && s.els.all (i5 nv na d))) := by
 rw [Bool.eq_iff_iff]
 constructor
 ·intro h
  have h1 := aa7 h
  rw [h1.1, h1.2, Bool.and_true, Bool.and_true]
  rw [i5, bR1] at h
  rw [C1, h.1, Bool.true_and]
  obtain ⟨-, h⟩ := h
  split at h
  ·rw [if_pos (by assumption)]; exact h
  split at h
  ·rw [if_neg (by assumption), if_pos (by assumption)]; exact h
  split at h
  ·rw [if_neg (by assumption), if_neg (by assumption), if_pos (by assumption)]
   simp only [bR1] at h; exact h.1.1
  split at h
  ·rw [if_neg (by assumption), if_neg (by assumption), if_neg (by assumption)]; simp [*]
  ·simp at h
 ·intro h
  simp only [bR1] at h
  obtain ⟨h, hb, he⟩ := h
  rw [C1, bR1] at h
  obtain ⟨h0, h⟩ := h
  rw [i5, h0, Bool.true_and]
  split at h
  ·rw [if_pos (by assumption)]; exact h
  split at h
  ·rw [if_neg (by assumption), if_pos (by assumption)]; exact h
  split at h
  ·rw [if_neg (by assumption), if_neg (by assumption), if_pos (by assumption), h, hb, he]; rfl
  ·rw [if_neg (by assumption), if_neg (by assumption), if_neg (by assumption), if_pos (by simpa using h), hb]
def C4 (F : Nat → b6 → Bool × Nat) : Nat → List b6 → Bool × Nat
 | c, [] => (true, c)
 | c, s :: r => if (F c s).1 then C4 F (F c s).2 r else F c s
def y7 (nv na : Nat) : Nat → Nat → b6 → Bool × Nat
 | 0, c, _ => (false, c + 1)
 | d + 1, c, s => if 60 < c + 1 then (false, c + 1) else if C1 nv na s then
   (if (C4 (y7 nv na d) (c + 1) s.body).1 then C4 (y7 nv na d) (C4 (y7 nv na d) (c + 1) s.body).2 s.els else C4 (y7 nv na d) (c + 1) s.body)
   else (false, c + 1)
abbrev l9 (nv na d c : Nat) (ss : List b6) : Bool × Nat := C4 (y7 nv na d) c ss
theorem ab4 (F : Nat → b6 → Bool × Nat) : ∀ (a b : List b6) (c : Nat), C4 F c (a ++ b) = if (C4 F c a).1 then C4 F (C4 F c a).2 b else C4 F c a
 | [], b, c => by simp [C4]
 | x :: r, b, c => by
  simp only [List.cons_append, C4]
  by_cases h : (F c x).1 = true
  ·simp only [h, if_true]; exact ab4 F r b _
  ·simp [h]
theorem al7 {F : Nat → b6 → Bool × Nat} {c k : Nat} {ss : List b6} (h : (C4 F c (ss.take k)).1 = true) (hk : k < ss.length) : C4 F c (ss.take (k + 1)) = F (C4 F c (ss.take k)).2 (ss.getD k bR0) := by
 rw [s5 _ _ hk, ab4, if_pos h, s4 hk]
 simp only [C4]
 split
 ·rename_i h; exact Prod.ext h.symm rfl
 ·rfl
theorem aE5 {F : Nat → b6 → Bool × Nat} {c k : Nat} {ss : List b6} (h : (C4 F c (ss.take k)).1 = true) (hk : k < ss.length) (hf : (F (C4 F c (ss.take k)).2 (ss.getD k bR0)).1 = false) : C4 F c ss = F (C4 F c (ss.take k)).2 (ss.getD k bR0) := by
 conv => lhs; rw [← List.take_append_drop (k + 1) ss]
 rw [ab4, al7 h hk, hf]
 rfl
theorem aE6 {F : Nat → b6 → Bool × Nat} {c k : Nat} {ss : List b6} (hk : ss.length ≤ k) : C4 F c (ss.take k) = C4 F c ss := by rw [bS6 hk]
theorem ap2 {F : Nat → b6 → Bool × Nat} (hF : ∀ c s, c ≤ 60 → (F c s).2 ≤ 61 ∧ ((F c s).1 = true → (F c s).2 ≤ 60)) : ∀ (ss : List b6) (c : Nat), c ≤ 60 → (C4 F c ss).2 ≤ 61 ∧ ((C4 F c ss).1 = true → (C4 F c ss).2 ≤ 60)
 | [], c, h => ⟨by simp only [C4]; omega, fun _ => by simp only [C4]; omega⟩
 | s :: r, c, h => by
  simp only [C4]
  by_cases h1 : (F c s).1 = true
  ·rw [if_pos h1]; exact ap2 hF r _ ((hF c s h).2 h1)
  ·rw [if_neg h1]; exact hF c s h
theorem an8 {nv na : Nat} : ∀ (d c : Nat) (s : b6), c ≤ 60 → (y7 nv na d c s).2 ≤ 61 ∧ ((y7 nv na d c s).1 = true → (y7 nv na d c s).2 ≤ 60)
 | 0, c, s, h => by simp [y7]; omega
 | d + 1, c, s, h => by
  rw [y7]
  by_cases h1 : 60 < c + 1
  ·rw [if_pos h1]; simp; omega
  rw [if_neg h1]
  by_cases h2 : C1 nv na s = true
  ·rw [if_pos h2]
   have h3 := ap2 (an8 (nv := nv) (na := na) d) s.body (c + 1) (by omega)
   by_cases h4 : (C4 (y7 nv na d) (c + 1) s.body).1 = true
   ·rw [if_pos h4]; exact ap2 (an8 d) s.els _ (h3.2 h4)
   ·rw [if_neg h4]; exact h3
  ·rw [if_neg h2]; simp; omega
theorem P7 {nv na d c : Nat} {ss : List b6} (h : c ≤ 60) (h1 : (l9 nv na d c ss).1 = true) : (l9 nv na d c ss).2 ≤ 60 := (ap2 (an8 d) ss c h).2 h1
section
variable {nv na d c : Nat} {s : b6}
theorem ak7 (h : 60 < c + 1) : y7 nv na d c s = (false, c + 1) := by cases d with
 | zero => rfl
 | succ d => rw [y7, if_pos h]
theorem i8 (h : C1 nv na s = false) : y7 nv na d c s = (false, c + 1) := by cases d with
 | zero => rfl
 | succ d => rw [y7, h]; simp
theorem D9 (h1 : c + 1 ≤ 60) (h : C1 nv na s = true) (h2 : (l9 nv na d (c + 1) s.body).1 = false) : y7 nv na (d + 1) c s = l9 nv na d (c + 1) s.body := by
 rw [y7, if_neg (by omega), if_pos h, if_neg (by simp [h2])]
theorem F9 (h1 : c + 1 ≤ 60) (h : C1 nv na s = true) (h2 : (l9 nv na d (c + 1) s.body).1 = true) : y7 nv na (d + 1) c s = l9 nv na d (l9 nv na d (c + 1) s.body).2 s.els := by
 rw [y7, if_neg (by omega), if_pos h, if_pos h2]
end
theorem ap3 {nv na d : Nat} (hF : ∀ c s, c ≤ 60 → ((y7 nv na d c s).1 = (i5 nv na d s && decide (c + nS s ≤ 60))) ∧ ((y7 nv na d c s).1 = true → (y7 nv na d c s).2 = c + nS s)) : ∀ (ss : List b6) (c : Nat), c ≤ 60 → ((l9 nv na d c ss).1 = (ss.all (i5 nv na d) && decide (c + I8 ss ≤ 60))) ∧ ((l9 nv na d c ss).1 = true → (l9 nv na d c ss).2 = c + I8 ss)
 | [], c, h => by simp [C4, I8, h]
 | s :: r, c, h => by
  obtain ⟨h1, h2⟩ := hF c s h
  simp only [l9, C4]
  by_cases h3 : (y7 nv na d c s).1 = true
  ·rw [if_pos h3]
   have e := h2 h3
   have l := (an8 d c s h).2 h3
   obtain ⟨h4, h5⟩ := ap3 hF r (y7 nv na d c s).2 l
   rw [h1, bR1] at h3
   constructor
   ·rw [show C4 (y7 nv na d) (y7 nv na d c s).2 r = l9 nv na d (y7 nv na d c s).2 r from rfl, h4, List.all_cons, h3.1, Bool.true_and, e, I8, Nat.add_assoc]
   ·intro h6; rw [show C4 (y7 nv na d) (y7 nv na d c s).2 r = l9 nv na d (y7 nv na d c s).2 r from rfl, h5 h6, e, I8]; omega
  ·rw [if_neg h3]
   refine ⟨?_, fun h => absurd h h3⟩
   have h4 := h3
   rw [h1] at h4
   rw [Bool.eq_false_iff.2 h3, List.all_cons, I8]
   cases ha : i5 nv na d s
   ·simp
   ·rw [ha, Bool.true_and, decide_eq_true_eq] at h4
    rw [Bool.true_and, show decide (c + (nS s + I8 r) ≤ 60) = false from decide_eq_false (by omega), Bool.and_false]
theorem aB1 {nv na : Nat} : ∀ (d c : Nat) (s : b6), c ≤ 60 → ((y7 nv na d c s).1 = (i5 nv na d s && decide (c + nS s ≤ 60))) ∧ ((y7 nv na d c s).1 = true → (y7 nv na d c s).2 = c + nS s)
 | 0, c, s, h => by simp [y7, i5]
 | d + 1, c, s, h => by
  have hs := ar9 s
  by_cases h1 : 60 < c + 1
  ·rw [ak7 h1, show decide (c + nS s ≤ 60) = false from decide_eq_false (by omega), Bool.and_false]; simp
  cases h2 : C1 nv na s
  ·rw [i8 h2, F2, h2]; simp
  obtain ⟨b1, b2⟩ := ap3 (aB1 (nv := nv) (na := na) d) s.body (c + 1) (by omega)
  rw [F2, h2, Bool.true_and]
  cases h3 : (l9 nv na d (c + 1) s.body).1
  ·rw [D9 (by omega) h2 h3, h3]
   refine ⟨?_, fun h => by simp at h⟩
   rw [h3] at b1
   cases h4 : s.body.all (i5 nv na d)
   ·simp
   ·rw [h4, Bool.true_and] at b1
    have := of_decide_eq_false b1.symm
    rw [show decide (c + nS s ≤ 60) = false from decide_eq_false (by omega), Bool.and_false]
  ·rw [F9 (by omega) h2 h3]
   have e := b2 h3
   have l := P7 (nv := nv) (na := na) (d := d) (c := c + 1) (by omega) h3
   obtain ⟨e1, e2⟩ := ap3 (aB1 (nv := nv) (na := na) d) s.els _ l
   rw [h3] at b1
   have b3 := b1.symm
   rw [bR1] at b3
   rw [b3.1, Bool.true_and, e1, e]
   refine ⟨by rw [show c + 1 + I8 s.body + I8 s.els = c + nS s by omega], fun h => ?_⟩
   have h' : (l9 nv na d (l9 nv na d (c + 1) s.body).2 s.els).1 = true := by rw [e1, e]; exact h
   have := e2 h'
   rw [e] at this
   rw [this]; omega
theorem aT0 {p : f5} (h : D3 p.vars p.arrays = true) : (l9 p.vars.length p.arrays.length 5 0 p.body).1 = m0 p := by
 rw [(ap3 (aB1 5) p.body 0 (by omega)).1, m0, h, Bool.true_and, Q4]; simp
theorem bz5 (p : f5) (s : b6) (c : Nat) (hc : c ≤ 60) (n : Int) (hn : n = 6) : l7.ok Tryz.prog ⟨186, [pA 0, sA s 4, iA n, .ptr 3 0], pS p ++ [.box [iA c]] ++ sS s, pS p ++ [.box [iA (y7 p.vars.length p.arrays.length 0 c s).2]] ++ sS s, bA false⟩ := by
 have h100 : decide (n > 5) = true := by simp; omega
 refine G3 149 Tryz.func186 [dI p.vars, dI p.arrays, dT p.body, .box [iA c], dE s.index.kids, dE s.value.kids, dT s.body, dT s.els] [(0, pA 0), (1, sA s 4), (2, iA n), (3, .ptr 3 0)] fun G => ?_; refine wp_seq (m6 G f9 [0, 1, 2, 3, 4, 5, 6, 7, 8, 16] [dI p.vars, dI p.arrays, dT p.body, .box [iA c], dE s.index.kids, dE s.value.kids, dT s.body, dT s.els, .box (pL 0), .box (sL s 4)] [(2, iA n), (3, .ptr 3 0), (4, .ptr 8 0), (5, .ptr 9 0), (8, bA false)] fun G => b5 (wp_seq (M7 G f9 (rg 10) [dI p.vars, dI p.arrays, dT p.body, .box [iA ((c : Int) + 1)], dE s.index.kids, dE s.value.kids, dT s.body, dT s.els, .box (pL 0), .box (sL s 4)] [(2, iA n), (3, .ptr 3 0), (4, .ptr 8 0), (5, .ptr 9 0), (8, bA false)] [wO ((c : Int) + 1)] (o1 (by omega)) fun G => b5 (wp_seq (wp_seq ?_))))); cases h0 : (decide ((c : Int) + 1 > 60))
 ·have q0 := dFf h0; refine l5 G (F8 (fc h0 fz) [(5, 0), (6, 0), (1007, 0)]) [(27, bA (decide (n > 5)))] fun G => b5 (rT G (decide (n > 5)) (by assumption) (wp_seq (l5 G f9 [] fun G => b5 (wp_ret (m8 ?_))))); exact M6 G (rg 8)
 ·have q0 := dTt h0; refine l5 G (F8 (fc h0 fz) [(5, 0), (6, 0), (1007, 0)]) [(27, bA true)] fun G => b5 (rT G true (by kernel_rfl) (wp_seq (l5 G f9 [] fun G => b5 (wp_ret (m8 ?_))))); exact M6 G (rg 8)
abbrev bB3 (p : f5) (d c : Nat) (s : b6) (n : Int) : l7 := ⟨186, [pA 0, sA s 4, iA n, .ptr 3 0], pS p ++ [.box [iA c]] ++ sS s, pS p ++ [.box [iA (y7 p.vars.length p.arrays.length d c s).2]] ++ sS s, bA (y7 p.vars.length p.arrays.length d c s).1⟩
abbrev a14 (p : f5) (d c : Nat) (ss : List b6) (n : Int) : l7 := ⟨125, [pA 0, .ref 4, iA n, .ptr 3 0], pS p ++ [.box [iA c]] ++ [.dat (.stmts ss)], pS p ++ [.box [iA (l9 p.vars.length p.arrays.length d c ss).2]] ++ [.dat (.stmts ss)], bA (l9 p.vars.length p.arrays.length d c ss).1⟩
theorem aY3 (p : f5) (d : Nat) (hd : d ≤ 5) (ih : ∀ (s : b6) (c : Nat) (n : Int), c ≤ 60 → n = 6 - (d : Int) → l7.ok Tryz.prog (bB3 p d c s n))
    (ss : List b6) (c : Nat) (n : Int) (hc : c ≤ 60) (hn : n = 6 - (d : Int)) : l7.ok Tryz.prog (a14 p d c ss n) := by
  refine G3 24 Tryz.func125 [dI p.vars, dI p.arrays, dT p.body, .box [iA c], dT ss] [(0, pA 0), (1, .ref 4), (2, iA n), (3, .ptr 3 0)] fun G => ?_; refine wp_seq (m6 G f9 (rg 6) [dI p.vars, dI p.arrays, dT p.body, .box [iA c], dT ss, .box (pL 0)] [(1, .ref 4), (2, iA n), (3, .ptr 3 0), (4, .ptr 5 0), (8, bA false)] fun G => b5 (wp_seq (wp_seq (J3 G f9 [(2, iA n), (3, .ptr 3 0), (4, .ptr 5 0), (8, bA false), (11, .ref 4), (12, iA (ss.length : Int)), (13, iA 0)] fun G => b5 (wp_block ?_))))); have hlen : ss.length ≤ 9223372036854775807 := G.len 4 (d := .stmts ss) (by kernel_rfl); refine x7 (κ := Nat) (fun k => k ≤ ss.length ∧ (l9 p.vars.length p.arrays.length d c (ss.take k)).1 = true) (fun k => ss.length - k) (fun k => [dI p.vars, dI p.arrays, dT p.body, .box [iA (l9 p.vars.length p.arrays.length d c (ss.take k)).2], dT ss, .box (pL 0)]) (fun k => [(2, iA n), (3, .ptr 3 0), (4, .ptr 5 0), (8, bA false), (11, .ref 4), (12, iA (ss.length : Int)), (13, iA k)]) 0 (by simp [l9, C4]; done) (x9.at G _ _) ?_; clear G; intro k ρ a w hp G; replace G := x9.at G [dI p.vars, dI p.arrays, dT p.body, .box [iA ((l9 p.vars.length p.arrays.length d c (bR4 k ss)).snd : Int)], dT ss, .box (pL 0)] [(2, iA n), (3, .ptr 3 0), (4, .ptr 5 0), (8, bA false), (11, .ref 4), (12, iA (ss.length : Int)), (13, iA k)]; refine wp_seq (l5 G f9 [(14, bA (decide ((k : Int) < ss.length)))] fun G => b5 (wp_seq (W0 G (fun h0 q0 => ?_) fun h0 q0 => ?_)))
  · refine wp_exit (v8 (v8 (v7 (b5 (wp_seq (m6 G f9 (rg 5) [dI p.vars, dI p.arrays, dT p.body, .box [iA ((l9 p.vars.length p.arrays.length d c (bR4 k ss)).snd : Int)], dT ss] [(8, bA true)] fun G => b5 (wp_ret ?_))))))); exact C7 true G (rg 5) (by rw [l9, ← aE6 (k := k) (by omega)]; exact hp.2) (by show _ = mR (rg 5) [dI p.vars, dI p.arrays, dT p.body, .box [iA ((l9 p.vars.length p.arrays.length d c ss).snd : Int)], dT ss]; have e1 : (((l9 p.vars.length p.arrays.length d c ss).snd : Int) : Int) = (((l9 p.vars.length p.arrays.length d c (bR4 k ss)).snd : Int)) := (by rw [l9, ← aE6 (k := k) (by omega)]); (first | rw [e1] | simp only [e1]) <;> rfl)
  ·
   refine wp_skip (b5 (wp_seq (wp_block (wp_seq (M7 G f9 [0, 1, 2, 3, 4, 5, 14, 15, 16, 17, 22] [dI p.vars, dI p.arrays, dT p.body, .box [iA ((l9 p.vars.length p.arrays.length d c (bR4 k ss)).snd : Int)], dT ss, .box (pL 0), dE (ss.getD k bR0).index.kids, dE (ss.getD k bR0).value.kids, dT (ss.getD k bR0).body, dT (ss.getD k bR0).els, .box (sL (ss.getD k bR0) 6)] [(2, iA n), (3, .ptr 3 0), (4, .ptr 5 0), (8, bA false), (10, .ptr 10 0), (11, .ref 4), (12, iA (ss.length : Int)), (13, iA k)] (iX k k ss.length []) (iK (by have hp := hp; omega) bR2) fun G => b5 (wp_seq (m6 G (A0 4 [0, 1, 2, 3, 6, 7, 8, 9] (ih (ss.getD k bR0) ((l9 p.vars.length p.arrays.length d c (bR4 k ss)).snd) n (P7 (by omega) hp.2) (by assumption))) (rg 6) [dI p.vars, dI p.arrays, dT p.body, .box [iA ((y7 p.vars.length p.arrays.length d (l9 p.vars.length p.arrays.length d c (bR4 k ss)).snd (ss.getD k bR0)).snd : Int)], dT ss, .box (pL 0)] [(2, iA n), (3, .ptr 3 0), (4, .ptr 5 0), (8, bA false), (11, .ref 4), (12, iA (ss.length : Int)), (13, iA k), (22, .v (.bool !(y7 p.vars.length p.arrays.length d (l9 p.vars.length p.arrays.length d c (bR4 k ss)).snd (ss.getD k bR0)).fst))] fun G => b5 ?_))))))); cases h1 : (!(y7 p.vars.length p.arrays.length d (l9 p.vars.length p.arrays.length d c (bR4 k ss)).snd (ss.getD k bR0)).fst)
   · have q1 : ((y7 p.vars.length p.arrays.length d (l9 p.vars.length p.arrays.length d c (bR4 k ss)).snd (ss.getD k bR0)).fst) = true := (Eq.mp (bS3 _) h1); refine rF G _ h1 (wp_skip (o5 (b5 (H0 G f9 [(13, iA ((k : Int) + 1))] [wO ((k : Int) + 1)] (o1 (by omega)) fun G => b5 ?_)))); exact Q6 G (k + 1) (⟨by omega, by rw [l9, al7 hp.2 (by omega)]; assumption⟩) (by have hp := hp; omega) (rg 6) (by have e1 : (((l9 p.vars.length p.arrays.length d c (bR4 (k + 1) ss)).snd : Int) : Int) = (((y7 p.vars.length p.arrays.length d (l9 p.vars.length p.arrays.length d c (bR4 k ss)).snd (ss.getD k bR0)).snd : Int)) := (by rw [l9, al7 hp.2 (by omega)]); (first | rw [e1] | simp only [e1]) <;> rfl)
   · have q1 : ((y7 p.vars.length p.arrays.length d (l9 p.vars.length p.arrays.length d c (bR4 k ss)).snd (ss.getD k bR0)).fst) = false := (Eq.mp (bS1 _) h1); refine rT G _ h1 (wp_seq (l5 G f9 [] fun G => b5 (wp_ret (C9 (m8 (m8 (C9 (m8 ?_)))))))); exact C7 false G (rg 5) (by rw [l9, aE5 hp.2 (by omega) (by assumption)]; assumption) (by show _ = mR (rg 5) [dI p.vars, dI p.arrays, dT p.body, .box [iA ((l9 p.vars.length p.arrays.length d c ss).snd : Int)], dT ss]; have e1 : (((l9 p.vars.length p.arrays.length d c ss).snd : Int) : Int) = (((y7 p.vars.length p.arrays.length d (l9 p.vars.length p.arrays.length d c (bR4 k ss)).snd (ss.getD k bR0)).snd : Int)) := (by rw [l9, aE5 hp.2 (by omega) (by assumption)]); (first | rw [e1] | simp only [e1]) <;> rfl)
section
variable {nv na : Nat} {s : b6}
theorem C3 (k : s.kind = 1 ∨ s.kind = 5) : C1 nv na s = (decide (0 ≤ s.target ∧ s.target < nv ∧ s.body.length = 0 ∧ s.els.length = 0 ∧ s.count = 0) && (noneB s.index && i9 nv na s.value)) := by
 rw [C1, B6, if_pos k, if_neg (by omega), show decide (s.kind = 2) = false from decide_eq_false (by omega), Bool.eq_iff_iff]
 simp only [bR1, decide_eq_true_eq, Bool.false_or]
 constructor
 ·rintro ⟨⟨⟨⟨a, b⟩, c⟩, d⟩, ⟨e, f⟩, g⟩; exact ⟨⟨e, f, a, b, c⟩, d, g⟩
 ·rintro ⟨⟨e, f, a, b, c⟩, d, g⟩; exact ⟨⟨⟨⟨a, b⟩, c⟩, d⟩, ⟨e, f⟩, g⟩
theorem K9 (k : s.kind = 2) : C1 nv na s = (decide (0 ≤ s.target ∧ s.target < na ∧ s.body.length = 0 ∧ s.els.length = 0 ∧ s.count = 0) && (i9 nv na s.index && (G5 s.index && i9 nv na s.value))) := by
 rw [C1, B6, if_neg (by omega), if_pos k, if_neg (by omega), show decide (s.kind = 2) = true from decide_eq_true k, Bool.eq_iff_iff]
 simp only [bR1, decide_eq_true_eq, Bool.true_or]
 constructor
 ·rintro ⟨⟨⟨⟨a, b⟩, c⟩, -⟩, ⟨⟨⟨e, f⟩, i⟩, j⟩, g⟩; exact ⟨⟨e, f, a, b, c⟩, i, j, g⟩
 ·rintro ⟨⟨e, f, a, b, c⟩, i, j, g⟩; exact ⟨⟨⟨⟨a, b⟩, c⟩, bR2⟩, ⟨⟨⟨e, f⟩, i⟩, j⟩, g⟩
theorem X2 (k : s.kind = 3) : C1 nv na s = (decide (s.target = 0 ∧ s.count = 0) && (noneB s.index && i9 nv na s.value)) := by
 rw [C1, B6, if_pos (show s.kind = 3 ∨ s.kind = 4 from .inl k), if_neg (show ¬ s.kind = 4 by omega), if_neg (by omega), if_neg (by omega), if_pos k, Bool.eq_iff_iff]
 simp only [bR1, decide_eq_true_eq]
 constructor
 ·rintro ⟨⟨a, b, c⟩, d⟩; exact ⟨⟨a, b⟩, c, d⟩
 ·rintro ⟨⟨a, b⟩, c, d⟩; exact ⟨⟨a, b, c⟩, d⟩
theorem X1 (k : s.kind = 4) : C1 nv na s = (decide (s.target = 0 ∧ s.els.length = 0 ∧ 1 ≤ s.count ∧ s.count ≤ 3) && (noneB s.index && noneB s.value)) := by
 rw [C1, B6, if_pos (show s.kind = 3 ∨ s.kind = 4 from .inr k), if_pos k, if_neg (by omega), if_neg (by omega), if_neg (by omega), show decide (s.kind = 4) = true from decide_eq_true k, Bool.eq_iff_iff]
 simp only [bR1, decide_eq_true_eq]
 constructor
 ·rintro ⟨⟨a, ⟨⟨⟨b, c⟩, d⟩, e⟩, f⟩, -⟩; exact ⟨⟨a, b, c, d⟩, e, f⟩
 ·rintro ⟨⟨a, b, c, d⟩, e, f⟩; exact ⟨⟨a, ⟨⟨⟨b, c⟩, d⟩, e⟩, f⟩, bR2⟩
theorem bb4 (k : ¬ s.kind = 1 ∧ ¬ s.kind = 2 ∧ ¬ s.kind = 3 ∧ ¬ s.kind = 4 ∧ ¬ s.kind = 5) : C1 nv na s = false := by
 rw [C1, if_neg (by omega), if_neg (by omega), if_neg (by omega), show decide (s.kind = 4) = false from decide_eq_false (by omega), Bool.and_false]
theorem T2 {p : Prop} [Decidable p] {a b : Bool} (hp : p) (ha : a = true) (hb : b = true) : (decide p && (a && b)) = true := by rw [ha, hb, decide_eq_true hp]; rfl
theorem aR4 {p : Prop} [Decidable p] {a b c : Bool} (hp : p) (ha : a = true) (hb : b = true) (hc : c = true) : (decide p && (a && (b && c))) = true := by rw [ha, hb, hc, decide_eq_true hp]; rfl
end
abbrev aj4 (p : f5) (d : Nat) (s : b6) (c : Nat) := l9 p.vars.length p.arrays.length d (l9 p.vars.length p.arrays.length d (c + 1) s.body).snd s.els
abbrev aj3 (p : f5) (d : Nat) (s : b6) (c : Nat) := l9 p.vars.length p.arrays.length d (c + 1) s.body
abbrev n8 (p : f5) (d : Nat) (s : b6) (c : Nat) : List It := [dI p.vars, dI p.arrays, dT p.body, .box [iA ((y7 p.vars.length p.arrays.length (d + 1) c s).snd : Int)], dE s.index.kids, dE s.value.kids, dT s.body, dT s.els]
abbrev Z1 (s : b6) (r0 : List It) : List It := dE s.index.kids :: dE s.value.kids :: dT s.body :: dT s.els :: r0
abbrev Z0 (p : f5) (r0 : List It) : List It := dI p.vars :: dI p.arrays :: dT p.body :: r0
theorem bz4 (p : f5) (d : Nat) (hd : d ≤ 4) (ih : ∀ (ss : List b6) (c : Nat) (n : Int), c ≤ 60 → n = 6 - (d : Int) → l7.ok Tryz.prog (a14 p d c ss n))
    (s : b6) (c : Nat) (n : Int) (hc : c ≤ 60) (hn : n = 5 - (d : Int)) : l7.ok Tryz.prog (bB3 p (d + 1) c s n) := by
  have h100 : decide (n > 5) = false := by simp; omega
  refine G3 149 Tryz.func186 (Z0 p (.box [iA c] :: (Z1 s []))) [(0, pA 0), (1, sA s 4), (2, iA n), (3, .ptr 3 0)] fun G => ?_; have hl0 : p.vars.length ≤ 9223372036854775807 := G.len 0 (d := .ints p.vars) (by kernel_rfl); have hl1 : p.arrays.length ≤ 9223372036854775807 := G.len 1 (d := .ints p.arrays) (by kernel_rfl); refine wp_seq (m6 G f9 [0, 1, 2, 3, 4, 5, 6, 7, 8, 16] (Z0 p (.box [iA c] :: (Z1 s [.box (pL 0), .box (sL s 4)]))) [(2, iA n), (3, .ptr 3 0), (4, .ptr 8 0), (5, .ptr 9 0), (8, bA false)] fun G => b5 (wp_seq (M7 G f9 (rg 10) (Z0 p (.box [iA ((c : Int) + 1)] :: (Z1 s [.box (pL 0), .box (sL s 4)]))) [(2, iA n), (3, .ptr 3 0), (4, .ptr 8 0), (5, .ptr 9 0), (8, bA false)] [wO ((c : Int) + 1)] (o1 (by omega)) fun G => b5 (wp_seq (wp_seq ?_))))); cases h0 : (decide ((c : Int) + 1 > 60))
  ·
   have q0 := dFf h0; refine l5 G (F8 (fc h0 fz) [(5, 0), (6, 0), (1007, 0)]) [(27, bA (decide (n > 5)))] fun G => b5 (rF G (decide (n > 5)) (by assumption) (wp_skip (b5 (wp_seq (l5 G f9 [(9, iA 1), (10, bA false), (11, bA true), (12, bA false), (13, bA false), (14, bA false)] fun G => b5 (wp_seq (wp_seq (l5 G f9 [(29, iA s.kind)] fun G => b5 (wp_block (wp_seq (wp_seq (l5 G f9 [(30, bA (s.kind == 1))] fun G => b5 (U9 G (fun h1 q1 => ?_) fun h1 q1 => ?_)))))))))))))
   ·
    refine l5 G f9 [(30, bA (s.kind == 5))] fun G => b5 (U9 G (fun h2 q2 => ?_) fun h2 q2 => ?_)
    ·
     refine wp_seq (l5 G f9 [(36, bA (s.kind == 2))] fun G => b5 (U9 G (fun h3 q3 => ?_) fun h3 q3 => ?_))
     ·
      refine wp_seq (l5 G f9 [(41, bA (s.kind == 3))] fun G => b5 (U9 G (fun h4 q4 => ?_) fun h4 q4 => ?_))
      ·
       refine wp_seq (l5 G f9 [(43, bA (s.kind == 4))] fun G => b5 (U9 G (fun h5 q5 => ?_) fun h5 q5 => ?_))
       · refine wp_seq (l5 G f9 [] fun G => b5 (wp_ret (C9 (m8 ?_)))); exact C7 false G (rg 8) (by rw [i8 (bb4 (by omega))]; done) (by show _ = mR (rg 8) (n8 p d s c); unfold n8; rw [i8 (bb4 (by omega))] <;> rfl)
       ·
        refine l5 G f9 [(11, bA false), (12, bA true), (13, bA true)] fun G => o5 (b5 (wp_seq (wp_seq ?_))); cases h6 : (!(decide ((0 : Int) ≤ s.target) && decide (s.target ≤ 0)))
        ·
         have q6 : (0 ≤ s.target) ∧ (s.target ≤ 0) := (fun hq => And.imp (fun hq => of_decide_eq_true hq) (fun hq => of_decide_eq_true hq) (bU0.1 hq)) (Eq.mp (bS3 _) h6); cases h7 : (!(decide ((1 : Int) ≤ s.count) && decide (s.count ≤ 3)))
         ·
          have q7 : (1 ≤ s.count) ∧ (s.count ≤ 3) := (fun hq => And.imp (fun hq => of_decide_eq_true hq) (fun hq => of_decide_eq_true hq) (bU0.1 hq)) (Eq.mp (bS3 _) h7); refine H0 G (B1 ⟨[(4, _, []), (11, _, [])], [(!(decide ((0 : Int) ≤ s.target) && decide (s.target ≤ 0)), false), (true, true), (!(decide ((1 : Int) ≤ s.count) && decide (s.count ≤ 3)), false), (false, false)], us [(7, 8, 0), (9, 12, 1), (13, 13, 0), (1013, 1013, 1), (1014, 1014, 0), (16, 18, 2), (19, 21, 3), (22, 22, 2), (1022, 1022, 3), (1023, 1023, 2), (25, 32, 3), (1032, 1033, 3), (35, 37, 3), (38, 41, 1), (42, 42, 3), (1042, 1042, 1), (1043, 1043, 3)]⟩ (b8 (A8 s.target 0 0) (b8 (A8 s.count 1 3) d7)) ⟨(by assumption), (by kernel_rfl), (by assumption), (by kernel_rfl), bR2⟩) [(88, bA (decide ((s.els.length : Int) > 0)))] [IntKind.i64.wrap ((1 : Int) - 1) = 1 - 1] ⟨(by kernel_rfl), bR2⟩ fun G => b5 (W0 G (fun h8 q8 => ?_) fun h8 q8 => ?_)
          ·
           refine wp_skip (b5 (wp_seq (wp_seq ?_))); cases h9 : (!noneB s.index)
           ·
            have q9 : (noneB s.index) = true := (Eq.mp (bS3 _) h9); refine l5 G (B1 ⟨[(20, _, [4]), (40, _, [5])], [(false, false), (true, true), (!noneB s.index, false)], us [(2, 7, 0), (12, 12, 0), (1013, 1013, 0), (15, 17, 0), (18, 21, 1), (22, 22, 0), (1022, 1022, 1), (1023, 1023, 0), (25, 26, 2), (27, 31, 0), (32, 32, 2), (1032, 1032, 0), (1033, 1033, 2), (35, 37, 0), (38, 41, 1), (42, 42, 0), (1042, 1042, 1), (1043, 1043, 0)]⟩ (b8 (H6 s.index) (b8 (H6 s.value) d7)) ⟨(by kernel_rfl), (by kernel_rfl), (by assumption), bR2⟩) [(132, .v (.bool !noneB s.value))] fun G => b5 ?_; cases h10 : (!noneB s.value)
            ·
             have q10 : (noneB s.value) = true := (Eq.mp (bS3 _) h10); refine rF G _ h10 (wp_skip (b5 (wp_seq ?_))); cases h11 : ((l9 p.vars.length p.arrays.length d (c + (1 : Nat)) s.body).fst)
             · refine M7 G (B1 ⟨[(6, _, [0, 1, 2, 3, 6])], [((l9 p.vars.length p.arrays.length d (c + (1 : Nat)) s.body).fst, false)], us [(8, 14, 0), (1015, 1015, 0)]⟩ (b8 (ih s.body (c + 1) (n + 1) (by simp; omega) (by omega)) d7) ⟨(by assumption), bR2⟩) (rg 8) (Z0 p (.box [iA ((aj3 p d s c).snd : Int)] :: (Z1 s []))) [(8, bA false)] [wO (n + 1)] (o1 (by omega)) fun G => b5 (wp_ret ?_); exact C7 false G (rg 8) (by rw [D9 (by omega) (by (rw [X1 (by omega)]; exact T2 (by omega) (by assumption) (by assumption))) (by assumption)]; assumption) (by show _ = mR (rg 8) (n8 p d s c); unfold n8; rw [D9 (by omega) (by (rw [X1 (by omega)]; exact T2 (by omega) (by assumption) (by assumption))) (by assumption)] <;> rfl)
             · refine M7 G (B1 ⟨[(6, _, [0, 1, 2, 3, 6]), (14, _, [0, 1, 2, 3, 7])], [((l9 p.vars.length p.arrays.length d (c + (1 : Nat)) s.body).fst, true)], us [(8, 14, 0), (1015, 1015, 0)]⟩ (b8 (ih s.body (c + 1) (n + 1) (by simp; omega) (by omega)) (b8 (ih s.els ((aj3 p d s c).snd) (n + 1) (P7 (by omega) (by assumption)) (by omega)) d7)) ⟨(by assumption), bR2⟩) (rg 8) (Z0 p (.box [iA ((aj4 p d s c).snd : Int)] :: (Z1 s []))) [(8, bA (aj4 p d s c).fst)] [wO (n + 1), wO (n + 1)] (o2 (by omega)) fun G => b5 (wp_ret ?_); exact C7 ((l9 p.vars.length p.arrays.length d (l9 p.vars.length p.arrays.length d (c + 1) s.body).snd s.els).fst) G (rg 8) (by rw [F9 (by omega) (by (rw [X1 (by omega)]; exact T2 (by omega) (by assumption) (by assumption))) (by assumption)]; done) (by show _ = mR (rg 8) (n8 p d s c); unfold n8; rw [F9 (by omega) (by (rw [X1 (by omega)]; exact T2 (by omega) (by assumption) (by assumption))) (by assumption)] <;> rfl)
            · have q10 : (noneB s.value) = false := (Eq.mp (bS1 _) h10); refine rT G _ h10 (wp_seq (l5 G f9 [] fun G => b5 (wp_ret (m8 ?_)))); exact C7 false G (rg 8) (by rw [i8 (by (rw [X1 (by omega)]; simp [h100, h0, q0, h1, q1, h2, q2, h3, q3, h4, q4, h5, q5, h6, q6, h7, q7, h8, q8, h9, q9, h10, q10]; done))]; done) (by show _ = mR (rg 8) (n8 p d s c); unfold n8; rw [i8 (by (rw [X1 (by omega)]; simp [h100, h0, q0, h1, q1, h2, q2, h3, q3, h4, q4, h5, q5, h6, q6, h7, q7, h8, q8, h9, q9, h10, q10]; done))] <;> rfl)
           · have q9 : (noneB s.index) = false := (Eq.mp (bS1 _) h9); refine l5 G (B1 ⟨[(20, _, [4])], [(false, false), (true, true), (!noneB s.index, true)], us [(2, 7, 0), (12, 12, 0), (1013, 1013, 0), (15, 17, 0), (18, 21, 1), (22, 22, 0), (1022, 1022, 1), (1023, 1023, 0), (25, 26, 2), (32, 32, 2), (1033, 1033, 2), (35, 37, 1), (42, 42, 1), (1043, 1043, 1)]⟩ (b8 (H6 s.index) d7) ⟨(by kernel_rfl), (by kernel_rfl), (by assumption), bR2⟩) [(132, bA true)] fun G => b5 (rT G true (by kernel_rfl) (wp_seq (l5 G f9 [] fun G => b5 (wp_ret (m8 ?_))))); exact C7 false G (rg 8) (by rw [i8 (by (rw [X1 (by omega)]; simp [h100, h0, q0, h1, q1, h2, q2, h3, q3, h4, q4, h5, q5, h6, q6, h7, q7, h8, q8, h9, q9]; done))]; done) (by show _ = mR (rg 8) (n8 p d s c); unfold n8; rw [i8 (by (rw [X1 (by omega)]; simp [h100, h0, q0, h1, q1, h2, q2, h3, q3, h4, q4, h5, q5, h6, q6, h7, q7, h8, q8, h9, q9]; done))] <;> rfl)
          · refine wp_seq (l5 G f9 [] fun G => b5 (wp_ret (m8 ?_))); exact C7 false G (rg 8) (by rw [i8 (by (rw [X1 (by omega), decide_eq_false (by omega)]; rfl))]; done) (by show _ = mR (rg 8) (n8 p d s c); unfold n8; rw [i8 (by (rw [X1 (by omega), decide_eq_false (by omega)]; rfl))] <;> rfl)
         · have q7 : (¬ (1 ≤ s.count)) ∨ (¬ (s.count ≤ 3)) := (fun hq => Or.imp (fun hq => of_decide_eq_false hq) (fun hq => of_decide_eq_false hq) (bT9.1 hq)) (Eq.mp (bS1 _) h7); refine H0 G (B1 ⟨[(4, _, []), (11, _, [])], [(!(decide ((0 : Int) ≤ s.target) && decide (s.target ≤ 0)), false), (true, true), (!(decide ((1 : Int) ≤ s.count) && decide (s.count ≤ 3)), true)], us [(7, 8, 0), (9, 12, 1), (13, 13, 0), (1013, 1013, 1), (1014, 1014, 0), (16, 18, 2), (22, 22, 2), (1023, 1023, 2), (25, 27, 1), (32, 32, 1), (1033, 1033, 1), (35, 37, 1), (42, 42, 1), (1043, 1043, 1)]⟩ (b8 (A8 s.target 0 0) (b8 (A8 s.count 1 3) d7)) ⟨(by assumption), (by kernel_rfl), (by assumption), bR2⟩) [(88, bA true)] [IntKind.i64.wrap ((1 : Int) - 1) = 1 - 1] ⟨(by kernel_rfl), bR2⟩ fun G => b5 (rT G true (by kernel_rfl) (wp_seq (l5 G f9 [] fun G => b5 (wp_ret (m8 ?_))))); exact C7 false G (rg 8) (by rw [i8 (by (rw [X1 (by omega), decide_eq_false (by omega)]; rfl))]; done) (by show _ = mR (rg 8) (n8 p d s c); unfold n8; rw [i8 (by (rw [X1 (by omega), decide_eq_false (by omega)]; rfl))] <;> rfl)
        · have q6 : (¬ (0 ≤ s.target)) ∨ (¬ (s.target ≤ 0)) := (fun hq => Or.imp (fun hq => of_decide_eq_false hq) (fun hq => of_decide_eq_false hq) (bT9.1 hq)) (Eq.mp (bS1 _) h6); refine H0 G (B1 ⟨[(4, _, [])], [(!(decide ((0 : Int) ≤ s.target) && decide (s.target ≤ 0)), true), (true, true)], [(7, 0), (8, 0), (13, 0), (1014, 0), (16, 1), (17, 1), (18, 1), (22, 1), (1023, 1), (25, 1), (26, 1), (27, 1), (32, 1), (1033, 1), (35, 1), (36, 1), (37, 1), (42, 1), (1043, 1)]⟩ (b8 (A8 s.target 0 0) d7) ⟨(by assumption), (by kernel_rfl), bR2⟩) [(88, bA true)] [IntKind.i64.wrap ((1 : Int) - 1) = 1 - 1] ⟨(by kernel_rfl), bR2⟩ fun G => b5 (rT G true (by kernel_rfl) (wp_seq (l5 G f9 [] fun G => b5 (wp_ret (m8 ?_))))); exact C7 false G (rg 8) (by rw [i8 (by (rw [X1 (by omega), decide_eq_false (by omega)]; rfl))]; done) (by show _ = mR (rg 8) (n8 p d s c); unfold n8; rw [i8 (by (rw [X1 (by omega), decide_eq_false (by omega)]; rfl))] <;> rfl)
      ·
       refine l5 G f9 [(13, bA true), (14, bA true)] fun G => o5 (b5 (wp_seq (wp_seq ?_))); cases h12 : (!(decide ((0 : Int) ≤ s.target) && decide (s.target ≤ 0)))
       ·
        have q12 : (0 ≤ s.target) ∧ (s.target ≤ 0) := (fun hq => And.imp (fun hq => of_decide_eq_true hq) (fun hq => of_decide_eq_true hq) (bU0.1 hq)) (Eq.mp (bS3 _) h12); cases h13 : (s.count != 0)
        ·
         have q13 := bne_eq_false_iff_eq.1 h13; refine H0 G (B1 ⟨[(4, _, [])], [(!(decide ((0 : Int) ≤ s.target) && decide (s.target ≤ 0)), false), (false, false), (true, true), (s.count != 0, false)], us [(7, 8, 0), (9, 12, 1), (13, 13, 0), (1013, 1013, 1), (1014, 1014, 0), (16, 18, 1), (19, 21, 2), (22, 22, 1), (1022, 1022, 2), (1023, 1023, 1), (25, 27, 3), (28, 31, 1), (32, 32, 3), (1032, 1032, 1), (1033, 1033, 3), (35, 42, 1), (1042, 1043, 1)]⟩ (b8 (A8 s.target 0 0) d7) ⟨(by assumption), (by kernel_rfl), (by kernel_rfl), (by assumption), bR2⟩) [(88, bA false)] [IntKind.i64.wrap ((1 : Int) - 1) = 1 - 1] ⟨(by kernel_rfl), bR2⟩ fun G => b5 (rF G false (by kernel_rfl) (wp_skip (b5 (wp_seq (wp_seq ?_))))); cases h14 : (!noneB s.index)
         ·
          have q14 : (noneB s.index) = true := (Eq.mp (bS3 _) h14); cases h15 : (!i9 p.vars.length p.arrays.length s.value)
          ·
           have q15 : (i9 p.vars.length p.arrays.length s.value) = true := (Eq.mp (bS3 _) h15); refine l5 G (B1 ⟨[(20, _, [4]), (30, _, [0, 1, 2, 5])], [(false, false), (true, true), (!noneB s.index, false), (!i9 p.vars.length p.arrays.length s.value, false)], us [(2, 7, 0), (12, 12, 0), (1013, 1013, 0), (15, 17, 0), (18, 21, 1), (22, 22, 0), (1022, 1022, 1), (1023, 1023, 0), (25, 26, 2), (27, 31, 1), (32, 32, 2), (1032, 1032, 1), (1033, 1033, 2), (35, 37, 3), (38, 41, 0), (42, 42, 3), (1042, 1042, 0), (1043, 1043, 3)]⟩ (b8 (H6 s.index) (b8 (S4 p s.value) d7)) ⟨(by kernel_rfl), (by kernel_rfl), (by assumption), (by assumption), bR2⟩) [(132, bA false)] fun G => b5 (rF G false (by kernel_rfl) (wp_skip (b5 (wp_seq ?_)))); cases h16 : ((l9 p.vars.length p.arrays.length d (c + (1 : Nat)) s.body).fst)
           · refine M7 G (B1 ⟨[(6, _, [0, 1, 2, 3, 6])], [((l9 p.vars.length p.arrays.length d (c + (1 : Nat)) s.body).fst, false)], us [(8, 14, 0), (1015, 1015, 0)]⟩ (b8 (ih s.body (c + 1) (n + 1) (by simp; omega) (by omega)) d7) ⟨(by assumption), bR2⟩) (rg 8) (Z0 p (.box [iA ((aj3 p d s c).snd : Int)] :: (Z1 s []))) [(8, bA false)] [wO (n + 1)] (o1 (by omega)) fun G => b5 (wp_ret ?_); exact C7 false G (rg 8) (by rw [D9 (by omega) (by (rw [X2 (by omega)]; exact T2 (by omega) (by assumption) (by assumption))) (by assumption)]; assumption) (by show _ = mR (rg 8) (n8 p d s c); unfold n8; rw [D9 (by omega) (by (rw [X2 (by omega)]; exact T2 (by omega) (by assumption) (by assumption))) (by assumption)] <;> rfl)
           · refine M7 G (B1 ⟨[(6, _, [0, 1, 2, 3, 6]), (14, _, [0, 1, 2, 3, 7])], [((l9 p.vars.length p.arrays.length d (c + (1 : Nat)) s.body).fst, true)], us [(8, 14, 0), (1015, 1015, 0)]⟩ (b8 (ih s.body (c + 1) (n + 1) (by simp; omega) (by omega)) (b8 (ih s.els ((aj3 p d s c).snd) (n + 1) (P7 (by omega) (by assumption)) (by omega)) d7)) ⟨(by assumption), bR2⟩) (rg 8) (Z0 p (.box [iA ((aj4 p d s c).snd : Int)] :: (Z1 s []))) [(8, bA (aj4 p d s c).fst)] [wO (n + 1), wO (n + 1)] (o2 (by omega)) fun G => b5 (wp_ret ?_); exact C7 ((l9 p.vars.length p.arrays.length d (l9 p.vars.length p.arrays.length d (c + 1) s.body).snd s.els).fst) G (rg 8) (by rw [F9 (by omega) (by (rw [X2 (by omega)]; exact T2 (by omega) (by assumption) (by assumption))) (by assumption)]; done) (by show _ = mR (rg 8) (n8 p d s c); unfold n8; rw [F9 (by omega) (by (rw [X2 (by omega)]; exact T2 (by omega) (by assumption) (by assumption))) (by assumption)] <;> rfl)
          · have q15 : (i9 p.vars.length p.arrays.length s.value) = false := (Eq.mp (bS1 _) h15); refine l5 G (B1 ⟨[(20, _, [4]), (30, _, [0, 1, 2, 5])], [(false, false), (true, true), (!noneB s.index, false), (!i9 p.vars.length p.arrays.length s.value, true)], us [(2, 7, 0), (12, 12, 0), (1013, 1013, 0), (15, 17, 0), (18, 21, 1), (22, 22, 0), (1022, 1022, 1), (1023, 1023, 0), (25, 26, 2), (27, 31, 1), (32, 32, 2), (1032, 1032, 1), (1033, 1033, 2), (35, 37, 3), (42, 42, 3), (1043, 1043, 3)]⟩ (b8 (H6 s.index) (b8 (S4 p s.value) d7)) ⟨(by kernel_rfl), (by kernel_rfl), (by assumption), (by assumption), bR2⟩) [(132, bA true)] fun G => b5 (rT G true (by kernel_rfl) (wp_seq (l5 G f9 [] fun G => b5 (wp_ret (m8 ?_))))); exact C7 false G (rg 8) (by rw [i8 (by (rw [X2 (by omega)]; simp [h100, h0, q0, h1, q1, h2, q2, h3, q3, h4, q4, h12, q12, h13, q13, h14, q14, h15, q15]; done))]; done) (by show _ = mR (rg 8) (n8 p d s c); unfold n8; rw [i8 (by (rw [X2 (by omega)]; simp [h100, h0, q0, h1, q1, h2, q2, h3, q3, h4, q4, h12, q12, h13, q13, h14, q14, h15, q15]; done))] <;> rfl)
         · have q14 : (noneB s.index) = false := (Eq.mp (bS1 _) h14); refine l5 G (B1 ⟨[(20, _, [4])], [(false, false), (true, true), (!noneB s.index, true)], us [(2, 7, 0), (12, 12, 0), (1013, 1013, 0), (15, 17, 0), (18, 21, 1), (22, 22, 0), (1022, 1022, 1), (1023, 1023, 0), (25, 26, 2), (32, 32, 2), (1033, 1033, 2), (35, 37, 1), (42, 42, 1), (1043, 1043, 1)]⟩ (b8 (H6 s.index) d7) ⟨(by kernel_rfl), (by kernel_rfl), (by assumption), bR2⟩) [(132, bA true)] fun G => b5 (rT G true (by kernel_rfl) (wp_seq (l5 G f9 [] fun G => b5 (wp_ret (m8 ?_))))); exact C7 false G (rg 8) (by rw [i8 (by (rw [X2 (by omega)]; simp [h100, h0, q0, h1, q1, h2, q2, h3, q3, h4, q4, h12, q12, h13, q13, h14, q14]; done))]; done) (by show _ = mR (rg 8) (n8 p d s c); unfold n8; rw [i8 (by (rw [X2 (by omega)]; simp [h100, h0, q0, h1, q1, h2, q2, h3, q3, h4, q4, h12, q12, h13, q13, h14, q14]; done))] <;> rfl)
        · have q13 := bne_iff_ne.1 h13; refine H0 G (B1 ⟨[(4, _, [])], [(!(decide ((0 : Int) ≤ s.target) && decide (s.target ≤ 0)), false), (false, false), (true, true), (s.count != 0, true)], us [(7, 8, 0), (9, 12, 1), (13, 13, 0), (1013, 1013, 1), (1014, 1014, 0), (16, 18, 1), (19, 21, 2), (22, 22, 1), (1022, 1022, 2), (1023, 1023, 1), (25, 27, 3), (32, 32, 3), (1033, 1033, 3), (35, 37, 2), (42, 42, 2), (1043, 1043, 2)]⟩ (b8 (A8 s.target 0 0) d7) ⟨(by assumption), (by kernel_rfl), (by kernel_rfl), (by assumption), bR2⟩) [(88, bA true)] [IntKind.i64.wrap ((1 : Int) - 1) = 1 - 1] ⟨(by kernel_rfl), bR2⟩ fun G => b5 (rT G true (by kernel_rfl) (wp_seq (l5 G f9 [] fun G => b5 (wp_ret (m8 ?_))))); exact C7 false G (rg 8) (by rw [i8 (by (rw [X2 (by omega), decide_eq_false (by omega)]; rfl))]; done) (by show _ = mR (rg 8) (n8 p d s c); unfold n8; rw [i8 (by (rw [X2 (by omega), decide_eq_false (by omega)]; rfl))] <;> rfl)
       · have q12 : (¬ (0 ≤ s.target)) ∨ (¬ (s.target ≤ 0)) := (fun hq => Or.imp (fun hq => of_decide_eq_false hq) (fun hq => of_decide_eq_false hq) (bT9.1 hq)) (Eq.mp (bS1 _) h12); refine H0 G (B1 ⟨[(4, _, [])], [(!(decide ((0 : Int) ≤ s.target) && decide (s.target ≤ 0)), true), (true, true)], [(7, 0), (8, 0), (13, 0), (1014, 0), (16, 1), (17, 1), (18, 1), (22, 1), (1023, 1), (25, 1), (26, 1), (27, 1), (32, 1), (1033, 1), (35, 1), (36, 1), (37, 1), (42, 1), (1043, 1)]⟩ (b8 (A8 s.target 0 0) d7) ⟨(by assumption), (by kernel_rfl), bR2⟩) [(88, bA true)] [IntKind.i64.wrap ((1 : Int) - 1) = 1 - 1] ⟨(by kernel_rfl), bR2⟩ fun G => b5 (rT G true (by kernel_rfl) (wp_seq (l5 G f9 [] fun G => b5 (wp_ret (m8 ?_))))); exact C7 false G (rg 8) (by rw [i8 (by (rw [X2 (by omega), decide_eq_false (by omega)]; rfl))]; done) (by show _ = mR (rg 8) (n8 p d s c); unfold n8; rw [i8 (by (rw [X2 (by omega), decide_eq_false (by omega)]; rfl))] <;> rfl)
     ·
      refine l5 G f9 [(9, iA (p.arrays.length : Int)), (10, bA true)] fun G => o5 (b5 (wp_seq (wp_seq ?_))); cases h17 : (!(decide ((0 : Int) ≤ s.target) && decide (s.target ≤ (p.arrays.length : Int) - 1)))
      ·
       have q17 : (0 ≤ s.target) ∧ (s.target ≤ (p.arrays.length : Int) - 1) := (fun hq => And.imp (fun hq => of_decide_eq_true hq) (fun hq => of_decide_eq_true hq) (bU0.1 hq)) (Eq.mp (bS3 _) h17); cases h18 : (s.count != 0)
       ·
        have q18 := bne_eq_false_iff_eq.1 h18; cases h19 : (decide ((s.body.length : Int) > 0))
        ·
         have q19 := dFf h19; refine H0 G (B1 ⟨[(4, _, [])], [(!(decide ((0 : Int) ≤ s.target) && decide (s.target ≤ (p.arrays.length : Int) - 1)), false), (false, false), (true, true), (s.count != 0, false), (decide ((s.body.length : Int) > 0), false)], us [(7, 8, 0), (9, 12, 1), (13, 13, 0), (1013, 1013, 1), (1014, 1014, 0), (16, 18, 1), (19, 21, 2), (22, 22, 1), (1022, 1022, 2), (1023, 1023, 1), (25, 27, 3), (28, 31, 2), (32, 32, 3), (1032, 1032, 2), (1033, 1033, 3), (35, 37, 4), (38, 41, 2), (42, 42, 4), (1042, 1042, 2), (1043, 1043, 4)]⟩ (b8 (A8 s.target 0 ((p.arrays.length : Int) - 1)) d7) ⟨(by assumption), (by kernel_rfl), (by kernel_rfl), (by assumption), (by assumption), bR2⟩) [(88, bA (decide ((s.els.length : Int) > 0)))] [wO ((p.arrays.length : Int) - 1)] (o1 (by omega)) fun G => b5 (W0 G (fun h20 q20 => ?_) fun h20 q20 => ?_)
         ·
          refine wp_skip (b5 (wp_seq (wp_seq ?_))); cases h21 : (!i9 p.vars.length p.arrays.length s.index)
          ·
           have q21 : (i9 p.vars.length p.arrays.length s.index) = true := (Eq.mp (bS3 _) h21); cases h22 : (!G5 s.index)
           ·
            have q22 : (G5 s.index) = true := (Eq.mp (bS3 _) h22); cases h23 : (!i9 p.vars.length p.arrays.length s.value)
            ·
             have q23 : (i9 p.vars.length p.arrays.length s.value) = true := (Eq.mp (bS3 _) h23); refine l5 G (B1 ⟨[(5, _, [0, 1, 2, 4]), (10, _, [4]), (30, _, [0, 1, 2, 5])], [(true, true), (!i9 p.vars.length p.arrays.length s.index, false), (!G5 s.index, false), (false, false), (!i9 p.vars.length p.arrays.length s.value, false)], us [(2, 7, 0), (8, 11, 1), (12, 12, 0), (1012, 1012, 1), (1013, 1013, 0), (15, 17, 2), (18, 21, 3), (22, 22, 2), (1022, 1022, 3), (1023, 1023, 2), (25, 26, 3), (27, 31, 0), (32, 32, 3), (1032, 1032, 0), (1033, 1033, 3), (35, 37, 4), (38, 41, 3), (42, 42, 4), (1042, 1042, 3), (1043, 1043, 4)]⟩ (b8 (S4 p s.index) (b8 (at2 s.index) (b8 (S4 p s.value) d7))) ⟨(by kernel_rfl), (by assumption), (by assumption), (by kernel_rfl), (by assumption), bR2⟩) [(132, bA false)] fun G => b5 (rF G false (by kernel_rfl) (wp_skip (b5 (wp_seq ?_)))); cases h24 : ((l9 p.vars.length p.arrays.length d (c + (1 : Nat)) s.body).fst)
             · refine M7 G (B1 ⟨[(6, _, [0, 1, 2, 3, 6])], [((l9 p.vars.length p.arrays.length d (c + (1 : Nat)) s.body).fst, false)], us [(8, 14, 0), (1015, 1015, 0)]⟩ (b8 (ih s.body (c + 1) (n + 1) (by simp; omega) (by omega)) d7) ⟨(by assumption), bR2⟩) (rg 8) (Z0 p (.box [iA ((aj3 p d s c).snd : Int)] :: (Z1 s []))) [(8, bA false)] [wO (n + 1)] (o1 (by omega)) fun G => b5 (wp_ret ?_); exact C7 false G (rg 8) (by rw [D9 (by omega) (by (rw [K9 (by omega)]; exact aR4 (by omega) (by assumption) (by assumption) (by assumption))) (by assumption)]; assumption) (by show _ = mR (rg 8) (n8 p d s c); unfold n8; rw [D9 (by omega) (by (rw [K9 (by omega)]; exact aR4 (by omega) (by assumption) (by assumption) (by assumption))) (by assumption)] <;> rfl)
             · refine M7 G (B1 ⟨[(6, _, [0, 1, 2, 3, 6]), (14, _, [0, 1, 2, 3, 7])], [((l9 p.vars.length p.arrays.length d (c + (1 : Nat)) s.body).fst, true)], us [(8, 14, 0), (1015, 1015, 0)]⟩ (b8 (ih s.body (c + 1) (n + 1) (by simp; omega) (by omega)) (b8 (ih s.els ((aj3 p d s c).snd) (n + 1) (P7 (by omega) (by assumption)) (by omega)) d7)) ⟨(by assumption), bR2⟩) (rg 8) (Z0 p (.box [iA ((aj4 p d s c).snd : Int)] :: (Z1 s []))) [(8, bA (aj4 p d s c).fst)] [wO (n + 1), wO (n + 1)] (o2 (by omega)) fun G => b5 (wp_ret ?_); exact C7 ((l9 p.vars.length p.arrays.length d (l9 p.vars.length p.arrays.length d (c + 1) s.body).snd s.els).fst) G (rg 8) (by rw [F9 (by omega) (by (rw [K9 (by omega)]; exact aR4 (by omega) (by assumption) (by assumption) (by assumption))) (by assumption)]; done) (by show _ = mR (rg 8) (n8 p d s c); unfold n8; rw [F9 (by omega) (by (rw [K9 (by omega)]; exact aR4 (by omega) (by assumption) (by assumption) (by assumption))) (by assumption)] <;> rfl)
            · have q23 : (i9 p.vars.length p.arrays.length s.value) = false := (Eq.mp (bS1 _) h23); refine l5 G (B1 ⟨[(5, _, [0, 1, 2, 4]), (10, _, [4]), (30, _, [0, 1, 2, 5])], [(true, true), (!i9 p.vars.length p.arrays.length s.index, false), (!G5 s.index, false), (false, false), (!i9 p.vars.length p.arrays.length s.value, true)], us [(2, 7, 0), (8, 11, 1), (12, 12, 0), (1012, 1012, 1), (1013, 1013, 0), (15, 17, 2), (18, 21, 3), (22, 22, 2), (1022, 1022, 3), (1023, 1023, 2), (25, 26, 3), (27, 31, 0), (32, 32, 3), (1032, 1032, 0), (1033, 1033, 3), (35, 37, 4), (42, 42, 4), (1043, 1043, 4)]⟩ (b8 (S4 p s.index) (b8 (at2 s.index) (b8 (S4 p s.value) d7))) ⟨(by kernel_rfl), (by assumption), (by assumption), (by kernel_rfl), (by assumption), bR2⟩) [(132, bA true)] fun G => b5 (rT G true (by kernel_rfl) (wp_seq (l5 G f9 [] fun G => b5 (wp_ret (m8 ?_))))); exact C7 false G (rg 8) (by rw [i8 (by (rw [K9 (by omega)]; simp [h100, h0, q0, h1, q1, h2, q2, h3, q3, h17, q17, h18, q18, h19, q19, h20, q20, h21, q21, h22, q22, h23, q23]; done))]; done) (by show _ = mR (rg 8) (n8 p d s c); unfold n8; rw [i8 (by (rw [K9 (by omega)]; simp [h100, h0, q0, h1, q1, h2, q2, h3, q3, h17, q17, h18, q18, h19, q19, h20, q20, h21, q21, h22, q22, h23, q23]; done))] <;> rfl)
           · have q22 : (G5 s.index) = false := (Eq.mp (bS1 _) h22); refine l5 G (B1 ⟨[(5, _, [0, 1, 2, 4]), (10, _, [4])], [(true, true), (!i9 p.vars.length p.arrays.length s.index, false), (!G5 s.index, true)], us [(2, 7, 0), (8, 11, 1), (12, 12, 0), (1012, 1012, 1), (1013, 1013, 0), (15, 17, 2), (22, 22, 2), (1023, 1023, 2), (25, 26, 0), (32, 32, 0), (1033, 1033, 0), (35, 37, 0), (42, 42, 0), (1043, 1043, 0)]⟩ (b8 (S4 p s.index) (b8 (at2 s.index) d7)) ⟨(by kernel_rfl), (by assumption), (by assumption), bR2⟩) [(132, bA true)] fun G => b5 (rT G true (by kernel_rfl) (wp_seq (l5 G f9 [] fun G => b5 (wp_ret (m8 ?_))))); exact C7 false G (rg 8) (by rw [i8 (by (rw [K9 (by omega)]; simp [h100, h0, q0, h1, q1, h2, q2, h3, q3, h17, q17, h18, q18, h19, q19, h20, q20, h21, q21, h22, q22]; done))]; done) (by show _ = mR (rg 8) (n8 p d s c); unfold n8; rw [i8 (by (rw [K9 (by omega)]; simp [h100, h0, q0, h1, q1, h2, q2, h3, q3, h17, q17, h18, q18, h19, q19, h20, q20, h21, q21, h22, q22]; done))] <;> rfl)
          · have q21 : (i9 p.vars.length p.arrays.length s.index) = false := (Eq.mp (bS1 _) h21); refine l5 G (B1 ⟨[(5, _, [0, 1, 2, 4])], [(true, true), (!i9 p.vars.length p.arrays.length s.index, true)], us [(2, 7, 0), (8, 11, 1), (12, 12, 0), (1012, 1012, 1), (1013, 1013, 0), (15, 17, 0), (22, 22, 0), (1023, 1023, 0), (25, 26, 0), (32, 32, 0), (1033, 1033, 0), (35, 37, 0), (42, 42, 0), (1043, 1043, 0)]⟩ (b8 (S4 p s.index) d7) ⟨(by kernel_rfl), (by assumption), bR2⟩) [(132, bA true)] fun G => b5 (rT G true (by kernel_rfl) (wp_seq (l5 G f9 [] fun G => b5 (wp_ret (m8 ?_))))); exact C7 false G (rg 8) (by rw [i8 (by (rw [K9 (by omega)]; simp [h100, h0, q0, h1, q1, h2, q2, h3, q3, h17, q17, h18, q18, h19, q19, h20, q20, h21, q21]; done))]; done) (by show _ = mR (rg 8) (n8 p d s c); unfold n8; rw [i8 (by (rw [K9 (by omega)]; simp [h100, h0, q0, h1, q1, h2, q2, h3, q3, h17, q17, h18, q18, h19, q19, h20, q20, h21, q21]; done))] <;> rfl)
         · refine wp_seq (l5 G f9 [] fun G => b5 (wp_ret (m8 ?_))); exact C7 false G (rg 8) (by rw [i8 (by (rw [K9 (by omega), decide_eq_false (by omega)]; rfl))]; done) (by show _ = mR (rg 8) (n8 p d s c); unfold n8; rw [i8 (by (rw [K9 (by omega), decide_eq_false (by omega)]; rfl))] <;> rfl)
        · have q19 := dTt h19; refine H0 G (B1 ⟨[(4, _, [])], [(!(decide ((0 : Int) ≤ s.target) && decide (s.target ≤ (p.arrays.length : Int) - 1)), false), (false, false), (true, true), (s.count != 0, false), (decide ((s.body.length : Int) > 0), true)], us [(7, 8, 0), (9, 12, 1), (13, 13, 0), (1013, 1013, 1), (1014, 1014, 0), (16, 18, 1), (19, 21, 2), (22, 22, 1), (1022, 1022, 2), (1023, 1023, 1), (25, 27, 3), (28, 31, 2), (32, 32, 3), (1032, 1032, 2), (1033, 1033, 3), (35, 37, 4), (42, 42, 4), (1043, 1043, 4)]⟩ (b8 (A8 s.target 0 ((p.arrays.length : Int) - 1)) d7) ⟨(by assumption), (by kernel_rfl), (by kernel_rfl), (by assumption), (by assumption), bR2⟩) [(88, bA true)] [wO ((p.arrays.length : Int) - 1)] (o1 (by omega)) fun G => b5 (rT G true (by kernel_rfl) (wp_seq (l5 G f9 [] fun G => b5 (wp_ret (m8 ?_))))); exact C7 false G (rg 8) (by rw [i8 (by (rw [K9 (by omega), decide_eq_false (by omega)]; rfl))]; done) (by show _ = mR (rg 8) (n8 p d s c); unfold n8; rw [i8 (by (rw [K9 (by omega), decide_eq_false (by omega)]; rfl))] <;> rfl)
       · have q18 := bne_iff_ne.1 h18; refine H0 G (B1 ⟨[(4, _, [])], [(!(decide ((0 : Int) ≤ s.target) && decide (s.target ≤ (p.arrays.length : Int) - 1)), false), (false, false), (true, true), (s.count != 0, true)], us [(7, 8, 0), (9, 12, 1), (13, 13, 0), (1013, 1013, 1), (1014, 1014, 0), (16, 18, 1), (19, 21, 2), (22, 22, 1), (1022, 1022, 2), (1023, 1023, 1), (25, 27, 3), (32, 32, 3), (1033, 1033, 3), (35, 37, 2), (42, 42, 2), (1043, 1043, 2)]⟩ (b8 (A8 s.target 0 ((p.arrays.length : Int) - 1)) d7) ⟨(by assumption), (by kernel_rfl), (by kernel_rfl), (by assumption), bR2⟩) [(88, bA true)] [wO ((p.arrays.length : Int) - 1)] (o1 (by omega)) fun G => b5 (rT G true (by kernel_rfl) (wp_seq (l5 G f9 [] fun G => b5 (wp_ret (m8 ?_))))); exact C7 false G (rg 8) (by rw [i8 (by (rw [K9 (by omega), decide_eq_false (by omega)]; rfl))]; done) (by show _ = mR (rg 8) (n8 p d s c); unfold n8; rw [i8 (by (rw [K9 (by omega), decide_eq_false (by omega)]; rfl))] <;> rfl)
      · have q17 : (¬ (0 ≤ s.target)) ∨ (¬ (s.target ≤ (p.arrays.length : Int) - 1)) := (fun hq => Or.imp (fun hq => of_decide_eq_false hq) (fun hq => of_decide_eq_false hq) (bT9.1 hq)) (Eq.mp (bS1 _) h17); refine H0 G (B1 ⟨[(4, _, [])], [(!(decide ((0 : Int) ≤ s.target) && decide (s.target ≤ (p.arrays.length : Int) - 1)), true), (true, true)], [(7, 0), (8, 0), (13, 0), (1014, 0), (16, 1), (17, 1), (18, 1), (22, 1), (1023, 1), (25, 1), (26, 1), (27, 1), (32, 1), (1033, 1), (35, 1), (36, 1), (37, 1), (42, 1), (1043, 1)]⟩ (b8 (A8 s.target 0 ((p.arrays.length : Int) - 1)) d7) ⟨(by assumption), (by kernel_rfl), bR2⟩) [(88, bA true)] [wO ((p.arrays.length : Int) - 1)] (o1 (by omega)) fun G => b5 (rT G true (by kernel_rfl) (wp_seq (l5 G f9 [] fun G => b5 (wp_ret (m8 ?_))))); exact C7 false G (rg 8) (by rw [i8 (by (rw [K9 (by omega), decide_eq_false (by omega)]; rfl))]; done) (by show _ = mR (rg 8) (n8 p d s c); unfold n8; rw [i8 (by (rw [K9 (by omega), decide_eq_false (by omega)]; rfl))] <;> rfl)
    ·
     refine l5 G f9 [(9, iA (p.vars.length : Int))] fun G => o5 (b5 (wp_seq (wp_seq ?_))); cases h25 : (!(decide ((0 : Int) ≤ s.target) && decide (s.target ≤ (p.vars.length : Int) - 1)))
     ·
      have q25 : (0 ≤ s.target) ∧ (s.target ≤ (p.vars.length : Int) - 1) := (fun hq => And.imp (fun hq => of_decide_eq_true hq) (fun hq => of_decide_eq_true hq) (bU0.1 hq)) (Eq.mp (bS3 _) h25); cases h26 : (s.count != 0)
      ·
       have q26 := bne_eq_false_iff_eq.1 h26; cases h27 : (decide ((s.body.length : Int) > 0))
       ·
        have q27 := dFf h27; refine H0 G (B1 ⟨[(4, _, [])], [(!(decide ((0 : Int) ≤ s.target) && decide (s.target ≤ (p.vars.length : Int) - 1)), false), (false, false), (true, true), (s.count != 0, false), (decide ((s.body.length : Int) > 0), false)], us [(7, 8, 0), (9, 12, 1), (13, 13, 0), (1013, 1013, 1), (1014, 1014, 0), (16, 18, 1), (19, 21, 2), (22, 22, 1), (1022, 1022, 2), (1023, 1023, 1), (25, 27, 3), (28, 31, 2), (32, 32, 3), (1032, 1032, 2), (1033, 1033, 3), (35, 37, 4), (38, 41, 2), (42, 42, 4), (1042, 1042, 2), (1043, 1043, 4)]⟩ (b8 (A8 s.target 0 ((p.vars.length : Int) - 1)) d7) ⟨(by assumption), (by kernel_rfl), (by kernel_rfl), (by assumption), (by assumption), bR2⟩) [(88, bA (decide ((s.els.length : Int) > 0)))] [wO ((p.vars.length : Int) - 1)] (o1 (by omega)) fun G => b5 (W0 G (fun h28 q28 => ?_) fun h28 q28 => ?_)
        ·
         refine wp_skip (b5 (wp_seq (wp_seq ?_))); cases h29 : (!noneB s.index)
         ·
          have q29 : (noneB s.index) = true := (Eq.mp (bS3 _) h29); cases h30 : (!i9 p.vars.length p.arrays.length s.value)
          ·
           have q30 : (i9 p.vars.length p.arrays.length s.value) = true := (Eq.mp (bS3 _) h30); refine l5 G (B1 ⟨[(20, _, [4]), (30, _, [0, 1, 2, 5])], [(false, false), (true, true), (!noneB s.index, false), (!i9 p.vars.length p.arrays.length s.value, false)], us [(2, 7, 0), (12, 12, 0), (1013, 1013, 0), (15, 17, 0), (18, 21, 1), (22, 22, 0), (1022, 1022, 1), (1023, 1023, 0), (25, 26, 2), (27, 31, 1), (32, 32, 2), (1032, 1032, 1), (1033, 1033, 2), (35, 37, 3), (38, 41, 0), (42, 42, 3), (1042, 1042, 0), (1043, 1043, 3)]⟩ (b8 (H6 s.index) (b8 (S4 p s.value) d7)) ⟨(by kernel_rfl), (by kernel_rfl), (by assumption), (by assumption), bR2⟩) [(132, bA false)] fun G => b5 (rF G false (by kernel_rfl) (wp_skip (b5 (wp_seq ?_)))); cases h31 : ((l9 p.vars.length p.arrays.length d (c + (1 : Nat)) s.body).fst)
           · refine M7 G (B1 ⟨[(6, _, [0, 1, 2, 3, 6])], [((l9 p.vars.length p.arrays.length d (c + (1 : Nat)) s.body).fst, false)], us [(8, 14, 0), (1015, 1015, 0)]⟩ (b8 (ih s.body (c + 1) (n + 1) (by simp; omega) (by omega)) d7) ⟨(by assumption), bR2⟩) (rg 8) (Z0 p (.box [iA ((aj3 p d s c).snd : Int)] :: (Z1 s []))) [(8, bA false)] [wO (n + 1)] (o1 (by omega)) fun G => b5 (wp_ret ?_); exact C7 false G (rg 8) (by rw [D9 (by omega) (by (rw [C3 (by omega)]; exact T2 (by omega) (by assumption) (by assumption))) (by assumption)]; assumption) (by show _ = mR (rg 8) (n8 p d s c); unfold n8; rw [D9 (by omega) (by (rw [C3 (by omega)]; exact T2 (by omega) (by assumption) (by assumption))) (by assumption)] <;> rfl)
           · refine M7 G (B1 ⟨[(6, _, [0, 1, 2, 3, 6]), (14, _, [0, 1, 2, 3, 7])], [((l9 p.vars.length p.arrays.length d (c + (1 : Nat)) s.body).fst, true)], us [(8, 14, 0), (1015, 1015, 0)]⟩ (b8 (ih s.body (c + 1) (n + 1) (by simp; omega) (by omega)) (b8 (ih s.els ((aj3 p d s c).snd) (n + 1) (P7 (by omega) (by assumption)) (by omega)) d7)) ⟨(by assumption), bR2⟩) (rg 8) (Z0 p (.box [iA ((aj4 p d s c).snd : Int)] :: (Z1 s []))) [(8, bA (aj4 p d s c).fst)] [wO (n + 1), wO (n + 1)] (o2 (by omega)) fun G => b5 (wp_ret ?_); exact C7 ((l9 p.vars.length p.arrays.length d (l9 p.vars.length p.arrays.length d (c + 1) s.body).snd s.els).fst) G (rg 8) (by rw [F9 (by omega) (by (rw [C3 (by omega)]; exact T2 (by omega) (by assumption) (by assumption))) (by assumption)]; done) (by show _ = mR (rg 8) (n8 p d s c); unfold n8; rw [F9 (by omega) (by (rw [C3 (by omega)]; exact T2 (by omega) (by assumption) (by assumption))) (by assumption)] <;> rfl)
          · have q30 : (i9 p.vars.length p.arrays.length s.value) = false := (Eq.mp (bS1 _) h30); refine l5 G (B1 ⟨[(20, _, [4]), (30, _, [0, 1, 2, 5])], [(false, false), (true, true), (!noneB s.index, false), (!i9 p.vars.length p.arrays.length s.value, true)], us [(2, 7, 0), (12, 12, 0), (1013, 1013, 0), (15, 17, 0), (18, 21, 1), (22, 22, 0), (1022, 1022, 1), (1023, 1023, 0), (25, 26, 2), (27, 31, 1), (32, 32, 2), (1032, 1032, 1), (1033, 1033, 2), (35, 37, 3), (42, 42, 3), (1043, 1043, 3)]⟩ (b8 (H6 s.index) (b8 (S4 p s.value) d7)) ⟨(by kernel_rfl), (by kernel_rfl), (by assumption), (by assumption), bR2⟩) [(132, bA true)] fun G => b5 (rT G true (by kernel_rfl) (wp_seq (l5 G f9 [] fun G => b5 (wp_ret (m8 ?_))))); exact C7 false G (rg 8) (by rw [i8 (by (rw [C3 (by omega)]; simp [h100, h0, q0, h1, q1, h2, q2, h25, q25, h26, q26, h27, q27, h28, q28, h29, q29, h30, q30]; done))]; done) (by show _ = mR (rg 8) (n8 p d s c); unfold n8; rw [i8 (by (rw [C3 (by omega)]; simp [h100, h0, q0, h1, q1, h2, q2, h25, q25, h26, q26, h27, q27, h28, q28, h29, q29, h30, q30]; done))] <;> rfl)
         · have q29 : (noneB s.index) = false := (Eq.mp (bS1 _) h29); refine l5 G (B1 ⟨[(20, _, [4])], [(false, false), (true, true), (!noneB s.index, true)], us [(2, 7, 0), (12, 12, 0), (1013, 1013, 0), (15, 17, 0), (18, 21, 1), (22, 22, 0), (1022, 1022, 1), (1023, 1023, 0), (25, 26, 2), (32, 32, 2), (1033, 1033, 2), (35, 37, 1), (42, 42, 1), (1043, 1043, 1)]⟩ (b8 (H6 s.index) d7) ⟨(by kernel_rfl), (by kernel_rfl), (by assumption), bR2⟩) [(132, bA true)] fun G => b5 (rT G true (by kernel_rfl) (wp_seq (l5 G f9 [] fun G => b5 (wp_ret (m8 ?_))))); exact C7 false G (rg 8) (by rw [i8 (by (rw [C3 (by omega)]; simp [h100, h0, q0, h1, q1, h2, q2, h25, q25, h26, q26, h27, q27, h28, q28, h29, q29]; done))]; done) (by show _ = mR (rg 8) (n8 p d s c); unfold n8; rw [i8 (by (rw [C3 (by omega)]; simp [h100, h0, q0, h1, q1, h2, q2, h25, q25, h26, q26, h27, q27, h28, q28, h29, q29]; done))] <;> rfl)
        · refine wp_seq (l5 G f9 [] fun G => b5 (wp_ret (m8 ?_))); exact C7 false G (rg 8) (by rw [i8 (by (rw [C3 (by omega), decide_eq_false (by omega)]; rfl))]; done) (by show _ = mR (rg 8) (n8 p d s c); unfold n8; rw [i8 (by (rw [C3 (by omega), decide_eq_false (by omega)]; rfl))] <;> rfl)
       · have q27 := dTt h27; refine H0 G (B1 ⟨[(4, _, [])], [(!(decide ((0 : Int) ≤ s.target) && decide (s.target ≤ (p.vars.length : Int) - 1)), false), (false, false), (true, true), (s.count != 0, false), (decide ((s.body.length : Int) > 0), true)], us [(7, 8, 0), (9, 12, 1), (13, 13, 0), (1013, 1013, 1), (1014, 1014, 0), (16, 18, 1), (19, 21, 2), (22, 22, 1), (1022, 1022, 2), (1023, 1023, 1), (25, 27, 3), (28, 31, 2), (32, 32, 3), (1032, 1032, 2), (1033, 1033, 3), (35, 37, 4), (42, 42, 4), (1043, 1043, 4)]⟩ (b8 (A8 s.target 0 ((p.vars.length : Int) - 1)) d7) ⟨(by assumption), (by kernel_rfl), (by kernel_rfl), (by assumption), (by assumption), bR2⟩) [(88, bA true)] [wO ((p.vars.length : Int) - 1)] (o1 (by omega)) fun G => b5 (rT G true (by kernel_rfl) (wp_seq (l5 G f9 [] fun G => b5 (wp_ret (m8 ?_))))); exact C7 false G (rg 8) (by rw [i8 (by (rw [C3 (by omega), decide_eq_false (by omega)]; rfl))]; done) (by show _ = mR (rg 8) (n8 p d s c); unfold n8; rw [i8 (by (rw [C3 (by omega), decide_eq_false (by omega)]; rfl))] <;> rfl)
      · have q26 := bne_iff_ne.1 h26; refine H0 G (B1 ⟨[(4, _, [])], [(!(decide ((0 : Int) ≤ s.target) && decide (s.target ≤ (p.vars.length : Int) - 1)), false), (false, false), (true, true), (s.count != 0, true)], us [(7, 8, 0), (9, 12, 1), (13, 13, 0), (1013, 1013, 1), (1014, 1014, 0), (16, 18, 1), (19, 21, 2), (22, 22, 1), (1022, 1022, 2), (1023, 1023, 1), (25, 27, 3), (32, 32, 3), (1033, 1033, 3), (35, 37, 2), (42, 42, 2), (1043, 1043, 2)]⟩ (b8 (A8 s.target 0 ((p.vars.length : Int) - 1)) d7) ⟨(by assumption), (by kernel_rfl), (by kernel_rfl), (by assumption), bR2⟩) [(88, bA true)] [wO ((p.vars.length : Int) - 1)] (o1 (by omega)) fun G => b5 (rT G true (by kernel_rfl) (wp_seq (l5 G f9 [] fun G => b5 (wp_ret (m8 ?_))))); exact C7 false G (rg 8) (by rw [i8 (by (rw [C3 (by omega), decide_eq_false (by omega)]; rfl))]; done) (by show _ = mR (rg 8) (n8 p d s c); unfold n8; rw [i8 (by (rw [C3 (by omega), decide_eq_false (by omega)]; rfl))] <;> rfl)
     · have q25 : (¬ (0 ≤ s.target)) ∨ (¬ (s.target ≤ (p.vars.length : Int) - 1)) := (fun hq => Or.imp (fun hq => of_decide_eq_false hq) (fun hq => of_decide_eq_false hq) (bT9.1 hq)) (Eq.mp (bS1 _) h25); refine H0 G (B1 ⟨[(4, _, [])], [(!(decide ((0 : Int) ≤ s.target) && decide (s.target ≤ (p.vars.length : Int) - 1)), true), (true, true)], [(7, 0), (8, 0), (13, 0), (1014, 0), (16, 1), (17, 1), (18, 1), (22, 1), (1023, 1), (25, 1), (26, 1), (27, 1), (32, 1), (1033, 1), (35, 1), (36, 1), (37, 1), (42, 1), (1043, 1)]⟩ (b8 (A8 s.target 0 ((p.vars.length : Int) - 1)) d7) ⟨(by assumption), (by kernel_rfl), bR2⟩) [(88, bA true)] [wO ((p.vars.length : Int) - 1)] (o1 (by omega)) fun G => b5 (rT G true (by kernel_rfl) (wp_seq (l5 G f9 [] fun G => b5 (wp_ret (m8 ?_))))); exact C7 false G (rg 8) (by rw [i8 (by (rw [C3 (by omega), decide_eq_false (by omega)]; rfl))]; done) (by show _ = mR (rg 8) (n8 p d s c); unfold n8; rw [i8 (by (rw [C3 (by omega), decide_eq_false (by omega)]; rfl))] <;> rfl)
   ·
    refine wp_skip (b5 (rT G _ h1 (l5 G f9 [(9, iA (p.vars.length : Int))] fun G => o5 (b5 (wp_seq (wp_seq ?_)))))); cases h32 : (!(decide ((0 : Int) ≤ s.target) && decide (s.target ≤ (p.vars.length : Int) - 1)))
    ·
     have q32 : (0 ≤ s.target) ∧ (s.target ≤ (p.vars.length : Int) - 1) := (fun hq => And.imp (fun hq => of_decide_eq_true hq) (fun hq => of_decide_eq_true hq) (bU0.1 hq)) (Eq.mp (bS3 _) h32); cases h33 : (s.count != 0)
     ·
      have q33 := bne_eq_false_iff_eq.1 h33; cases h34 : (decide ((s.body.length : Int) > 0))
      ·
       have q34 := dFf h34; refine H0 G (B1 ⟨[(4, _, [])], [(!(decide ((0 : Int) ≤ s.target) && decide (s.target ≤ (p.vars.length : Int) - 1)), false), (false, false), (true, true), (s.count != 0, false), (decide ((s.body.length : Int) > 0), false)], us [(7, 8, 0), (9, 12, 1), (13, 13, 0), (1013, 1013, 1), (1014, 1014, 0), (16, 18, 1), (19, 21, 2), (22, 22, 1), (1022, 1022, 2), (1023, 1023, 1), (25, 27, 3), (28, 31, 2), (32, 32, 3), (1032, 1032, 2), (1033, 1033, 3), (35, 37, 4), (38, 41, 2), (42, 42, 4), (1042, 1042, 2), (1043, 1043, 4)]⟩ (b8 (A8 s.target 0 ((p.vars.length : Int) - 1)) d7) ⟨(by assumption), (by kernel_rfl), (by kernel_rfl), (by assumption), (by assumption), bR2⟩) [(88, bA (decide ((s.els.length : Int) > 0)))] [wO ((p.vars.length : Int) - 1)] (o1 (by omega)) fun G => b5 (W0 G (fun h35 q35 => ?_) fun h35 q35 => ?_)
       ·
        refine wp_skip (b5 (wp_seq (wp_seq ?_))); cases h36 : (!noneB s.index)
        ·
         have q36 : (noneB s.index) = true := (Eq.mp (bS3 _) h36); cases h37 : (!i9 p.vars.length p.arrays.length s.value)
         ·
          have q37 : (i9 p.vars.length p.arrays.length s.value) = true := (Eq.mp (bS3 _) h37); refine l5 G (B1 ⟨[(20, _, [4]), (30, _, [0, 1, 2, 5])], [(false, false), (true, true), (!noneB s.index, false), (!i9 p.vars.length p.arrays.length s.value, false)], us [(2, 7, 0), (12, 12, 0), (1013, 1013, 0), (15, 17, 0), (18, 21, 1), (22, 22, 0), (1022, 1022, 1), (1023, 1023, 0), (25, 26, 2), (27, 31, 1), (32, 32, 2), (1032, 1032, 1), (1033, 1033, 2), (35, 37, 3), (38, 41, 0), (42, 42, 3), (1042, 1042, 0), (1043, 1043, 3)]⟩ (b8 (H6 s.index) (b8 (S4 p s.value) d7)) ⟨(by kernel_rfl), (by kernel_rfl), (by assumption), (by assumption), bR2⟩) [(132, bA false)] fun G => b5 (rF G false (by kernel_rfl) (wp_skip (b5 (wp_seq ?_)))); cases h38 : ((l9 p.vars.length p.arrays.length d (c + (1 : Nat)) s.body).fst)
          · refine M7 G (B1 ⟨[(6, _, [0, 1, 2, 3, 6])], [((l9 p.vars.length p.arrays.length d (c + (1 : Nat)) s.body).fst, false)], us [(8, 14, 0), (1015, 1015, 0)]⟩ (b8 (ih s.body (c + 1) (n + 1) (by simp; omega) (by omega)) d7) ⟨(by assumption), bR2⟩) (rg 8) (Z0 p (.box [iA ((aj3 p d s c).snd : Int)] :: (Z1 s []))) [(8, bA false)] [wO (n + 1)] (o1 (by omega)) fun G => b5 (wp_ret ?_); exact C7 false G (rg 8) (by rw [D9 (by omega) (by (rw [C3 (by omega)]; exact T2 (by omega) (by assumption) (by assumption))) (by assumption)]; assumption) (by show _ = mR (rg 8) (n8 p d s c); unfold n8; rw [D9 (by omega) (by (rw [C3 (by omega)]; exact T2 (by omega) (by assumption) (by assumption))) (by assumption)] <;> rfl)
          · refine M7 G (B1 ⟨[(6, _, [0, 1, 2, 3, 6]), (14, _, [0, 1, 2, 3, 7])], [((l9 p.vars.length p.arrays.length d (c + (1 : Nat)) s.body).fst, true)], us [(8, 14, 0), (1015, 1015, 0)]⟩ (b8 (ih s.body (c + 1) (n + 1) (by simp; omega) (by omega)) (b8 (ih s.els ((aj3 p d s c).snd) (n + 1) (P7 (by omega) (by assumption)) (by omega)) d7)) ⟨(by assumption), bR2⟩) (rg 8) (Z0 p (.box [iA ((aj4 p d s c).snd : Int)] :: (Z1 s []))) [(8, bA (aj4 p d s c).fst)] [wO (n + 1), wO (n + 1)] (o2 (by omega)) fun G => b5 (wp_ret ?_); exact C7 ((l9 p.vars.length p.arrays.length d (l9 p.vars.length p.arrays.length d (c + 1) s.body).snd s.els).fst) G (rg 8) (by rw [F9 (by omega) (by (rw [C3 (by omega)]; exact T2 (by omega) (by assumption) (by assumption))) (by assumption)]; done) (by show _ = mR (rg 8) (n8 p d s c); unfold n8; rw [F9 (by omega) (by (rw [C3 (by omega)]; exact T2 (by omega) (by assumption) (by assumption))) (by assumption)] <;> rfl)
         · have q37 : (i9 p.vars.length p.arrays.length s.value) = false := (Eq.mp (bS1 _) h37); refine l5 G (B1 ⟨[(20, _, [4]), (30, _, [0, 1, 2, 5])], [(false, false), (true, true), (!noneB s.index, false), (!i9 p.vars.length p.arrays.length s.value, true)], us [(2, 7, 0), (12, 12, 0), (1013, 1013, 0), (15, 17, 0), (18, 21, 1), (22, 22, 0), (1022, 1022, 1), (1023, 1023, 0), (25, 26, 2), (27, 31, 1), (32, 32, 2), (1032, 1032, 1), (1033, 1033, 2), (35, 37, 3), (42, 42, 3), (1043, 1043, 3)]⟩ (b8 (H6 s.index) (b8 (S4 p s.value) d7)) ⟨(by kernel_rfl), (by kernel_rfl), (by assumption), (by assumption), bR2⟩) [(132, bA true)] fun G => b5 (rT G true (by kernel_rfl) (wp_seq (l5 G f9 [] fun G => b5 (wp_ret (m8 ?_))))); exact C7 false G (rg 8) (by rw [i8 (by (rw [C3 (by omega)]; simp [h100, h0, q0, h1, q1, h32, q32, h33, q33, h34, q34, h35, q35, h36, q36, h37, q37]; done))]; done) (by show _ = mR (rg 8) (n8 p d s c); unfold n8; rw [i8 (by (rw [C3 (by omega)]; simp [h100, h0, q0, h1, q1, h32, q32, h33, q33, h34, q34, h35, q35, h36, q36, h37, q37]; done))] <;> rfl)
        · have q36 : (noneB s.index) = false := (Eq.mp (bS1 _) h36); refine l5 G (B1 ⟨[(20, _, [4])], [(false, false), (true, true), (!noneB s.index, true)], us [(2, 7, 0), (12, 12, 0), (1013, 1013, 0), (15, 17, 0), (18, 21, 1), (22, 22, 0), (1022, 1022, 1), (1023, 1023, 0), (25, 26, 2), (32, 32, 2), (1033, 1033, 2), (35, 37, 1), (42, 42, 1), (1043, 1043, 1)]⟩ (b8 (H6 s.index) d7) ⟨(by kernel_rfl), (by kernel_rfl), (by assumption), bR2⟩) [(132, bA true)] fun G => b5 (rT G true (by kernel_rfl) (wp_seq (l5 G f9 [] fun G => b5 (wp_ret (m8 ?_))))); exact C7 false G (rg 8) (by rw [i8 (by (rw [C3 (by omega)]; simp [h100, h0, q0, h1, q1, h32, q32, h33, q33, h34, q34, h35, q35, h36, q36]; done))]; done) (by show _ = mR (rg 8) (n8 p d s c); unfold n8; rw [i8 (by (rw [C3 (by omega)]; simp [h100, h0, q0, h1, q1, h32, q32, h33, q33, h34, q34, h35, q35, h36, q36]; done))] <;> rfl)
       · refine wp_seq (l5 G f9 [] fun G => b5 (wp_ret (m8 ?_))); exact C7 false G (rg 8) (by rw [i8 (by (rw [C3 (by omega), decide_eq_false (by omega)]; rfl))]; done) (by show _ = mR (rg 8) (n8 p d s c); unfold n8; rw [i8 (by (rw [C3 (by omega), decide_eq_false (by omega)]; rfl))] <;> rfl)
      · have q34 := dTt h34; refine H0 G (B1 ⟨[(4, _, [])], [(!(decide ((0 : Int) ≤ s.target) && decide (s.target ≤ (p.vars.length : Int) - 1)), false), (false, false), (true, true), (s.count != 0, false), (decide ((s.body.length : Int) > 0), true)], us [(7, 8, 0), (9, 12, 1), (13, 13, 0), (1013, 1013, 1), (1014, 1014, 0), (16, 18, 1), (19, 21, 2), (22, 22, 1), (1022, 1022, 2), (1023, 1023, 1), (25, 27, 3), (28, 31, 2), (32, 32, 3), (1032, 1032, 2), (1033, 1033, 3), (35, 37, 4), (42, 42, 4), (1043, 1043, 4)]⟩ (b8 (A8 s.target 0 ((p.vars.length : Int) - 1)) d7) ⟨(by assumption), (by kernel_rfl), (by kernel_rfl), (by assumption), (by assumption), bR2⟩) [(88, bA true)] [wO ((p.vars.length : Int) - 1)] (o1 (by omega)) fun G => b5 (rT G true (by kernel_rfl) (wp_seq (l5 G f9 [] fun G => b5 (wp_ret (m8 ?_))))); exact C7 false G (rg 8) (by rw [i8 (by (rw [C3 (by omega), decide_eq_false (by omega)]; rfl))]; done) (by show _ = mR (rg 8) (n8 p d s c); unfold n8; rw [i8 (by (rw [C3 (by omega), decide_eq_false (by omega)]; rfl))] <;> rfl)
     · have q33 := bne_iff_ne.1 h33; refine H0 G (B1 ⟨[(4, _, [])], [(!(decide ((0 : Int) ≤ s.target) && decide (s.target ≤ (p.vars.length : Int) - 1)), false), (false, false), (true, true), (s.count != 0, true)], us [(7, 8, 0), (9, 12, 1), (13, 13, 0), (1013, 1013, 1), (1014, 1014, 0), (16, 18, 1), (19, 21, 2), (22, 22, 1), (1022, 1022, 2), (1023, 1023, 1), (25, 27, 3), (32, 32, 3), (1033, 1033, 3), (35, 37, 2), (42, 42, 2), (1043, 1043, 2)]⟩ (b8 (A8 s.target 0 ((p.vars.length : Int) - 1)) d7) ⟨(by assumption), (by kernel_rfl), (by kernel_rfl), (by assumption), bR2⟩) [(88, bA true)] [wO ((p.vars.length : Int) - 1)] (o1 (by omega)) fun G => b5 (rT G true (by kernel_rfl) (wp_seq (l5 G f9 [] fun G => b5 (wp_ret (m8 ?_))))); exact C7 false G (rg 8) (by rw [i8 (by (rw [C3 (by omega), decide_eq_false (by omega)]; rfl))]; done) (by show _ = mR (rg 8) (n8 p d s c); unfold n8; rw [i8 (by (rw [C3 (by omega), decide_eq_false (by omega)]; rfl))] <;> rfl)
    · have q32 : (¬ (0 ≤ s.target)) ∨ (¬ (s.target ≤ (p.vars.length : Int) - 1)) := (fun hq => Or.imp (fun hq => of_decide_eq_false hq) (fun hq => of_decide_eq_false hq) (bT9.1 hq)) (Eq.mp (bS1 _) h32); refine H0 G (B1 ⟨[(4, _, [])], [(!(decide ((0 : Int) ≤ s.target) && decide (s.target ≤ (p.vars.length : Int) - 1)), true), (true, true)], [(7, 0), (8, 0), (13, 0), (1014, 0), (16, 1), (17, 1), (18, 1), (22, 1), (1023, 1), (25, 1), (26, 1), (27, 1), (32, 1), (1033, 1), (35, 1), (36, 1), (37, 1), (42, 1), (1043, 1)]⟩ (b8 (A8 s.target 0 ((p.vars.length : Int) - 1)) d7) ⟨(by assumption), (by kernel_rfl), bR2⟩) [(88, bA true)] [wO ((p.vars.length : Int) - 1)] (o1 (by omega)) fun G => b5 (rT G true (by kernel_rfl) (wp_seq (l5 G f9 [] fun G => b5 (wp_ret (m8 ?_))))); exact C7 false G (rg 8) (by rw [i8 (by (rw [C3 (by omega), decide_eq_false (by omega)]; rfl))]; done) (by show _ = mR (rg 8) (n8 p d s c); unfold n8; rw [i8 (by (rw [C3 (by omega), decide_eq_false (by omega)]; rfl))] <;> rfl)
  · have q0 := dTt h0; refine l5 G (F8 (fc h0 fz) [(5, 0), (6, 0), (1007, 0)]) [(27, bA true)] fun G => b5 (rT G true (by kernel_rfl) (wp_seq (l5 G f9 [] fun G => b5 (wp_ret (m8 ?_))))); exact C7 false G (rg 8) (by simp [ak7 (d := d + 1) (s := s) (show 60 < c + 1 by omega)]; done) (by show _ = mR (rg 8) (n8 p d s c); unfold n8; have e1 : (((y7 p.vars.length p.arrays.length (d + 1) c s).snd : Int) : Int) = ((c : Int) + 1) := (by simp [ak7 (d := d + 1) (s := s) (show 60 < c + 1 by omega)]; done); (first | rw [e1] | simp only [e1]) <;> rfl)
theorem bt1 (p : f5) : ∀ (d : Nat), d ≤ 5 → ∀ (ss : List b6) (c : Nat) (n : Int), c ≤ 60 → n = 6 - (d : Int) → l7.ok Tryz.prog (a14 p d c ss n) := by
 intro d
 induction d with
 | zero => intro hd ss c n hc hn; exact aY3 p 0 hd (fun s c n hc hn => bz5 p s c hc n (by omega)) ss c n hc hn
 | succ d ih => intro hd ss c n hc hn; exact aY3 p (d + 1) hd (fun s c n hc hn => bz4 p d (by omega) (ih (by omega)) s c n hc (by omega)) ss c n hc hn
theorem aY4 (p : f5) (n : Int) (hn : n = 1) : l7.ok Tryz.prog ⟨125, [pA 0, .ref 2, iA n, .ptr 3 0], pS p ++ [.box [iA 0]], pS p ++ [.box [iA (l9 p.vars.length p.arrays.length 5 0 p.body).2]], bA (l9 p.vars.length p.arrays.length 5 0 p.body).1⟩ :=
 l7.dup (S := pS p ++ [.box [iA 0]]) (S' := pS p ++ [.box [iA (l9 p.vars.length p.arrays.length 5 0 p.body).2]]) (d := .stmts p.body) (i := 2) (bt1 p 5 (by omega) p.body 0 n (by omega) (by omega)) rfl rfl rfl (fun ρ h => by simp only [AV.vals, AV.val]; rw [show ρ 4 = ρ 2 from h]) rfl
theorem ac9 (p : f5) : l7.ok Tryz.prog (I7 57 [pA 0] (pS p) (bA (m0 p))) := by
 refine G3 15 Tryz.func57 [dI p.vars, dI p.arrays, dT p.body] [(0, pA 0)] fun G => ?_; refine wp_seq (m6 G f9 (rg 4) [dI p.vars, dI p.arrays, dT p.body, .box (pL 0)] [(1, .ptr 3 0), (2, bA false)] fun G => b5 (wp_seq (m6 G f9 (rg 5) [dI p.vars, dI p.arrays, dT p.body, .box (pL 0), .box [iA 0]] [(1, .ptr 3 0), (2, bA false), (3, .ptr 4 0)] fun G => b5 (wp_seq ?_)))); cases h0 : (D3 p.vars p.arrays)
 ·refine m6 G (B1 ⟨[(4, _, [0, 1])], [(D3 p.vars p.arrays, false)], us [(6, 9, 0), (1010, 1010, 0)]⟩ (b8 (aF9 p.vars p.arrays) d7) ⟨(by assumption), bR2⟩) [0, 1, 2] [dI p.vars, dI p.arrays, dT p.body] [(2, bA false)] fun G => b5 (wp_ret ?_); exact C7 false G [0, 1, 2] (av5 (by assumption))
 ·refine m6 G (B1 ⟨[(4, _, [0, 1]), (9, _, [0, 1, 2, 4])], [(D3 p.vars p.arrays, true)], us [(6, 9, 0), (1010, 1010, 0)]⟩ (b8 (aF9 p.vars p.arrays) (b8 (aY4 p 1 (by kernel_rfl)) d7)) ⟨(by assumption), bR2⟩) [0, 1, 2] [dI p.vars, dI p.arrays, dT p.body] [(2, bA (l9 p.vars.length p.arrays.length 5 0 p.body).fst)] fun G => b5 (wp_ret ?_); exact C7 ((l9 p.vars.length p.arrays.length 5 0 p.body).fst) G [0, 1, 2] (by rw [← aT0 (p := p) (by assumption)])
def al3 (vs ars : List Int) (e : b9) : Int := if e.kind = 2 then vs.getD e.value.toNat 0 else if e.kind = 3 then ars.getD e.value.toNat 0 else 0
def m7 (vs ars : List Int) : Nat → b9 → Int
 | 0, _ => 0
 | d + 1, e => e.kids.foldl (fun a k => o7 a (m7 vs ars d k)) (al3 vs ars e)
def D2 (vs ars : List Int) (d : Nat) (x : Int) (ks : List b9) (k : Nat) : Int := (ks.take k).foldl (fun a k => o7 a (m7 vs ars d k)) x
theorem U2 {vs ars : List Int} {d k : Nat} {x : Int} {ks : List b9} (h : k < ks.length) : D2 vs ars d x ks (k + 1) = o7 (D2 vs ars d x ks k) (m7 vs ars d (ks.getD k bR0)) := by
 unfold D2; rw [E8 ks k h, List.foldl_append, s4 h]; rfl
theorem Z9 {vs ars : List Int} {d k : Nat} {x : Int} {e : b9} (h : e.kids.length ≤ k) (hx : al3 vs ars e = x) : m7 vs ars (d + 1) e = D2 vs ars d x e.kids k := by
 unfold D2; rw [bS6 h, m7, hx]
section
variable {nv na d : Nat} {e : b9}
theorem aN5 (h : l0 nv na (d + 1) e = true) : B7 nv na e = true := by simp only [l0, bR1] at h; exact h.1.1
theorem ar4 (h : l0 nv na (d + 1) e = true) (k : e.kind = 2) : 0 ≤ e.value ∧ e.value < nv ∧ e.value.toNat < nv := by
 have := aN5 h
 simp [B7, K8, k] at this; omega
theorem ar5 (h : l0 nv na (d + 1) e = true) (k : e.kind = 3) : 0 ≤ e.value ∧ e.value < na ∧ e.value.toNat < na := by
 have := aN5 h
 simp [B7, K8, k] at this; omega
theorem Y0 {k : Nat} (h : l0 nv na (d + 1) e = true) (hk : k < e.kids.length) : l0 nv na d (e.kids.getD k bR0) = true := by
 simp only [l0, bR1] at h
 rw [s4 hk]; exact bR9.1 h.1.2 _ (bS7 hk)
theorem aN6 (h : l0 nv na (d + 1) e = true) (k : e.kind = 3) : 0 < e.kids.length := by
 have := aN5 h
 simp [B7, o6, k] at this; omega
end
theorem ai0 {x : Int} (h : f7 x = true) : x = 0 ∨ x = 1 ∨ x = 2 ∨ x = 3 := by simp [f7] at h; omega
theorem Y6 (l : Int) : l7.ok Tryz.prog (I7 158 [iA l] [] (bA (f7 l && decide (l % 2 = 1)))) := by
 refine G3 10 Tryz.func158 [] [(0, iA l)] fun G => ?_; refine wp_seq (l5 G f9 [(2, bA false)] fun G => b5 (wp_seq ?_)); cases h0 : (f7 l)
 ·refine l5 G (B1 ⟨[(1, _, [])], [(f7 l, false)], [(3, 0), (4, 0), (5, 0), (1006, 0)]⟩ (b8 (D4 l) d7) ⟨(by assumption), bR2⟩) [] fun G => b5 (wp_ret ?_); exact M6 G []
 ·refine l5 G (B1 ⟨[(1, _, [])], [(f7 l, true)], [(3, 0), (4, 0), (5, 0), (1006, 0)]⟩ (b8 (D4 l) d7) ⟨(by assumption), bR2⟩) [(2, bA (a04 l 1 == 1))] fun G => b5 (wp_ret ?_); exact C7 (a04 l 1 == 1) G [] (by rcases ai0 h0 with rfl | rfl | rfl | rfl <;> kernel_rfl)
theorem J6 (l : Int) : l7.ok Tryz.prog (I7 142 [iA l] [] (bA (f7 l && decide (l % 2 = 1)))) := by
 refine G3 10 Tryz.func142 [] [(0, iA l)] fun G => ?_; refine wp_seq (l5 G f9 [(2, bA false)] fun G => b5 (wp_seq ?_)); cases h0 : (f7 l)
 ·refine l5 G (B1 ⟨[(1, _, [])], [(f7 l, false)], [(3, 0), (4, 0), (5, 0), (1006, 0)]⟩ (b8 (Q8 l) d7) ⟨(by assumption), bR2⟩) [] fun G => b5 (wp_ret ?_); exact M6 G []
 ·refine l5 G (B1 ⟨[(1, _, [])], [(f7 l, true)], [(3, 0), (4, 0), (5, 0), (1006, 0)]⟩ (b8 (Q8 l) d7) ⟨(by assumption), bR2⟩) [(2, bA (a04 l 1 != 0))] fun G => b5 (wp_ret ?_); exact C7 (a04 l 1 != 0) G [] (by rcases ai0 h0 with rfl | rfl | rfl | rfl <;> kernel_rfl)
theorem ag6 (l : Int) : l7.ok Tryz.prog (I7 256 [iA l] [] (bA (f7 l && decide (l ≤ 1)))) := by
 refine G3 10 Tryz.func256 [] [(0, iA l)] fun G => ?_; refine wp_seq (l5 G f9 [(2, bA false)] fun G => b5 (wp_seq ?_)); cases h0 : (f7 l)
 ·refine l5 G (B1 ⟨[(1, _, [])], [(f7 l, false)], [(3, 0), (4, 0), (5, 0), (1006, 0)]⟩ (b8 (D4 l) d7) ⟨(by assumption), bR2⟩) [] fun G => b5 (wp_ret ?_); exact M6 G []
 ·refine l5 G (B1 ⟨[(1, _, [])], [(f7 l, true)], [(3, 0), (4, 0), (5, 0), (1006, 0)]⟩ (b8 (D4 l) d7) ⟨(by assumption), bR2⟩) [(2, bA (a04 l 2 == 0))] fun G => b5 (wp_ret ?_); exact C7 (a04 l 2 == 0) G [] (by rcases ai0 h0 with rfl | rfl | rfl | rfl <;> kernel_rfl)
theorem ad0 (l : Int) : l7.ok Tryz.prog (I7 140 [iA l] [] (bA (f7 l && decide (l ≤ 1)))) := by
 refine G3 10 Tryz.func140 [] [(0, iA l)] fun G => ?_; refine wp_seq (l5 G f9 [(2, bA false)] fun G => b5 (wp_seq ?_)); cases h0 : (f7 l)
 ·refine l5 G (B1 ⟨[(1, _, [])], [(f7 l, false)], [(3, 0), (4, 0), (5, 0), (1006, 0)]⟩ (b8 (Q8 l) d7) ⟨(by assumption), bR2⟩) [] fun G => b5 (wp_ret ?_); exact M6 G []
 ·refine l5 G (B1 ⟨[(1, _, [])], [(f7 l, true)], [(3, 0), (4, 0), (5, 0), (1006, 0)]⟩ (b8 (Q8 l) d7) ⟨(by assumption), bR2⟩) [(2, bA (a04 l 2 == 0))] fun G => b5 (wp_ret ?_); exact C7 (a04 l 2 == 0) G [] (by rcases ai0 h0 with rfl | rfl | rfl | rfl <;> kernel_rfl)
theorem aq1 (x y : Int) : l7.ok Tryz.prog (I7 255 [iA x, iA y] [] (bA (f7 x && f7 y && (o7 x y == y)))) := by
  refine G3 18 Tryz.func255 [] [(0, iA x), (1, iA y)] fun G => ?_; refine wp_seq (l5 G f9 [(4, bA false)] fun G => b5 (wp_seq ?_)); cases h0 : (f7 x)
  · refine l5 G (B1 ⟨[(1, _, [])], [(f7 x, false), (false, false)], us [(3, 4, 0), (1005, 1005, 0), (7, 11, 1), (1012, 1012, 1)]⟩ (b8 (D4 x) d7) ⟨(by assumption), (by kernel_rfl), bR2⟩) [] fun G => b5 (wp_ret ?_); exact M6 G []
  ·
   cases h1 : (f7 y)
   · refine l5 G (B1 ⟨[(1, _, []), (4, _, [])], [(f7 x, true), (f7 y, false)], us [(3, 4, 0), (1005, 1005, 0), (7, 11, 1), (1012, 1012, 1)]⟩ (b8 (D4 x) (b8 (D4 y) d7)) ⟨(by assumption), (by assumption), bR2⟩) [] fun G => b5 (wp_ret ?_); exact M6 G []
   · refine l5 G (B1 ⟨[(1, _, []), (4, _, [])], [(f7 x, true), (f7 y, true)], us [(3, 4, 0), (1005, 1005, 0), (7, 11, 1), (1012, 1012, 1)]⟩ (b8 (D4 x) (b8 (D4 y) d7)) ⟨(by assumption), (by assumption), bR2⟩) [(4, bA (o7 x y == y))] fun G => b5 (wp_ret ?_); exact M6 G []
theorem bg2 : ∀ x : Fin 4, ∀ y : Fin 4, (anI x.val y.val == 0) = (o7 x.val y.val == (y.val : Int)) := by decide +kernel
theorem E9 {x : Int} (h : f7 x = true) : ∃ a : Fin 4, x = (a.val : Int) := by
 simp [f7] at h
 exact ⟨⟨x.toNat, by omega⟩, by simp; omega⟩
theorem aX0 {x y : Int} (hx : f7 x = true) (hy : f7 y = true) : (anI x y == 0) = (o7 x y == y) := by
 obtain ⟨a, rfl⟩ := E9 hx
 obtain ⟨b, rfl⟩ := E9 hy
 exact bg2 a b
theorem bd3 (x y : Int) : l7.ok Tryz.prog (I7 138 [iA x, iA y] [] (bA (anI x y == 0))) := by
 refine G3 9 Tryz.func138 [] [(0, iA x), (1, iA y)] fun G => ?_; refine wp_seq (l5 G f9 [(4, bA false)] fun G => b5 (wp_seq (l5 G f9 [(4, bA (anI x y == 0))] fun G => b5 (wp_ret ?_)))); exact M6 G []
theorem a62 (p : f5) (d : Nat) (ih : ∀ (e : b9), l0 p.vars.length p.arrays.length d e = true → l7.ok Tryz.prog (I7 159 [pA 0, eA e 3] (pS p ++ eS e) (iA (m7 p.vars p.arrays d e))))
    (e : b9) (he : l0 p.vars.length p.arrays.length (d + 1) e = true) : l7.ok Tryz.prog (I7 159 [pA 0, eA e 3] (pS p ++ eS e) (iA (m7 p.vars p.arrays (d + 1) e))) := by
  refine G3 42 Tryz.func159 [dI p.vars, dI p.arrays, dT p.body, dE e.kids] [(0, pA 0), (1, eA e 3)] fun G => ?_; refine wp_seq (m6 G f9 [0, 1, 2, 3, 4, 12] [dI p.vars, dI p.arrays, dT p.body, dE e.kids, .box (pL 0), .box (eL e 3)] [(2, .ptr 4 0), (3, .ptr 5 0), (4, iA 0)] fun G => b5 (wp_seq (l5 G f9 [(5, iA 0)] fun G => b5 (wp_seq (wp_seq (l5 G f9 [(8, iA e.kind)] fun G => b5 (wp_block (wp_seq (l5 G f9 [(9, bA (e.kind == 2))] fun G => b5 (U9 G (fun h0 q0 => ?_) fun h0 q0 => ?_))))))))))
  ·
   refine wp_seq (l5 G f9 [(17, bA (e.kind == 3))] fun G => b5 (U9 G (fun h1 q1 => ?_) fun h1 q1 => ?_))
   ·
    refine wp_skip (o5 (b5 (wp_seq (wp_seq (J3 G f9 [(2, .ptr 4 0), (3, .ptr 5 0), (4, iA 0), (5, iA 0), (6, iA 0)] fun G => b5 (wp_block ?_)))))); refine x7 (κ := Nat) (fun k => k ≤ e.kids.length) (fun k => e.kids.length - k) (fun k => [dI p.vars, dI p.arrays, dT p.body, dE e.kids, .box (pL 0), .box (eL e 3)]) (fun k => [(2, .ptr 4 0), (3, .ptr 5 0), (4, iA 0), (5, iA (D2 p.vars p.arrays d 0 e.kids k)), (6, iA k)]) 0 (by simp [he, h0, h1]) (x9.at G _ _) ?_; clear G; intro k ρ a w hp G; have hlen : e.kids.length ≤ 9223372036854775807 := G.len 3 (d := .exprs e.kids) (by kernel_rfl); refine wp_seq (wp_seq (J3 G f9 [(2, .ptr 4 0), (3, .ptr 5 0), (4, iA 0), (5, iA (D2 p.vars p.arrays d 0 e.kids k)), (6, iA k), (29, bA (decide ((k : Int) < e.kids.length)))] fun G => b5 (W0 G (fun h2 q2 => ?_) fun h2 q2 => ?_)))
    · refine wp_exit (v8 (v8 (v7 (b5 (wp_seq (m6 G f9 (rg 4) [dI p.vars, dI p.arrays, dT p.body, dE e.kids] [(4, iA (D2 p.vars p.arrays d 0 e.kids k))] fun G => b5 (wp_ret ?_))))))); exact N1 (D2 p.vars p.arrays d 0 e.kids k) G (rg 4) (Z9 (by omega) (by simp [al3, h0, q0, h1, q1, h2, q2]; done))
    · refine wp_skip (b5 (wp_seq (wp_block (ar8 G (A0 7 [0, 1, 2, 54] (ih (e.kids.getD k bR0) (Y0 he (by omega)))) [0, 0, 0, 4, 0, 28, 60, 126, 255, 511] [(5, iA (o7 (D2 p.vars p.arrays d 0 e.kids k) (m7 p.vars p.arrays d (e.kids.getD k bR0))))] (iX k k e.kids.length []) (iK (by omega) bR2) fun G => o5 (b5 (H0 G f9 [(6, iA ((k : Int) + 1))] [wO ((k : Int) + 1)] (o1 (by omega)) fun G => b5 ?_)))))); exact Q6 G (k + 1) (by omega) (by omega) (rg 6) (ht := by have e1 : (D2 p.vars p.arrays d 0 e.kids (k + 1) : Int) = (o7 (D2 p.vars p.arrays d 0 e.kids k) (m7 p.vars p.arrays d (e.kids.getD k bR0))) := (U2 (by omega)); (first | rw [e1] | simp only [e1]) <;> rfl)
   ·
    refine H0 G f9 [(5, iA (p.arrays.getD e.value.toNat 0))] [(0 : Int) ≤ e.value, e.value < (p.arrays.length : Int), e.value.toNat < p.arrays.length] ⟨((ar5 he (by assumption)).1), ((ar5 he (by assumption)).2.1), ((ar5 he (by assumption)).2.2), bR2⟩ fun G => o5 (b5 (wp_seq (wp_seq (J3 G f9 [(2, .ptr 4 0), (3, .ptr 5 0), (4, iA 0), (5, iA (p.arrays.getD e.value.toNat 0)), (6, iA 0)] fun G => b5 (wp_block ?_))))); refine x7 (κ := Nat) (fun k => k ≤ e.kids.length) (fun k => e.kids.length - k) (fun k => [dI p.vars, dI p.arrays, dT p.body, dE e.kids, .box (pL 0), .box (eL e 3)]) (fun k => [(2, .ptr 4 0), (3, .ptr 5 0), (4, iA 0), (5, iA (D2 p.vars p.arrays d (p.arrays.getD e.value.toNat 0) e.kids k)), (6, iA k)]) 0 (by simp [he, h0, h1]) (x9.at G _ _) ?_; clear G; intro k ρ a w hp G; have hlen : e.kids.length ≤ 9223372036854775807 := G.len 3 (d := .exprs e.kids) (by kernel_rfl); refine wp_seq (wp_seq (J3 G f9 [(2, .ptr 4 0), (3, .ptr 5 0), (4, iA 0), (5, iA (D2 p.vars p.arrays d (p.arrays.getD e.value.toNat 0) e.kids k)), (6, iA k), (29, bA (decide ((k : Int) < e.kids.length)))] fun G => b5 (W0 G (fun h3 q3 => ?_) fun h3 q3 => ?_)))
    · refine wp_exit (v8 (v8 (v7 (b5 (wp_seq (m6 G f9 (rg 4) [dI p.vars, dI p.arrays, dT p.body, dE e.kids] [(4, iA (D2 p.vars p.arrays d (p.arrays.getD e.value.toNat 0) e.kids k))] fun G => b5 (wp_ret ?_))))))); exact N1 (D2 p.vars p.arrays d (p.arrays.getD e.value.toNat 0) e.kids k) G (rg 4) (Z9 (by omega) (by simp [al3, h0, q0, h1, q1, h3, q3]; done))
    · refine wp_skip (b5 (wp_seq (wp_block (ar8 G (A0 7 [0, 1, 2, 54] (ih (e.kids.getD k bR0) (Y0 he (by omega)))) [0, 0, 0, 4, 0, 28, 60, 126, 255, 511] [(5, iA (o7 (D2 p.vars p.arrays d (p.arrays.getD e.value.toNat 0) e.kids k) (m7 p.vars p.arrays d (e.kids.getD k bR0))))] (iX k k e.kids.length []) (iK (by omega) bR2) fun G => o5 (b5 (H0 G f9 [(6, iA ((k : Int) + 1))] [wO ((k : Int) + 1)] (o1 (by omega)) fun G => b5 ?_)))))); exact Q6 G (k + 1) (by omega) (by omega) (rg 6) (ht := by have e1 : (D2 p.vars p.arrays d (p.arrays.getD e.value.toNat 0) e.kids (k + 1) : Int) = (o7 (D2 p.vars p.arrays d (p.arrays.getD e.value.toNat 0) e.kids k) (m7 p.vars p.arrays d (e.kids.getD k bR0))) := (U2 (by omega)); (first | rw [e1] | simp only [e1]) <;> rfl)
  ·
   refine H0 G f9 [(5, iA (p.vars.getD e.value.toNat 0))] [(0 : Int) ≤ e.value, e.value < (p.vars.length : Int), e.value.toNat < p.vars.length] ⟨((ar4 he (by assumption)).1), ((ar4 he (by assumption)).2.1), ((ar4 he (by assumption)).2.2), bR2⟩ fun G => o5 (b5 (wp_seq (wp_seq (J3 G f9 [(2, .ptr 4 0), (3, .ptr 5 0), (4, iA 0), (5, iA (p.vars.getD e.value.toNat 0)), (6, iA 0)] fun G => b5 (wp_block ?_))))); refine x7 (κ := Nat) (fun k => k ≤ e.kids.length) (fun k => e.kids.length - k) (fun k => [dI p.vars, dI p.arrays, dT p.body, dE e.kids, .box (pL 0), .box (eL e 3)]) (fun k => [(2, .ptr 4 0), (3, .ptr 5 0), (4, iA 0), (5, iA (D2 p.vars p.arrays d (p.vars.getD e.value.toNat 0) e.kids k)), (6, iA k)]) 0 (by simp [he, h0]) (x9.at G _ _) ?_; clear G; intro k ρ a w hp G; have hlen : e.kids.length ≤ 9223372036854775807 := G.len 3 (d := .exprs e.kids) (by kernel_rfl); refine wp_seq (wp_seq (J3 G f9 [(2, .ptr 4 0), (3, .ptr 5 0), (4, iA 0), (5, iA (D2 p.vars p.arrays d (p.vars.getD e.value.toNat 0) e.kids k)), (6, iA k), (29, bA (decide ((k : Int) < e.kids.length)))] fun G => b5 (W0 G (fun h4 q4 => ?_) fun h4 q4 => ?_)))
   · refine wp_exit (v8 (v8 (v7 (b5 (wp_seq (m6 G f9 (rg 4) [dI p.vars, dI p.arrays, dT p.body, dE e.kids] [(4, iA (D2 p.vars p.arrays d (p.vars.getD e.value.toNat 0) e.kids k))] fun G => b5 (wp_ret ?_))))))); exact N1 (D2 p.vars p.arrays d (p.vars.getD e.value.toNat 0) e.kids k) G (rg 4) (Z9 (by omega) (by simp [al3, h0, q0, h4, q4]; done))
   · refine wp_skip (b5 (wp_seq (wp_block (ar8 G (A0 7 [0, 1, 2, 54] (ih (e.kids.getD k bR0) (Y0 he (by omega)))) [0, 0, 0, 4, 0, 28, 60, 126, 255, 511] [(5, iA (o7 (D2 p.vars p.arrays d (p.vars.getD e.value.toNat 0) e.kids k) (m7 p.vars p.arrays d (e.kids.getD k bR0))))] (iX k k e.kids.length []) (iK (by omega) bR2) fun G => o5 (b5 (H0 G f9 [(6, iA ((k : Int) + 1))] [wO ((k : Int) + 1)] (o1 (by omega)) fun G => b5 ?_)))))); exact Q6 G (k + 1) (by omega) (by omega) (rg 6) (ht := by have e1 : (D2 p.vars p.arrays d (p.vars.getD e.value.toNat 0) e.kids (k + 1) : Int) = (o7 (D2 p.vars p.arrays d (p.vars.getD e.value.toNat 0) e.kids k) (m7 p.vars p.arrays d (e.kids.getD k bR0))) := (U2 (by omega)); (first | rw [e1] | simp only [e1]) <;> rfl)
abbrev am9 (e : b9) (k : Nat) (r0 : List (Nat × AV)) : List (Nat × AV) := (27, .ref 3) :: (28, iA (e.kids.length : Int)) :: (29, iA (k : Int)) :: r0
abbrev W2 (p : f5) (e : b9) (r0 : List It) : List It := dI p.vars :: dI p.arrays :: dT p.body :: dE e.kids :: r0
theorem bt4 (p : f5) (d : Nat) (ih : ∀ (e : b9), l0 p.vars.length p.arrays.length d e = true → l7.ok Tryz.prog (I7 141 [pA 0, eA e 3] (pS p ++ eS e) (iA (m7 p.vars p.arrays d e))))
    (e : b9) (he : l0 p.vars.length p.arrays.length (d + 1) e = true) : l7.ok Tryz.prog (I7 141 [pA 0, eA e 3] (pS p ++ eS e) (iA (m7 p.vars p.arrays (d + 1) e))) := by
  refine G3 40 Tryz.func141 (W2 p e []) [(0, pA 0), (1, eA e 3)] fun G => ?_; refine wp_seq (m6 G f9 [0, 1, 2, 3, 4, 12] (W2 p e [.box (pL 0), .box (eL e 3)]) [(2, .ptr 4 0), (3, .ptr 5 0), (4, iA 0)] fun G => b5 (wp_seq (l5 G f9 [(5, iA 0)] fun G => b5 (wp_seq (wp_seq (l5 G f9 [(9, iA e.kind)] fun G => b5 (wp_block (wp_seq (l5 G f9 [(10, bA (e.kind == 2))] fun G => b5 (U9 G (fun h0 q0 => ?_) fun h0 q0 => ?_))))))))))
  ·
   refine wp_seq (l5 G f9 [(18, bA (e.kind == 3))] fun G => b5 (U9 G (fun h1 q1 => ?_) fun h1 q1 => ?_))
   ·
    refine wp_skip (o5 (b5 (wp_seq (wp_seq (m6 G f9 (rg 5) (W2 p e [.box (pL 0)]) [(2, .ptr 4 0), (4, iA 0), (5, iA 0), (27, .ref 3), (28, iA (e.kids.length : Int)), (29, iA 0)] fun G => b5 (wp_block ?_)))))); refine x7 (κ := Nat) (fun k => k ≤ e.kids.length) (fun k => e.kids.length - k) (fun k => [dI p.vars, dI p.arrays, dT p.body, dE e.kids, .box (pL 0)]) (fun k => [(2, .ptr 4 0), (4, iA 0), (5, iA (D2 p.vars p.arrays d 0 e.kids k)), (27, .ref 3), (28, iA (e.kids.length : Int)), (29, iA k)]) 0 (by simp [he, h0, h1]) (x9.at G _ _) ?_; clear G; intro k ρ a w hp G; have hlen : e.kids.length ≤ 9223372036854775807 := G.len 3 (d := .exprs e.kids) (by kernel_rfl); refine wp_seq (J3 G f9 ((2, .ptr 4 0) :: (4, iA 0) :: (5, iA (D2 p.vars p.arrays d 0 e.kids k)) :: (am9 e k [(30, bA (decide ((k : Int) < e.kids.length)))])) fun G => b5 (wp_seq (W0 G (fun h2 q2 => ?_) fun h2 q2 => ?_)))
    · refine wp_exit (v8 (v8 (v7 (b5 (wp_seq (m6 G f9 (rg 4) (W2 p e []) [(4, iA (D2 p.vars p.arrays d 0 e.kids k))] fun G => b5 (wp_ret ?_))))))); exact N1 (D2 p.vars p.arrays d 0 e.kids k) G (rg 4) (Z9 (by omega) (by simp [al3, h0, q0, h1, q1, h2, q2]; done))
    · refine wp_skip (b5 (wp_seq (wp_block (wp_seq (M7 G f9 [0, 1, 2, 3, 4, 13, 21] (W2 p e [.box (pL 0), dE (e.kids.getD k bR0).kids, .box (eL (e.kids.getD k bR0) 5)]) ((2, .ptr 4 0) :: (4, iA 0) :: (5, iA (D2 p.vars p.arrays d 0 e.kids k)) :: (7, .ptr 6 0) :: (am9 e k [])) (iX k k e.kids.length []) (iK (by omega) bR2) fun G => b5 (m6 G (A0 3 [0, 1, 2, 5] (ih (e.kids.getD k bR0) (Y0 he (by omega)))) (rg 5) (W2 p e [.box (pL 0)]) ((2, .ptr 4 0) :: (4, iA 0) :: (5, iA (o7 (D2 p.vars p.arrays d 0 e.kids k) (m7 p.vars p.arrays d (e.kids.getD k bR0)))) :: (am9 e k [])) fun G => o5 (b5 (H0 G f9 [(29, iA ((k : Int) + 1))] [wO ((k : Int) + 1)] (o1 (by omega)) fun G => b5 ?_)))))))); exact Q6 G (k + 1) (by omega) (by omega) (rg 5) (ht := by have e1 : (D2 p.vars p.arrays d 0 e.kids (k + 1) : Int) = (o7 (D2 p.vars p.arrays d 0 e.kids k) (m7 p.vars p.arrays d (e.kids.getD k bR0))) := (U2 (by omega)); (first | rw [e1] | simp only [e1]) <;> rfl)
   ·
    refine H0 G f9 [(5, iA (p.arrays.getD e.value.toNat 0))] [(0 : Int) ≤ e.value, e.value < (p.arrays.length : Int), e.value.toNat < p.arrays.length] ⟨((ar5 he (by assumption)).1), ((ar5 he (by assumption)).2.1), ((ar5 he (by assumption)).2.2), bR2⟩ fun G => o5 (b5 (wp_seq (wp_seq (m6 G f9 (rg 5) (W2 p e [.box (pL 0)]) [(2, .ptr 4 0), (4, iA 0), (5, iA (p.arrays.getD e.value.toNat 0)), (27, .ref 3), (28, iA (e.kids.length : Int)), (29, iA 0)] fun G => b5 (wp_block ?_))))); refine x7 (κ := Nat) (fun k => k ≤ e.kids.length) (fun k => e.kids.length - k) (fun k => [dI p.vars, dI p.arrays, dT p.body, dE e.kids, .box (pL 0)]) (fun k => [(2, .ptr 4 0), (4, iA 0), (5, iA (D2 p.vars p.arrays d (p.arrays.getD e.value.toNat 0) e.kids k)), (27, .ref 3), (28, iA (e.kids.length : Int)), (29, iA k)]) 0 (by simp [he, h0, h1]) (x9.at G _ _) ?_; clear G; intro k ρ a w hp G; have hlen : e.kids.length ≤ 9223372036854775807 := G.len 3 (d := .exprs e.kids) (by kernel_rfl); refine wp_seq (J3 G f9 ((2, .ptr 4 0) :: (4, iA 0) :: (5, iA (D2 p.vars p.arrays d (p.arrays.getD e.value.toNat 0) e.kids k)) :: (am9 e k [(30, bA (decide ((k : Int) < e.kids.length)))])) fun G => b5 (wp_seq (W0 G (fun h3 q3 => ?_) fun h3 q3 => ?_)))
    · refine wp_exit (v8 (v8 (v7 (b5 (wp_seq (m6 G f9 (rg 4) (W2 p e []) [(4, iA (D2 p.vars p.arrays d (p.arrays.getD e.value.toNat 0) e.kids k))] fun G => b5 (wp_ret ?_))))))); exact N1 (D2 p.vars p.arrays d (p.arrays.getD e.value.toNat 0) e.kids k) G (rg 4) (Z9 (by omega) (by simp [al3, h0, q0, h1, q1, h3, q3]; done))
    · refine wp_skip (b5 (wp_seq (wp_block (wp_seq (M7 G f9 [0, 1, 2, 3, 4, 13, 21] (W2 p e [.box (pL 0), dE (e.kids.getD k bR0).kids, .box (eL (e.kids.getD k bR0) 5)]) ((2, .ptr 4 0) :: (4, iA 0) :: (5, iA (D2 p.vars p.arrays d (p.arrays.getD e.value.toNat 0) e.kids k)) :: (7, .ptr 6 0) :: (am9 e k [])) (iX k k e.kids.length []) (iK (by omega) bR2) fun G => b5 (m6 G (A0 3 [0, 1, 2, 5] (ih (e.kids.getD k bR0) (Y0 he (by omega)))) (rg 5) (W2 p e [.box (pL 0)]) ((2, .ptr 4 0) :: (4, iA 0) :: (5, iA (o7 (D2 p.vars p.arrays d (p.arrays.getD e.value.toNat 0) e.kids k) (m7 p.vars p.arrays d (e.kids.getD k bR0)))) :: (am9 e k [])) fun G => o5 (b5 (H0 G f9 [(29, iA ((k : Int) + 1))] [wO ((k : Int) + 1)] (o1 (by omega)) fun G => b5 ?_)))))))); exact Q6 G (k + 1) (by omega) (by omega) (rg 5) (ht := by have e1 : (D2 p.vars p.arrays d (p.arrays.getD e.value.toNat 0) e.kids (k + 1) : Int) = (o7 (D2 p.vars p.arrays d (p.arrays.getD e.value.toNat 0) e.kids k) (m7 p.vars p.arrays d (e.kids.getD k bR0))) := (U2 (by omega)); (first | rw [e1] | simp only [e1]) <;> rfl)
  ·
   refine H0 G f9 [(5, iA (p.vars.getD e.value.toNat 0))] [(0 : Int) ≤ e.value, e.value < (p.vars.length : Int), e.value.toNat < p.vars.length] ⟨((ar4 he (by assumption)).1), ((ar4 he (by assumption)).2.1), ((ar4 he (by assumption)).2.2), bR2⟩ fun G => o5 (b5 (wp_seq (wp_seq (m6 G f9 (rg 5) (W2 p e [.box (pL 0)]) [(2, .ptr 4 0), (4, iA 0), (5, iA (p.vars.getD e.value.toNat 0)), (27, .ref 3), (28, iA (e.kids.length : Int)), (29, iA 0)] fun G => b5 (wp_block ?_))))); refine x7 (κ := Nat) (fun k => k ≤ e.kids.length) (fun k => e.kids.length - k) (fun k => [dI p.vars, dI p.arrays, dT p.body, dE e.kids, .box (pL 0)]) (fun k => [(2, .ptr 4 0), (4, iA 0), (5, iA (D2 p.vars p.arrays d (p.vars.getD e.value.toNat 0) e.kids k)), (27, .ref 3), (28, iA (e.kids.length : Int)), (29, iA k)]) 0 (by simp [he, h0]) (x9.at G _ _) ?_; clear G; intro k ρ a w hp G; have hlen : e.kids.length ≤ 9223372036854775807 := G.len 3 (d := .exprs e.kids) (by kernel_rfl); refine wp_seq (J3 G f9 ((2, .ptr 4 0) :: (4, iA 0) :: (5, iA (D2 p.vars p.arrays d (p.vars.getD e.value.toNat 0) e.kids k)) :: (am9 e k [(30, bA (decide ((k : Int) < e.kids.length)))])) fun G => b5 (wp_seq (W0 G (fun h4 q4 => ?_) fun h4 q4 => ?_)))
   · refine wp_exit (v8 (v8 (v7 (b5 (wp_seq (m6 G f9 (rg 4) (W2 p e []) [(4, iA (D2 p.vars p.arrays d (p.vars.getD e.value.toNat 0) e.kids k))] fun G => b5 (wp_ret ?_))))))); exact N1 (D2 p.vars p.arrays d (p.vars.getD e.value.toNat 0) e.kids k) G (rg 4) (Z9 (by omega) (by simp [al3, h0, q0, h4, q4]; done))
   · refine wp_skip (b5 (wp_seq (wp_block (wp_seq (M7 G f9 [0, 1, 2, 3, 4, 13, 21] (W2 p e [.box (pL 0), dE (e.kids.getD k bR0).kids, .box (eL (e.kids.getD k bR0) 5)]) ((2, .ptr 4 0) :: (4, iA 0) :: (5, iA (D2 p.vars p.arrays d (p.vars.getD e.value.toNat 0) e.kids k)) :: (7, .ptr 6 0) :: (am9 e k [])) (iX k k e.kids.length []) (iK (by omega) bR2) fun G => b5 (m6 G (A0 3 [0, 1, 2, 5] (ih (e.kids.getD k bR0) (Y0 he (by omega)))) (rg 5) (W2 p e [.box (pL 0)]) ((2, .ptr 4 0) :: (4, iA 0) :: (5, iA (o7 (D2 p.vars p.arrays d (p.vars.getD e.value.toNat 0) e.kids k) (m7 p.vars p.arrays d (e.kids.getD k bR0)))) :: (am9 e k [])) fun G => o5 (b5 (H0 G f9 [(29, iA ((k : Int) + 1))] [wO ((k : Int) + 1)] (o1 (by omega)) fun G => b5 ?_)))))))); exact Q6 G (k + 1) (by omega) (by omega) (rg 5) (ht := by have e1 : (D2 p.vars p.arrays d (p.vars.getD e.value.toNat 0) e.kids (k + 1) : Int) = (o7 (D2 p.vars p.arrays d (p.vars.getD e.value.toNat 0) e.kids k) (m7 p.vars p.arrays d (e.kids.getD k bR0))) := (U2 (by omega)); (first | rw [e1] | simp only [e1]) <;> rfl)
theorem aF6 (p : f5) : ∀ (d : Nat) (e : b9), l0 p.vars.length p.arrays.length d e = true → l7.ok Tryz.prog (I7 159 [pA 0, eA e 3] (pS p ++ eS e) (iA (m7 p.vars p.arrays d e))) := by
 intro d
 induction d with
 | zero => intro e h; simp [l0] at h
 | succ d ih => intro e h; exact a62 p d ih e h
theorem aY5 (p : f5) : ∀ (d : Nat) (e : b9), l0 p.vars.length p.arrays.length d e = true → l7.ok Tryz.prog (I7 141 [pA 0, eA e 3] (pS p ++ eS e) (iA (m7 p.vars p.arrays d e))) := by
 intro d
 induction d with
 | zero => intro e h; simp [l0] at h
 | succ d ih => intro e h; exact bt4 p d ih e h
def s9 (vs ars : List Int) : Nat → b9 → Bool
 | 0, _ => false
 | d + 1, e => (decide (e.kind = 3) && (f7 (m7 vs ars d (e.kids.getD 0 bR0)) && decide (m7 vs ars d (e.kids.getD 0 bR0) % 2 = 1))) || e.kids.any (s9 vs ars d)
section
variable {vs ars : List Int} {d : Nat} {e : b9}
theorem bl5 (k : e.kind = 3) (h : (f7 (m7 vs ars d (e.kids.getD 0 bR0)) && decide (m7 vs ars d (e.kids.getD 0 bR0) % 2 = 1)) = true) : s9 vs ars (d + 1) e = true := by rw [s9, h]; simp [k]
theorem bD3 (h : e.kids.any (s9 vs ars d) = false) (k : ¬ e.kind = 3) : s9 vs ars (d + 1) e = false := by rw [s9, h]; simp [k]
theorem bv8 (h : e.kids.any (s9 vs ars d) = false) (k : (f7 (m7 vs ars d (e.kids.getD 0 bR0)) && decide (m7 vs ars d (e.kids.getD 0 bR0) % 2 = 1)) = false) : s9 vs ars (d + 1) e = false := by rw [s9, h, k]; simp
end
theorem aG5 {α : Type} {l : List α} {k : Nat} {p : α → Bool} {z : α} (h : (l.take k).any p = false) (hk : k < l.length) (hp : p (l.getD k z) = false) : (l.take (k + 1)).any p = false := by
 rw [E8 l k hk, List.any_append, h, ← s4 (d := z) hk, List.any_cons, hp]; rfl
theorem aG6 {α : Type} {l : List α} {k : Nat} {p : α → Bool} (h : (l.take k).any p = false) (hk : l.length ≤ k) : l.any p = false := by
 rw [bS6 hk] at h; exact h
theorem bd8 {α : Type} {l : List α} {k : Nat} {p : α → Bool} {z : α} (hk : k < l.length) (hp : p (l.getD k z) = true) : l.any p = true := by
 rw [s4 hk] at hp
 exact List.any_eq_true.2 ⟨_, bS7 hk, hp⟩
theorem aY6 (p : f5) (d : Nat) (ih : ∀ (e : b9), l0 p.vars.length p.arrays.length d e = true → l7.ok Tryz.prog (I7 257 [pA 0, eA e 3] (pS p ++ eS e) (bA (s9 p.vars p.arrays d e))))
    (ihl : ∀ (e : b9), l0 p.vars.length p.arrays.length d e = true → l7.ok Tryz.prog (I7 159 [pA 0, eA e 3] (pS p ++ eS e) (iA (m7 p.vars p.arrays d e))))
    (e : b9) (he : l0 p.vars.length p.arrays.length (d + 1) e = true) : l7.ok Tryz.prog (I7 257 [pA 0, eA e 3] (pS p ++ eS e) (bA (s9 p.vars p.arrays (d + 1) e))) := by
  refine G3 32 Tryz.func257 [dI p.vars, dI p.arrays, dT p.body, dE e.kids] [(0, pA 0), (1, eA e 3)] fun G => ?_; have hlen : e.kids.length ≤ 9223372036854775807 := G.len 3 (d := .exprs e.kids) (by kernel_rfl); refine wp_seq (m6 G f9 [0, 1, 2, 3, 4, 12] [dI p.vars, dI p.arrays, dT p.body, dE e.kids, .box (pL 0), .box (eL e 3)] [(2, .ptr 4 0), (3, .ptr 5 0), (4, bA false)] fun G => b5 (wp_seq (wp_seq ?_))); cases h0 : (e.kind == 3)
  ·
   have q0 := ne_of_beq_false h0; refine bD9 G (F8 (fc h0 fz) (us [(4, 10, 0), (1011, 1011, 0)])) [0, 1, 3, 7, 15, 15, 47, 111, 239, 511, 1023, 2047] [(17, bA false)] fun G => b5 (rF G false (by kernel_rfl) (wp_skip (b5 (wp_seq (wp_seq (J3 G f9 [(2, .ptr 4 0), (3, .ptr 5 0), (4, bA false), (5, iA 0)] fun G => b5 (wp_block ?_))))))); refine x7 (κ := Nat) (fun k => k ≤ e.kids.length ∧ (e.kids.take k).any (s9 p.vars p.arrays d) = false) (fun k => e.kids.length - k) (fun k => [dI p.vars, dI p.arrays, dT p.body, dE e.kids, .box (pL 0), .box (eL e 3)]) (fun k => [(2, .ptr 4 0), (3, .ptr 5 0), (4, bA false), (5, iA k)]) 0 (by simp [he, h0]) (x9.at G _ _) ?_; clear G; intro k ρ a w hp G; refine wp_seq (wp_seq (l5 G f9 [(22, bA (decide ((k : Int) < e.kids.length)))] fun G => b5 (W0 G (fun h2 q2 => ?_) fun h2 q2 => ?_)))
   · refine wp_exit (v8 (v8 (v7 (b5 (wp_seq (m6 G f9 (rg 4) [dI p.vars, dI p.arrays, dT p.body, dE e.kids] [(4, bA false)] fun G => b5 (wp_ret ?_))))))); exact C7 false G (rg 4) (bD3 (aG6 hp.2 (by omega)) (by assumption))
   ·
    refine wp_skip (b5 (wp_seq (wp_block (wp_seq (ar8 G (A0 6 [0, 1, 2, 46] (ih (e.kids.getD k bR0) (Y0 he (by omega)))) [0, 0, 2, 0, 14, 30, 63] [(31, bA (s9 p.vars p.arrays d (e.kids.getD k bR0)))] (iX k k e.kids.length []) (iK (by have hp := hp; omega) bR2) fun G => b5 (rcB G (fun h3 => ?_) fun h3 => ?_))))))
    · refine wp_skip (o5 (b5 (H0 G f9 [(5, iA ((k : Int) + 1))] [wO ((k : Int) + 1)] (o1 (by omega)) fun G => b5 ?_))); exact Q6 G (k + 1) (⟨by omega, aG5 hp.2 (by omega) (by assumption)⟩) (by have hp := hp; omega) (rg 6)
    · refine wp_seq (l5 G f9 [(4, bA true)] fun G => b5 (wp_ret (C9 (m8 (m8 (C9 (m8 ?_))))))); exact C7 true G (rg 4) (by rw [s9, bd8 (k := k) (by omega) (by assumption), Bool.or_true])
  ·
   have q0 := eq_of_beq h0; refine ar8 G (B1 ⟨[(9, _, [0, 1, 2, 70]), (10, _, [])], [(e.kind == 3, true)], us [(4, 10, 0), (1011, 1011, 0)]⟩ (b8 (ihl (e.kids.getD 0 bR0) (Y0 he (aN6 he (by assumption)))) (b8 (Y6 (m7 p.vars p.arrays d (e.kids.getD 0 bR0))) d7)) ⟨(by assumption), bR2⟩) [0, 1, 3, 7, 15, 15, 47, 111, 239, 511, 1023, 2047] [(17, bA (f7 (m7 p.vars p.arrays d (e.kids.getD 0 bR0)) && decide (m7 p.vars p.arrays d (e.kids.getD 0 bR0) % 2 = 1)))] (iX 0 0 e.kids.length []) (iK (by have := aN6 he (by assumption); omega) bR2) fun G => b5 ?_; cases h1 : (f7 (m7 p.vars p.arrays d (e.kids.getD (0 : Nat) bR0)) && decide (m7 p.vars p.arrays d (e.kids.getD (0 : Nat) bR0) % (2 : Int) = 1))
   ·
    have q1 : ((f7 (m7 p.vars p.arrays d (e.kids.getD 0 bR0))) = false) ∨ (¬ (m7 p.vars p.arrays d (e.kids.getD 0 bR0) % 2 = 1)) := Or.imp (fun hq => (hq)) (fun hq => of_decide_eq_false hq) (bT9.1 h1); refine rF G _ h1 (wp_skip (b5 (wp_seq (wp_seq (J3 G f9 [(2, .ptr 4 0), (3, .ptr 5 0), (4, bA false), (5, iA 0)] fun G => b5 (wp_block ?_)))))); refine x7 (κ := Nat) (fun k => k ≤ e.kids.length ∧ (e.kids.take k).any (s9 p.vars p.arrays d) = false) (fun k => e.kids.length - k) (fun k => [dI p.vars, dI p.arrays, dT p.body, dE e.kids, .box (pL 0), .box (eL e 3)]) (fun k => [(2, .ptr 4 0), (3, .ptr 5 0), (4, bA false), (5, iA k)]) 0 (by simp [he, h0, h1]) (x9.at G _ _) ?_; clear G; intro k ρ a w hp G; refine wp_seq (wp_seq (l5 G f9 [(22, bA (decide ((k : Int) < e.kids.length)))] fun G => b5 (W0 G (fun h4 q4 => ?_) fun h4 q4 => ?_)))
    · refine wp_exit (v8 (v8 (v7 (b5 (wp_seq (m6 G f9 (rg 4) [dI p.vars, dI p.arrays, dT p.body, dE e.kids] [(4, bA false)] fun G => b5 (wp_ret ?_))))))); exact C7 false G (rg 4) (bv8 (aG6 hp.2 (by omega)) (by assumption))
    ·
     refine wp_skip (b5 (wp_seq (wp_block (wp_seq (ar8 G (A0 6 [0, 1, 2, 46] (ih (e.kids.getD k bR0) (Y0 he (by omega)))) [0, 0, 2, 0, 14, 30, 63] [(31, bA (s9 p.vars p.arrays d (e.kids.getD k bR0)))] (iX k k e.kids.length []) (iK (by have hp := hp; omega) bR2) fun G => b5 (rcB G (fun h5 => ?_) fun h5 => ?_))))))
     · refine wp_skip (o5 (b5 (H0 G f9 [(5, iA ((k : Int) + 1))] [wO ((k : Int) + 1)] (o1 (by omega)) fun G => b5 ?_))); exact Q6 G (k + 1) (⟨by omega, aG5 hp.2 (by omega) (by assumption)⟩) (by have hp := hp; omega) (rg 6)
     · refine wp_seq (l5 G f9 [(4, bA true)] fun G => b5 (wp_ret (C9 (m8 (m8 (C9 (m8 ?_))))))); exact C7 true G (rg 4) (by rw [s9, bd8 (k := k) (by omega) (by assumption), Bool.or_true])
   · have q1 : ((f7 (m7 p.vars p.arrays d (e.kids.getD 0 bR0))) = true) ∧ (m7 p.vars p.arrays d (e.kids.getD 0 bR0) % 2 = 1) := And.imp (fun hq => (hq)) (fun hq => of_decide_eq_true hq) (bU0.1 h1); refine rT G _ h1 (wp_seq (l5 G f9 [(4, bA true)] fun G => b5 (wp_ret (m8 ?_)))); exact C7 true G (rg 4) (bl5 (by assumption) (by assumption))
def flB (x y : Int) : Bool := f7 x && f7 y && (o7 x y == y)
abbrev i7 (p : f5) (e : b9) : Int := m7 p.vars p.arrays 5 e
def ak9 (x : Int) : Bool := f7 x && decide (x % 2 = 1)
def J5 (p : f5) (s : b6) (pc : Int) : Int :=
 if s.kind = 1 then if flB (o7 (i7 p s.value) pc) (p.vars.getD s.target.toNat 0) then 0 else 1
 else if s.kind = 2 then if flB (o7 (o7 (i7 p s.value) (i7 p s.index)) pc) (p.arrays.getD s.target.toNat 0) then 0 else 1
 else if s.kind = 5 then if (f7 (i7 p s.value) && decide (i7 p s.value ≤ 1)) && decide (pc = 0) then 0 else 2
 else 0
def X0 (p : f5) (s : b6) : Int :=
 if s.kind = 3 ∧ ak9 (i7 p s.value) = true then 3
 else if (s.kind ≠ 4 ∧ s9 p.vars p.arrays 5 s.value = true) ∨ (s.kind = 2 ∧ ak9 (i7 p s.index) = true) then 4 else 0
def L5 (p : f5) (s : b6) (pc : Int) (strict : Bool) : Int := if J5 p s pc = 0 then (if strict then X0 p s else 0) else J5 p s pc
theorem K3 (p : f5) (e : b9) (he : l0 p.vars.length p.arrays.length 5 e = true) : l7.ok Tryz.prog (I7 159 [pA 0, eA e 3] (pS p ++ eS e) (iA (i7 p e))) := aF6 p 5 e he
theorem aY7 (p : f5) : ∀ (d : Nat) (e : b9), l0 p.vars.length p.arrays.length d e = true → l7.ok Tryz.prog (I7 257 [pA 0, eA e 3] (pS p ++ eS e) (bA (s9 p.vars p.arrays d e))) := by
 intro d
 induction d with
 | zero => intro e h; simp [l0] at h
 | succ d ih => intro e h; exact aY6 p d ih (aF6 p d) e h
theorem F4 (p : f5) (e : b9) (he : l0 p.vars.length p.arrays.length 5 e = true) : l7.ok Tryz.prog (I7 257 [pA 0, eA e 3] (pS p ++ eS e) (bA (s9 p.vars p.arrays 5 e))) := aY7 p 5 e he
section
variable {nv na : Nat} {s : b6}
theorem av3 {e : b9} (h : i9 nv na e = true) : l0 nv na 5 e = true := by unfold i9 at h; simp only [bR1] at h; exact h.1
variable (h : C1 nv na s = true)
include h
theorem v6 (k : ¬ s.kind = 4) : l0 nv na 5 s.value = true := by
 apply av3
 by_cases k1 : s.kind = 1 ∨ s.kind = 5
 ·rw [C3 k1] at h; simp only [bR1] at h; exact h.2.2
 by_cases k2 : s.kind = 2
 ·rw [K9 k2] at h; simp only [bR1] at h; exact h.2.2.2
 by_cases k3 : s.kind = 3
 ·rw [X2 k3] at h; simp only [bR1] at h; exact h.2.2
 ·rw [bb4 (by omega)] at h; cases h
theorem aa0 (k : s.kind = 2) : l0 nv na 5 s.index = true := by
 rw [K9 k] at h; simp only [bR1] at h; exact av3 h.2.1
theorem O3 (k : s.kind = 1 ∨ s.kind = 5) : 0 ≤ s.target ∧ s.target < nv ∧ s.target.toNat < nv := by
 rw [C3 k] at h; simp only [bR1, decide_eq_true_eq] at h; omega
theorem O4 (k : s.kind = 2) : 0 ≤ s.target ∧ s.target < na ∧ s.target.toNat < na := by
 rw [K9 k] at h; simp only [bR1, decide_eq_true_eq] at h; omega
end
section
variable {p : f5} {s : b6} {pc : Int} {strict : Bool} {x : Int}
theorem ao5 (h : J5 p s pc = x) (hx : x ≠ 0) : L5 p s pc strict = x := by rw [L5, h, if_neg hx]
theorem af3 (h : J5 p s pc = 0) : L5 p s pc false = 0 := by rw [L5, h]; rfl
theorem A6 (h : J5 p s pc = 0) (hl : X0 p s = x) : L5 p s pc true = x := by rw [L5, h, hl]; rfl
theorem bF6 (k : s.kind = 1) (h : (!(f7 (o7 (i7 p s.value) pc) && f7 (p.vars.getD s.target.toNat 0) && (o7 (o7 (i7 p s.value) pc) (p.vars.getD s.target.toNat 0) == (p.vars.getD s.target.toNat 0)))) = false) : J5 p s pc = 0 := by rw [J5, if_pos k, if_pos (by unfold flB; first | (rw [bS3] at h; exact h) | (rw [bS1] at h; rw [h]; simp))]
theorem bQ6 (k : s.kind = 1) (h : (!(f7 (o7 (i7 p s.value) pc) && f7 (p.vars.getD s.target.toNat 0) && (o7 (o7 (i7 p s.value) pc) (p.vars.getD s.target.toNat 0) == (p.vars.getD s.target.toNat 0)))) = true) : J5 p s pc = 1 := by rw [J5, if_pos k, if_neg (by unfold flB; first | (rw [bS3] at h; exact h) | (rw [bS1] at h; rw [h]; simp))]
theorem by6 (k : s.kind = 2) (h : (!(f7 (o7 (o7 (i7 p s.value) (i7 p s.index)) pc) && f7 (p.arrays.getD s.target.toNat 0) && (o7 (o7 (o7 (i7 p s.value) (i7 p s.index)) pc) (p.arrays.getD s.target.toNat 0) == (p.arrays.getD s.target.toNat 0)))) = false) : J5 p s pc = 0 := by rw [J5, if_neg (by omega), if_pos k, if_pos (by unfold flB; first | (rw [bS3] at h; exact h) | (rw [bS1] at h; rw [h]; simp))]
theorem bQ5 (k : s.kind = 2) (h : (!(f7 (o7 (o7 (i7 p s.value) (i7 p s.index)) pc) && f7 (p.arrays.getD s.target.toNat 0) && (o7 (o7 (o7 (i7 p s.value) (i7 p s.index)) pc) (p.arrays.getD s.target.toNat 0) == (p.arrays.getD s.target.toNat 0)))) = true) : J5 p s pc = 1 := by rw [J5, if_neg (by omega), if_pos k, if_neg (by unfold flB; first | (rw [bS3] at h; exact h) | (rw [bS1] at h; rw [h]; simp))]
theorem bF5 (k : s.kind = 5) (h : (!(f7 (i7 p s.value) && decide (i7 p s.value ≤ 1))) = false) (h2 : pc = 0) : J5 p s pc = 0 := by
 rw [bS3] at h
 rw [J5, if_neg (by omega), if_neg (by omega), if_pos k, h, decide_eq_true h2]; rfl
theorem bL0 (k : s.kind = 5) (h : (!(f7 (i7 p s.value) && decide (i7 p s.value ≤ 1))) = true ∨ ¬ pc = 0) : J5 p s pc = 2 := by
 rw [J5, if_neg (by omega), if_neg (by omega), if_pos k]
 rcases h with h | h
 ·rw [bS1] at h
  rw [h]; rfl
 ·rw [decide_eq_false h, Bool.and_false]; rfl
theorem fl0 (k : ¬ s.kind = 1 ∧ ¬ s.kind = 2 ∧ ¬ s.kind = 5) : J5 p s pc = 0 := by rw [J5, if_neg k.1, if_neg k.2.1, if_neg k.2.2]
theorem lk3 (k : s.kind = 3) (h : (f7 (i7 p s.value) && decide (i7 p s.value % 2 = 1)) = true) : X0 p s = 3 := by rw [X0, if_pos ⟨k, (show ak9 _ = true from h)⟩]
theorem lkv (h3 : ¬ s.kind = 3 ∨ (f7 (i7 p s.value) && decide (i7 p s.value % 2 = 1)) = false) (k : ¬ s.kind = 4) (h : s9 p.vars p.arrays 5 s.value = true) : X0 p s = 4 := by
 rw [X0, if_neg (by rintro ⟨a, b⟩; exact h3.elim (fun h => h a) (fun h => Bool.false_ne_true (h.symm.trans b))), if_pos (.inl ⟨k, h⟩)]
theorem lki (k : s.kind = 2) (h : (f7 (i7 p s.index) && decide (i7 p s.index % 2 = 1)) = true) : X0 p s = 4 := by
 rw [X0, if_neg (by omega), if_pos (.inr ⟨k, (show ak9 _ = true from h)⟩)]
theorem lk0 (h3 : ¬ s.kind = 3 ∨ (f7 (i7 p s.value) && decide (i7 p s.value % 2 = 1)) = false) (h4 : s.kind = 4 ∨ s9 p.vars p.arrays 5 s.value = false) (h2 : ¬ s.kind = 2 ∨ (f7 (i7 p s.index) && decide (i7 p s.index % 2 = 1)) = false) : X0 p s = 0 := by
 rw [X0, if_neg (by rintro ⟨a, b⟩; exact h3.elim (fun h => h a) (fun h => Bool.false_ne_true (h.symm.trans b))), if_neg]
 rintro (⟨a, b⟩ | ⟨a, b⟩)
 ·rcases h4 with h | h
  ·exact a h
  ·rw [h] at b; cases b
 ·rcases h2 with h | h
  ·exact h a
  ·exact Bool.false_ne_true (h.symm.trans b)
end
abbrev P2 (p : f5) (s : b6) (r0 : List It) : List It := dI p.vars :: dI p.arrays :: dT p.body :: dE s.index.kids :: dE s.value.kids :: dT s.body :: dT s.els :: r0
theorem bz7 (p : f5) (s : b6) (pc : Int) (strict : Bool) (h : C1 p.vars.length p.arrays.length s = true) : l7.ok Tryz.prog (I7 241 [pA 0, sA s 3, iA pc, bA strict] (pS p ++ sS s) (iA (L5 p s pc strict))) := by
  refine G3 94 Tryz.func241 (P2 p s []) [(0, pA 0), (1, sA s 3), (2, iA pc), (3, bA strict)] fun G => ?_; refine wp_seq (m6 G f9 [0, 1, 2, 3, 4, 5, 6, 7, 15] (P2 p s [.box (pL 0), .box (sL s 3)]) [(2, iA pc), (3, bA strict), (4, .ptr 7 0), (5, .ptr 8 0), (8, iA 0)] fun G => b5 (wp_seq (wp_seq (l5 G f9 [(10, iA s.kind)] fun G => b5 (wp_block (wp_seq (l5 G f9 [(11, bA (s.kind == 1))] fun G => b5 (U9 G (fun h0 q0 => ?_) fun h0 q0 => ?_))))))))
  ·
   refine wp_seq (l5 G f9 [(27, bA (s.kind == 2))] fun G => b5 (U9 G (fun h1 q1 => ?_) fun h1 q1 => ?_))
   ·
    refine wp_seq (l5 G f9 [(48, bA (s.kind == 5))] fun G => b5 (U9 G (fun h2 q2 => ?_) fun h2 q2 => ?_))
    ·
     refine wp_seq (l5 G f9 [(60, bA (s.kind == 3))] fun G => b5 (U9 G (fun h3 q3 => ?_) fun h3 q3 => ?_))
     ·
      refine wp_skip (o5 (b5 (wp_seq (wp_seq ?_)))); cases h4 : (strict)
      · refine m6 G (F8 (fc h4 fz) (us [(2, 5, 0), (10, 11, 0), (22, 22, 0), (1023, 1023, 0)])) (rg 7) (P2 p s []) [(8, iA 0), (93, bA false)] fun G => b5 (rF G false (by kernel_rfl) (wp_skip (b5 (wp_seq (l5 G f9 [] fun G => b5 (wp_ret ?_)))))); exact N1 0 G (rg 7) (af3 (fl0 (by omega)))
      ·
       cases h5 : (s.kind != 4)
       · have q5 := bne_eq_false_iff_eq.1 h5; refine m6 G (F8 (fc h4 (fc h5 (fc (b := false) rfl (fc h1 fz)))) (us [(2, 5, 0), (6, 9, 1), (10, 10, 0), (1010, 1010, 1), (11, 11, 0), (12, 15, 2), (16, 20, 3), (21, 21, 2), (1021, 1021, 3), (22, 22, 0), (1022, 1022, 2), (1023, 1023, 0)])) (rg 7) (P2 p s []) [(8, iA 0), (93, bA false)] fun G => b5 (rF G false (by kernel_rfl) (wp_skip (b5 (wp_seq (l5 G f9 [] fun G => b5 (wp_ret ?_)))))); exact N1 0 G (rg 7) (A6 (fl0 (by omega)) (lk0 (by exact .inl (by omega)) (by exact .inl (by omega)) (by exact .inl (by omega))))
       ·
        have q5 := bne_iff_ne.1 h5; cases h6 : (s9 p.vars p.arrays (5 : Nat) s.value)
        · refine m6 G (B1 ⟨[(9, _, [0, 1, 2, 4])], [(strict, true), (s.kind != 4, true), (s9 p.vars p.arrays (5 : Nat) s.value, false), (s.kind == 2, false)], us [(2, 5, 0), (6, 9, 1), (10, 10, 0), (1010, 1010, 1), (11, 11, 0), (12, 15, 2), (16, 20, 3), (21, 21, 2), (1021, 1021, 3), (22, 22, 0), (1022, 1022, 2), (1023, 1023, 0)]⟩ (b8 (F4 p s.value (v6 h (by omega))) d7) ⟨(by assumption), (by assumption), (by assumption), (by assumption), bR2⟩) (rg 7) (P2 p s []) [(8, iA 0), (93, bA false)] fun G => b5 (rF G false (by kernel_rfl) (wp_skip (b5 (wp_seq (l5 G f9 [] fun G => b5 (wp_ret ?_)))))); exact N1 0 G (rg 7) (A6 (fl0 (by omega)) (lk0 (by exact .inl (by omega)) (by exact .inr (by with_reducible assumption)) (by exact .inl (by omega))))
        · refine m6 G (B1 ⟨[(9, _, [0, 1, 2, 4])], [(strict, true), (s.kind != 4, true), (s9 p.vars p.arrays (5 : Nat) s.value, true)], us [(2, 5, 0), (6, 9, 1), (10, 10, 0), (1010, 1010, 1), (11, 11, 0), (12, 15, 2), (21, 21, 2), (22, 22, 0), (1022, 1022, 2), (1023, 1023, 0)]⟩ (b8 (F4 p s.value (v6 h (by omega))) d7) ⟨(by assumption), (by assumption), (by assumption), bR2⟩) (rg 7) (P2 p s []) [(8, iA 0), (93, bA true)] fun G => b5 (rT G true (by kernel_rfl) (wp_seq (l5 G f9 [(8, iA 4)] fun G => b5 (wp_ret (m8 ?_))))); exact N1 4 G (rg 7) (A6 (fl0 (by omega)) (lkv (by exact .inl (by omega)) (by omega) (by with_reducible assumption)))
     ·
      refine wp_seq ?_; cases h7 : (strict)
      · refine l5 G (F8 (fc h7 fz) (us [(2, 6, 0), (1007, 1007, 0)])) [(69, bA false)] fun G => b5 (rF G false (by kernel_rfl) (wp_skip (o5 (b5 (wp_seq (wp_seq (m6 G (F8 (fc h7 fz) (us [(2, 5, 0), (10, 11, 0), (22, 22, 0), (1023, 1023, 0)])) (rg 7) (P2 p s []) [(8, iA 0), (93, bA false)] fun G => b5 (rF G false (by kernel_rfl) (wp_skip (b5 (wp_seq (l5 G f9 [] fun G => b5 (wp_ret ?_))))))))))))); exact N1 0 G (rg 7) (af3 (fl0 (by omega)))
      ·
       refine J3 G (B1 ⟨[(5, _, [0, 1, 2, 4]), (6, _, [])], [(strict, true)], us [(2, 6, 0), (1007, 1007, 0)]⟩ (b8 (K3 p s.value (v6 h (by omega))) (b8 (Y6 (i7 p s.value)) d7)) ⟨(by assumption), bR2⟩) [(3, bA strict), (4, .ptr 7 0), (5, .ptr 8 0), (8, iA 0), (69, bA (f7 (i7 p s.value) && decide (i7 p s.value % 2 = 1)))] fun G => b5 ?_; cases h8 : (f7 (i7 p s.value) && decide (i7 p s.value % (2 : Int) = 1))
       ·
        have q8 : ((f7 (i7 p s.value)) = false) ∨ (¬ (i7 p s.value % 2 = 1)) := Or.imp (fun hq => (hq)) (fun hq => of_decide_eq_false hq) (bT9.1 h8); refine rF G _ h8 (wp_skip (o5 (b5 (wp_seq (wp_seq ?_))))); cases h9 : (s.kind != 4)
        · have q9 := bne_eq_false_iff_eq.1 h9; exact False.elim (by omega)
        ·
         have q9 := bne_iff_ne.1 h9; cases h10 : (s9 p.vars p.arrays (5 : Nat) s.value)
         · refine m6 G (B1 ⟨[(9, _, [0, 1, 2, 4])], [(strict, true), (s.kind != 4, true), (s9 p.vars p.arrays (5 : Nat) s.value, false), (s.kind == 2, false)], us [(2, 5, 0), (6, 9, 1), (10, 10, 0), (1010, 1010, 1), (11, 11, 0), (12, 15, 2), (16, 20, 3), (21, 21, 2), (1021, 1021, 3), (22, 22, 0), (1022, 1022, 2), (1023, 1023, 0)]⟩ (b8 (F4 p s.value (v6 h (by omega))) d7) ⟨(by assumption), (by assumption), (by assumption), (by assumption), bR2⟩) (rg 7) (P2 p s []) [(8, iA 0), (93, bA false)] fun G => b5 (rF G false (by kernel_rfl) (wp_skip (b5 (wp_seq (l5 G f9 [] fun G => b5 (wp_ret ?_)))))); exact N1 0 G (rg 7) (A6 (fl0 (by omega)) (lk0 (by exact .inr (by with_reducible assumption)) (by exact .inr (by with_reducible assumption)) (by exact .inl (by omega))))
         · refine m6 G (B1 ⟨[(9, _, [0, 1, 2, 4])], [(strict, true), (s.kind != 4, true), (s9 p.vars p.arrays (5 : Nat) s.value, true)], us [(2, 5, 0), (6, 9, 1), (10, 10, 0), (1010, 1010, 1), (11, 11, 0), (12, 15, 2), (21, 21, 2), (22, 22, 0), (1022, 1022, 2), (1023, 1023, 0)]⟩ (b8 (F4 p s.value (v6 h (by omega))) d7) ⟨(by assumption), (by assumption), (by assumption), bR2⟩) (rg 7) (P2 p s []) [(8, iA 0), (93, bA true)] fun G => b5 (rT G true (by kernel_rfl) (wp_seq (l5 G f9 [(8, iA 4)] fun G => b5 (wp_ret (m8 ?_))))); exact N1 4 G (rg 7) (A6 (fl0 (by omega)) (lkv (by exact .inr (by with_reducible assumption)) (by omega) (by with_reducible assumption)))
       · have q8 : ((f7 (i7 p s.value)) = true) ∧ (i7 p s.value % 2 = 1) := And.imp (fun hq => (hq)) (fun hq => of_decide_eq_true hq) (bU0.1 h8); refine rT G _ h8 (wp_seq (l5 G f9 [(8, iA 3)] fun G => b5 (wp_ret (C9 (m8 ?_))))); exact N1 3 G (rg 7) (A6 (fl0 (by omega)) (lk3 (by with_reducible assumption) (by with_reducible assumption)))
    ·
     refine wp_seq ?_; cases h11 : (!(f7 (i7 p s.value) && decide (i7 p s.value ≤ 1)))
     ·
      have q11 : ((f7 (i7 p s.value)) = true) ∧ (i7 p s.value ≤ 1) := (fun hq => And.imp (fun hq => (hq)) (fun hq => of_decide_eq_true hq) (bU0.1 hq)) (Eq.mp (bS3 _) h11); refine J3 G (B1 ⟨[(3, _, [0, 1, 2, 4]), (4, _, [])], [(!(f7 (i7 p s.value) && decide (i7 p s.value ≤ 1)), false)], [(7, 0), (8, 0), (1009, 0)]⟩ (b8 (K3 p s.value (v6 h (by omega))) (b8 (ag6 (i7 p s.value)) d7)) ⟨(by assumption), bR2⟩) [(3, bA strict), (4, .ptr 7 0), (5, .ptr 8 0), (8, iA 0), (59, bA (pc != 0))] fun G => b5 (rcN G (fun h12 q12 => ?_) fun h12 q12 => ?_)
      ·
       refine wp_skip (o5 (b5 (wp_seq (wp_seq ?_)))); cases h13 : (strict)
       · refine m6 G (F8 (fc h13 fz) (us [(2, 5, 0), (10, 11, 0), (22, 22, 0), (1023, 1023, 0)])) (rg 7) (P2 p s []) [(8, iA 0), (93, bA false)] fun G => b5 (rF G false (by kernel_rfl) (wp_skip (b5 (wp_seq (l5 G f9 [] fun G => b5 (wp_ret ?_)))))); exact N1 0 G (rg 7) (af3 (bF5 (by with_reducible assumption) (by with_reducible assumption) (by with_reducible assumption)))
       ·
        cases h14 : (s.kind != 4)
        · have q14 := bne_eq_false_iff_eq.1 h14; exact False.elim (by omega)
        ·
         have q14 := bne_iff_ne.1 h14; cases h15 : (s9 p.vars p.arrays (5 : Nat) s.value)
         · refine m6 G (B1 ⟨[(9, _, [0, 1, 2, 4])], [(strict, true), (s.kind != 4, true), (s9 p.vars p.arrays (5 : Nat) s.value, false), (s.kind == 2, false)], us [(2, 5, 0), (6, 9, 1), (10, 10, 0), (1010, 1010, 1), (11, 11, 0), (12, 15, 2), (16, 20, 3), (21, 21, 2), (1021, 1021, 3), (22, 22, 0), (1022, 1022, 2), (1023, 1023, 0)]⟩ (b8 (F4 p s.value (v6 h (by omega))) d7) ⟨(by assumption), (by assumption), (by assumption), (by assumption), bR2⟩) (rg 7) (P2 p s []) [(8, iA 0), (93, bA false)] fun G => b5 (rF G false (by kernel_rfl) (wp_skip (b5 (wp_seq (l5 G f9 [] fun G => b5 (wp_ret ?_)))))); exact N1 0 G (rg 7) (A6 (bF5 (by with_reducible assumption) (by with_reducible assumption) (by with_reducible assumption)) (lk0 (by exact .inl (by omega)) (by exact .inr (by with_reducible assumption)) (by exact .inl (by omega))))
         · refine m6 G (B1 ⟨[(9, _, [0, 1, 2, 4])], [(strict, true), (s.kind != 4, true), (s9 p.vars p.arrays (5 : Nat) s.value, true)], us [(2, 5, 0), (6, 9, 1), (10, 10, 0), (1010, 1010, 1), (11, 11, 0), (12, 15, 2), (21, 21, 2), (22, 22, 0), (1022, 1022, 2), (1023, 1023, 0)]⟩ (b8 (F4 p s.value (v6 h (by omega))) d7) ⟨(by assumption), (by assumption), (by assumption), bR2⟩) (rg 7) (P2 p s []) [(8, iA 0), (93, bA true)] fun G => b5 (rT G true (by kernel_rfl) (wp_seq (l5 G f9 [(8, iA 4)] fun G => b5 (wp_ret (m8 ?_))))); exact N1 4 G (rg 7) (A6 (bF5 (by with_reducible assumption) (by with_reducible assumption) (by with_reducible assumption)) (lkv (by exact .inl (by omega)) (by omega) (by with_reducible assumption)))
      · refine wp_seq (l5 G f9 [(8, iA 2)] fun G => b5 (wp_ret (C9 (m8 ?_)))); exact N1 2 G (rg 7) (ao5 (bL0 (by with_reducible assumption) (.inr (by with_reducible assumption))) (by decide))
     · have q11 : ((f7 (i7 p s.value)) = false) ∨ (¬ (i7 p s.value ≤ 1)) := (fun hq => Or.imp (fun hq => (hq)) (fun hq => of_decide_eq_false hq) (bT9.1 hq)) (Eq.mp (bS1 _) h11); refine l5 G (B1 ⟨[(3, _, [0, 1, 2, 4]), (4, _, [])], [(!(f7 (i7 p s.value) && decide (i7 p s.value ≤ 1)), true)], [(7, 0), (8, 0), (1009, 0)]⟩ (b8 (K3 p s.value (v6 h (by omega))) (b8 (ag6 (i7 p s.value)) d7)) ⟨(by assumption), bR2⟩) [(59, bA true)] fun G => b5 (rT G true (by kernel_rfl) (wp_seq (l5 G f9 [(8, iA 2)] fun G => b5 (wp_ret (C9 (m8 ?_)))))); exact N1 2 G (rg 7) (ao5 (bL0 (by with_reducible assumption) (.inl (by with_reducible assumption))) (by decide))
   ·
    refine wp_seq (bm8 G (B1 ⟨[(3, _, [0, 1, 2, 4]), (7, _, (rg 4)), (17, _, [])], [], []⟩ (b8 (K3 p s.value (v6 h (by omega))) (b8 (K3 p s.index (aa0 h (by with_reducible assumption))) (b8 (aq1 (o7 (o7 (i7 p s.value) (i7 p s.index)) pc) (p.arrays.getD s.target.toNat 0)) d7))) bR2) [0, 0, 2, 7, 0, 0, 32, 127, 255, 0, 1023, 0, 2048, 0, 8192, 30720, 63488, 131071, 262143] [(3, bA strict), (4, .ptr 7 0), (5, .ptr 8 0), (8, iA 0), (47, .v (.bool !(f7 (o7 (o7 (i7 p s.value) (i7 p s.index)) pc) && f7 (p.arrays.getD s.target.toNat 0) && o7 (o7 (o7 (i7 p s.value) (i7 p s.index)) pc) (p.arrays.getD s.target.toNat 0) == p.arrays.getD s.target.toNat 0)))] [(0 : Int) ≤ s.target, s.target < (p.arrays.length : Int), s.target.toNat < p.arrays.length] ⟨((O4 h (by omega)).1), ((O4 h (by omega)).2.1), ((O4 h (by omega)).2.2), bR2⟩ fun G => b5 ?_); cases h16 : (!(f7 (o7 (o7 (i7 p s.value) (i7 p s.index)) pc) && f7 (p.arrays.getD s.target.toNat (0 : Int)) && o7 (o7 (o7 (i7 p s.value) (i7 p s.index)) pc) (p.arrays.getD s.target.toNat (0 : Int)) == p.arrays.getD s.target.toNat (0 : Int)))
    ·
     have q16 : (((f7 (o7 (o7 (i7 p s.value) (i7 p s.index)) pc)) = true) ∧ ((f7 (p.arrays.getD s.target.toNat 0)) = true)) ∧ (o7 (o7 (o7 (i7 p s.value) (i7 p s.index)) pc) (p.arrays.getD s.target.toNat 0) = p.arrays.getD s.target.toNat 0) := (fun hq => And.imp (fun hq => And.imp (fun hq => (hq)) (fun hq => (hq)) (bU0.1 hq)) (fun hq => eq_of_beq hq) (bU0.1 hq)) (Eq.mp (bS3 _) h16); refine rF G _ h16 (wp_skip (o5 (b5 (wp_seq (wp_seq ?_))))); cases h17 : (strict)
     · refine m6 G (F8 (fc h17 fz) (us [(2, 5, 0), (10, 11, 0), (22, 22, 0), (1023, 1023, 0)])) (rg 7) (P2 p s []) [(8, iA 0), (93, bA false)] fun G => b5 (rF G false (by kernel_rfl) (wp_skip (b5 (wp_seq (l5 G f9 [] fun G => b5 (wp_ret ?_)))))); exact N1 0 G (rg 7) (af3 (by6 (by with_reducible assumption) (by with_reducible assumption)))
     ·
      cases h18 : (s.kind != 4)
      · have q18 := bne_eq_false_iff_eq.1 h18; exact False.elim (by omega)
      ·
       have q18 := bne_iff_ne.1 h18; cases h19 : (s9 p.vars p.arrays (5 : Nat) s.value)
       ·
        refine m6 G (B1 ⟨[(9, _, [0, 1, 2, 4]), (19, _, (rg 4)), (20, _, [])], [(strict, true), (s.kind != 4, true), (s9 p.vars p.arrays (5 : Nat) s.value, false), (s.kind == 2, true)], us [(2, 5, 0), (6, 9, 1), (10, 10, 0), (1010, 1010, 1), (11, 11, 0), (12, 15, 2), (16, 20, 3), (21, 21, 2), (1021, 1021, 3), (22, 22, 0), (1022, 1022, 2), (1023, 1023, 0)]⟩ (b8 (F4 p s.value (v6 h (by omega))) (b8 (K3 p s.index (aa0 h (by with_reducible assumption))) (b8 (Y6 (i7 p s.index)) d7))) ⟨(by assumption), (by assumption), (by assumption), (by assumption), bR2⟩) (rg 7) (P2 p s []) [(8, iA 0), (93, bA (f7 (i7 p s.index) && decide (i7 p s.index % 2 = 1)))] fun G => b5 ?_; cases h20 : (f7 (i7 p s.index) && decide (i7 p s.index % (2 : Int) = 1))
        · have q20 : ((f7 (i7 p s.index)) = false) ∨ (¬ (i7 p s.index % 2 = 1)) := Or.imp (fun hq => (hq)) (fun hq => of_decide_eq_false hq) (bT9.1 h20); refine rF G _ h20 (wp_skip (b5 (wp_seq (l5 G f9 [] fun G => b5 (wp_ret ?_))))); exact N1 0 G (rg 7) (A6 (by6 (by with_reducible assumption) (by with_reducible assumption)) (lk0 (by exact .inl (by omega)) (by exact .inr (by with_reducible assumption)) (by exact .inr (by with_reducible assumption))))
        · have q20 : ((f7 (i7 p s.index)) = true) ∧ (i7 p s.index % 2 = 1) := And.imp (fun hq => (hq)) (fun hq => of_decide_eq_true hq) (bU0.1 h20); refine rT G _ h20 (wp_seq (l5 G f9 [(8, iA 4)] fun G => b5 (wp_ret (m8 ?_)))); exact N1 4 G (rg 7) (A6 (by6 (by with_reducible assumption) (by with_reducible assumption)) (lki (by with_reducible assumption) (by with_reducible assumption)))
       · refine m6 G (B1 ⟨[(9, _, [0, 1, 2, 4])], [(strict, true), (s.kind != 4, true), (s9 p.vars p.arrays (5 : Nat) s.value, true)], us [(2, 5, 0), (6, 9, 1), (10, 10, 0), (1010, 1010, 1), (11, 11, 0), (12, 15, 2), (21, 21, 2), (22, 22, 0), (1022, 1022, 2), (1023, 1023, 0)]⟩ (b8 (F4 p s.value (v6 h (by omega))) d7) ⟨(by assumption), (by assumption), (by assumption), bR2⟩) (rg 7) (P2 p s []) [(8, iA 0), (93, bA true)] fun G => b5 (rT G true (by kernel_rfl) (wp_seq (l5 G f9 [(8, iA 4)] fun G => b5 (wp_ret (m8 ?_))))); exact N1 4 G (rg 7) (A6 (by6 (by with_reducible assumption) (by with_reducible assumption)) (lkv (by exact .inl (by omega)) (by omega) (by with_reducible assumption)))
    · have q16 : (((f7 (o7 (o7 (i7 p s.value) (i7 p s.index)) pc)) = false) ∨ ((f7 (p.arrays.getD s.target.toNat 0)) = false)) ∨ (¬ (o7 (o7 (o7 (i7 p s.value) (i7 p s.index)) pc) (p.arrays.getD s.target.toNat 0) = p.arrays.getD s.target.toNat 0)) := (fun hq => Or.imp (fun hq => Or.imp (fun hq => (hq)) (fun hq => (hq)) (bT9.1 hq)) (fun hq => ne_of_beq_false hq) (bT9.1 hq)) (Eq.mp (bS1 _) h16); refine rT G _ h16 (wp_seq (l5 G f9 [(8, iA 1)] fun G => b5 (wp_ret (C9 (m8 ?_))))); exact N1 1 G (rg 7) (ao5 (bQ5 (by with_reducible assumption) (by with_reducible assumption)) (by decide))
  ·
   refine wp_seq (bm8 G (B1 ⟨[(3, _, [0, 1, 2, 4]), (12, _, [])], [], []⟩ (b8 (K3 p s.value (v6 h (by omega))) (b8 (aq1 (o7 (i7 p s.value) pc) (p.vars.getD s.target.toNat 0)) d7)) bR2) [0, 0, 2, 7, 0, 31, 0, 64, 0, 256, 960, 1984, 4095, 8191] [(3, bA strict), (4, .ptr 7 0), (5, .ptr 8 0), (8, iA 0), (26, .v (.bool !(f7 (o7 (i7 p s.value) pc) && f7 (p.vars.getD s.target.toNat 0) && o7 (o7 (i7 p s.value) pc) (p.vars.getD s.target.toNat 0) == p.vars.getD s.target.toNat 0)))] [(0 : Int) ≤ s.target, s.target < (p.vars.length : Int), s.target.toNat < p.vars.length] ⟨((O3 h (by omega)).1), ((O3 h (by omega)).2.1), ((O3 h (by omega)).2.2), bR2⟩ fun G => b5 ?_); cases h21 : (!(f7 (o7 (i7 p s.value) pc) && f7 (p.vars.getD s.target.toNat (0 : Int)) && o7 (o7 (i7 p s.value) pc) (p.vars.getD s.target.toNat (0 : Int)) == p.vars.getD s.target.toNat (0 : Int)))
   ·
    have q21 : (((f7 (o7 (i7 p s.value) pc)) = true) ∧ ((f7 (p.vars.getD s.target.toNat 0)) = true)) ∧ (o7 (o7 (i7 p s.value) pc) (p.vars.getD s.target.toNat 0) = p.vars.getD s.target.toNat 0) := (fun hq => And.imp (fun hq => And.imp (fun hq => (hq)) (fun hq => (hq)) (bU0.1 hq)) (fun hq => eq_of_beq hq) (bU0.1 hq)) (Eq.mp (bS3 _) h21); refine rF G _ h21 (wp_skip (o5 (b5 (wp_seq (wp_seq ?_))))); cases h22 : (strict)
    · refine m6 G (F8 (fc h22 fz) (us [(2, 5, 0), (10, 11, 0), (22, 22, 0), (1023, 1023, 0)])) (rg 7) (P2 p s []) [(8, iA 0), (93, bA false)] fun G => b5 (rF G false (by kernel_rfl) (wp_skip (b5 (wp_seq (l5 G f9 [] fun G => b5 (wp_ret ?_)))))); exact N1 0 G (rg 7) (af3 (bF6 (by with_reducible assumption) (by with_reducible assumption)))
    ·
     cases h23 : (s.kind != 4)
     · have q23 := bne_eq_false_iff_eq.1 h23; exact False.elim (by omega)
     ·
      have q23 := bne_iff_ne.1 h23; cases h24 : (s9 p.vars p.arrays (5 : Nat) s.value)
      ·
       cases h25 : (s.kind == 2)
       · have q25 := ne_of_beq_false h25; refine m6 G (B1 ⟨[(9, _, [0, 1, 2, 4])], [(strict, true), (s.kind != 4, true), (s9 p.vars p.arrays (5 : Nat) s.value, false), (s.kind == 2, false)], us [(2, 5, 0), (6, 9, 1), (10, 10, 0), (1010, 1010, 1), (11, 11, 0), (12, 15, 2), (16, 20, 3), (21, 21, 2), (1021, 1021, 3), (22, 22, 0), (1022, 1022, 2), (1023, 1023, 0)]⟩ (b8 (F4 p s.value (v6 h (by omega))) d7) ⟨(by assumption), (by assumption), (by assumption), (by assumption), bR2⟩) (rg 7) (P2 p s []) [(8, iA 0), (93, bA false)] fun G => b5 (rF G false (by kernel_rfl) (wp_skip (b5 (wp_seq (l5 G f9 [] fun G => b5 (wp_ret ?_)))))); exact N1 0 G (rg 7) (A6 (bF6 (by with_reducible assumption) (by with_reducible assumption)) (lk0 (by exact .inl (by omega)) (by exact .inr (by with_reducible assumption)) (by exact .inl (by omega))))
       · have q25 := eq_of_beq h25; exact False.elim (by omega)
      · refine m6 G (B1 ⟨[(9, _, [0, 1, 2, 4])], [(strict, true), (s.kind != 4, true), (s9 p.vars p.arrays (5 : Nat) s.value, true)], us [(2, 5, 0), (6, 9, 1), (10, 10, 0), (1010, 1010, 1), (11, 11, 0), (12, 15, 2), (21, 21, 2), (22, 22, 0), (1022, 1022, 2), (1023, 1023, 0)]⟩ (b8 (F4 p s.value (v6 h (by omega))) d7) ⟨(by assumption), (by assumption), (by assumption), bR2⟩) (rg 7) (P2 p s []) [(8, iA 0), (93, bA true)] fun G => b5 (rT G true (by kernel_rfl) (wp_seq (l5 G f9 [(8, iA 4)] fun G => b5 (wp_ret (m8 ?_))))); exact N1 4 G (rg 7) (A6 (bF6 (by with_reducible assumption) (by with_reducible assumption)) (lkv (by exact .inl (by omega)) (by omega) (by with_reducible assumption)))
   · have q21 : (((f7 (o7 (i7 p s.value) pc)) = false) ∨ ((f7 (p.vars.getD s.target.toNat 0)) = false)) ∨ (¬ (o7 (o7 (i7 p s.value) pc) (p.vars.getD s.target.toNat 0) = p.vars.getD s.target.toNat 0)) := (fun hq => Or.imp (fun hq => Or.imp (fun hq => (hq)) (fun hq => (hq)) (bT9.1 hq)) (fun hq => ne_of_beq_false hq) (bT9.1 hq)) (Eq.mp (bS1 _) h21); refine rT G _ h21 (wp_seq (l5 G f9 [(8, iA 1)] fun G => b5 (wp_ret (C9 (m8 ?_))))); exact N1 1 G (rg 7) (ao5 (bQ6 (by with_reducible assumption) (by with_reducible assumption)) (by decide))
def D5 (F : Nat → b6 → Int × Nat) : Nat → List b6 → Int × Nat
 | c, [] => (0, c)
 | c, s :: r => if (F c s).1 = 0 then D5 F (F c s).2 r else F c s
def F7 (p : f5) (s : b6) (pc : Int) : Int := if s.kind = 3 then o7 pc (i7 p s.value) else pc
def stC (p : f5) (strict : Bool) : Nat → Int → Nat → b6 → Int × Nat
  | 0, _, c, _ => (0, c)
  | d + 1, pc, c, s => if L5 p s pc strict = 0 then
      (if (D5 (stC p strict d (F7 p s pc)) (c + 1) s.body).1 = 0 then D5 (stC p strict d (F7 p s pc)) (D5 (stC p strict d (F7 p s pc)) (c + 1) s.body).2 s.els
       else D5 (stC p strict d (F7 p s pc)) (c + 1) s.body)
    else (L5 p s pc strict, c)
abbrev t9 (p : f5) (strict : Bool) (d : Nat) (pc : Int) (c : Nat) (ss : List b6) : Int × Nat := D5 (stC p strict d pc) c ss
theorem ab5 (F : Nat → b6 → Int × Nat) : ∀ (a b : List b6) (c : Nat), D5 F c (a ++ b) = if (D5 F c a).1 = 0 then D5 F (D5 F c a).2 b else D5 F c a
 | [], b, c => by simp [D5]
 | x :: r, b, c => by
  simp only [List.cons_append, D5]
  by_cases h : (F c x).1 = 0
  ·simp only [h, if_true]; exact ab5 F r b _
  ·simp [h]
theorem V6 {F : Nat → b6 → Int × Nat} {c k : Nat} {ss : List b6} (h : (D5 F c (ss.take k)).1 = 0) (hk : k < ss.length) : D5 F c (ss.take (k + 1)) = F (D5 F c (ss.take k)).2 (ss.getD k bR0) := by
 rw [s5 _ _ hk, ab5, if_pos h, s4 hk]
 simp only [D5]
 split
 ·rename_i h; exact Prod.ext h.symm rfl
 ·rfl
theorem F3 {F : Nat → b6 → Int × Nat} {c k : Nat} {ss : List b6} (h : (D5 F c (ss.take k)).1 = 0) (hk : k < ss.length) (hf : ¬ (F (D5 F c (ss.take k)).2 (ss.getD k bR0)).1 = 0) : D5 F c ss = F (D5 F c (ss.take k)).2 (ss.getD k bR0) := by
 conv => lhs; rw [← List.take_append_drop (k + 1) ss]
 rw [ab5, V6 h hk, if_neg hf]
theorem aE7 {F : Nat → b6 → Int × Nat} {c k : Nat} {ss : List b6} (hk : ss.length ≤ k) : D5 F c ss = D5 F c (ss.take k) := by rw [bS6 hk]
theorem ap4 {F : Nat → b6 → Int × Nat} (hF : ∀ c s, (F c s).2 ≤ c + nS s) : ∀ (ss : List b6) (c : Nat), (D5 F c ss).2 ≤ c + I8 ss
 | [], c => by simp [D5]
 | s :: r, c => by
  simp only [D5, I8]
  have h1 := hF c s
  have h2 := ap4 hF r (F c s).2
  split <;> omega
theorem a18 {p : f5} {strict : Bool} : ∀ (d : Nat) (pc : Int) (c : Nat) (s : b6), (stC p strict d pc c s).2 ≤ c + nS s
 | 0, _, c, s => by simp [stC]
 | d + 1, pc, c, s => by
  have hs := ar9 s
  have h1 := ap4 (a18 (p := p) (strict := strict) d (F7 p s pc)) s.body (c + 1)
  have h2 := ap4 (a18 (p := p) (strict := strict) d (F7 p s pc)) s.els (D5 (stC p strict d (F7 p s pc)) (c + 1) s.body).2
  rw [stC]
  split
  ·split <;> omega
  ·simp only; omega
theorem a71 {p : f5} {strict : Bool} {d : Nat} {pc : Int} {c : Nat} {ss : List b6} : (t9 p strict d pc c ss).2 ≤ c + I8 ss := ap4 (a18 d pc) ss c
theorem A4 {nv na d k : Nat} {ss : List b6} (hs : ss.all (i5 nv na (d + 1)) = true) (hk : k < ss.length) : C1 nv na (ss.getD k bR0) = true ∧ (ss.getD k bR0).body.all (i5 nv na d) = true ∧ (ss.getD k bR0).els.all (i5 nv na d) = true := by
 have h := bR9.1 hs _ (bS7 hk)
 rw [F2, bR1, bR1] at h
 rw [s4 hk]; exact h
theorem aZ8 {k : Nat} {ss : List b6} (hk : k < ss.length) : I8 (ss.take k) + (1 + I8 (ss.getD k bR0).body + I8 (ss.getD k bR0).els) ≤ I8 ss := by
 have h1 := bf0 hk
 have h2 := aV3 ss (k + 1)
 rw [ar9] at h1
 rw [s4 hk]; omega
section
variable {p : f5} {strict : Bool} {d c : Nat} {pc : Int} {s : b6}
theorem ax3 (h : ¬ L5 p s pc strict = 0) : stC p strict (d + 1) pc c s = (L5 p s pc strict, c) := by rw [stC, if_neg h]
theorem R1 {x : Int} (h : L5 p s pc strict = 0) (hx : F7 p s pc = x) (h2 : ¬ (t9 p strict d x (c + 1) s.body).1 = 0) : stC p strict (d + 1) pc c s = t9 p strict d x (c + 1) s.body := by
 subst hx; rw [stC, if_pos h, if_neg h2]
theorem M0 {x : Int} (h : L5 p s pc strict = 0) (hx : F7 p s pc = x) (h2 : (t9 p strict d x (c + 1) s.body).1 = 0) : stC p strict (d + 1) pc c s = t9 p strict d x (t9 p strict d x (c + 1) s.body).2 s.els := by
 subst hx; rw [stC, if_pos h, if_pos h2]
theorem Y4 (k : s.kind = 3) : F7 p s pc = o7 pc (i7 p s.value) := if_pos k
theorem Y3 (k : ¬ s.kind = 3) : F7 p s pc = pc := if_neg k
end
theorem aG1 {p : f5} {strict : Bool} {d k c : Nat} {pc : Int} {ss : List b6} (hc : c + I8 ss ≤ 4000000) (hk : k < ss.length) : (t9 p strict (d + 1) pc c (ss.take k)).2 + 1 + I8 (ss.getD k bR0).body ≤ 4000000 := by
 have h1 := aZ8 (k := k) (ss := ss) hk
 have h2 := a71 (p := p) (strict := strict) (d := d + 1) (pc := pc) (c := c) (ss := ss.take k)
 omega
theorem aL5 {p : f5} {strict : Bool} {d k c : Nat} {pc x : Int} {ss : List b6} (hc : c + I8 ss ≤ 4000000) (hk : k < ss.length) : (t9 p strict d x ((t9 p strict (d + 1) pc c (ss.take k)).2 + 1) (ss.getD k bR0).body).2 + I8 (ss.getD k bR0).els ≤ 4000000 := by
 have h1 := aZ8 (k := k) (ss := ss) hk
 have h2 := a71 (p := p) (strict := strict) (d := d + 1) (pc := pc) (c := c) (ss := ss.take k)
 have h3 := a71 (p := p) (strict := strict) (d := d) (pc := x) (c := (t9 p strict (d + 1) pc c (ss.take k)).2 + 1) (ss := (ss.getD k bR0).body)
 omega
theorem bA4 {p : f5} {strict : Bool} {d k c : Nat} {pc : Int} {ss : List b6} (hc : c + I8 ss ≤ 4000000) (hk : k < ss.length) : IntKind.i64.wrap (((t9 p strict (d + 1) pc c (ss.take k)).2 : Int) + 1) = ((t9 p strict (d + 1) pc c (ss.take k)).2 : Int) + 1 := by
 have h1 := aG1 (p := p) (strict := strict) (d := d) (pc := pc) hc hk
 exact w64 (by omega) (by omega)
abbrev bA3 (p : f5) (d : Nat) (ss : List b6) (pc : Int) (c : Nat) (strict : Bool) : l7 := I7 201 [pA 0, .ref 3, iA pc, iA c, bA strict] (pS p ++ [.dat (.stmts ss)]) (.tup [iA (t9 p strict d pc c ss).1, iA (t9 p strict d pc c ss).2])
theorem a65 (p : f5) (pc : Int) (c : Nat) (strict : Bool) : l7.ok Tryz.prog (bA3 p 0 [] pc c strict) := by
 refine G3 74 Tryz.func201 [dI p.vars, dI p.arrays, dT p.body, dT []] [(0, pA 0), (1, .ref 3), (2, iA pc), (3, iA c), (4, bA strict)] fun G => ?_; refine wp_seq (m6 G f9 (rg 5) [dI p.vars, dI p.arrays, dT p.body, dT [], .box (pL 0)] [(1, .ref 3), (2, iA pc), (3, iA c), (4, bA strict), (5, .ptr 4 0), (10, iA 0), (11, iA 0)] fun G => b5 (wp_seq (wp_seq (J3 G f9 [(1, .ref 3), (2, iA pc), (3, iA c), (4, bA strict), (5, .ptr 4 0), (10, iA 0), (11, iA 0), (12, iA 0)] fun G => b5 (wp_block ?_))))); refine x7 (κ := Nat) (fun k => k = 0) (fun k => 0) (fun k => [dI p.vars, dI p.arrays, dT p.body, dT [], .box (pL 0)]) (fun k => [(1, .ref 3), (2, iA pc), (3, iA c), (4, bA strict), (5, .ptr 4 0), (10, iA 0), (11, iA 0), (12, iA 0)]) 0 (by kernel_rfl) (x9.at G _ _) ?_; clear G; intro k ρ a w hp G; refine wp_seq (wp_seq (l5 G f9 [(19, bA false)] fun G => b5 (rF G false (by kernel_rfl) (wp_exit (v8 (v8 (v7 (b5 (wp_seq (m6 G f9 (rg 4) [dI p.vars, dI p.arrays, dT p.body, dT []] [(10, iA 0), (11, iA c)] fun G => b5 (wp_ret ?_))))))))))); exact M6 G (rg 4)
abbrev aj2 (p : f5) (d : Nat) (strict : Bool) (ss : List b6) (pc : Int) (c : Nat) (k : Nat) := t9 p strict d (o7 pc (i7 p (ss.getD k bR0).value)) ((t9 p strict (d + 1) pc c (bR4 k ss)).snd + 1) (ss.getD k bR0).body
abbrev W4 (p : f5) (d : Nat) (strict : Bool) (ss : List b6) (pc : Int) (c : Nat) (k : Nat) := t9 p strict d pc ((t9 p strict (d + 1) pc c (bR4 k ss)).snd + 1) (ss.getD k bR0).body
abbrev aS0 (p : f5) (d : Nat) (strict : Bool) (ss : List b6) (pc : Int) (c : Nat) (k : Nat) := t9 p strict d (o7 pc (i7 p (ss.getD k bR0).value)) (aj2 p d strict ss pc c k).snd (ss.getD k bR0).els
abbrev aI1 (strict : Bool) (k : Nat) (r0 : List (Nat × AV)) : List (Nat × AV) := (4, bA strict) :: (5, .ptr 4 0) :: (10, iA 0) :: (11, iA 0) :: (12, iA (k : Int)) :: r0
abbrev az5 (p : f5) (ss : List b6) (r0 : List It) : List It := dI p.vars :: dI p.arrays :: dT p.body :: dT ss :: .box (pL 0) :: r0
theorem a63 (p : f5) (d : Nat) (strict : Bool) (ih : ∀ (ss : List b6) (pc : Int) (c : Nat), ss.all (i5 p.vars.length p.arrays.length d) = true → c + I8 ss ≤ 4000000 → l7.ok Tryz.prog (bA3 p d ss pc c strict))
    (ss : List b6) (pc : Int) (c : Nat) (hs : ss.all (i5 p.vars.length p.arrays.length (d + 1)) = true) (hc : c + I8 ss ≤ 4000000) : l7.ok Tryz.prog (bA3 p (d + 1) ss pc c strict) := by
  refine G3 74 Tryz.func201 [dI p.vars, dI p.arrays, dT p.body, dT ss] [(0, pA 0), (1, .ref 3), (2, iA pc), (3, iA c), (4, bA strict)] fun G => ?_; have hlen : ss.length ≤ 9223372036854775807 := G.len 3 (d := .stmts ss) (by kernel_rfl); refine wp_seq (m6 G f9 (rg 5) (az5 p ss []) [(1, .ref 3), (2, iA pc), (3, iA c), (4, bA strict), (5, .ptr 4 0), (10, iA 0), (11, iA 0)] fun G => b5 (wp_seq (wp_seq (J3 G f9 [(1, .ref 3), (2, iA pc), (3, iA c), (4, bA strict), (5, .ptr 4 0), (10, iA 0), (11, iA 0), (12, iA 0)] fun G => b5 (wp_block ?_))))); refine x7 (κ := Nat) (fun k => k ≤ ss.length ∧ (t9 p strict (d + 1) pc c (ss.take k)).1 = 0) (fun k => ss.length - k) (fun k => [dI p.vars, dI p.arrays, dT p.body, dT ss, .box (pL 0)]) (fun k => [(1, .ref 3), (2, iA pc), (3, iA (t9 p strict (d + 1) pc c (ss.take k)).2), (4, bA strict), (5, .ptr 4 0), (10, iA 0), (11, iA 0), (12, iA k)]) 0 (⟨bU3 _, rfl⟩) (x9.at G _ _) ?_; clear G; intro k ρ a w hp G; replace G := x9.at G (az5 p ss []) ((1, .ref 3) :: (2, iA pc) :: (3, iA ((t9 p strict (d + 1) pc c (bR4 k ss)).snd : Int)) :: (aI1 strict k [])); refine wp_seq (wp_seq (l5 G f9 [(19, bA (decide ((k : Int) < ss.length)))] fun G => b5 (W0 G (fun h0 q0 => ?_) fun h0 q0 => ?_)))
  · refine wp_exit (v8 (v8 (v7 (b5 (wp_seq (m6 G f9 (rg 4) [dI p.vars, dI p.arrays, dT p.body, dT ss] [(10, iA 0), (11, iA ((t9 p strict (d + 1) pc c (bR4 k ss)).snd : Int))] fun G => b5 (wp_ret ?_))))))); exact rxv (.tup [iA 0, iA ((t9 p strict (d + 1) pc c (bR4 k ss)).snd : Int)]) G (rg 4) (by have e1 : ((t9 p strict (d + 1) pc c ss).fst : Int) = (0) := (by rw [t9, aE7 (k := k) (by omega)]; exact hp.2); have e2 : (((t9 p strict (d + 1) pc c ss).snd : Int) : Int) = (((t9 p strict (d + 1) pc c (bR4 k ss)).snd : Int)) := (by rw [t9, aE7 (k := k) (by omega)]); (first | rw [e1, e2] | simp only [e1, e2]) <;> rfl)
  ·
   refine wp_skip (b5 (wp_seq (wp_block (wp_seq (M7 G f9 [0, 1, 2, 3, 4, 29, 30, 31, 32, 37] (az5 p ss [dE (ss.getD k bR0).index.kids, dE (ss.getD k bR0).value.kids, dT (ss.getD k bR0).body, dT (ss.getD k bR0).els, .box (sL (ss.getD k bR0) 5)]) ((1, .ref 3) :: (2, iA pc) :: (3, iA ((t9 p strict (d + 1) pc c (bR4 k ss)).snd : Int)) :: (aI1 strict k [(13, .ptr 9 0)])) (iX k k ss.length []) (iK (by have hp := hp; omega) bR2) fun G => b5 (wp_seq (l5 G (A0 4 [0, 1, 2, 5, 6, 7, 8] (bz7 p (ss.getD k bR0) pc strict ((A4 hs (by omega)).1))) [(14, iA (L5 p (ss.getD k bR0) pc strict))] fun G => b5 (wp_seq (wp_seq (l5 G f9 [(32, bA (L5 p (ss.getD k bR0) pc strict != 0))] fun G => b5 (rcN G (fun h1 q1 => ?_) fun h1 q1 => ?_)))))))))))
   ·
    refine wp_skip (b5 (wp_seq (H0 G f9 [(3, iA (((t9 p strict (d + 1) pc c (bR4 k ss)).snd : Int) + 1))] [wO (((t9 p strict (d + (1 : Nat)) pc c (bR4 k ss)).snd : Int) + 1)] ⟨(bA4 hc (by omega)), bR2⟩ fun G => b5 (wp_seq (l5 G f9 [(15, iA pc)] fun G => b5 (wp_seq (wp_seq (l5 G f9 [(40, bA ((ss.getD k bR0).kind == 3))] fun G => b5 (U9 G (fun h2 q2 => ?_) fun h2 q2 => ?_)))))))))
    ·
     refine wp_skip (b5 (wp_seq (l5 G (A0 6 [0, 1, 2, 7] (ih ((ss.getD k bR0).body) pc ((t9 p strict (d + 1) pc c (bR4 k ss)).snd + 1) ((A4 hs (by omega)).2.1) (aG1 hc (by omega)))) [(3, iA ((W4 p d strict ss pc c k).snd : Int)), (14, iA (W4 p d strict ss pc c k).fst)] fun G => b5 (wp_seq (wp_seq (l5 G f9 [(58, bA ((W4 p d strict ss pc c k).fst == 0))] fun G => b5 (U9 (u := ((t9 p strict d pc ((t9 p strict (d + (1 : Nat)) pc c (bR4 k ss)).snd + (1 : Nat)) (ss.getD k bR0).body).fst)) (v := (0 : Int)) G (fun h3 q3 => ?_) fun h3 q3 => ?_)))))))
     ·
      refine wp_skip (b5 (wp_seq (m6 G f9 (rg 5) (az5 p ss []) ((1, .ref 3) :: (2, iA pc) :: (3, iA ((W4 p d strict ss pc c k).snd : Int)) :: (aI1 strict k [(14, iA (W4 p d strict ss pc c k).fst), (70, bA ((W4 p d strict ss pc c k).fst != 0))])) fun G => b5 ?_))); cases h4 : ((t9 p strict d pc ((t9 p strict (d + (1 : Nat)) pc c (bR4 k ss)).snd + (1 : Nat)) (ss.getD k bR0).body).fst != 0)
      · have q4 := bne_eq_false_iff_eq.1 h4; exact False.elim (by omega)
      · have q4 := bne_iff_ne.1 h4; refine rT G _ h4 (wp_seq (l5 G f9 [(10, iA (W4 p d strict ss pc c k).fst), (11, iA ((W4 p d strict ss pc c k).snd : Int))] fun G => b5 (wp_ret (C9 (m8 (m8 (C9 (m8 ?_)))))))); exact rxv (.tup [iA (t9 p strict d pc ((t9 p strict (d + 1) pc c (bR4 k ss)).snd + 1) (ss.getD k bR0).body).fst, iA ((t9 p strict d pc ((t9 p strict (d + 1) pc c (bR4 k ss)).snd + 1) (ss.getD k bR0).body).snd : Int)]) G (rg 4) (by have e1 : ((t9 p strict (d + 1) pc c ss).fst : Int) = ((t9 p strict d pc ((t9 p strict (d + 1) pc c (bR4 k ss)).snd + 1) (ss.getD k bR0).body).fst) := (by rw [t9, F3 hp.2 (by omega) (by rw [R1 (by with_reducible assumption) (Y3 (by with_reducible assumption)) (by with_reducible assumption)]; with_reducible assumption), R1 (by with_reducible assumption) (Y3 (by with_reducible assumption)) (by with_reducible assumption)]); have e2 : (((t9 p strict (d + 1) pc c ss).snd : Int) : Int) = (((t9 p strict d pc ((t9 p strict (d + 1) pc c (bR4 k ss)).snd + 1) (ss.getD k bR0).body).snd : Int)) := (by rw [t9, F3 hp.2 (by omega) (by rw [R1 (by with_reducible assumption) (Y3 (by with_reducible assumption)) (by with_reducible assumption)]; with_reducible assumption), R1 (by with_reducible assumption) (Y3 (by with_reducible assumption)) (by with_reducible assumption)]); (first | rw [e1, e2] | simp only [e1, e2]) <;> rfl)
     ·
      refine m6 G (A0 6 [0, 1, 2, 8] (ih ((ss.getD k bR0).els) pc ((W4 p d strict ss pc c k).snd) ((A4 hs (by omega)).2.2) (aL5 hc (by omega)))) (rg 5) (az5 p ss []) ((1, .ref 3) :: (2, iA pc) :: (3, iA ((t9 p strict d pc (W4 p d strict ss pc c k).snd (ss.getD k bR0).els).snd : Int)) :: (aI1 strict k [(14, iA (t9 p strict d pc (W4 p d strict ss pc c k).snd (ss.getD k bR0).els).fst)])) fun G => b5 (wp_seq (l5 G f9 [(70, bA ((t9 p strict d pc (W4 p d strict ss pc c k).snd (ss.getD k bR0).els).fst != 0))] fun G => b5 (rcN (u := ((t9 p strict d pc (t9 p strict d pc ((t9 p strict (d + (1 : Nat)) pc c (bR4 k ss)).snd + (1 : Nat)) (ss.getD k bR0).body).snd (ss.getD k bR0).els).fst)) (v := (0 : Int)) G (fun h5 q5 => ?_) fun h5 q5 => ?_)))
      · refine wp_skip (o5 (b5 (H0 G f9 [(12, iA ((k : Int) + 1))] [wO ((k : Int) + 1)] (o1 (by omega)) fun G => b5 ?_))); exact Q6 G (k + 1) (⟨by omega, by rw [t9, V6 hp.2 (by omega), M0 (by with_reducible assumption) (Y3 (by with_reducible assumption)) (by with_reducible assumption)]; with_reducible assumption⟩) (by have hp := hp; omega) (rg 5) (ht := by have e1 : (((t9 p strict (d + 1) pc c (bR4 (k + 1) ss)).snd : Int) : Int) = (((t9 p strict d pc (t9 p strict d pc ((t9 p strict (d + 1) pc c (bR4 k ss)).snd + 1) (ss.getD k bR0).body).snd (ss.getD k bR0).els).snd : Int)) := (by rw [t9, V6 hp.2 (by omega), M0 (by with_reducible assumption) (Y3 (by with_reducible assumption)) (by with_reducible assumption)]); (first | rw [e1] | simp only [e1]) <;> rfl)
      · refine wp_seq (l5 G f9 [(10, iA (t9 p strict d pc (W4 p d strict ss pc c k).snd (ss.getD k bR0).els).fst), (11, iA ((t9 p strict d pc (W4 p d strict ss pc c k).snd (ss.getD k bR0).els).snd : Int))] fun G => b5 (wp_ret (C9 (m8 (m8 (C9 (m8 ?_))))))); exact rxv (.tup [iA (t9 p strict d pc (t9 p strict d pc ((t9 p strict (d + 1) pc c (bR4 k ss)).snd + 1) (ss.getD k bR0).body).snd (ss.getD k bR0).els).fst, iA ((t9 p strict d pc (t9 p strict d pc ((t9 p strict (d + 1) pc c (bR4 k ss)).snd + 1) (ss.getD k bR0).body).snd (ss.getD k bR0).els).snd : Int)]) G (rg 4) (by have e1 : ((t9 p strict (d + 1) pc c ss).fst : Int) = ((t9 p strict d pc (t9 p strict d pc ((t9 p strict (d + 1) pc c (bR4 k ss)).snd + 1) (ss.getD k bR0).body).snd (ss.getD k bR0).els).fst) := (by rw [t9, F3 hp.2 (by omega) (by rw [M0 (by with_reducible assumption) (Y3 (by with_reducible assumption)) (by with_reducible assumption)]; with_reducible assumption), M0 (by with_reducible assumption) (Y3 (by with_reducible assumption)) (by with_reducible assumption)]); have e2 : (((t9 p strict (d + 1) pc c ss).snd : Int) : Int) = (((t9 p strict d pc (t9 p strict d pc ((t9 p strict (d + 1) pc c (bR4 k ss)).snd + 1) (ss.getD k bR0).body).snd (ss.getD k bR0).els).snd : Int)) := (by rw [t9, F3 hp.2 (by omega) (by rw [M0 (by with_reducible assumption) (Y3 (by with_reducible assumption)) (by with_reducible assumption)]; with_reducible assumption), M0 (by with_reducible assumption) (Y3 (by with_reducible assumption)) (by with_reducible assumption)]); (first | rw [e1, e2] | simp only [e1, e2]) <;> rfl)
    ·
     refine l5 G (A0 4 [0, 1, 2, 6] (K3 p ((ss.getD k bR0).value) (v6 (A4 hs (by omega)).1 (by omega)))) [(15, iA (o7 pc (i7 p (ss.getD k bR0).value)))] fun G => b5 (wp_seq (l5 G (A0 6 [0, 1, 2, 7] (ih ((ss.getD k bR0).body) (o7 pc (i7 p (ss.getD k bR0).value)) ((t9 p strict (d + 1) pc c (bR4 k ss)).snd + 1) ((A4 hs (by omega)).2.1) (aG1 hc (by omega)))) [(3, iA ((aj2 p d strict ss pc c k).snd : Int)), (14, iA (aj2 p d strict ss pc c k).fst)] fun G => b5 (wp_seq (wp_seq (l5 G f9 [(58, bA ((aj2 p d strict ss pc c k).fst == 0))] fun G => b5 (U9 (u := ((t9 p strict d (o7 pc (i7 p (ss.getD k bR0).value)) ((t9 p strict (d + (1 : Nat)) pc c (bR4 k ss)).snd + (1 : Nat)) (ss.getD k bR0).body).fst)) (v := (0 : Int)) G (fun h6 q6 => ?_) fun h6 q6 => ?_))))))
     ·
      refine wp_skip (b5 (wp_seq (m6 G f9 (rg 5) (az5 p ss []) ((1, .ref 3) :: (2, iA pc) :: (3, iA ((aj2 p d strict ss pc c k).snd : Int)) :: (aI1 strict k [(14, iA (aj2 p d strict ss pc c k).fst), (70, bA ((aj2 p d strict ss pc c k).fst != 0))])) fun G => b5 ?_))); cases h7 : ((t9 p strict d (o7 pc (i7 p (ss.getD k bR0).value)) ((t9 p strict (d + (1 : Nat)) pc c (bR4 k ss)).snd + (1 : Nat)) (ss.getD k bR0).body).fst != 0)
      · have q7 := bne_eq_false_iff_eq.1 h7; exact False.elim (by omega)
      · have q7 := bne_iff_ne.1 h7; refine rT G _ h7 (wp_seq (l5 G f9 [(10, iA (aj2 p d strict ss pc c k).fst), (11, iA ((aj2 p d strict ss pc c k).snd : Int))] fun G => b5 (wp_ret (C9 (m8 (m8 (C9 (m8 ?_)))))))); exact rxv (.tup [iA (t9 p strict d (o7 pc (i7 p (ss.getD k bR0).value)) ((t9 p strict (d + 1) pc c (bR4 k ss)).snd + 1) (ss.getD k bR0).body).fst, iA ((t9 p strict d (o7 pc (i7 p (ss.getD k bR0).value)) ((t9 p strict (d + 1) pc c (bR4 k ss)).snd + 1) (ss.getD k bR0).body).snd : Int)]) G (rg 4) (by have e1 : ((t9 p strict (d + 1) pc c ss).fst : Int) = ((t9 p strict d (o7 pc (i7 p (ss.getD k bR0).value)) ((t9 p strict (d + 1) pc c (bR4 k ss)).snd + 1) (ss.getD k bR0).body).fst) := (by rw [t9, F3 hp.2 (by omega) (by rw [R1 (by with_reducible assumption) (Y4 (by with_reducible assumption)) (by with_reducible assumption)]; with_reducible assumption), R1 (by with_reducible assumption) (Y4 (by with_reducible assumption)) (by with_reducible assumption)]); have e2 : (((t9 p strict (d + 1) pc c ss).snd : Int) : Int) = (((t9 p strict d (o7 pc (i7 p (ss.getD k bR0).value)) ((t9 p strict (d + 1) pc c (bR4 k ss)).snd + 1) (ss.getD k bR0).body).snd : Int)) := (by rw [t9, F3 hp.2 (by omega) (by rw [R1 (by with_reducible assumption) (Y4 (by with_reducible assumption)) (by with_reducible assumption)]; with_reducible assumption), R1 (by with_reducible assumption) (Y4 (by with_reducible assumption)) (by with_reducible assumption)]); (first | rw [e1, e2] | simp only [e1, e2]) <;> rfl)
     ·
      refine m6 G (A0 6 [0, 1, 2, 8] (ih ((ss.getD k bR0).els) (o7 pc (i7 p (ss.getD k bR0).value)) ((aj2 p d strict ss pc c k).snd) ((A4 hs (by omega)).2.2) (aL5 hc (by omega)))) (rg 5) (az5 p ss []) ((1, .ref 3) :: (2, iA pc) :: (3, iA ((aS0 p d strict ss pc c k).snd : Int)) :: (aI1 strict k [(14, iA (aS0 p d strict ss pc c k).fst)])) fun G => b5 (wp_seq (l5 G f9 [(70, bA ((aS0 p d strict ss pc c k).fst != 0))] fun G => b5 (rcN (u := ((t9 p strict d (o7 pc (i7 p (ss.getD k bR0).value)) (t9 p strict d (o7 pc (i7 p (ss.getD k bR0).value)) ((t9 p strict (d + (1 : Nat)) pc c (bR4 k ss)).snd + (1 : Nat)) (ss.getD k bR0).body).snd (ss.getD k bR0).els).fst)) (v := (0 : Int)) G (fun h8 q8 => ?_) fun h8 q8 => ?_)))
      · refine wp_skip (o5 (b5 (H0 G f9 [(12, iA ((k : Int) + 1))] [wO ((k : Int) + 1)] (o1 (by omega)) fun G => b5 ?_))); exact Q6 G (k + 1) (⟨by omega, by rw [t9, V6 hp.2 (by omega), M0 (by with_reducible assumption) (Y4 (by with_reducible assumption)) (by with_reducible assumption)]; with_reducible assumption⟩) (by have hp := hp; omega) (rg 5) (ht := by have e1 : (((t9 p strict (d + 1) pc c (bR4 (k + 1) ss)).snd : Int) : Int) = (((t9 p strict d (o7 pc (i7 p (ss.getD k bR0).value)) (t9 p strict d (o7 pc (i7 p (ss.getD k bR0).value)) ((t9 p strict (d + 1) pc c (bR4 k ss)).snd + 1) (ss.getD k bR0).body).snd (ss.getD k bR0).els).snd : Int)) := (by rw [t9, V6 hp.2 (by omega), M0 (by with_reducible assumption) (Y4 (by with_reducible assumption)) (by with_reducible assumption)]); (first | rw [e1] | simp only [e1]) <;> rfl)
      · refine wp_seq (l5 G f9 [(10, iA (aS0 p d strict ss pc c k).fst), (11, iA ((aS0 p d strict ss pc c k).snd : Int))] fun G => b5 (wp_ret (C9 (m8 (m8 (C9 (m8 ?_))))))); exact rxv (.tup [iA (t9 p strict d (o7 pc (i7 p (ss.getD k bR0).value)) (t9 p strict d (o7 pc (i7 p (ss.getD k bR0).value)) ((t9 p strict (d + 1) pc c (bR4 k ss)).snd + 1) (ss.getD k bR0).body).snd (ss.getD k bR0).els).fst, iA ((t9 p strict d (o7 pc (i7 p (ss.getD k bR0).value)) (t9 p strict d (o7 pc (i7 p (ss.getD k bR0).value)) ((t9 p strict (d + 1) pc c (bR4 k ss)).snd + 1) (ss.getD k bR0).body).snd (ss.getD k bR0).els).snd : Int)]) G (rg 4) (by have e1 : ((t9 p strict (d + 1) pc c ss).fst : Int) = ((t9 p strict d (o7 pc (i7 p (ss.getD k bR0).value)) (t9 p strict d (o7 pc (i7 p (ss.getD k bR0).value)) ((t9 p strict (d + 1) pc c (bR4 k ss)).snd + 1) (ss.getD k bR0).body).snd (ss.getD k bR0).els).fst) := (by rw [t9, F3 hp.2 (by omega) (by rw [M0 (by with_reducible assumption) (Y4 (by with_reducible assumption)) (by with_reducible assumption)]; with_reducible assumption), M0 (by with_reducible assumption) (Y4 (by with_reducible assumption)) (by with_reducible assumption)]); have e2 : (((t9 p strict (d + 1) pc c ss).snd : Int) : Int) = (((t9 p strict d (o7 pc (i7 p (ss.getD k bR0).value)) (t9 p strict d (o7 pc (i7 p (ss.getD k bR0).value)) ((t9 p strict (d + 1) pc c (bR4 k ss)).snd + 1) (ss.getD k bR0).body).snd (ss.getD k bR0).els).snd : Int)) := (by rw [t9, F3 hp.2 (by omega) (by rw [M0 (by with_reducible assumption) (Y4 (by with_reducible assumption)) (by with_reducible assumption)]; with_reducible assumption), M0 (by with_reducible assumption) (Y4 (by with_reducible assumption)) (by with_reducible assumption)]); (first | rw [e1, e2] | simp only [e1, e2]) <;> rfl)
   · refine wp_seq (l5 G f9 [(10, iA (L5 p (ss.getD k bR0) pc strict)), (11, iA ((t9 p strict (d + 1) pc c (bR4 k ss)).snd : Int))] fun G => b5 (wp_ret (m8 (C9 (m8 (m8 (C9 (m8 ?_)))))))); exact rxv (.tup [iA (L5 p (ss.getD k bR0) pc strict), iA ((t9 p strict (d + 1) pc c (bR4 k ss)).snd : Int)]) G (rg 4) (by have e1 : ((t9 p strict (d + 1) pc c ss).fst : Int) = (L5 p (ss.getD k bR0) pc strict) := (by rw [t9, F3 hp.2 (by omega) (by rw [ax3 (by with_reducible assumption)]; with_reducible assumption), ax3 (by with_reducible assumption)]); have e2 : (((t9 p strict (d + 1) pc c ss).snd : Int) : Int) = (((t9 p strict (d + 1) pc c (bR4 k ss)).snd : Int)) := (by rw [t9, F3 hp.2 (by omega) (by rw [ax3 (by with_reducible assumption)]; with_reducible assumption), ax3 (by with_reducible assumption)]); (first | rw [e1, e2] | simp only [e1, e2]) <;> rfl)
end Go.Proofs.YthikdkjjdeehoaaGreat
