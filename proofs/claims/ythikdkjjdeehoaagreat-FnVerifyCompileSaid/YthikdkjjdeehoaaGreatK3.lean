/-
  Texts of this claim, part 3: what the functions on the way do, and plain laws. Conditions: as each statement says.
-/
import Derived.WalkSpells
import Derived.Lib.SliceRun
import Derived.Test.YthikdkjjdeehoaaGreatK2
set_option maxRecDepth 100000
set_option maxHeartbeats 16000000
open Bool renaming and_eq_false_iff → cb4, and_eq_true → b85, and_eq_true_iff → cb6, not_eq_false' → ca0, not_eq_true' → b99
open Inhabited renaming default → b81
open List renaming all_eq_true → b93, append_assoc → cc0, eq_nil_of_length_eq_zero → ca3, getD_eq_getElem?_getD → b90, getElem?_append_left → cb9, getElem?_append_right → cc9, getElem?_eq_getElem → b89, getElem?_eq_none → cb3, getElem?_eq_some_iff → b96, getElem_mem → ca5, length_append → b83, length_cons → b84, length_nil → b86, length_replicate → b87, length_set → b97, map_cons → cc2, mem_append → ca1, mem_cons_of_mem → ca9, mem_cons_self → ca6, mem_singleton → ca4, replicate → b82, take → b88, take_of_length_le → b98
open Nat renaming add_zero → cc8, le_refl → b94, le_trans → cb5, lt_or_ge → ca8, zero_add → cc3, zero_le → cb1
open True renaming intro → b91

namespace Go.Proofs.YthikdkjjdeehoaaGreat
set_option linter.unusedVariables false
set_option linter.unusedSimpArgs false
open Go Go.RowKit
theorem aQ0 (k : Int) (w : World) : Calls Tryz.prog 260 #[.int .i64 k] w fun e w' => e = .returned (.int .i64 (o0 k)) ∧ w = w' := by
 by_cases h1 : k = 1
 ·subst h1
  go_enter Tryz.func260, Tryz.ntmps260
  go_wp2_with fail
  go_ret
  exact ⟨B9 (by simp [o0]), rfl⟩
 by_cases h2 : k = 2
 ·subst h2
  go_enter Tryz.func260, Tryz.ntmps260
  go_wp2_with fail
  go_ret
  exact ⟨B9 (by simp [o0]), rfl⟩
 by_cases h3 : k = 3
 ·subst h3
  go_enter Tryz.func260, Tryz.ntmps260
  go_wp2_with fail
  go_ret
  exact ⟨B9 (by simp [o0]), rfl⟩
 have p1 : (k == 1) = false := by simp [h1]
 have p2 : (k == 2) = false := by simp [h2]
 have p3 : (k == 3) = false := by simp [h3]
 have H := show Hid _ from And.intro h1 (And.intro h2 h3)
 clear h1 h2 h3
 go_enter Tryz.func260, Tryz.ntmps260
 go_wp2_with fail
 refine (w5 k 4 10 _).mono ?_
 rintro x w1 ⟨rfl, rfl⟩
 by_cases h4 : 4 ≤ k ∧ k ≤ 10
 ·have p4 : (decide (4 ≤ k) && decide (k ≤ 10)) = true := by simp [h4]
  rw [p4]
  have H4 := show Hid _ from h4
  clear h4 p4
  go_wp2_with fail
  go_ret
  exact ⟨B9 (by have := H.out; have := H4.out; unfold o0; rw [if_neg (by omega), if_neg (by omega), if_pos (by omega)]), rfl⟩
 ·have p4 : (decide (4 ≤ k) && decide (k ≤ 10)) = false := by simp; omega
  rw [p4]
  have H4 := show Hid _ from h4
  clear h4 p4
  by_cases h5 : k = 11
  ·subst h5
   go_wp2_with fail
   go_ret
   exact ⟨B9 (by simp [o0]), rfl⟩
  ·have p5 : (k == 11) = false := by simp [h5]
   have H5 := show Hid _ from h5
   clear h5
   go_wp2_with fail
   go_ret
   exact ⟨B9 (by have := H.out; have := H4.out; have := H5.out; unfold o0; rw [if_neg (by omega), if_neg (by omega), if_neg (by omega), if_neg (by omega)]), rfl⟩
theorem af6 {nv na d c : Nat} {e : d7} (h1 : C2 nv na e = true) (h2 : Z4 e = true) : z7 nv na (d + 1) c e = y5 nv na d (c + 1) e.kids e.kids.length := by
 unfold z7 y5
 rw [b98 (b94 _), m6, h1, h2, U8]
 simp
theorem ab3 {nv na d c k : Nat} {ks : List d7} (hk : k < ks.length) (hs : z7 nv na d (c + s8 (ks.take k)) ks[k] = false) : y5 nv na d c ks ks.length = false := by
 unfold y5
 rw [b98 (b94 _)]
 exact aW9 nv na hk hs
theorem R3 {nv na d c : Nat} {e : d7} (h1 : C2 nv na e = false) : z7 nv na (d + 1) c e = false := by
 unfold z7; rw [m6, h1]; rfl
theorem aX0 {nv na d c : Nat} {e : d7} (h1 : Z4 e = false) : z7 nv na (d + 1) c e = false := by
 unfold z7; rw [m6, h1]; simp
theorem ag3 {nv na : Nat} {k n h : Int} (hh : h = N6 nv na k - 1) : (decide (0 ≤ n) && decide (n ≤ h)) = (decide (0 ≤ n) && decide (n < N6 nv na k)) := by
 congr 1; exact decide_eq_decide.2 (by omega)
theorem bs9 (a1 a2 : Option Addr) (nv c1 na c2 : Nat) (v3 : Value) (h1 : nv ≤ 9223372036854775807) (h2 : na ≤ 9223372036854775807) : ∀ (d : Nat) (deep : Int), deep + d = 6 → 1 ≤ deep → ∀ (e : d7) (φ : Nat → Prop) (v : Value) (c cb : Nat) (w : World), ae9 w φ v e → ¬ φ cb → H7 w cb [.int .i64 c] → c ≤ 15 →
  Calls Tryz.prog 249 #[.agg #[.slice a1 nv c1, .slice a2 na c2, v3], v, .int .i64 deep, .pointer (some ⟨cb, 0, none⟩)] w fun x w' =>
   x = .returned (.bool (z7 nv na d c e)) ∧ (z7 nv na d c e = true → H7 w' cb [.int .i64 (c + 1 + F0 e : Nat)]) ∧ (∃ u, H7 w' cb [u]) ∧ D8 (fun b => ¬ b = cb) w w' := by
 intro d
 induction d with
 | zero =>
  intro deep hdp hd1 e φ v c cb w h hcb hblk hc
  obtain ⟨kv, rfl, hk⟩ := h
  have HF : Hid (z7 nv na 0 c e = false) := rfl
  obtain rfl : deep = 6 := by omega
  have hl := hblk.lt
  have x0 : w.cell? ⟨cb, 0, none⟩ = some (.int .i64 c) := (hblk.cell 0).trans rfl
  have f0 := hblk.free
  obtain ⟨W, hW, M⟩ : ∃ W, W = (((w.setCell ⟨cb, 0, none⟩ (.int .i64 ((c : Int) + 1))).alloc (.cells #[.slice a1 nv c1, .slice a2 na c2, v3] 26)).alloc (.cells #[.int .i64 e.kind, .int .i64 e.value, kv] 104)) ∧ C1 (fun _ => True) (fun b => ¬ b = cb) w W [.box cb [.int .i64 ((c : Int) + 1)]] :=
   ⟨_, rfl, (((C1.start fun _ _ => trivial).adopt (.box cb [.int .i64 c]) (fun _ ha => by cases ha) b91 hblk (fun _ ha => by cases ha) (fun g hg hn => by cases hg; exact hn rfl)).set 0 rfl 0 (.int .i64 ((c : Int) + 1))).call (by go_grown)⟩
  have y0 := M.c 0 0 rfl rfl
  have z0 := fun X => f8 y0 X
  clear hk y0 hblk
  by_cases q : (15 : Int) < (c : Int) + 1
  ·have p : decide ((15 : Int) < (c : Int) + 1) = true := by simp; omega
   clear q
   go_enter Tryz.func249, Tryz.ntmps249
   go_wp2_with fail
   rw [← hW]
   clear hW
   refine r9 (by kernel_rfl) (by kernel_rfl) ?_
   repeat (any_goals (first | go_big_quiet_step (((fail))) | quiet_step (((fail)))))
   refine wpQuiet_nil ?_
   rintro _ ⟨X, rfl⟩
   replace M := M.call (l7 W X)
   go_wp2_with fail
   go_ret
   exact ⟨i6 (by rw [HF.out]), fun h => absurd (h.symm.trans HF.out) (by simp), ⟨_, M.blk 0 rfl⟩, M.kept⟩
  ·have p : decide ((15 : Int) < (c : Int) + 1) = false := by simp; omega
   clear q
   go_enter Tryz.func249, Tryz.ntmps249
   go_wp2_with fail
   rw [← hW]
   clear hW
   refine r9 (by kernel_rfl) (by kernel_rfl) ?_
   repeat (any_goals (first | go_big_quiet_step (((fail))) | quiet_step (((fail)))))
   refine wpQuiet_nil ?_
   rintro _ ⟨X, rfl⟩
   replace M := M.call (l7 W X)
   go_wp2_with fail
   go_ret
   exact ⟨i6 (by rw [HF.out]), fun h => absurd (h.symm.trans HF.out) (by simp), ⟨_, M.blk 0 rfl⟩, M.kept⟩
 | succ d ih =>
  intro deep hdp hd1 e φ v c cb w h hcb hblk hc
  obtain ⟨kv, rfl, hk⟩ := h
  obtain ⟨ak, ck, rfl, -, hn, -, -⟩ := hk.open
  have hl := hblk.lt
  have hd5 : deep ≤ 5 := by omega
  obtain ⟨φ', hφ'⟩ : ∃ φ' : Nat → Prop, φ' = fun b => φ b ∨ w.heap.size ≤ b := ⟨_, rfl⟩
  have x0 : w.cell? ⟨cb, 0, none⟩ = some (.int .i64 c) := (hblk.cell 0).trans rfl
  have f0 := hblk.free
  obtain ⟨W, hW, M⟩ : ∃ W, W = (((w.setCell ⟨cb, 0, none⟩ (.int .i64 ((c : Int) + 1))).alloc (.cells #[.slice a1 nv c1, .slice a2 na c2, v3] 26)).alloc (.cells #[.int .i64 e.kind, .int .i64 e.value, .slice ak e.kids.length ck] 104)) ∧
    C1 φ' (fun b => ¬ b = cb) w W [.box cb [.int .i64 ((c : Int) + 1)], .box w.heap.size [.slice a1 nv c1, .slice a2 na c2, v3], .box (w.heap.size + 1) [.int .i64 e.kind, .int .i64 e.value, .slice ak e.kids.length ck], .dat (fun w φ => t7 w φ (.slice ak e.kids.length ck) e.kids)] := by
   refine ⟨_, rfl, (((((C1.start (by rw [hφ']; exact fun _ h => .inr h)).adopt (.box cb [.int .i64 c]) (fun _ ha => by cases ha) b91 hblk (fun _ ha => by cases ha) (fun g hg hn => by cases hg; exact hn rfl)).set 0 rfl 0 (.int .i64 ((c : Int) + 1))).box' _ _ (by simp)).box' _ _ (by simp)).dat (t7.nice _ _) (t7.nice _ _ _ _ _ _ ⟨by simp; omega, fun b hb hf => ⟨⟨by rw [hφ']; exact .inl hf, fun r hr he => ?_⟩, ?_⟩⟩ hk)⟩
   ·simp at hr
    rcases hr with rfl | rfl | rfl
    ·cases he; exact hcb hf
    ·cases he; omega
    ·cases he; omega
   ·have hbc : b ≠ cb := fun he => hcb (he ▸ hf)
    exact (((Below.refl w.heap.size (w.setCell ⟨cb, 0, none⟩ (.int .i64 ((c : Int) + 1)))).alloc (by simp) _ |>.alloc (by simp) _).block b (by simpa using hb)).trans (Below.heap_setCell _ _ _ _ hbc)
  clear hk hblk hφ'
  have y0 := M.c 0 0 rfl rfl
  have y1 := M.c 2 0 rfl rfl
  have y2 := M.c 2 2 rfl rfl
  have z0 := fun X => f8 y0 X
  have z1 := fun X => f8 y1 X
  have z2 := fun X => f8 y2 X
  have HA : Hid (∀ X, Calls Tryz.prog 260 #[.int .i64 e.kind] (W.ext X) fun x w'' => x = .returned (.int .i64 (o0 e.kind)) ∧ ∃ Y, w'' = W.ext Y) := fun X =>
   Calls.ext_of' ((aQ0 e.kind _).mono fun x w' h => ⟨h.1, h.2 ▸ Below.refl _ _⟩)
  clear y0 y1 y2
  have p2 : decide ((5 : Int) < deep) = false := decide_eq_false (by omega)
  by_cases q1 : (15 : Int) < (c : Int) + 1
  ·have p1 : decide ((15 : Int) < (c : Int) + 1) = true := decide_eq_true q1
   have HF : Hid (z7 nv na (d + 1) c e = false) := by unfold Hid z7; rw [decide_eq_false (by omega), Bool.and_false]
   clear q1
   go_enter Tryz.func249, Tryz.ntmps249
   go_wp2_with fail
   rw [← hW]
   clear hW
   refine r9 (by kernel_rfl) (by kernel_rfl) ?_
   repeat (any_goals (first | go_big_quiet_step (((go_at_call 260; exact HA.out _))) | quiet_step (((go_at_call 260; exact HA.out _)))))
   refine wpQuiet_nil ?_
   rintro _ ⟨X, rfl⟩
   replace M := M.call (l7 W X)
   go_wp2_with fail
   go_ret
   exact ⟨i6 (by rw [HF.out]), fun h => absurd (h.symm.trans HF.out) (by simp), ⟨_, M.blk 0 rfl⟩, M.kept⟩
  have p1 : decide ((15 : Int) < (c : Int) + 1) = false := decide_eq_false q1
  by_cases q3 : (e.kids.length : Int) = o0 e.kind
  case neg =>
   have p3 : (o0 e.kind != (e.kids.length : Int)) = true := by simp; omega
   have HF : Hid (z7 nv na (d + 1) c e = false) := R3 (by unfold C2; rw [decide_eq_false q3]; rfl)
   clear q1 q3
   go_enter Tryz.func249, Tryz.ntmps249
   go_wp2_with fail
   rw [← hW]
   clear hW
   refine r9 (by kernel_rfl) (by kernel_rfl) ?_
   repeat (any_goals (first | go_big_quiet_step (((go_at_call 260; exact HA.out _))) | quiet_step (((go_at_call 260; exact HA.out _)))))
   refine wpQuiet_nil ?_
   rintro _ ⟨X, rfl⟩
   replace M := M.call (l7 W X)
   go_wp2_with fail
   go_ret
   exact ⟨i6 (by rw [HF.out]), fun h => absurd (h.symm.trans HF.out) (by simp), ⟨_, M.blk 0 rfl⟩, M.kept⟩
  have p3 : (o0 e.kind != (e.kids.length : Int)) = false := by simp; omega
  have HQ := show Hid _ from And.intro q1 q3
  clear q1 q3
  go_enter Tryz.func249, Tryz.ntmps249
  go_wp2_with fail
  rw [← hW]
  clear hW
  refine r9 (by kernel_rfl) (by kernel_rfl) ?_
  repeat (any_goals (first | go_big_quiet_step (((go_at_call 260; exact HA.out _))) | quiet_step (((go_at_call 260; exact HA.out _)))))
  refine wpQuiet_nil ?_
  rintro _ ⟨X, rfl⟩
  replace M := M.call (l7 W X)
  generalize W.ext X = W1 at *
  clear z0 z1 z2 HA p1 p2 p3 f0 x0
  have y0 := M.c 1 0 rfl rfl
  have y1 := M.c 1 1 rfl rfl
  have y2 := M.c 2 0 rfl rfl
  have y3 := M.c 2 1 rfl rfl
  have y4 := M.c 2 2 rfl rfl
  have HM := show Hid _ from M
  clear M
  by_cases k1 : e.kind = 1
  ·have qq1 : (e.kind == 1) = true := by simp [k1]
   have qq2 : (e.kind == 3) = false := by simp [k1]
   have HRD : Hid (Z4 e = true) := by unfold Hid Z4; simp [k1]
   have hhi : (255 : Int) = N6 nv na e.kind - 1 := by rw [k1]; simp [N6]
   clear k1
   have HNB := show Hid (C2 nv na e = (decide (0 ≤ e.value) && decide (e.value ≤ 255))) from by
    unfold Hid C2; rw [decide_eq_true HQ.out.2, ag3 hhi]; rfl
   clear hhi
   go_wp2_with fail
   refine (w5 e.value 0 _ _).mono ?_
   rintro x w1 ⟨rfl, rfl⟩
   have HNB2 := show Hid (C2 nv na e = (decide (0 ≤ e.value) && decide (e.value ≤ 255))) from HNB.out
   clear HNB
   obtain ⟨qn, hqn⟩ : ∃ qn, qn = (decide (0 ≤ e.value) && decide (e.value ≤ 255)) := ⟨_, rfl⟩
   rw [← hqn]
   have HN := show Hid (C2 nv na e = qn) from HNB2.out.trans hqn.symm
   clear hqn HNB2
   cases qn
   ·have HF : Hid (z7 nv na (d + 1) c e = false) := R3 HN.out
    have M := HM.out
    clear HM
    go_wp2_with fail
    go_ret
    exact ⟨i6 (by rw [HF.out]), fun h => absurd (h.symm.trans HF.out) (by simp), ⟨_, M.blk 0 rfl⟩, M.kept⟩
   have HSC : Hid (z7 nv na (d + 1) c e = y5 nv na d (c + 1) e.kids e.kids.length) := af6 HN.out HRD.out
   go_wp2_with fail
   clear y0 y1 y2 y3 y4
   have HST : Hid (y5 nv na d (c + 1) e.kids 0 = true ∧ C1 φ' (fun b => ¬ b = cb) w W1 [.box cb [.int .i64 (c + 1 + s8 (e.kids.take 0) : Nat)], .box w.heap.size [.slice a1 nv c1, .slice a2 na c2, v3], .box (w.heap.size + 1) [.int .i64 e.kind, .int .i64 e.value, .slice ak e.kids.length ck], .dat (fun w φ => t7 w φ (.slice ak e.kids.length ck) e.kids)]) := by
    refine ⟨?_, ?_⟩
    ·have := HQ.out.1
     simp [y5, s8]; omega
    ·rw [show ((c + 1 + s8 (e.kids.take 0) : Nat) : Int) = (c : Int) + 1 by simp [s8]]
     exact HM.out
   go_loopw [71] (fun i wr => ∃ k : Nat, k ≤ e.kids.length ∧ i = .int .i64 k ∧ y5 nv na d (c + 1) e.kids k = true ∧ C1 φ' (fun b => ¬ b = cb) w wr [.box cb [.int .i64 (c + 1 + s8 (e.kids.take k) : Nat)], .box w.heap.size [.slice a1 nv c1, .slice a2 na c2, v3], .box (w.heap.size + 1) [.int .i64 e.kind, .int .i64 e.value, .slice ak e.kids.length ck], .dat (fun w φ => t7 w φ (.slice ak e.kids.length ck) e.kids)]) (fun i _ => e.kids.length - (intOf i).toNat)
   case atStart => exact ⟨0, cb1 _, rfl, HST.out.1, HST.out.2⟩
   case round =>
    clear HM
    obtain ⟨k, hk, rfl, hpre, M⟩ := hrel
    have HPRE := show Hid _ from hpre
    have hle : c + 1 + s8 (e.kids.take k) ≤ 15 := by unfold y5 at hpre; simp at hpre; exact hpre.2
    clear hpre
    by_cases hlt : k < e.kids.length
    ·have hncb : ¬ Fr φ' [.box cb [.int .i64 (c + 1 + s8 (e.kids.take k) : Nat)], .box w.heap.size [.slice a1 nv c1, .slice a2 na c2, v3], .box (w.heap.size + 1) [.int .i64 e.kind, .int .i64 e.value, .slice ak e.kids.length ck], .dat (fun w φ => t7 w φ (.slice ak e.kids.length ck) e.kids)] cb := fun h => h.2 _ ca6 rfl
     obtain ⟨a', c', he, -, -, -, hcell⟩ := (M.d 3 rfl).open
     cases he
     obtain ⟨b, off, kv, hbo, hbk, hf, g0, g1, g2, hkk⟩ := hcell k hlt
     cases hbo
     obtain ⟨ka, kc, rfl, -, -, -, -⟩ := hkk.open
     have bz : Below wr.heap.size wr (wr.alloc (.cells #[.int .i64 e.kids[k].kind, .int .i64 e.kids[k].value, .slice ka e.kids[k].kids.length kc] 104)) := by go_grown
     have HE := show Hid _ from t7.nice _ _ _ _ _ _ (Agr.below bz) hkk
     have HNCB := show Hid _ from hncb
     have x0 := M.c 1 0 rfl rfl
     have x1 := M.c 1 1 rfl rfl
     have x2 := M.c 1 2 rfl rfl
     have s1 : w.heap.size < wr.heap.size := M.lt (r := .box w.heap.size [.slice a1 nv c1, .slice a2 na c2, v3]) (ca9 _ ca6) rfl
     have HM := show Hid _ from M.box [.int .i64 e.kids[k].kind, .int .i64 e.kids[k].value, .slice ka e.kids[k].kids.length kc] 104
     have HP := show Hid _ from X7 nv na (d := d) (c := c + 1) hlt
     have HX := show Hid (z7 nv na d (c + 1 + s8 (e.kids.take k)) e.kids[k] = false → z7 nv na (d + 1) c e = false) from fun h => HSC.out.trans (ab3 hlt h)
     have HT := show Hid _ from Z2 hlt
     clear hcell hncb bz hkk M
     go_wp2_with fail
     refine (ih (deep + 1) (by omega) (by omega) e.kids[k] _ _ (c + 1 + s8 (e.kids.take k)) cb _ ⟨_, rfl, HE.out⟩ HNCB.out (HM.out.blk 0 rfl) hle).mono ?_
     rintro x w2 ⟨rfl, r1, ⟨u, r2⟩, kp⟩
     obtain ⟨q, hq⟩ : ∃ q, q = z7 nv na d (c + 1 + s8 (e.kids.take k)) e.kids[k] := ⟨_, rfl⟩
     rw [← hq] at r1 ⊢
     have HQ2 := show Hid _ from hq
     clear hq x0 x1 x2 g0 g1 g2
     cases q
     ·have M2 := HM.out.callB 0 rfl kp r2
      have HF := show Hid _ from HX.out HQ2.out.symm
      clear r1 r2 kp
      go_wp2_with fail
      go_ret
      exact ⟨i6 (by rw [HF.out]), fun h => absurd (h.symm.trans HF.out) (by simp), ⟨_, M2.blk 0 rfl⟩, M2.kept⟩
     ·have M2 := (HM.out.callB 0 rfl kp (r1 rfl)).take 4
      have HM2 := show Hid _ from M2
      clear r1 r2 kp M2
      go_wp2_with fail
      refine ⟨⟨k + 1, by omega, by go_num, by rw [HP.out, HPRE.out, ← HQ2.out]; rfl, ?_⟩, by simp [intOf]; omega⟩
      rw [HT.out, show c + 1 + (s8 (e.kids.take k) + (1 + F0 e.kids[k])) = c + 1 + s8 (e.kids.take k) + 1 + F0 e.kids[k] by omega]
      exact HM2.out
    ·have hkn : k = e.kids.length := by omega
     subst hkn
     have HM := show Hid _ from M
     have HS : Hid (z7 nv na (d + 1) c e = true) := HSC.out.trans HPRE.out
     clear M
     go_wp2_with fail
     go_ret
     refine ⟨i6 (by rw [HS.out]), fun _ => ?_, ⟨_, HM.out.blk 0 rfl⟩, HM.out.kept⟩
     have := HM.out.blk 0 rfl
     rw [b98 (b94 _)] at this
     rw [U8]
     exact this
  have k1' : (e.kind == 1) = false := by simp [k1]
  by_cases k2 : e.kind = 2
  ·have qq1 : (e.kind == 2) = true := by simp [k2]
   have qq2 : (e.kind == 3) = false := by simp [k2]
   have HRD : Hid (Z4 e = true) := by unfold Hid Z4; simp [k2]
   have hhi : (nv : Int) - 1 = N6 nv na e.kind - 1 := by rw [k2]; simp [N6]
   clear k1 k2
   have HNB := show Hid (C2 nv na e = (decide (0 ≤ e.value) && decide (e.value ≤ (nv : Int) - 1))) from by
    unfold Hid C2; rw [decide_eq_true HQ.out.2, ag3 hhi]; rfl
   clear hhi
   go_wp2_with fail
   refine (w5 e.value 0 _ _).mono ?_
   rintro x w1 ⟨rfl, rfl⟩
   have HNB2 := show Hid (C2 nv na e = (decide (0 ≤ e.value) && decide (e.value ≤ (nv : Int) - 1))) from HNB.out
   clear HNB
   obtain ⟨qn, hqn⟩ : ∃ qn, qn = (decide (0 ≤ e.value) && decide (e.value ≤ (nv : Int) - 1)) := ⟨_, rfl⟩
   rw [← hqn]
   have HN := show Hid (C2 nv na e = qn) from HNB2.out.trans hqn.symm
   clear hqn HNB2
   cases qn
   ·have HF : Hid (z7 nv na (d + 1) c e = false) := R3 HN.out
    have M := HM.out
    clear HM
    go_wp2_with fail
    go_ret
    exact ⟨i6 (by rw [HF.out]), fun h => absurd (h.symm.trans HF.out) (by simp), ⟨_, M.blk 0 rfl⟩, M.kept⟩
   have HSC : Hid (z7 nv na (d + 1) c e = y5 nv na d (c + 1) e.kids e.kids.length) := af6 HN.out HRD.out
   go_wp2_with fail
   clear y0 y1 y2 y3 y4
   have HST : Hid (y5 nv na d (c + 1) e.kids 0 = true ∧ C1 φ' (fun b => ¬ b = cb) w W1 [.box cb [.int .i64 (c + 1 + s8 (e.kids.take 0) : Nat)], .box w.heap.size [.slice a1 nv c1, .slice a2 na c2, v3], .box (w.heap.size + 1) [.int .i64 e.kind, .int .i64 e.value, .slice ak e.kids.length ck], .dat (fun w φ => t7 w φ (.slice ak e.kids.length ck) e.kids)]) := by
    refine ⟨?_, ?_⟩
    ·have := HQ.out.1
     simp [y5, s8]; omega
    ·rw [show ((c + 1 + s8 (e.kids.take 0) : Nat) : Int) = (c : Int) + 1 by simp [s8]]
     exact HM.out
   go_loopw [71] (fun i wr => ∃ k : Nat, k ≤ e.kids.length ∧ i = .int .i64 k ∧ y5 nv na d (c + 1) e.kids k = true ∧ C1 φ' (fun b => ¬ b = cb) w wr [.box cb [.int .i64 (c + 1 + s8 (e.kids.take k) : Nat)], .box w.heap.size [.slice a1 nv c1, .slice a2 na c2, v3], .box (w.heap.size + 1) [.int .i64 e.kind, .int .i64 e.value, .slice ak e.kids.length ck], .dat (fun w φ => t7 w φ (.slice ak e.kids.length ck) e.kids)]) (fun i _ => e.kids.length - (intOf i).toNat)
   case atStart => exact ⟨0, cb1 _, rfl, HST.out.1, HST.out.2⟩
   case round =>
    clear HM
    obtain ⟨k, hk, rfl, hpre, M⟩ := hrel
    have HPRE := show Hid _ from hpre
    have hle : c + 1 + s8 (e.kids.take k) ≤ 15 := by unfold y5 at hpre; simp at hpre; exact hpre.2
    clear hpre
    by_cases hlt : k < e.kids.length
    ·have hncb : ¬ Fr φ' [.box cb [.int .i64 (c + 1 + s8 (e.kids.take k) : Nat)], .box w.heap.size [.slice a1 nv c1, .slice a2 na c2, v3], .box (w.heap.size + 1) [.int .i64 e.kind, .int .i64 e.value, .slice ak e.kids.length ck], .dat (fun w φ => t7 w φ (.slice ak e.kids.length ck) e.kids)] cb := fun h => h.2 _ ca6 rfl
     obtain ⟨a', c', he, -, -, -, hcell⟩ := (M.d 3 rfl).open
     cases he
     obtain ⟨b, off, kv, hbo, hbk, hf, g0, g1, g2, hkk⟩ := hcell k hlt
     cases hbo
     obtain ⟨ka, kc, rfl, -, -, -, -⟩ := hkk.open
     have bz : Below wr.heap.size wr (wr.alloc (.cells #[.int .i64 e.kids[k].kind, .int .i64 e.kids[k].value, .slice ka e.kids[k].kids.length kc] 104)) := by go_grown
     have HE := show Hid _ from t7.nice _ _ _ _ _ _ (Agr.below bz) hkk
     have HNCB := show Hid _ from hncb
     have x0 := M.c 1 0 rfl rfl
     have x1 := M.c 1 1 rfl rfl
     have x2 := M.c 1 2 rfl rfl
     have s1 : w.heap.size < wr.heap.size := M.lt (r := .box w.heap.size [.slice a1 nv c1, .slice a2 na c2, v3]) (ca9 _ ca6) rfl
     have HM := show Hid _ from M.box [.int .i64 e.kids[k].kind, .int .i64 e.kids[k].value, .slice ka e.kids[k].kids.length kc] 104
     have HP := show Hid _ from X7 nv na (d := d) (c := c + 1) hlt
     have HX := show Hid (z7 nv na d (c + 1 + s8 (e.kids.take k)) e.kids[k] = false → z7 nv na (d + 1) c e = false) from fun h => HSC.out.trans (ab3 hlt h)
     have HT := show Hid _ from Z2 hlt
     clear hcell hncb bz hkk M
     go_wp2_with fail
     refine (ih (deep + 1) (by omega) (by omega) e.kids[k] _ _ (c + 1 + s8 (e.kids.take k)) cb _ ⟨_, rfl, HE.out⟩ HNCB.out (HM.out.blk 0 rfl) hle).mono ?_
     rintro x w2 ⟨rfl, r1, ⟨u, r2⟩, kp⟩
     obtain ⟨q, hq⟩ : ∃ q, q = z7 nv na d (c + 1 + s8 (e.kids.take k)) e.kids[k] := ⟨_, rfl⟩
     rw [← hq] at r1 ⊢
     have HQ2 := show Hid _ from hq
     clear hq x0 x1 x2 g0 g1 g2
     cases q
     ·have M2 := HM.out.callB 0 rfl kp r2
      have HF := show Hid _ from HX.out HQ2.out.symm
      clear r1 r2 kp
      go_wp2_with fail
      go_ret
      exact ⟨i6 (by rw [HF.out]), fun h => absurd (h.symm.trans HF.out) (by simp), ⟨_, M2.blk 0 rfl⟩, M2.kept⟩
     ·have M2 := (HM.out.callB 0 rfl kp (r1 rfl)).take 4
      have HM2 := show Hid _ from M2
      clear r1 r2 kp M2
      go_wp2_with fail
      refine ⟨⟨k + 1, by omega, by go_num, by rw [HP.out, HPRE.out, ← HQ2.out]; rfl, ?_⟩, by simp [intOf]; omega⟩
      rw [HT.out, show c + 1 + (s8 (e.kids.take k) + (1 + F0 e.kids[k])) = c + 1 + s8 (e.kids.take k) + 1 + F0 e.kids[k] by omega]
      exact HM2.out
    ·have hkn : k = e.kids.length := by omega
     subst hkn
     have HM := show Hid _ from M
     have HS : Hid (z7 nv na (d + 1) c e = true) := HSC.out.trans HPRE.out
     clear M
     go_wp2_with fail
     go_ret
     refine ⟨i6 (by rw [HS.out]), fun _ => ?_, ⟨_, HM.out.blk 0 rfl⟩, HM.out.kept⟩
     have := HM.out.blk 0 rfl
     rw [b98 (b94 _)] at this
     rw [U8]
     exact this
  have k2' : (e.kind == 2) = false := by simp [k2]
  by_cases k3 : e.kind = 3
  ·have qq1 : (e.kind == 3) = true := by simp [k3]
   have qq2 := k2'
   have HRD : Hid (e.kind = 3) := k3
   have hhi : (na : Int) - 1 = N6 nv na e.kind - 1 := by rw [k3]; simp [N6]
   clear k1 k2 k3
   have HNB := show Hid (C2 nv na e = (decide (0 ≤ e.value) && decide (e.value ≤ (na : Int) - 1))) from by
    unfold Hid C2; rw [decide_eq_true HQ.out.2, ag3 hhi]; rfl
   clear hhi
   go_wp2_with fail
   refine (w5 e.value 0 _ _).mono ?_
   rintro x w1 ⟨rfl, rfl⟩
   have HNB2 := show Hid (C2 nv na e = (decide (0 ≤ e.value) && decide (e.value ≤ (na : Int) - 1))) from HNB.out
   clear HNB
   obtain ⟨qn, hqn⟩ : ∃ qn, qn = (decide (0 ≤ e.value) && decide (e.value ≤ (na : Int) - 1)) := ⟨_, rfl⟩
   rw [← hqn]
   have HN := show Hid (C2 nv na e = qn) from HNB2.out.trans hqn.symm
   clear hqn HNB2
   cases qn
   ·have HF : Hid (z7 nv na (d + 1) c e = false) := R3 HN.out
    have M := HM.out
    clear HM
    go_wp2_with fail
    go_ret
    exact ⟨i6 (by rw [HF.out]), fun h => absurd (h.symm.trans HF.out) (by simp), ⟨_, M.blk 0 rfl⟩, M.kept⟩
   have hl1 : e.kids.length = 1 := by have := HQ.out.2; rw [HRD.out] at this; simp [o0] at this; omega
   have hpos : 0 < (e.kids.length : Int) := by omega
   obtain ⟨a', c', he, -, -, -, hcell⟩ := (HM.out.d 3 rfl).open
   have e1 : ak = a' := by cases he; rfl
   have e2 : ck = c' := by cases he; rfl
   subst e1 e2
   obtain ⟨b, off, kv, rfl, hbk, hf, g0, g1, g2, hkk⟩ := hcell 0 (by omega)
   simp only [Nat.zero_mul, cc8] at g0 g1 g2
   have HR := show Hid _ from aT0 HRD.out (by omega)
   clear hcell hkk
   go_wp2_with fail
   refine (av0 _ _ _ _).mono ?_
   rintro x w2 ⟨rfl, b2⟩
   replace HM := show Hid _ from HM.out.call b2
   obtain ⟨qr, hqr⟩ : ∃ qr, qr = (decide ((e.kids[0]'(by omega)).kind = 1) || decide ((e.kids[0]'(by omega)).kind = 2)) := ⟨_, rfl⟩
   rw [← hqr]
   have HRR := show Hid (Z4 e = qr) from HR.out.trans hqr.symm
   clear hqr b2 HR g0 g1 g2
   cases qr
   ·have HF : Hid (z7 nv na (d + 1) c e = false) := aX0 HRR.out
    have M := HM.out
    clear HM
    go_wp2_with fail
    go_ret
    exact ⟨i6 (by rw [HF.out]), fun h => absurd (h.symm.trans HF.out) (by simp), ⟨_, M.blk 0 rfl⟩, M.kept⟩
   clear y0 y1 y2 y3 y4
   have y4 := HM.out.c 2 2 rfl rfl
   have HSC : Hid (z7 nv na (d + 1) c e = y5 nv na d (c + 1) e.kids e.kids.length) := af6 HN.out HRR.out
   go_wp2_with fail
   clear y4
   have HST : Hid (y5 nv na d (c + 1) e.kids 0 = true ∧ C1 φ' (fun b => ¬ b = cb) w w2 [.box cb [.int .i64 (c + 1 + s8 (e.kids.take 0) : Nat)], .box w.heap.size [.slice a1 nv c1, .slice a2 na c2, v3], .box (w.heap.size + 1) [.int .i64 e.kind, .int .i64 e.value, .slice (some ⟨b, off, none⟩) e.kids.length ck], .dat (fun w φ => t7 w φ (.slice (some ⟨b, off, none⟩) e.kids.length ck) e.kids)]) := by
    refine ⟨?_, ?_⟩
    ·have := HQ.out.1
     simp [y5, s8]; omega
    ·rw [show ((c + 1 + s8 (e.kids.take 0) : Nat) : Int) = (c : Int) + 1 by simp [s8]]
     exact HM.out
   go_loopw [71] (fun i wr => ∃ k : Nat, k ≤ e.kids.length ∧ i = .int .i64 k ∧ y5 nv na d (c + 1) e.kids k = true ∧ C1 φ' (fun b => ¬ b = cb) w wr [.box cb [.int .i64 (c + 1 + s8 (e.kids.take k) : Nat)], .box w.heap.size [.slice a1 nv c1, .slice a2 na c2, v3], .box (w.heap.size + 1) [.int .i64 e.kind, .int .i64 e.value, .slice (some ⟨b, off, none⟩) e.kids.length ck], .dat (fun w φ => t7 w φ (.slice (some ⟨b, off, none⟩) e.kids.length ck) e.kids)]) (fun i _ => e.kids.length - (intOf i).toNat)
   case atStart => exact ⟨0, cb1 _, rfl, HST.out.1, HST.out.2⟩
   case round =>
    clear HM
    obtain ⟨k, hk, rfl, hpre, M⟩ := hrel
    have HPRE := show Hid _ from hpre
    have hle : c + 1 + s8 (e.kids.take k) ≤ 15 := by unfold y5 at hpre; simp at hpre; exact hpre.2
    clear hpre
    by_cases hlt : k < e.kids.length
    ·have hncb : ¬ Fr φ' [.box cb [.int .i64 (c + 1 + s8 (e.kids.take k) : Nat)], .box w.heap.size [.slice a1 nv c1, .slice a2 na c2, v3], .box (w.heap.size + 1) [.int .i64 e.kind, .int .i64 e.value, .slice (some ⟨b, off, none⟩) e.kids.length ck], .dat (fun w φ => t7 w φ (.slice (some ⟨b, off, none⟩) e.kids.length ck) e.kids)] cb := fun h => h.2 _ ca6 rfl
     obtain ⟨a', c', he, -, -, -, hcell⟩ := (M.d 3 rfl).open
     cases he
     obtain ⟨b, off, kv, hbo, hbk, hf, g0, g1, g2, hkk⟩ := hcell k hlt
     cases hbo
     obtain ⟨ka, kc, rfl, -, -, -, -⟩ := hkk.open
     have bz : Below wr.heap.size wr (wr.alloc (.cells #[.int .i64 e.kids[k].kind, .int .i64 e.kids[k].value, .slice ka e.kids[k].kids.length kc] 104)) := by go_grown
     have HE := show Hid _ from t7.nice _ _ _ _ _ _ (Agr.below bz) hkk
     have HNCB := show Hid _ from hncb
     have x0 := M.c 1 0 rfl rfl
     have x1 := M.c 1 1 rfl rfl
     have x2 := M.c 1 2 rfl rfl
     have s1 : w.heap.size < wr.heap.size := M.lt (r := .box w.heap.size [.slice a1 nv c1, .slice a2 na c2, v3]) (ca9 _ ca6) rfl
     have HM := show Hid _ from M.box [.int .i64 e.kids[k].kind, .int .i64 e.kids[k].value, .slice ka e.kids[k].kids.length kc] 104
     have HP := show Hid _ from X7 nv na (d := d) (c := c + 1) hlt
     have HX := show Hid (z7 nv na d (c + 1 + s8 (e.kids.take k)) e.kids[k] = false → z7 nv na (d + 1) c e = false) from fun h => HSC.out.trans (ab3 hlt h)
     have HT := show Hid _ from Z2 hlt
     clear hcell hncb bz hkk M
     go_wp2_with fail
     refine (ih (deep + 1) (by omega) (by omega) e.kids[k] _ _ (c + 1 + s8 (e.kids.take k)) cb _ ⟨_, rfl, HE.out⟩ HNCB.out (HM.out.blk 0 rfl) hle).mono ?_
     rintro x w2 ⟨rfl, r1, ⟨u, r2⟩, kp⟩
     obtain ⟨q, hq⟩ : ∃ q, q = z7 nv na d (c + 1 + s8 (e.kids.take k)) e.kids[k] := ⟨_, rfl⟩
     rw [← hq] at r1 ⊢
     have HQ2 := show Hid _ from hq
     clear hq x0 x1 x2 g0 g1 g2
     cases q
     ·have M2 := HM.out.callB 0 rfl kp r2
      have HF := show Hid _ from HX.out HQ2.out.symm
      clear r1 r2 kp
      go_wp2_with fail
      go_ret
      exact ⟨i6 (by rw [HF.out]), fun h => absurd (h.symm.trans HF.out) (by simp), ⟨_, M2.blk 0 rfl⟩, M2.kept⟩
     ·have M2 := (HM.out.callB 0 rfl kp (r1 rfl)).take 4
      have HM2 := show Hid _ from M2
      clear r1 r2 kp M2
      go_wp2_with fail
      refine ⟨⟨k + 1, by omega, by go_num, by rw [HP.out, HPRE.out, ← HQ2.out]; rfl, ?_⟩, by simp [intOf]; omega⟩
      rw [HT.out, show c + 1 + (s8 (e.kids.take k) + (1 + F0 e.kids[k])) = c + 1 + s8 (e.kids.take k) + 1 + F0 e.kids[k] by omega]
      exact HM2.out
    ·have hkn : k = e.kids.length := by omega
     subst hkn
     have HM := show Hid _ from M
     have HS : Hid (z7 nv na (d + 1) c e = true) := HSC.out.trans HPRE.out
     clear M
     go_wp2_with fail
     go_ret
     refine ⟨i6 (by rw [HS.out]), fun _ => ?_, ⟨_, HM.out.blk 0 rfl⟩, HM.out.kept⟩
     have := HM.out.blk 0 rfl
     rw [b98 (b94 _)] at this
     rw [U8]
     exact this
  have qq1 : (e.kind == 3) = false := by simp [k3]
  have qq2 := qq1
  have HRD : Hid (Z4 e = true) := by unfold Hid Z4; simp [k3]
  have hhi : (0 : Int) = N6 nv na e.kind - 1 := by unfold N6; rw [if_neg k1, if_neg k2, if_neg k3]; rfl
  clear k1 k2 k3
  have HNB := show Hid (C2 nv na e = (decide (0 ≤ e.value) && decide (e.value ≤ 0))) from by
   unfold Hid C2; rw [decide_eq_true HQ.out.2, ag3 hhi]; rfl
  clear hhi
  go_wp2_with fail
  refine (w5 e.value 0 _ _).mono ?_
  rintro x w1 ⟨rfl, rfl⟩
  have HNB2 := show Hid (C2 nv na e = (decide (0 ≤ e.value) && decide (e.value ≤ 0))) from HNB.out
  clear HNB
  obtain ⟨qn, hqn⟩ : ∃ qn, qn = (decide (0 ≤ e.value) && decide (e.value ≤ 0)) := ⟨_, rfl⟩
  rw [← hqn]
  have HN := show Hid (C2 nv na e = qn) from HNB2.out.trans hqn.symm
  clear hqn HNB2
  cases qn
  ·have HF : Hid (z7 nv na (d + 1) c e = false) := R3 HN.out
   have M := HM.out
   clear HM
   go_wp2_with fail
   go_ret
   exact ⟨i6 (by rw [HF.out]), fun h => absurd (h.symm.trans HF.out) (by simp), ⟨_, M.blk 0 rfl⟩, M.kept⟩
  have HSC : Hid (z7 nv na (d + 1) c e = y5 nv na d (c + 1) e.kids e.kids.length) := af6 HN.out HRD.out
  go_wp2_with fail
  clear y0 y1 y2 y3 y4
  have HST : Hid (y5 nv na d (c + 1) e.kids 0 = true ∧ C1 φ' (fun b => ¬ b = cb) w W1 [.box cb [.int .i64 (c + 1 + s8 (e.kids.take 0) : Nat)], .box w.heap.size [.slice a1 nv c1, .slice a2 na c2, v3], .box (w.heap.size + 1) [.int .i64 e.kind, .int .i64 e.value, .slice ak e.kids.length ck], .dat (fun w φ => t7 w φ (.slice ak e.kids.length ck) e.kids)]) := by
   refine ⟨?_, ?_⟩
   ·have := HQ.out.1
    simp [y5, s8]; omega
   ·rw [show ((c + 1 + s8 (e.kids.take 0) : Nat) : Int) = (c : Int) + 1 by simp [s8]]
    exact HM.out
  go_loopw [71] (fun i wr => ∃ k : Nat, k ≤ e.kids.length ∧ i = .int .i64 k ∧ y5 nv na d (c + 1) e.kids k = true ∧ C1 φ' (fun b => ¬ b = cb) w wr [.box cb [.int .i64 (c + 1 + s8 (e.kids.take k) : Nat)], .box w.heap.size [.slice a1 nv c1, .slice a2 na c2, v3], .box (w.heap.size + 1) [.int .i64 e.kind, .int .i64 e.value, .slice ak e.kids.length ck], .dat (fun w φ => t7 w φ (.slice ak e.kids.length ck) e.kids)]) (fun i _ => e.kids.length - (intOf i).toNat)
  case atStart => exact ⟨0, cb1 _, rfl, HST.out.1, HST.out.2⟩
  case round =>
   clear HM
   obtain ⟨k, hk, rfl, hpre, M⟩ := hrel
   have HPRE := show Hid _ from hpre
   have hle : c + 1 + s8 (e.kids.take k) ≤ 15 := by unfold y5 at hpre; simp at hpre; exact hpre.2
   clear hpre
   by_cases hlt : k < e.kids.length
   ·have hncb : ¬ Fr φ' [.box cb [.int .i64 (c + 1 + s8 (e.kids.take k) : Nat)], .box w.heap.size [.slice a1 nv c1, .slice a2 na c2, v3], .box (w.heap.size + 1) [.int .i64 e.kind, .int .i64 e.value, .slice ak e.kids.length ck], .dat (fun w φ => t7 w φ (.slice ak e.kids.length ck) e.kids)] cb := fun h => h.2 _ ca6 rfl
    obtain ⟨a', c', he, -, -, -, hcell⟩ := (M.d 3 rfl).open
    cases he
    obtain ⟨b, off, kv, hbo, hbk, hf, g0, g1, g2, hkk⟩ := hcell k hlt
    cases hbo
    obtain ⟨ka, kc, rfl, -, -, -, -⟩ := hkk.open
    have bz : Below wr.heap.size wr (wr.alloc (.cells #[.int .i64 e.kids[k].kind, .int .i64 e.kids[k].value, .slice ka e.kids[k].kids.length kc] 104)) := by go_grown
    have HE := show Hid _ from t7.nice _ _ _ _ _ _ (Agr.below bz) hkk
    have HNCB := show Hid _ from hncb
    have x0 := M.c 1 0 rfl rfl
    have x1 := M.c 1 1 rfl rfl
    have x2 := M.c 1 2 rfl rfl
    have s1 : w.heap.size < wr.heap.size := M.lt (r := .box w.heap.size [.slice a1 nv c1, .slice a2 na c2, v3]) (ca9 _ ca6) rfl
    have HM := show Hid _ from M.box [.int .i64 e.kids[k].kind, .int .i64 e.kids[k].value, .slice ka e.kids[k].kids.length kc] 104
    have HP := show Hid _ from X7 nv na (d := d) (c := c + 1) hlt
    have HX := show Hid (z7 nv na d (c + 1 + s8 (e.kids.take k)) e.kids[k] = false → z7 nv na (d + 1) c e = false) from fun h => HSC.out.trans (ab3 hlt h)
    have HT := show Hid _ from Z2 hlt
    clear hcell hncb bz hkk M
    go_wp2_with fail
    refine (ih (deep + 1) (by omega) (by omega) e.kids[k] _ _ (c + 1 + s8 (e.kids.take k)) cb _ ⟨_, rfl, HE.out⟩ HNCB.out (HM.out.blk 0 rfl) hle).mono ?_
    rintro x w2 ⟨rfl, r1, ⟨u, r2⟩, kp⟩
    obtain ⟨q, hq⟩ : ∃ q, q = z7 nv na d (c + 1 + s8 (e.kids.take k)) e.kids[k] := ⟨_, rfl⟩
    rw [← hq] at r1 ⊢
    have HQ2 := show Hid _ from hq
    clear hq x0 x1 x2 g0 g1 g2
    cases q
    ·have M2 := HM.out.callB 0 rfl kp r2
     have HF := show Hid _ from HX.out HQ2.out.symm
     clear r1 r2 kp
     go_wp2_with fail
     go_ret
     exact ⟨i6 (by rw [HF.out]), fun h => absurd (h.symm.trans HF.out) (by simp), ⟨_, M2.blk 0 rfl⟩, M2.kept⟩
    ·have M2 := (HM.out.callB 0 rfl kp (r1 rfl)).take 4
     have HM2 := show Hid _ from M2
     clear r1 r2 kp M2
     go_wp2_with fail
     refine ⟨⟨k + 1, by omega, by go_num, by rw [HP.out, HPRE.out, ← HQ2.out]; rfl, ?_⟩, by simp [intOf]; omega⟩
     rw [HT.out, show c + 1 + (s8 (e.kids.take k) + (1 + F0 e.kids[k])) = c + 1 + s8 (e.kids.take k) + 1 + F0 e.kids[k] by omega]
     exact HM2.out
   ·have hkn : k = e.kids.length := by omega
    subst hkn
    have HM := show Hid _ from M
    have HS : Hid (z7 nv na (d + 1) c e = true) := HSC.out.trans HPRE.out
    clear M
    go_wp2_with fail
    go_ret
    refine ⟨i6 (by rw [HS.out]), fun _ => ?_, ⟨_, HM.out.blk 0 rfl⟩, HM.out.kept⟩
    have := HM.out.blk 0 rfl
    rw [b98 (b94 _)] at this
    rw [U8]
    exact this
theorem bc8 (nv na : Nat) (e : d7) : z7 nv na 5 0 e = l0 nv na e := by
 have h : (0 + 1 + F0 e ≤ 15) = (1 + F0 e ≤ 15) := by rw [cc3]
 unfold z7 l0
 simp only [h]
theorem bt0 (a1 a2 : Option Addr) (nv c1 na c2 : Nat) (v3 : Value) (h1 : nv ≤ 9223372036854775807) (h2 : na ≤ 9223372036854775807) (e : d7) (φ : Nat → Prop) (v : Value) (w : World) (h : ae9 w φ v e) :
  Calls Tryz.prog 227 #[.agg #[.slice a1 nv c1, .slice a2 na c2, v3], v] w fun x w' => x = .returned (.bool (l0 nv na e)) ∧ Below w.heap.size w w' := by
 obtain ⟨kv, rfl, hk⟩ := h
 obtain ⟨W, hW, M⟩ : ∃ W, W = ((w.alloc (.cells #[.slice a1 nv c1, .slice a2 na c2, v3] 26)).alloc (.cells #[.int .i64 e.kind, .int .i64 e.value, kv] 104)).alloc (.cells #[.int .i64 0] 3) ∧ C1 (fun _ => True) (fun _ => True) w W [.box w.heap.size [.slice a1 nv c1, .slice a2 na c2, v3], .box (w.heap.size + 1) [.int .i64 e.kind, .int .i64 e.value, kv], .box (w.heap.size + 1 + 1) [.int .i64 0]] :=
  ⟨_, rfl, (((C1.start fun _ _ => trivial).box _ _).box' _ _ (by simp)).box' _ _ (by simp)⟩
 have hb := M.below fun _ _ => trivial
 have HK := show Hid _ from t7.nice _ _ _ _ φ (fun b => φ b ∧ b < w.heap.size) ⟨hb.size, fun b hl hf => ⟨⟨hf, hl⟩, hb.block b hl⟩⟩ hk
 clear hb hk
 have x0 := M.c 0 0 rfl rfl
 have x1 := M.c 0 1 rfl rfl
 have x2 := M.c 0 2 rfl rfl
 have y0 := M.c 1 0 rfl rfl
 have y1 := M.c 1 1 rfl rfl
 have y2 := M.c 1 2 rfl rfl
 have HM := show Hid _ from M
 rw [hW] at x0 x1 x2 y0 y1 y2
 clear M
 go_enter Tryz.func227, Tryz.ntmps227
 go_wp2_with fail
 rw [← hW]
 clear hW x0 x1 x2 y0 y1 y2
 refine (bs9 a1 a2 nv c1 na c2 v3 h1 h2 5 1 (by omega) (by omega) e _ _ 0 _ _ ⟨kv, rfl, HK.out⟩ (fun h => by have := h.2; omega) (HM.out.blk 2 rfl) (by omega)).mono ?_
 rintro x w1 ⟨rfl, -, ⟨u, r2⟩, kp⟩
 rw [bc8]
 have M := HM.out.callB 2 rfl kp r2
 have HB := show Hid _ from M.below fun _ _ => trivial
 clear kp r2 M
 go_wp2_with fail
 go_ret
 exact ⟨rfl, HB.out⟩
theorem ab2 (k n : Int) (a : Option Addr) (len c : Nat) (w : World) (hl : len ≤ 9223372036854775807) : Calls Tryz.prog 251 #[.agg #[.int .i64 k, .int .i64 n, .slice a len c]] w fun e w' => e = .returned (.bool (decide (k = 0) && decide (n = 0) && decide (len = 0))) ∧ Below w.heap.size w w' := by
 by_cases q1 : k = 0
 case neg =>
  have p1 : (k == 0) = false := by simp [q1]
  have HQ := show Hid _ from q1
  clear q1
  go_enter Tryz.func251, Tryz.ntmps251
  go_wp2_with fail
  go_ret
  exact ⟨i6 (by rw [decide_eq_false HQ.out]; rfl), by go_grown⟩
 have p1 : (k == 0) = true := by simp [q1]
 have HQ := show Hid _ from q1
 clear q1
 by_cases q2 : n = 0
 case neg =>
  have p2 : (n == 0) = false := by simp [q2]
  have HQ2 := show Hid _ from q2
  clear q2
  go_enter Tryz.func251, Tryz.ntmps251
  go_wp2_with fail
  go_ret
  exact ⟨i6 (by rw [decide_eq_true HQ.out, decide_eq_false HQ2.out]; rfl), by go_grown⟩
 have p2 : (n == 0) = true := by simp [q2]
 have HQ2 := show Hid _ from q2
 clear q2
 by_cases q3 : len = 0
 case neg =>
  have p3 : ((len : Int) == 0) = false := by simp [q3]
  have HQ3 := show Hid _ from q3
  clear q3
  go_enter Tryz.func251, Tryz.ntmps251
  go_wp2_with fail
  go_ret
  exact ⟨i6 (by rw [decide_eq_true HQ.out, decide_eq_true HQ2.out, decide_eq_false HQ3.out]; rfl), by go_grown⟩
 have p3 : ((len : Int) == 0) = true := by simp [q3]
 have HQ3 := show Hid _ from q3
 clear q3
 go_enter Tryz.func251, Tryz.ntmps251
 go_wp2_with fail
 go_ret
 exact ⟨i6 (by rw [decide_eq_true HQ.out, decide_eq_true HQ2.out, decide_eq_true HQ3.out]; rfl), by go_grown⟩
theorem am5.form {w : World} {φ : Nat → Prop} {v : Value} {s : b5} (h : am5 w φ v s) : ∃ ai ci av cv ab cb ae ce, v = .agg #[.int .i64 s.kind, .int .i64 s.target, .int .i64 s.index.kind, .int .i64 s.index.value, .slice ai s.index.kids.length ci, .int .i64 s.value.kind, .int .i64 s.value.value, .slice av s.value.kids.length cv, .int .i64 s.count, .slice ab s.body.length cb, .slice ae s.els.length ce] ∧
  (t7 w φ (.slice ai s.index.kids.length ci) s.index.kids ∧ t7 w φ (.slice av s.value.kids.length cv) s.value.kids ∧ C4 w φ (.slice ab s.body.length cb) s.body ∧ C4 w φ (.slice ae s.els.length ce) s.els) ∧
  (s.index.kids.length ≤ 9223372036854775807 ∧ s.value.kids.length ≤ 9223372036854775807 ∧ s.body.length ≤ 9223372036854775807 ∧ s.els.length ≤ 9223372036854775807) := by
 obtain ⟨iv, vv, bv, ev, rfl, h1, h2, h3, h4⟩ := h
 obtain ⟨ai, ci, rfl, -, l1, -⟩ := h1.open
 obtain ⟨av, cv, rfl, -, l2, -⟩ := h2.open
 obtain ⟨ab, cb, rfl, -, l3, -⟩ := h3.open
 obtain ⟨ae, ce, rfl, -, l4, -⟩ := h4.open
 exact ⟨ai, ci, av, cv, ab, cb, ae, ce, rfl, ⟨h1, h2, h3, h4⟩, l1, l2, l3, l4⟩
theorem aW0 (φ : Nat → Prop) (v : Value) (s : b5) (w : World) (h : am5 w φ v s) :
  Calls Tryz.prog 232 #[v] w fun x w' => x = .returned (.bool (A7 s)) ∧ Below w.heap.size w w' := by
 obtain ⟨ai, ci, av, cv, ab, cb, ae, ce, rfl, -, hl⟩ := h.form
 have HL := show Hid _ from hl
 have hl3 := hl.2.2.1
 have hl4 := hl.2.2.2
 clear h hl
 have HD : Hid (A7 s = if (s.kind = 3 ∨ s.kind = 4) then decide (s.target = 0) && (if s.kind = 4 then decide (s.els.length = 0) && decide (1 ≤ s.count) && decide (s.count ≤ 3) && noneB s.index && noneB s.value else decide (s.count = 0) && noneB s.index)
   else decide (s.body.length = 0) && decide (s.els.length = 0) && decide (s.count = 0) && (decide (s.kind = 2) || noneB s.index)) := rfl
 obtain ⟨W, hW, M⟩ : ∃ W, W = w.alloc (.cells #[.int .i64 s.kind, .int .i64 s.target, .int .i64 s.index.kind, .int .i64 s.index.value, .slice ai s.index.kids.length ci, .int .i64 s.value.kind, .int .i64 s.value.value, .slice av s.value.kids.length cv, .int .i64 s.count, .slice ab s.body.length cb, .slice ae s.els.length ce] 106) ∧ C1 (fun _ => True) (fun _ => True) w W [.box w.heap.size [.int .i64 s.kind, .int .i64 s.target, .int .i64 s.index.kind, .int .i64 s.index.value, .slice ai s.index.kids.length ci, .int .i64 s.value.kind, .int .i64 s.value.value, .slice av s.value.kids.length cv, .int .i64 s.count, .slice ab s.body.length cb, .slice ae s.els.length ce]] :=
  ⟨_, rfl, (C1.start fun _ _ => trivial).box _ _⟩
 by_cases qk : s.kind = 3
 ·have pk : (s.kind == 3) = true := by simp [qk]
  have pk4 : (s.kind == 4) = false := by simp [qk]
  have pk2 : (s.kind == 2) = false := by simp [qk]
  by_cases qpt : s.target = 0
  case neg =>
   have pt : (s.target != 0) = true := by first | (simp [qpt]; done) | (simp; omega) | exact decide_eq_true (by omega) | exact decide_eq_false (by omega)
   have HP : Hid (A7 s = false) := by rw [Hid, HD.out]; simp [qk, qpt]
   clear qpt qk HD
   have c0 := M.c 0 0 rfl rfl
   have c1 := M.c 0 1 rfl rfl
   have c2 := M.c 0 2 rfl rfl
   have c3 := M.c 0 3 rfl rfl
   have c4 := M.c 0 4 rfl rfl
   have c5 := M.c 0 5 rfl rfl
   have c6 := M.c 0 6 rfl rfl
   have c7 := M.c 0 7 rfl rfl
   have c8 := M.c 0 8 rfl rfl
   have c9 := M.c 0 9 rfl rfl
   have c10 := M.c 0 10 rfl rfl
   have HM := show Hid _ from M
   rw [hW] at c0 c1 c2 c3 c4 c5 c6 c7 c8 c9 c10
   clear M
   go_enter Tryz.func232, Tryz.ntmps232
   go_wp2_with fail
   rw [← hW]
   clear hW
   have M := HM.out
   clear HM c0 c1 c2 c3 c4 c5 c6 c7 c8 c9 c10
   go_ret
   exact ⟨i6 (by rw [HP.out]), M.below fun _ _ => trivial⟩
  have pt : (s.target != 0) = false := by first | (simp [qpt]; done) | (simp; omega) | exact decide_eq_true (by omega) | exact decide_eq_false (by omega)
  by_cases qpc : s.count = 0
  case neg =>
   have pc : (s.count == 0) = false := by first | (simp [qpc]; done) | (simp; omega) | exact decide_eq_true (by omega) | exact decide_eq_false (by omega)
   have HP : Hid (A7 s = false) := by rw [Hid, HD.out]; simp [qk, qpt, qpc]
   clear qpc qk qpt HD
   have c0 := M.c 0 0 rfl rfl
   have c1 := M.c 0 1 rfl rfl
   have c2 := M.c 0 2 rfl rfl
   have c3 := M.c 0 3 rfl rfl
   have c4 := M.c 0 4 rfl rfl
   have c5 := M.c 0 5 rfl rfl
   have c6 := M.c 0 6 rfl rfl
   have c7 := M.c 0 7 rfl rfl
   have c8 := M.c 0 8 rfl rfl
   have c9 := M.c 0 9 rfl rfl
   have c10 := M.c 0 10 rfl rfl
   have HM := show Hid _ from M
   rw [hW] at c0 c1 c2 c3 c4 c5 c6 c7 c8 c9 c10
   clear M
   go_enter Tryz.func232, Tryz.ntmps232
   go_wp2_with fail
   rw [← hW]
   clear hW
   have M := HM.out
   clear HM c0 c1 c2 c3 c4 c5 c6 c7 c8 c9 c10
   go_ret
   exact ⟨i6 (by rw [HP.out]), M.below fun _ _ => trivial⟩
  have pc : (s.count == 0) = true := by first | (simp [qpc]; done) | (simp; omega) | exact decide_eq_true (by omega) | exact decide_eq_false (by omega)
  have HP : Hid (A7 s = noneB s.index) := by rw [Hid, HD.out]; simp [qk, qpt, qpc]
  clear qpt qpc HD qk
  have c0 := M.c 0 0 rfl rfl
  have c1 := M.c 0 1 rfl rfl
  have c2 := M.c 0 2 rfl rfl
  have c3 := M.c 0 3 rfl rfl
  have c4 := M.c 0 4 rfl rfl
  have c5 := M.c 0 5 rfl rfl
  have c6 := M.c 0 6 rfl rfl
  have c7 := M.c 0 7 rfl rfl
  have c8 := M.c 0 8 rfl rfl
  have c9 := M.c 0 9 rfl rfl
  have c10 := M.c 0 10 rfl rfl
  have HM := show Hid _ from M
  rw [hW] at c0 c1 c2 c3 c4 c5 c6 c7 c8 c9 c10
  clear M
  go_enter Tryz.func232, Tryz.ntmps232
  go_wp2_with fail
  rw [← hW]
  clear hW
  have M := HM.out
  clear HM c0 c1 c2 c3 c4 c5 c6 c7 c8 c9 c10
  refine (ab2 s.index.kind s.index.value ai s.index.kids.length ci _ HL.out.1).mono ?_
  rintro x w1 ⟨rfl, b1⟩
  rw [show (decide (s.index.kind = 0) && decide (s.index.value = 0) && decide (s.index.kids.length = 0)) = noneB s.index from rfl]
  replace M := M.call b1
  clear b1
  have HM := show Hid _ from M
  clear M
  go_wp2_with fail
  go_ret
  exact ⟨i6 (by rw [HP.out]), HM.out.below fun _ _ => trivial⟩
 have qk3 := qk
 have pk3 : (s.kind == 3) = false := by simp [qk]
 clear qk
 by_cases qk : s.kind = 4
 ·have pk4 : (s.kind == 4) = true := by simp [qk]
  clear qk3
  by_cases qpt : s.target = 0
  case neg =>
   have pt : (s.target != 0) = true := by first | (simp [qpt]; done) | (simp; omega) | exact decide_eq_true (by omega) | exact decide_eq_false (by omega)
   have HP : Hid (A7 s = false) := by rw [Hid, HD.out]; simp [qk, qpt]
   clear qpt qk HD
   have c0 := M.c 0 0 rfl rfl
   have c1 := M.c 0 1 rfl rfl
   have c2 := M.c 0 2 rfl rfl
   have c3 := M.c 0 3 rfl rfl
   have c4 := M.c 0 4 rfl rfl
   have c5 := M.c 0 5 rfl rfl
   have c6 := M.c 0 6 rfl rfl
   have c7 := M.c 0 7 rfl rfl
   have c8 := M.c 0 8 rfl rfl
   have c9 := M.c 0 9 rfl rfl
   have c10 := M.c 0 10 rfl rfl
   have HM := show Hid _ from M
   rw [hW] at c0 c1 c2 c3 c4 c5 c6 c7 c8 c9 c10
   clear M
   go_enter Tryz.func232, Tryz.ntmps232
   go_wp2_with fail
   rw [← hW]
   clear hW
   have M := HM.out
   clear HM c0 c1 c2 c3 c4 c5 c6 c7 c8 c9 c10
   go_ret
   exact ⟨i6 (by rw [HP.out]), M.below fun _ _ => trivial⟩
  have pt : (s.target != 0) = false := by first | (simp [qpt]; done) | (simp; omega) | exact decide_eq_true (by omega) | exact decide_eq_false (by omega)
  by_cases qpe : s.els.length = 0
  case neg =>
   have pe : ((s.els.length : Int) == 0) = false := by first | (simp [qpe]; done) | (simp; omega) | exact decide_eq_true (by omega) | exact decide_eq_false (by omega)
   have HP : Hid (A7 s = false) := by rw [Hid, HD.out]; simp [qk, qpt, qpe]
   clear qpe qk qpt HD
   have c0 := M.c 0 0 rfl rfl
   have c1 := M.c 0 1 rfl rfl
   have c2 := M.c 0 2 rfl rfl
   have c3 := M.c 0 3 rfl rfl
   have c4 := M.c 0 4 rfl rfl
   have c5 := M.c 0 5 rfl rfl
   have c6 := M.c 0 6 rfl rfl
   have c7 := M.c 0 7 rfl rfl
   have c8 := M.c 0 8 rfl rfl
   have c9 := M.c 0 9 rfl rfl
   have c10 := M.c 0 10 rfl rfl
   have HM := show Hid _ from M
   rw [hW] at c0 c1 c2 c3 c4 c5 c6 c7 c8 c9 c10
   clear M
   go_enter Tryz.func232, Tryz.ntmps232
   go_wp2_with fail
   rw [← hW]
   clear hW
   have M := HM.out
   clear HM c0 c1 c2 c3 c4 c5 c6 c7 c8 c9 c10
   go_ret
   exact ⟨i6 (by rw [HP.out]), M.below fun _ _ => trivial⟩
  have pe : ((s.els.length : Int) == 0) = true := by first | (simp [qpe]; done) | (simp; omega) | exact decide_eq_true (by omega) | exact decide_eq_false (by omega)
  by_cases qp1 : 1 ≤ s.count
  case neg =>
   have p1 : decide (1 ≤ s.count) = false := by first | (simp [qp1]; done) | (simp; omega) | exact decide_eq_true (by omega) | exact decide_eq_false (by omega)
   have HP : Hid (A7 s = false) := by rw [Hid, HD.out]; simp [qk, qpt, qpe, qp1]
   clear qp1 qk qpt qpe HD
   have c0 := M.c 0 0 rfl rfl
   have c1 := M.c 0 1 rfl rfl
   have c2 := M.c 0 2 rfl rfl
   have c3 := M.c 0 3 rfl rfl
   have c4 := M.c 0 4 rfl rfl
   have c5 := M.c 0 5 rfl rfl
   have c6 := M.c 0 6 rfl rfl
   have c7 := M.c 0 7 rfl rfl
   have c8 := M.c 0 8 rfl rfl
   have c9 := M.c 0 9 rfl rfl
   have c10 := M.c 0 10 rfl rfl
   have HM := show Hid _ from M
   rw [hW] at c0 c1 c2 c3 c4 c5 c6 c7 c8 c9 c10
   clear M
   go_enter Tryz.func232, Tryz.ntmps232
   go_wp2_with fail
   rw [← hW]
   clear hW
   have M := HM.out
   clear HM c0 c1 c2 c3 c4 c5 c6 c7 c8 c9 c10
   go_ret
   exact ⟨i6 (by rw [HP.out]), M.below fun _ _ => trivial⟩
  have p1 : decide (1 ≤ s.count) = true := by first | (simp [qp1]; done) | (simp; omega) | exact decide_eq_true (by omega) | exact decide_eq_false (by omega)
  by_cases qp3 : s.count ≤ 3
  case neg =>
   have p3 : decide (s.count ≤ 3) = false := by first | (simp [qp3]; done) | (simp; omega) | exact decide_eq_true (by omega) | exact decide_eq_false (by omega)
   have HP : Hid (A7 s = false) := by rw [Hid, HD.out]; simp [qk, qpt, qpe, qp1, qp3]
   clear qp3 qk qpt qpe qp1 HD
   have c0 := M.c 0 0 rfl rfl
   have c1 := M.c 0 1 rfl rfl
   have c2 := M.c 0 2 rfl rfl
   have c3 := M.c 0 3 rfl rfl
   have c4 := M.c 0 4 rfl rfl
   have c5 := M.c 0 5 rfl rfl
   have c6 := M.c 0 6 rfl rfl
   have c7 := M.c 0 7 rfl rfl
   have c8 := M.c 0 8 rfl rfl
   have c9 := M.c 0 9 rfl rfl
   have c10 := M.c 0 10 rfl rfl
   have HM := show Hid _ from M
   rw [hW] at c0 c1 c2 c3 c4 c5 c6 c7 c8 c9 c10
   clear M
   go_enter Tryz.func232, Tryz.ntmps232
   go_wp2_with fail
   rw [← hW]
   clear hW
   have M := HM.out
   clear HM c0 c1 c2 c3 c4 c5 c6 c7 c8 c9 c10
   go_ret
   exact ⟨i6 (by rw [HP.out]), M.below fun _ _ => trivial⟩
  have p3 : decide (s.count ≤ 3) = true := by first | (simp [qp3]; done) | (simp; omega) | exact decide_eq_true (by omega) | exact decide_eq_false (by omega)
  have HP0 : Hid (A7 s = (noneB s.index && noneB s.value)) := by rw [Hid, HD.out]; simp [qk, qpt, qpe, qp1, qp3]
  clear qpt qpe qp1 qp3 HD qk
  have c0 := M.c 0 0 rfl rfl
  have c1 := M.c 0 1 rfl rfl
  have c2 := M.c 0 2 rfl rfl
  have c3 := M.c 0 3 rfl rfl
  have c4 := M.c 0 4 rfl rfl
  have c5 := M.c 0 5 rfl rfl
  have c6 := M.c 0 6 rfl rfl
  have c7 := M.c 0 7 rfl rfl
  have c8 := M.c 0 8 rfl rfl
  have c9 := M.c 0 9 rfl rfl
  have c10 := M.c 0 10 rfl rfl
  have HM := show Hid _ from M
  rw [hW] at c0 c1 c2 c3 c4 c5 c6 c7 c8 c9 c10
  clear M
  go_enter Tryz.func232, Tryz.ntmps232
  go_wp2_with fail
  rw [← hW]
  clear hW
  have M := HM.out
  clear HM c0 c1 c2 c3 c4 c5 c6 c7 c8 c9 c10
  refine (ab2 s.index.kind s.index.value ai s.index.kids.length ci _ HL.out.1).mono ?_
  rintro x w1 ⟨rfl, b1⟩
  rw [show (decide (s.index.kind = 0) && decide (s.index.value = 0) && decide (s.index.kids.length = 0)) = noneB s.index from rfl]
  replace M := M.call b1
  clear b1
  obtain ⟨b, hb⟩ : ∃ b, b = noneB s.index := ⟨_, rfl⟩
  rw [← hb]
  have HB := show Hid _ from hb
  clear hb
  cases b
  ·have HP : Hid (A7 s = false) := by rw [Hid, HP0.out, ← HB.out]; rfl
   clear HP0
   have HM := show Hid _ from M
   clear M
   go_wp2_with fail
   go_ret
   exact ⟨i6 (by rw [HP.out]), HM.out.below fun _ _ => trivial⟩
  ·have HP : Hid (A7 s = noneB s.value) := by rw [Hid, HP0.out, ← HB.out]; rfl
   clear HP0
   have c5 := M.c 0 5 rfl rfl
   have c6 := M.c 0 6 rfl rfl
   have c7 := M.c 0 7 rfl rfl
   have HM := show Hid _ from M
   clear M
   go_wp2_with fail
   have M := HM.out
   clear HM c5 c6 c7
   refine (ab2 s.value.kind s.value.value av s.value.kids.length cv _ HL.out.2.1).mono ?_
   rintro x w1 ⟨rfl, b1⟩
   rw [show (decide (s.value.kind = 0) && decide (s.value.value = 0) && decide (s.value.kids.length = 0)) = noneB s.value from rfl]
   replace M := M.call b1
   clear b1
   have HM := show Hid _ from M
   clear M
   go_wp2_with fail
   go_ret
   exact ⟨i6 (by rw [HP.out]), HM.out.below fun _ _ => trivial⟩
 have qk4 := qk
 have pk4 : (s.kind == 4) = false := by simp [qk]
 clear qk
 by_cases qpb : s.body.length = 0
 case neg =>
  have pb : decide (0 < s.body.length) = true := by first | (simp [qpb]; done) | (simp; omega) | exact decide_eq_true (by omega) | exact decide_eq_false (by omega)
  have HP : Hid (A7 s = false) := by rw [Hid, HD.out]; simp [qk3, qk4, qpb]
  clear qpb qk3 qk4 HD
  have c0 := M.c 0 0 rfl rfl
  have c1 := M.c 0 1 rfl rfl
  have c2 := M.c 0 2 rfl rfl
  have c3 := M.c 0 3 rfl rfl
  have c4 := M.c 0 4 rfl rfl
  have c5 := M.c 0 5 rfl rfl
  have c6 := M.c 0 6 rfl rfl
  have c7 := M.c 0 7 rfl rfl
  have c8 := M.c 0 8 rfl rfl
  have c9 := M.c 0 9 rfl rfl
  have c10 := M.c 0 10 rfl rfl
  have HM := show Hid _ from M
  rw [hW] at c0 c1 c2 c3 c4 c5 c6 c7 c8 c9 c10
  clear M
  go_enter Tryz.func232, Tryz.ntmps232
  go_wp2_with fail
  rw [← hW]
  clear hW
  have M := HM.out
  clear HM c0 c1 c2 c3 c4 c5 c6 c7 c8 c9 c10
  go_ret
  exact ⟨i6 (by rw [HP.out]), M.below fun _ _ => trivial⟩
 have pb : decide (0 < s.body.length) = false := by first | (simp [qpb]; done) | (simp; omega) | exact decide_eq_true (by omega) | exact decide_eq_false (by omega)
 by_cases qpe : s.els.length = 0
 case neg =>
  have pe : decide (0 < s.els.length) = true := by first | (simp [qpe]; done) | (simp; omega) | exact decide_eq_true (by omega) | exact decide_eq_false (by omega)
  have HP : Hid (A7 s = false) := by rw [Hid, HD.out]; simp [qk3, qk4, qpb, qpe]
  clear qpe qk3 qk4 qpb HD
  have c0 := M.c 0 0 rfl rfl
  have c1 := M.c 0 1 rfl rfl
  have c2 := M.c 0 2 rfl rfl
  have c3 := M.c 0 3 rfl rfl
  have c4 := M.c 0 4 rfl rfl
  have c5 := M.c 0 5 rfl rfl
  have c6 := M.c 0 6 rfl rfl
  have c7 := M.c 0 7 rfl rfl
  have c8 := M.c 0 8 rfl rfl
  have c9 := M.c 0 9 rfl rfl
  have c10 := M.c 0 10 rfl rfl
  have HM := show Hid _ from M
  rw [hW] at c0 c1 c2 c3 c4 c5 c6 c7 c8 c9 c10
  clear M
  go_enter Tryz.func232, Tryz.ntmps232
  go_wp2_with fail
  rw [← hW]
  clear hW
  have M := HM.out
  clear HM c0 c1 c2 c3 c4 c5 c6 c7 c8 c9 c10
  go_ret
  exact ⟨i6 (by rw [HP.out]), M.below fun _ _ => trivial⟩
 have pe : decide (0 < s.els.length) = false := by first | (simp [qpe]; done) | (simp; omega) | exact decide_eq_true (by omega) | exact decide_eq_false (by omega)
 by_cases qpc : s.count = 0
 case neg =>
  have pc : (s.count == 0) = false := by first | (simp [qpc]; done) | (simp; omega) | exact decide_eq_true (by omega) | exact decide_eq_false (by omega)
  have HP : Hid (A7 s = false) := by rw [Hid, HD.out]; simp [qk3, qk4, qpb, qpe, qpc]
  clear qpc qk3 qk4 qpb qpe HD
  have c0 := M.c 0 0 rfl rfl
  have c1 := M.c 0 1 rfl rfl
  have c2 := M.c 0 2 rfl rfl
  have c3 := M.c 0 3 rfl rfl
  have c4 := M.c 0 4 rfl rfl
  have c5 := M.c 0 5 rfl rfl
  have c6 := M.c 0 6 rfl rfl
  have c7 := M.c 0 7 rfl rfl
  have c8 := M.c 0 8 rfl rfl
  have c9 := M.c 0 9 rfl rfl
  have c10 := M.c 0 10 rfl rfl
  have HM := show Hid _ from M
  rw [hW] at c0 c1 c2 c3 c4 c5 c6 c7 c8 c9 c10
  clear M
  go_enter Tryz.func232, Tryz.ntmps232
  go_wp2_with fail
  rw [← hW]
  clear hW
  have M := HM.out
  clear HM c0 c1 c2 c3 c4 c5 c6 c7 c8 c9 c10
  go_ret
  exact ⟨i6 (by rw [HP.out]), M.below fun _ _ => trivial⟩
 have pc : (s.count == 0) = true := by first | (simp [qpc]; done) | (simp; omega) | exact decide_eq_true (by omega) | exact decide_eq_false (by omega)
 by_cases qk2 : s.kind = 2
 ·have pk2 : (s.kind == 2) = true := by simp [qk2]
  have HP : Hid (A7 s = true) := by rw [Hid, HD.out]; simp [qk2, qpb, qpe, qpc]
  clear qk2 qk3 qk4 qpb qpe qpc HD
  have c0 := M.c 0 0 rfl rfl
  have c1 := M.c 0 1 rfl rfl
  have c2 := M.c 0 2 rfl rfl
  have c3 := M.c 0 3 rfl rfl
  have c4 := M.c 0 4 rfl rfl
  have c5 := M.c 0 5 rfl rfl
  have c6 := M.c 0 6 rfl rfl
  have c7 := M.c 0 7 rfl rfl
  have c8 := M.c 0 8 rfl rfl
  have c9 := M.c 0 9 rfl rfl
  have c10 := M.c 0 10 rfl rfl
  have HM := show Hid _ from M
  rw [hW] at c0 c1 c2 c3 c4 c5 c6 c7 c8 c9 c10
  clear M
  go_enter Tryz.func232, Tryz.ntmps232
  go_wp2_with fail
  rw [← hW]
  clear hW
  have M := HM.out
  clear HM c0 c1 c2 c3 c4 c5 c6 c7 c8 c9 c10
  go_ret
  exact ⟨i6 (by rw [HP.out]), M.below fun _ _ => trivial⟩
 ·have pk2 : (s.kind == 2) = false := by simp [qk2]
  have HP : Hid (A7 s = noneB s.index) := by rw [Hid, HD.out]; simp [qk2, qk3, qk4, qpb, qpe, qpc]
  clear qk2 qk3 qk4 qpb qpe qpc HD
  have c0 := M.c 0 0 rfl rfl
  have c1 := M.c 0 1 rfl rfl
  have c2 := M.c 0 2 rfl rfl
  have c3 := M.c 0 3 rfl rfl
  have c4 := M.c 0 4 rfl rfl
  have c5 := M.c 0 5 rfl rfl
  have c6 := M.c 0 6 rfl rfl
  have c7 := M.c 0 7 rfl rfl
  have c8 := M.c 0 8 rfl rfl
  have c9 := M.c 0 9 rfl rfl
  have c10 := M.c 0 10 rfl rfl
  have HM := show Hid _ from M
  rw [hW] at c0 c1 c2 c3 c4 c5 c6 c7 c8 c9 c10
  clear M
  go_enter Tryz.func232, Tryz.ntmps232
  go_wp2_with fail
  rw [← hW]
  clear hW
  have M := HM.out
  clear HM c0 c1 c2 c3 c4 c5 c6 c7 c8 c9 c10
  refine (ab2 s.index.kind s.index.value ai s.index.kids.length ci _ HL.out.1).mono ?_
  rintro x w1 ⟨rfl, b1⟩
  rw [show (decide (s.index.kind = 0) && decide (s.index.value = 0) && decide (s.index.kids.length = 0)) = noneB s.index from rfl]
  replace M := M.call b1
  clear b1
  have HM := show Hid _ from M
  clear M
  go_wp2_with fail
  go_ret
  exact ⟨i6 (by rw [HP.out]), HM.out.below fun _ _ => trivial⟩
def StB (a1 a2 : Option Addr) (nv c1 na c2 : Nat) (v3 : Value) (d : Nat) : Prop := ∀ (s : b5) (φ : Nat → Prop) (v : Value) (w : World), am5 w φ v s →
 Calls Tryz.prog 193 #[.agg #[.slice a1 nv c1, .slice a2 na c2, v3], v, .int .i64 d] w fun x w' => x = .returned (.bool (i9 nv na d s)) ∧ Below w.heap.size w w'
def BlB (a1 a2 : Option Addr) (nv c1 na c2 : Nat) (v3 : Value) (d : Nat) : Prop := ∀ (ss : List b5) (φ : Nat → Prop) (v : Value) (w : World), C4 w φ v ss →
 Calls Tryz.prog 130 #[.agg #[.slice a1 nv c1, .slice a2 na c2, v3], v, .int .i64 d] w fun x w' => x = .returned (.bool (ss.all (i9 nv na d))) ∧ Below w.heap.size w w'
theorem ag4 (a1 a2 : Option Addr) (nv c1 na c2 : Nat) (v3 : Value) (d : Nat) (hd : d ≤ 5) (ih : StB a1 a2 nv c1 na c2 v3 d) : BlB a1 a2 nv c1 na c2 v3 d := by
 intro ss φ v w h
 obtain ⟨ak, ck, rfl, -, hn, -, hc⟩ := h.open
 obtain ⟨W, hW, M⟩ : ∃ W, W = w.alloc (.cells #[.slice a1 nv c1, .slice a2 na c2, v3] 26) ∧ C1 (fun _ => True) (fun _ => True) w W [.box w.heap.size [.slice a1 nv c1, .slice a2 na c2, v3]] :=
  ⟨_, rfl, (C1.start fun _ _ => trivial).box _ _⟩
 have HC := show Hid _ from hc
 clear h hc
 go_enter Tryz.func130, Tryz.ntmps130
 go_wp2_with fail
 rw [← hW]
 clear hW
 go_loopw [7] (fun i wr => ∃ k : Nat, k ≤ ss.length ∧ i = .int .i64 k ∧ (ss.take k).all (i9 nv na d) = true ∧ C1 (fun _ => True) (fun _ => True) w wr [.box w.heap.size [.slice a1 nv c1, .slice a2 na c2, v3]]) (fun i _ => ss.length - (intOf i).toNat)
 case atStart => exact ⟨0, cb1 _, rfl, rfl, M⟩
 case round =>
  clear M
  obtain ⟨k, hk, rfl, hall, M⟩ := hrel
  have HALL := show Hid _ from hall
  clear hall
  have hB := M.below fun _ _ => trivial
  have x0 := M.c 0 0 rfl rfl
  have x1 := M.c 0 1 rfl rfl
  have x2 := M.c 0 2 rfl rfl
  by_cases hlt : k < ss.length
  ·obtain ⟨b, off, iv, vv, bv, ev, rfl, hbk, hf, ⟨e0, e1, e2, e3, e4, e5, e6, e7, e8, e9, e10⟩, g1, g2, g3, g4⟩ := HC.out k hlt
   rw [← (K0 hB).1 _ _ hbk] at e0 e1 e2 e3 e4 e5 e6 e7 e8 e9 e10
   obtain ⟨q, hq⟩ : ∃ q, q = i9 nv na d ss[k] := ⟨_, rfl⟩
   have HC3 : Hid (∀ X, Calls Tryz.prog 193 #[.agg #[.slice a1 nv c1, .slice a2 na c2, v3], .agg #[.int .i64 ss[k].kind, .int .i64 ss[k].target, .int .i64 ss[k].index.kind, .int .i64 ss[k].index.value, iv, .int .i64 ss[k].value.kind, .int .i64 ss[k].value.value, vv, .int .i64 ss[k].count, bv, ev], .int .i64 d] (wr.ext X) fun x w'' => x = .returned (.bool q) ∧ ∃ Y, w'' = wr.ext Y) := fun X => by
    have bb := hB.trans ((l7 wr X).mono hB.size)
    rw [hq]
    exact Calls.ext_of' (ih _ φ _ _ (am5.nice _ _ _ _ _ _ (Agr.below bb) ⟨iv, vv, bv, ev, rfl, g1, g2, g3, g4⟩))
   have HQQ := show Hid _ from hq
   have HM := show Hid _ from M
   have j0 := fun X => f8 e0 X
   have j1 := fun X => f8 e1 X
   have j2 := fun X => f8 e2 X
   have j3 := fun X => f8 e3 X
   have j4 := fun X => f8 e4 X
   have j5 := fun X => f8 e5 X
   have j6 := fun X => f8 e6 X
   have j7 := fun X => f8 e7 X
   have j8 := fun X => f8 e8 X
   have j9 := fun X => f8 e9 X
   have j10 := fun X => f8 e10 X
   have z0 := fun X => f8 x0 X
   have z1 := fun X => f8 x1 X
   have z2 := fun X => f8 x2 X
   have hlt' : (k : Int) < ss.length := by omega
   clear g1 g2 g3 g4 hq e0 e1 e2 e3 e4 e5 e6 e7 e8 e9 e10 x0 x1 x2 M hB
   cases q
   ·go_wp2_with fail
    refine r9 (by kernel_rfl) (by kernel_rfl) ?_
    repeat (any_goals (first | go_big_quiet_step (((go_at_call 193; exact HC3.out _))) | quiet_step (((go_at_call 193; exact HC3.out _)))))
    refine wpQuiet_nil ?_
    rintro _ ⟨X, rfl⟩
    go_wp2_with fail
    go_ret
    exact ⟨i6 (by symm; exact List.all_eq_false.2 ⟨_, ca5 hlt, by rw [← HQQ.out]; simp⟩), (HM.out.call (l7 wr X)).below fun _ _ => trivial⟩
   ·go_wp2_with fail
    refine r9 (by kernel_rfl) (by kernel_rfl) ?_
    repeat (any_goals (first | go_big_quiet_step (((go_at_call 193; exact HC3.out _))) | quiet_step (((go_at_call 193; exact HC3.out _)))))
    refine wpQuiet_nil ?_
    rintro _ ⟨X, rfl⟩
    go_wp2_with fail
    refine ⟨⟨k + 1, by omega, by go_num, ?_, HM.out.call (l7 wr X)⟩, by simp [intOf]; omega⟩
    rw [D4 _ _ hlt, List.all_append, HALL.out]
    simp [← HQQ.out]
  ·have hkn : k = ss.length := by omega
   subst hkn
   have hall := HALL.out
   rw [b98 (b94 _)] at hall
   have HAL := show Hid _ from hall
   have HB := show Hid _ from hB
   clear hall x0 x1 x2 M hB
   go_wp2_with fail
   go_ret
   exact ⟨i6 HAL.out.symm, HB.out⟩
theorem bs7 (a1 a2 : Option Addr) (nv c1 na c2 : Nat) (v3 : Value) (h1 : nv ≤ 9223372036854775807) (h2 : na ≤ 9223372036854775807) : ∀ d : Nat, d ≤ 5 → StB a1 a2 nv c1 na c2 v3 d := by
 intro d
 induction d with
 | zero =>
  intro _ s φ v w h
  obtain ⟨ai, ci, av, cv, ab, cb, ae, ce, rfl, -, -⟩ := h.form
  have HP : Hid (i9 nv na 0 s = false) := rfl
  clear h
  go_enter Tryz.func193, Tryz.ntmps193
  go_wp2_with fail
  go_ret
  exact ⟨i6 HP.out.symm, by go_grown⟩
 | succ d ih0 =>
  intro hd5 s φ v w h
  have ih := ih0 (by omega)
  clear ih0
  have hfull := h
  obtain ⟨ai, ci, av, cv, ab, cb, ae, ce, rfl, ⟨g1, g2, g3, g4⟩, -⟩ := h.form
  have hd0 : (d : Int) ≤ 5 := by omega
  have p9 : decide ((d : Int) + 1 < 1) = false := decide_eq_false (by omega)
  have HD0 : Hid (i9 nv na (d + 1) s = (A7 s && (if s.kind = 1 ∨ s.kind = 5 then decide (0 ≤ s.target) && decide (s.target < (nv : Int)) && l0 nv na s.value else if s.kind = 2 then decide (0 ≤ s.target) && decide (s.target < (na : Int)) && l0 nv na s.index && F6 s.index && l0 nv na s.value
   else if s.kind = 3 then l0 nv na s.value && s.body.all (i9 nv na d) && s.els.all (i9 nv na d) else if s.kind = 4 then s.body.all (i9 nv na d) else false))) := rfl
  have HG : Hid (∀ W, Below w.heap.size w W → ae9 W φ (.agg #[.int .i64 s.index.kind, .int .i64 s.index.value, .slice ai s.index.kids.length ci]) s.index ∧ ae9 W φ (.agg #[.int .i64 s.value.kind, .int .i64 s.value.value, .slice av s.value.kids.length cv]) s.value ∧ C4 W φ (.slice ab s.body.length cb) s.body ∧ C4 W φ (.slice ae s.els.length ce) s.els) := fun W k =>
   ⟨⟨_, rfl, t7.nice _ _ _ _ _ _ (Agr.below k) g1⟩, ⟨_, rfl, t7.nice _ _ _ _ _ _ (Agr.below k) g2⟩, C4.nice _ _ _ _ _ _ (Agr.below k) g3, C4.nice _ _ _ _ _ _ (Agr.below k) g4⟩
  have HF : Hid (∀ W, Below w.heap.size w W → am5 W φ (.agg #[.int .i64 s.kind, .int .i64 s.target, .int .i64 s.index.kind, .int .i64 s.index.value, .slice ai s.index.kids.length ci, .int .i64 s.value.kind, .int .i64 s.value.value, .slice av s.value.kids.length cv, .int .i64 s.count, .slice ab s.body.length cb, .slice ae s.els.length ce]) s) := fun W k => am5.nice _ _ _ _ _ _ (Agr.below k) hfull
  obtain ⟨W, hW, M⟩ : ∃ W, W = (w.alloc (.cells #[.slice a1 nv c1, .slice a2 na c2, v3] 26)).alloc (.cells #[.int .i64 s.kind, .int .i64 s.target, .int .i64 s.index.kind, .int .i64 s.index.value, .slice ai s.index.kids.length ci, .int .i64 s.value.kind, .int .i64 s.value.value, .slice av s.value.kids.length cv, .int .i64 s.count, .slice ab s.body.length cb, .slice ae s.els.length ce] 106) ∧ C1 (fun _ => True) (fun _ => True) w W [.box w.heap.size [.slice a1 nv c1, .slice a2 na c2, v3], .box (w.heap.size + 1) [.int .i64 s.kind, .int .i64 s.target, .int .i64 s.index.kind, .int .i64 s.index.value, .slice ai s.index.kids.length ci, .int .i64 s.value.kind, .int .i64 s.value.value, .slice av s.value.kids.length cv, .int .i64 s.count, .slice ab s.body.length cb, .slice ae s.els.length ce]] :=
   ⟨_, rfl, ((C1.start fun _ _ => trivial).box _ _).box' _ _ (by simp)⟩
  clear g1 g2 g3 g4 h hfull
  have c0 := M.c 1 0 rfl rfl
  have c1 := M.c 1 1 rfl rfl
  have c2 := M.c 1 2 rfl rfl
  have c3 := M.c 1 3 rfl rfl
  have c4 := M.c 1 4 rfl rfl
  have c5 := M.c 1 5 rfl rfl
  have c6 := M.c 1 6 rfl rfl
  have c7 := M.c 1 7 rfl rfl
  have c8 := M.c 1 8 rfl rfl
  have c9 := M.c 1 9 rfl rfl
  have c10 := M.c 1 10 rfl rfl
  have x0 := M.c 0 0 rfl rfl
  have x1 := M.c 0 1 rfl rfl
  have x2 := M.c 0 2 rfl rfl
  have HM := show Hid _ from M
  rw [hW] at c0 c1 c2 c3 c4 c5 c6 c7 c8 c9 c10 x0 x1 x2
  clear M
  go_enter Tryz.func193, Tryz.ntmps193
  go_wp2_with fail
  rw [← hW]
  clear hW
  have M := HM.out
  clear HM c0 c1 c2 c3 c4 c5 c6 c7 c8 c9 c10 x0 x1 x2
  refine (aW0 φ _ s _ (HF.out _ (M.below fun _ _ => trivial))).mono ?_
  rintro x w1 ⟨rfl, b1⟩
  replace M := M.call b1
  clear b1
  obtain ⟨b, hb⟩ : ∃ b, b = A7 s := ⟨_, rfl⟩
  rw [← hb]
  have HB := show Hid _ from hb
  clear hb
  cases b
  ·have HP : Hid (i9 nv na (d + 1) s = false) := by rw [Hid, HD0.out, ← HB.out]; rfl
   clear HD0 HB
   have c0 := M.c 1 0 rfl rfl
   have c1 := M.c 1 1 rfl rfl
   have c2 := M.c 1 2 rfl rfl
   have c3 := M.c 1 3 rfl rfl
   have c4 := M.c 1 4 rfl rfl
   have c5 := M.c 1 5 rfl rfl
   have c6 := M.c 1 6 rfl rfl
   have c7 := M.c 1 7 rfl rfl
   have c8 := M.c 1 8 rfl rfl
   have c9 := M.c 1 9 rfl rfl
   have c10 := M.c 1 10 rfl rfl
   have x0 := M.c 0 0 rfl rfl
   have x1 := M.c 0 1 rfl rfl
   have x2 := M.c 0 2 rfl rfl
   have HM := show Hid _ from M
   clear M
   go_wp2_with fail
   go_ret
   exact ⟨i6 (by rw [HP.out]), HM.out.below fun _ _ => trivial⟩
  have HD := show Hid (i9 nv na (d + 1) s = (if s.kind = 1 ∨ s.kind = 5 then decide (0 ≤ s.target) && decide (s.target < (nv : Int)) && l0 nv na s.value else if s.kind = 2 then decide (0 ≤ s.target) && decide (s.target < (na : Int)) && l0 nv na s.index && F6 s.index && l0 nv na s.value
   else if s.kind = 3 then l0 nv na s.value && s.body.all (i9 nv na d) && s.els.all (i9 nv na d) else if s.kind = 4 then s.body.all (i9 nv na d) else false)) from by rw [Hid, HD0.out, ← HB.out]; rfl
  clear HD0 HB
  by_cases qk : s.kind = 1
  ·have k1 : (s.kind == 1) = true := by simp [qk]
   have k5 : (s.kind == 5) = false := by simp [qk]
   have k2 : (s.kind == 2) = false := by simp [qk]
   have k3 : (s.kind == 3) = false := by simp [qk]
   have k4 : (s.kind == 4) = false := by simp [qk]
   have HP1 := show Hid (i9 nv na (d + 1) s = (decide (0 ≤ s.target) && decide (s.target < (nv : Int)) && l0 nv na s.value)) from by rw [Hid, HD.out, if_pos (.inl qk)]
   clear qk
   have HP0 := show Hid (i9 nv na (d + 1) s = (decide (0 ≤ s.target) && decide (s.target < (nv : Int)) && l0 nv na s.value)) from HP1.out
   clear HP1
   by_cases t0 : 0 ≤ s.target
   case neg =>
    have p0 : decide (0 ≤ s.target) = false := decide_eq_false t0
    have HP : Hid (i9 nv na (d + 1) s = false) := by rw [Hid, HP0.out, p0]; rfl
    clear HP0 t0
    have c0 := M.c 1 0 rfl rfl
    have c1 := M.c 1 1 rfl rfl
    have c2 := M.c 1 2 rfl rfl
    have c3 := M.c 1 3 rfl rfl
    have c4 := M.c 1 4 rfl rfl
    have c5 := M.c 1 5 rfl rfl
    have c6 := M.c 1 6 rfl rfl
    have c7 := M.c 1 7 rfl rfl
    have c8 := M.c 1 8 rfl rfl
    have c9 := M.c 1 9 rfl rfl
    have c10 := M.c 1 10 rfl rfl
    have x0 := M.c 0 0 rfl rfl
    have x1 := M.c 0 1 rfl rfl
    have x2 := M.c 0 2 rfl rfl
    have HM := show Hid _ from M
    clear M
    go_wp2_with fail
    go_ret
    exact ⟨i6 (by rw [HP.out]), HM.out.below fun _ _ => trivial⟩
   have p0 : decide (0 ≤ s.target) = true := decide_eq_true t0
   by_cases t1 : s.target < (nv : Int)
   case neg =>
    have p1 : decide (s.target < (nv : Int)) = false := decide_eq_false t1
    have HP : Hid (i9 nv na (d + 1) s = false) := by rw [Hid, HP0.out, p0, p1]; rfl
    clear HP0 t0 t1
    have c0 := M.c 1 0 rfl rfl
    have c1 := M.c 1 1 rfl rfl
    have c2 := M.c 1 2 rfl rfl
    have c3 := M.c 1 3 rfl rfl
    have c4 := M.c 1 4 rfl rfl
    have c5 := M.c 1 5 rfl rfl
    have c6 := M.c 1 6 rfl rfl
    have c7 := M.c 1 7 rfl rfl
    have c8 := M.c 1 8 rfl rfl
    have c9 := M.c 1 9 rfl rfl
    have c10 := M.c 1 10 rfl rfl
    have x0 := M.c 0 0 rfl rfl
    have x1 := M.c 0 1 rfl rfl
    have x2 := M.c 0 2 rfl rfl
    have HM := show Hid _ from M
    clear M
    go_wp2_with fail
    go_ret
    exact ⟨i6 (by rw [HP.out]), HM.out.below fun _ _ => trivial⟩
   have p1 : decide (s.target < (nv : Int)) = true := decide_eq_true t1
   have HP1 := show Hid (i9 nv na (d + 1) s = (l0 nv na s.value)) from by rw [Hid, HP0.out, p0, p1]; rfl
   clear HP0 t0 t1
   have HP0 := show Hid (i9 nv na (d + 1) s = (l0 nv na s.value)) from HP1.out
   clear HP1
   have c0 := M.c 1 0 rfl rfl
   have c1 := M.c 1 1 rfl rfl
   have c2 := M.c 1 2 rfl rfl
   have c3 := M.c 1 3 rfl rfl
   have c4 := M.c 1 4 rfl rfl
   have c5 := M.c 1 5 rfl rfl
   have c6 := M.c 1 6 rfl rfl
   have c7 := M.c 1 7 rfl rfl
   have c8 := M.c 1 8 rfl rfl
   have c9 := M.c 1 9 rfl rfl
   have c10 := M.c 1 10 rfl rfl
   have x0 := M.c 0 0 rfl rfl
   have x1 := M.c 0 1 rfl rfl
   have x2 := M.c 0 2 rfl rfl
   have HM := show Hid _ from M
   clear M
   go_wp2_with fail
   have M := HM.out
   clear HM c0 c1 c2 c3 c4 c5 c6 c7 c8 c9 c10 x0 x1 x2
   refine (L9 a1 a2 nv c1 na c2 v3 h1 h2 s.value φ _ _ (HG.out _ (M.below fun _ _ => trivial)).2.1).mono ?_
   rintro x w1 ⟨rfl, b1⟩
   replace M := M.call b1
   clear b1
   have HP : Hid (i9 nv na (d + 1) s = l0 nv na s.value) := HP0.out
   clear HP0
   have HM := show Hid _ from M
   clear M
   go_wp2_with fail
   go_ret
   exact ⟨i6 (by rw [HP.out]), HM.out.below fun _ _ => trivial⟩
  have qn1 := qk
  clear qk
  by_cases qk : s.kind = 5
  ·have k1 : (s.kind == 1) = false := by simp [qk]
   have k5 : (s.kind == 5) = true := by simp [qk]
   have k2 : (s.kind == 2) = false := by simp [qk]
   have k3 : (s.kind == 3) = false := by simp [qk]
   have k4 : (s.kind == 4) = false := by simp [qk]
   have HP1 := show Hid (i9 nv na (d + 1) s = (decide (0 ≤ s.target) && decide (s.target < (nv : Int)) && l0 nv na s.value)) from by rw [Hid, HD.out, if_pos (.inr qk)]
   clear qk
   have HP0 := show Hid (i9 nv na (d + 1) s = (decide (0 ≤ s.target) && decide (s.target < (nv : Int)) && l0 nv na s.value)) from HP1.out
   clear HP1
   by_cases t0 : 0 ≤ s.target
   case neg =>
    have p0 : decide (0 ≤ s.target) = false := decide_eq_false t0
    have HP : Hid (i9 nv na (d + 1) s = false) := by rw [Hid, HP0.out, p0]; rfl
    clear HP0 t0
    have c0 := M.c 1 0 rfl rfl
    have c1 := M.c 1 1 rfl rfl
    have c2 := M.c 1 2 rfl rfl
    have c3 := M.c 1 3 rfl rfl
    have c4 := M.c 1 4 rfl rfl
    have c5 := M.c 1 5 rfl rfl
    have c6 := M.c 1 6 rfl rfl
    have c7 := M.c 1 7 rfl rfl
    have c8 := M.c 1 8 rfl rfl
    have c9 := M.c 1 9 rfl rfl
    have c10 := M.c 1 10 rfl rfl
    have x0 := M.c 0 0 rfl rfl
    have x1 := M.c 0 1 rfl rfl
    have x2 := M.c 0 2 rfl rfl
    have HM := show Hid _ from M
    clear M
    go_wp2_with fail
    go_ret
    exact ⟨i6 (by rw [HP.out]), HM.out.below fun _ _ => trivial⟩
   have p0 : decide (0 ≤ s.target) = true := decide_eq_true t0
   by_cases t1 : s.target < (nv : Int)
   case neg =>
    have p1 : decide (s.target < (nv : Int)) = false := decide_eq_false t1
    have HP : Hid (i9 nv na (d + 1) s = false) := by rw [Hid, HP0.out, p0, p1]; rfl
    clear HP0 t0 t1
    have c0 := M.c 1 0 rfl rfl
    have c1 := M.c 1 1 rfl rfl
    have c2 := M.c 1 2 rfl rfl
    have c3 := M.c 1 3 rfl rfl
    have c4 := M.c 1 4 rfl rfl
    have c5 := M.c 1 5 rfl rfl
    have c6 := M.c 1 6 rfl rfl
    have c7 := M.c 1 7 rfl rfl
    have c8 := M.c 1 8 rfl rfl
    have c9 := M.c 1 9 rfl rfl
    have c10 := M.c 1 10 rfl rfl
    have x0 := M.c 0 0 rfl rfl
    have x1 := M.c 0 1 rfl rfl
    have x2 := M.c 0 2 rfl rfl
    have HM := show Hid _ from M
    clear M
    go_wp2_with fail
    go_ret
    exact ⟨i6 (by rw [HP.out]), HM.out.below fun _ _ => trivial⟩
   have p1 : decide (s.target < (nv : Int)) = true := decide_eq_true t1
   have HP1 := show Hid (i9 nv na (d + 1) s = (l0 nv na s.value)) from by rw [Hid, HP0.out, p0, p1]; rfl
   clear HP0 t0 t1
   have HP0 := show Hid (i9 nv na (d + 1) s = (l0 nv na s.value)) from HP1.out
   clear HP1
   have c0 := M.c 1 0 rfl rfl
   have c1 := M.c 1 1 rfl rfl
   have c2 := M.c 1 2 rfl rfl
   have c3 := M.c 1 3 rfl rfl
   have c4 := M.c 1 4 rfl rfl
   have c5 := M.c 1 5 rfl rfl
   have c6 := M.c 1 6 rfl rfl
   have c7 := M.c 1 7 rfl rfl
   have c8 := M.c 1 8 rfl rfl
   have c9 := M.c 1 9 rfl rfl
   have c10 := M.c 1 10 rfl rfl
   have x0 := M.c 0 0 rfl rfl
   have x1 := M.c 0 1 rfl rfl
   have x2 := M.c 0 2 rfl rfl
   have HM := show Hid _ from M
   clear M
   go_wp2_with fail
   have M := HM.out
   clear HM c0 c1 c2 c3 c4 c5 c6 c7 c8 c9 c10 x0 x1 x2
   refine (L9 a1 a2 nv c1 na c2 v3 h1 h2 s.value φ _ _ (HG.out _ (M.below fun _ _ => trivial)).2.1).mono ?_
   rintro x w1 ⟨rfl, b1⟩
   replace M := M.call b1
   clear b1
   have HP : Hid (i9 nv na (d + 1) s = l0 nv na s.value) := HP0.out
   clear HP0
   have HM := show Hid _ from M
   clear M
   go_wp2_with fail
   go_ret
   exact ⟨i6 (by rw [HP.out]), HM.out.below fun _ _ => trivial⟩
  have qn5 := qk
  clear qk
  by_cases qk : s.kind = 2
  ·have k1 : (s.kind == 1) = false := by simp [qk]
   have k5 : (s.kind == 5) = false := by simp [qk]
   have k2 : (s.kind == 2) = true := by simp [qk]
   have k3 : (s.kind == 3) = false := by simp [qk]
   have k4 : (s.kind == 4) = false := by simp [qk]
   have HP1 := show Hid (i9 nv na (d + 1) s = (decide (0 ≤ s.target) && decide (s.target < (na : Int)) && l0 nv na s.index && F6 s.index && l0 nv na s.value)) from by rw [Hid, HD.out, if_neg (by omega), if_pos qk]
   clear qk
   have HP0 := show Hid (i9 nv na (d + 1) s = (decide (0 ≤ s.target) && decide (s.target < (na : Int)) && l0 nv na s.index && F6 s.index && l0 nv na s.value)) from HP1.out
   clear HP1
   by_cases t0 : 0 ≤ s.target
   case neg =>
    have p0 : decide (0 ≤ s.target) = false := decide_eq_false t0
    have HP : Hid (i9 nv na (d + 1) s = false) := by rw [Hid, HP0.out, p0]; rfl
    clear HP0 t0
    have c0 := M.c 1 0 rfl rfl
    have c1 := M.c 1 1 rfl rfl
    have c2 := M.c 1 2 rfl rfl
    have c3 := M.c 1 3 rfl rfl
    have c4 := M.c 1 4 rfl rfl
    have c5 := M.c 1 5 rfl rfl
    have c6 := M.c 1 6 rfl rfl
    have c7 := M.c 1 7 rfl rfl
    have c8 := M.c 1 8 rfl rfl
    have c9 := M.c 1 9 rfl rfl
    have c10 := M.c 1 10 rfl rfl
    have x0 := M.c 0 0 rfl rfl
    have x1 := M.c 0 1 rfl rfl
    have x2 := M.c 0 2 rfl rfl
    have HM := show Hid _ from M
    clear M
    go_wp2_with fail
    go_ret
    exact ⟨i6 (by rw [HP.out]), HM.out.below fun _ _ => trivial⟩
   have p0 : decide (0 ≤ s.target) = true := decide_eq_true t0
   by_cases t1 : s.target < (na : Int)
   case neg =>
    have p1 : decide (s.target < (na : Int)) = false := decide_eq_false t1
    have HP : Hid (i9 nv na (d + 1) s = false) := by rw [Hid, HP0.out, p0, p1]; rfl
    clear HP0 t0 t1
    have c0 := M.c 1 0 rfl rfl
    have c1 := M.c 1 1 rfl rfl
    have c2 := M.c 1 2 rfl rfl
    have c3 := M.c 1 3 rfl rfl
    have c4 := M.c 1 4 rfl rfl
    have c5 := M.c 1 5 rfl rfl
    have c6 := M.c 1 6 rfl rfl
    have c7 := M.c 1 7 rfl rfl
    have c8 := M.c 1 8 rfl rfl
    have c9 := M.c 1 9 rfl rfl
    have c10 := M.c 1 10 rfl rfl
    have x0 := M.c 0 0 rfl rfl
    have x1 := M.c 0 1 rfl rfl
    have x2 := M.c 0 2 rfl rfl
    have HM := show Hid _ from M
    clear M
    go_wp2_with fail
    go_ret
    exact ⟨i6 (by rw [HP.out]), HM.out.below fun _ _ => trivial⟩
   have p1 : decide (s.target < (na : Int)) = true := decide_eq_true t1
   have HP1 := show Hid (i9 nv na (d + 1) s = (l0 nv na s.index && F6 s.index && l0 nv na s.value)) from by rw [Hid, HP0.out, p0, p1]; rfl
   clear HP0 t0 t1
   have HP0 := show Hid (i9 nv na (d + 1) s = (l0 nv na s.index && F6 s.index && l0 nv na s.value)) from HP1.out
   clear HP1
   have c0 := M.c 1 0 rfl rfl
   have c1 := M.c 1 1 rfl rfl
   have c2 := M.c 1 2 rfl rfl
   have c3 := M.c 1 3 rfl rfl
   have c4 := M.c 1 4 rfl rfl
   have c5 := M.c 1 5 rfl rfl
   have c6 := M.c 1 6 rfl rfl
   have c7 := M.c 1 7 rfl rfl
   have c8 := M.c 1 8 rfl rfl
   have c9 := M.c 1 9 rfl rfl
   have c10 := M.c 1 10 rfl rfl
   have x0 := M.c 0 0 rfl rfl
   have x1 := M.c 0 1 rfl rfl
   have x2 := M.c 0 2 rfl rfl
   have HM := show Hid _ from M
   clear M
   go_wp2_with fail
   have M := HM.out
   clear HM c0 c1 c2 c3 c4 c5 c6 c7 c8 c9 c10 x0 x1 x2
   refine (L9 a1 a2 nv c1 na c2 v3 h1 h2 s.index φ _ _ (HG.out _ (M.below fun _ _ => trivial)).1).mono ?_
   rintro x w1 ⟨rfl, b1⟩
   replace M := M.call b1
   clear b1
   obtain ⟨b, hb⟩ : ∃ b, b = l0 nv na s.index := ⟨_, rfl⟩
   rw [← hb]
   have HB := show Hid _ from hb
   clear hb
   cases b
   ·have HP : Hid (i9 nv na (d + 1) s = false) := by rw [Hid, HP0.out, ← HB.out]; rfl
    clear HP0
    have c0 := M.c 1 0 rfl rfl
    have c1 := M.c 1 1 rfl rfl
    have c2 := M.c 1 2 rfl rfl
    have c3 := M.c 1 3 rfl rfl
    have c4 := M.c 1 4 rfl rfl
    have c5 := M.c 1 5 rfl rfl
    have c6 := M.c 1 6 rfl rfl
    have c7 := M.c 1 7 rfl rfl
    have c8 := M.c 1 8 rfl rfl
    have c9 := M.c 1 9 rfl rfl
    have c10 := M.c 1 10 rfl rfl
    have x0 := M.c 0 0 rfl rfl
    have x1 := M.c 0 1 rfl rfl
    have x2 := M.c 0 2 rfl rfl
    have HM := show Hid _ from M
    clear M
    go_wp2_with fail
    go_ret
    exact ⟨i6 (by rw [HP.out]), HM.out.below fun _ _ => trivial⟩
   ·have HP1 := show Hid (i9 nv na (d + 1) s = (F6 s.index && l0 nv na s.value)) from by rw [Hid, HP0.out, ← HB.out]; rfl
    clear HP0 HB
    have HP0 := show Hid (i9 nv na (d + 1) s = (F6 s.index && l0 nv na s.value)) from HP1.out
    clear HP1
    have c0 := M.c 1 0 rfl rfl
    have c1 := M.c 1 1 rfl rfl
    have c2 := M.c 1 2 rfl rfl
    have c3 := M.c 1 3 rfl rfl
    have c4 := M.c 1 4 rfl rfl
    have c5 := M.c 1 5 rfl rfl
    have c6 := M.c 1 6 rfl rfl
    have c7 := M.c 1 7 rfl rfl
    have c8 := M.c 1 8 rfl rfl
    have c9 := M.c 1 9 rfl rfl
    have c10 := M.c 1 10 rfl rfl
    have x0 := M.c 0 0 rfl rfl
    have x1 := M.c 0 1 rfl rfl
    have x2 := M.c 0 2 rfl rfl
    have HM := show Hid _ from M
    clear M
    go_wp2_with fail
    have M := HM.out
    clear HM c0 c1 c2 c3 c4 c5 c6 c7 c8 c9 c10 x0 x1 x2
    refine (aB5 _ _ _ _).mono ?_
    rintro x w1 ⟨rfl, b1⟩
    replace M := M.call b1
    clear b1
    rw [show (decide (s.index.kind = 1) || decide (s.index.kind = 2)) = F6 s.index from rfl]
    obtain ⟨b, hb⟩ : ∃ b, b = F6 s.index := ⟨_, rfl⟩
    rw [← hb]
    have HB := show Hid _ from hb
    clear hb
    cases b
    ·have HP : Hid (i9 nv na (d + 1) s = false) := by rw [Hid, HP0.out, ← HB.out]; rfl
     clear HP0
     have c0 := M.c 1 0 rfl rfl
     have c1 := M.c 1 1 rfl rfl
     have c2 := M.c 1 2 rfl rfl
     have c3 := M.c 1 3 rfl rfl
     have c4 := M.c 1 4 rfl rfl
     have c5 := M.c 1 5 rfl rfl
     have c6 := M.c 1 6 rfl rfl
     have c7 := M.c 1 7 rfl rfl
     have c8 := M.c 1 8 rfl rfl
     have c9 := M.c 1 9 rfl rfl
     have c10 := M.c 1 10 rfl rfl
     have x0 := M.c 0 0 rfl rfl
     have x1 := M.c 0 1 rfl rfl
     have x2 := M.c 0 2 rfl rfl
     have HM := show Hid _ from M
     clear M
     go_wp2_with fail
     go_ret
     exact ⟨i6 (by rw [HP.out]), HM.out.below fun _ _ => trivial⟩
    ·have HP1 := show Hid (i9 nv na (d + 1) s = (l0 nv na s.value)) from by rw [Hid, HP0.out, ← HB.out]; rfl
     clear HP0 HB
     have HP0 := show Hid (i9 nv na (d + 1) s = (l0 nv na s.value)) from HP1.out
     clear HP1
     have c0 := M.c 1 0 rfl rfl
     have c1 := M.c 1 1 rfl rfl
     have c2 := M.c 1 2 rfl rfl
     have c3 := M.c 1 3 rfl rfl
     have c4 := M.c 1 4 rfl rfl
     have c5 := M.c 1 5 rfl rfl
     have c6 := M.c 1 6 rfl rfl
     have c7 := M.c 1 7 rfl rfl
     have c8 := M.c 1 8 rfl rfl
     have c9 := M.c 1 9 rfl rfl
     have c10 := M.c 1 10 rfl rfl
     have x0 := M.c 0 0 rfl rfl
     have x1 := M.c 0 1 rfl rfl
     have x2 := M.c 0 2 rfl rfl
     have HM := show Hid _ from M
     clear M
     go_wp2_with fail
     have M := HM.out
     clear HM c0 c1 c2 c3 c4 c5 c6 c7 c8 c9 c10 x0 x1 x2
     refine (L9 a1 a2 nv c1 na c2 v3 h1 h2 s.value φ _ _ (HG.out _ (M.below fun _ _ => trivial)).2.1).mono ?_
     rintro x w1 ⟨rfl, b1⟩
     replace M := M.call b1
     clear b1
     have HP : Hid (i9 nv na (d + 1) s = l0 nv na s.value) := HP0.out
     clear HP0
     have HM := show Hid _ from M
     clear M
     go_wp2_with fail
     go_ret
     exact ⟨i6 (by rw [HP.out]), HM.out.below fun _ _ => trivial⟩
  have qn2 := qk
  clear qk
  by_cases qk : s.kind = 3
  ·have k1 : (s.kind == 1) = false := by simp [qk]
   have k5 : (s.kind == 5) = false := by simp [qk]
   have k2 : (s.kind == 2) = false := by simp [qk]
   have k3 : (s.kind == 3) = true := by simp [qk]
   have k4 : (s.kind == 4) = false := by simp [qk]
   have HP1 := show Hid (i9 nv na (d + 1) s = (l0 nv na s.value && s.body.all (i9 nv na d) && s.els.all (i9 nv na d))) from by rw [Hid, HD.out, if_neg (by omega), if_neg (by omega), if_pos qk]
   clear qk
   have HP0 := show Hid (i9 nv na (d + 1) s = (l0 nv na s.value && s.body.all (i9 nv na d) && s.els.all (i9 nv na d))) from HP1.out
   clear HP1
   have c0 := M.c 1 0 rfl rfl
   have c1 := M.c 1 1 rfl rfl
   have c2 := M.c 1 2 rfl rfl
   have c3 := M.c 1 3 rfl rfl
   have c4 := M.c 1 4 rfl rfl
   have c5 := M.c 1 5 rfl rfl
   have c6 := M.c 1 6 rfl rfl
   have c7 := M.c 1 7 rfl rfl
   have c8 := M.c 1 8 rfl rfl
   have c9 := M.c 1 9 rfl rfl
   have c10 := M.c 1 10 rfl rfl
   have x0 := M.c 0 0 rfl rfl
   have x1 := M.c 0 1 rfl rfl
   have x2 := M.c 0 2 rfl rfl
   have HM := show Hid _ from M
   clear M
   go_wp2_with fail
   have M := HM.out
   clear HM c0 c1 c2 c3 c4 c5 c6 c7 c8 c9 c10 x0 x1 x2
   refine (L9 a1 a2 nv c1 na c2 v3 h1 h2 s.value φ _ _ (HG.out _ (M.below fun _ _ => trivial)).2.1).mono ?_
   rintro x w1 ⟨rfl, b1⟩
   replace M := M.call b1
   clear b1
   obtain ⟨b, hb⟩ : ∃ b, b = l0 nv na s.value := ⟨_, rfl⟩
   rw [← hb]
   have HB := show Hid _ from hb
   clear hb
   cases b
   ·have HP : Hid (i9 nv na (d + 1) s = false) := by rw [Hid, HP0.out, ← HB.out]; rfl
    clear HP0
    have c0 := M.c 1 0 rfl rfl
    have c1 := M.c 1 1 rfl rfl
    have c2 := M.c 1 2 rfl rfl
    have c3 := M.c 1 3 rfl rfl
    have c4 := M.c 1 4 rfl rfl
    have c5 := M.c 1 5 rfl rfl
    have c6 := M.c 1 6 rfl rfl
    have c7 := M.c 1 7 rfl rfl
    have c8 := M.c 1 8 rfl rfl
    have c9 := M.c 1 9 rfl rfl
    have c10 := M.c 1 10 rfl rfl
    have x0 := M.c 0 0 rfl rfl
    have x1 := M.c 0 1 rfl rfl
    have x2 := M.c 0 2 rfl rfl
    have HM := show Hid _ from M
    clear M
    go_wp2_with fail
    go_ret
    exact ⟨i6 (by rw [HP.out]), HM.out.below fun _ _ => trivial⟩
   ·have HP1 := show Hid (i9 nv na (d + 1) s = (s.body.all (i9 nv na d) && s.els.all (i9 nv na d))) from by rw [Hid, HP0.out, ← HB.out]; rfl
    clear HP0 HB
    have HP0 := show Hid (i9 nv na (d + 1) s = (s.body.all (i9 nv na d) && s.els.all (i9 nv na d))) from HP1.out
    clear HP1
    have c0 := M.c 1 0 rfl rfl
    have c1 := M.c 1 1 rfl rfl
    have c2 := M.c 1 2 rfl rfl
    have c3 := M.c 1 3 rfl rfl
    have c4 := M.c 1 4 rfl rfl
    have c5 := M.c 1 5 rfl rfl
    have c6 := M.c 1 6 rfl rfl
    have c7 := M.c 1 7 rfl rfl
    have c8 := M.c 1 8 rfl rfl
    have c9 := M.c 1 9 rfl rfl
    have c10 := M.c 1 10 rfl rfl
    have x0 := M.c 0 0 rfl rfl
    have x1 := M.c 0 1 rfl rfl
    have x2 := M.c 0 2 rfl rfl
    have HM := show Hid _ from M
    clear M
    go_wp2_with fail
    have M := HM.out
    clear HM c0 c1 c2 c3 c4 c5 c6 c7 c8 c9 c10 x0 x1 x2
    refine (ag4 a1 a2 nv c1 na c2 v3 d (by omega) ih s.body φ _ _ (HG.out _ (M.below fun _ _ => trivial)).2.2.1).mono ?_
    rintro x w1 ⟨rfl, b1⟩
    replace M := M.call b1
    clear b1
    obtain ⟨b, hb⟩ : ∃ b, b = s.body.all (i9 nv na d) := ⟨_, rfl⟩
    rw [← hb]
    have HB := show Hid _ from hb
    clear hb
    cases b
    ·have HP : Hid (i9 nv na (d + 1) s = false) := by rw [Hid, HP0.out, ← HB.out]; rfl
     clear HP0
     have c0 := M.c 1 0 rfl rfl
     have c1 := M.c 1 1 rfl rfl
     have c2 := M.c 1 2 rfl rfl
     have c3 := M.c 1 3 rfl rfl
     have c4 := M.c 1 4 rfl rfl
     have c5 := M.c 1 5 rfl rfl
     have c6 := M.c 1 6 rfl rfl
     have c7 := M.c 1 7 rfl rfl
     have c8 := M.c 1 8 rfl rfl
     have c9 := M.c 1 9 rfl rfl
     have c10 := M.c 1 10 rfl rfl
     have x0 := M.c 0 0 rfl rfl
     have x1 := M.c 0 1 rfl rfl
     have x2 := M.c 0 2 rfl rfl
     have HM := show Hid _ from M
     clear M
     go_wp2_with fail
     go_ret
     exact ⟨i6 (by rw [HP.out]), HM.out.below fun _ _ => trivial⟩
    ·have HP1 := show Hid (i9 nv na (d + 1) s = (s.els.all (i9 nv na d))) from by rw [Hid, HP0.out, ← HB.out]; rfl
     clear HP0 HB
     have HP0 := show Hid (i9 nv na (d + 1) s = (s.els.all (i9 nv na d))) from HP1.out
     clear HP1
     have c0 := M.c 1 0 rfl rfl
     have c1 := M.c 1 1 rfl rfl
     have c2 := M.c 1 2 rfl rfl
     have c3 := M.c 1 3 rfl rfl
     have c4 := M.c 1 4 rfl rfl
     have c5 := M.c 1 5 rfl rfl
     have c6 := M.c 1 6 rfl rfl
     have c7 := M.c 1 7 rfl rfl
     have c8 := M.c 1 8 rfl rfl
     have c9 := M.c 1 9 rfl rfl
     have c10 := M.c 1 10 rfl rfl
     have x0 := M.c 0 0 rfl rfl
     have x1 := M.c 0 1 rfl rfl
     have x2 := M.c 0 2 rfl rfl
     have HM := show Hid _ from M
     clear M
     go_wp2_with fail
     have M := HM.out
     clear HM c0 c1 c2 c3 c4 c5 c6 c7 c8 c9 c10 x0 x1 x2
     refine (ag4 a1 a2 nv c1 na c2 v3 d (by omega) ih s.els φ _ _ (HG.out _ (M.below fun _ _ => trivial)).2.2.2).mono ?_
     rintro x w1 ⟨rfl, b1⟩
     replace M := M.call b1
     clear b1
     have HP : Hid (i9 nv na (d + 1) s = (s.els.all (i9 nv na d))) := HP0.out
     clear HP0
     have HM := show Hid _ from M
     clear M
     go_wp2_with fail
     go_ret
     exact ⟨i6 (by rw [HP.out]), HM.out.below fun _ _ => trivial⟩
  have qn3 := qk
  clear qk
  by_cases qk : s.kind = 4
  ·have k1 : (s.kind == 1) = false := by simp [qk]
   have k5 : (s.kind == 5) = false := by simp [qk]
   have k2 : (s.kind == 2) = false := by simp [qk]
   have k3 : (s.kind == 3) = false := by simp [qk]
   have k4 : (s.kind == 4) = true := by simp [qk]
   have HP1 := show Hid (i9 nv na (d + 1) s = ((s.body.all (i9 nv na d)))) from by rw [Hid, HD.out, if_neg (by omega), if_neg (by omega), if_neg (by omega), if_pos qk]
   clear qk
   have HP0 := show Hid (i9 nv na (d + 1) s = ((s.body.all (i9 nv na d)))) from HP1.out
   clear HP1
   have c0 := M.c 1 0 rfl rfl
   have c1 := M.c 1 1 rfl rfl
   have c2 := M.c 1 2 rfl rfl
   have c3 := M.c 1 3 rfl rfl
   have c4 := M.c 1 4 rfl rfl
   have c5 := M.c 1 5 rfl rfl
   have c6 := M.c 1 6 rfl rfl
   have c7 := M.c 1 7 rfl rfl
   have c8 := M.c 1 8 rfl rfl
   have c9 := M.c 1 9 rfl rfl
   have c10 := M.c 1 10 rfl rfl
   have x0 := M.c 0 0 rfl rfl
   have x1 := M.c 0 1 rfl rfl
   have x2 := M.c 0 2 rfl rfl
   have HM := show Hid _ from M
   clear M
   go_wp2_with fail
   have M := HM.out
   clear HM c0 c1 c2 c3 c4 c5 c6 c7 c8 c9 c10 x0 x1 x2
   refine (ag4 a1 a2 nv c1 na c2 v3 d (by omega) ih s.body φ _ _ (HG.out _ (M.below fun _ _ => trivial)).2.2.1).mono ?_
   rintro x w1 ⟨rfl, b1⟩
   replace M := M.call b1
   clear b1
   have HP : Hid (i9 nv na (d + 1) s = (s.body.all (i9 nv na d))) := HP0.out
   clear HP0
   have HM := show Hid _ from M
   clear M
   go_wp2_with fail
   go_ret
   exact ⟨i6 (by rw [HP.out]), HM.out.below fun _ _ => trivial⟩
  have HP : Hid (i9 nv na (d + 1) s = false) := by rw [Hid, HD.out, if_neg (by omega), if_neg qn2, if_neg qn3, if_neg qk]
  have k1 : (s.kind == 1) = false := by simp [qn1]
  have k5 : (s.kind == 5) = false := by simp [qn5]
  have k2 : (s.kind == 2) = false := by simp [qn2]
  have k3 : (s.kind == 3) = false := by simp [qn3]
  have k4 : (s.kind == 4) = false := by simp [qk]
  clear HD qn1 qn5 qn2 qn3 qk
  have c0 := M.c 1 0 rfl rfl
  have c1 := M.c 1 1 rfl rfl
  have c2 := M.c 1 2 rfl rfl
  have c3 := M.c 1 3 rfl rfl
  have c4 := M.c 1 4 rfl rfl
  have c5 := M.c 1 5 rfl rfl
  have c6 := M.c 1 6 rfl rfl
  have c7 := M.c 1 7 rfl rfl
  have c8 := M.c 1 8 rfl rfl
  have c9 := M.c 1 9 rfl rfl
  have c10 := M.c 1 10 rfl rfl
  have x0 := M.c 0 0 rfl rfl
  have x1 := M.c 0 1 rfl rfl
  have x2 := M.c 0 2 rfl rfl
  have HM := show Hid _ from M
  clear M
  go_wp2_with fail
  go_ret
  exact ⟨i6 (by rw [HP.out]), HM.out.below fun _ _ => trivial⟩
section
variable {P : Program} {f : FuncId}
theorem ac7 {args : List AV} {S : List It} {x : Value} (h : ∀ (φ : Nat → Prop) (w : World) (ρ : Nat → Value), (∀ i d, x6 S i = .dat d → RD w φ d (ρ i)) → Calls P f (AV.vals ρ args).toArray w fun e w' => e = .returned x ∧ Below w.heap.size w w') : m7.ok P (N1 f args S (.v x)) := by
 intro ι φ ψ w0 w F ρ M
 refine (h (FrF φ (t4 F ρ (x6 S))) w ρ fun i d hi => M.datAt hi).mono ?_
 rintro e w' ⟨rfl, hb⟩
 exact ⟨ρ, fun _ _ => rfl, rfl, M.call hb⟩
end
theorem am9 {w : World} {φ : Nat → Prop} {d : D} {v : Value} (h : RD w φ d v) : ∃ a cap, v = .slice a d.len cap ∧ d.len ≤ 9223372036854775807 := by
 obtain ⟨a, cap, h1, h2, h3, _⟩ := h.open
 unfold maxLen at h3
 exact ⟨a, cap, h1, by omega⟩
theorem D2 (l : Int) : m7.ok Tryz.prog (N1 192 [iA l] [] (bA (i5 l))) :=
 ac7 fun φ w ρ _ => (V9 l w).mono fun e w' h => ⟨h.1, h.2 ▸ Below.refl _ _⟩
theorem U5 (l : Int) : m7.ok Tryz.prog (N1 105 [iA l] [] (bA (i5 l))) :=
 ac7 fun φ w ρ _ => (O1 l w).mono fun e w' h => ⟨h.1, h.2 ▸ Below.refl _ _⟩
theorem A3 (n lo hi : Int) : m7.ok Tryz.prog (N1 101 [iA n, iA lo, iA hi] [] (bA (decide (lo ≤ n) && decide (n ≤ hi)))) :=
 ac7 fun φ w ρ _ => (w5 n lo hi w).mono fun e w' h => ⟨h.1, h.2 ▸ Below.refl _ _⟩
theorem az8 (p : f7) : m7.ok Tryz.prog (N1 129 [pA 0] (pS p) (bA (B6 p.vars p.arrays))) :=
 ac7 fun φ w ρ h => aW2 (ρ 0) (ρ 1) (ρ 2) _ _ w (z8.row (h 0 _ rfl)) (z8.row (h 1 _ rfl))
theorem aO5 (vs ars : List Int) : m7.ok Tryz.prog (N1 100 [.ref 0, .ref 1] [.dat (.ints vs), .dat (.ints ars)] (bA (B6 vs ars))) :=
 ac7 fun φ w ρ h => (ap6 (ρ 0) (ρ 1) _ _ w (z8.row (h 0 _ rfl)) (z8.row (h 1 _ rfl))).mono fun e w' h => ⟨h.1, h.2 ▸ Below.refl _ _⟩
theorem bu6 (p : f7) (e : d7) : m7.ok Tryz.prog (N1 233 [pA 0, eA e 3] (pS p ++ eS e) (bA (l0 p.vars.length p.arrays.length e))) :=
 ac7 fun φ w ρ h => by
  obtain ⟨a1, c1, h1, l1⟩ := am9 (h 0 _ rfl)
  obtain ⟨a2, c2, h2, l2⟩ := am9 (h 1 _ rfl)
  simp only [AV.vals, AV.val, h1, h2]
  exact L9 a1 a2 _ c1 _ c2 (ρ 2) l1 l2 e φ _ w ⟨_, rfl, h 3 _ rfl⟩
theorem W4 (p : f7) (e : d7) : m7.ok Tryz.prog (N1 227 [pA 0, eA e 3] (pS p ++ eS e) (bA (l0 p.vars.length p.arrays.length e))) :=
 ac7 fun φ w ρ h => by
  obtain ⟨a1, c1, h1, l1⟩ := am9 (h 0 _ rfl)
  obtain ⟨a2, c2, h2, l2⟩ := am9 (h 1 _ rfl)
  simp only [AV.vals, AV.val, h1, h2]
  exact bt0 a1 a2 _ c1 _ c2 (ρ 2) l1 l2 e φ _ w ⟨_, rfl, h 3 _ rfl⟩
theorem bu7 (p : f7) (ss : List b5) (n : Int) (hn : n = 5) : m7.ok Tryz.prog (N1 130 [pA 0, .ref 3, iA n] (pS p ++ [.dat (.stmts ss)]) (bA (S6 p.vars.length p.arrays.length 5 ss))) :=
 ac7 fun φ w ρ h => by
  subst hn
  obtain ⟨a1, c1, h1, l1⟩ := am9 (h 0 _ rfl)
  obtain ⟨a2, c2, h2, l2⟩ := am9 (h 1 _ rfl)
  simp only [AV.vals, AV.val, h1, h2]
  exact ag4 a1 a2 _ c1 _ c2 (ρ 2) 5 (by omega) (bs7 a1 a2 _ c1 _ c2 (ρ 2) l1 l2 5 (by omega)) ss φ _ w (h 3 _ rfl)
theorem aA0 (e : d7) : m7.ok Tryz.prog (N1 228 [eA e 0] (eS e) (bA (F6 e))) :=
 ac7 fun φ w ρ h => av0 e.kind e.value (ρ 0) w
mutual
theorem b00 : ∀ s : b5, nS s ≤ 1 + szS s
 | ⟨_, _, _, _, _, b, e⟩ => by
  have h1 := aL1 b
  have h2 := aL1 e
  simp only [nS, szS]; omega
theorem aL1 : ∀ ss : List b5, E9 ss ≤ p7 ss
 | [] => b94 _
 | s :: r => by
  have h1 := b00 s
  have h2 := aL1 r
  simp only [E9, p7]; omega
end
theorem ag2 (a b : List b5) : E9 (a ++ b) = E9 a + E9 b := by
 induction a with
 | nil => simp [E9]
 | cons x r ih => simp [E9, ih]; omega
theorem bs1 {ss : List b5} {k : Nat} (h : k < ss.length) : E9 (ss.take (k + 1)) = E9 (ss.take k) + nS ss[k] := by
 rw [n9 _ _ h, ag2]; simp [E9]
theorem a51 (ss : List b5) (k : Nat) : E9 (ss.take k) ≤ E9 ss := by
 have := ag2 (ss.take k) (ss.drop k)
 rw [List.take_append_drop] at this
 omega
theorem ak9 (s : b5) : nS s = 1 + E9 s.body + E9 s.els := by cases s; simp only [nS]; rfl
theorem af5 {nv na d : Nat} {s : b5} (h : i9 nv na (d + 1) s = true) : s.body.all (i9 nv na d) = true ∧ s.els.all (i9 nv na d) = true := by
 rw [i9, b85] at h
 obtain ⟨h1, h2⟩ := h
 unfold A7 at h1
 by_cases k3 : s.kind = 3
 ·rw [if_neg (by omega), if_neg (by omega), if_pos k3] at h2
  simp only [b85] at h2
  exact ⟨h2.1.2, h2.2⟩
 by_cases k4 : s.kind = 4
 ·rw [if_neg (by omega), if_neg (by omega), if_neg (by omega), if_pos k4] at h2
  rw [if_pos (.inr k4), if_pos k4] at h1
  simp only [b85, decide_eq_true_eq] at h1
  exact ⟨h2, by rw [ca3 h1.2.1.1.1.1]; rfl⟩
 ·rw [if_neg (by omega)] at h1
  simp only [b85, decide_eq_true_eq] at h1
  exact ⟨by rw [ca3 h1.1.1.1]; rfl, by rw [ca3 h1.1.1.2]; rfl⟩
theorem aS0 (s : b5) : p7 s.body ≤ szS s ∧ p7 s.els ≤ szS s := by
 rcases s with ⟨_, _, _, _, _, b, e⟩
 simp only [szS, b5.body, b5.els]
 omega
theorem a68 {nv na : Nat} : ∀ {ss : List b5}, (∀ s ∈ ss, i9 nv na 1 s = true) → E9 ss = ss.length
 | [], _ => rfl
 | s :: r, h => by
  have h1 := af5 (h s ca6)
  have key : ∀ l : List b5, l.all (i9 nv na 0) = true → l = [] := fun l hl => by
   cases l with
   | nil => rfl
   | cons a r => simp [i9] at hl
  have h2 := a68 (ss := r) fun x hx => h x (ca9 _ hx)
  rw [E9, ak9, key _ h1.1, key _ h1.2, h2]
  simp [E9]; omega
def r8 (x y : Int) : Int := IntKind.i64.wrap ((BitVec.ofInt (IntKind.bits .i64) x ||| BitVec.ofInt (IntKind.bits .i64) y).toNat : Int)
def ba9 (x y : Int) : Int := IntKind.i64.wrap ((BitVec.ofInt (IntKind.bits .i64) x &&& BitVec.ofInt (IntKind.bits .i64) y).toNat : Int)
def bb5 (x y : Int) : Int := IntKind.i64.wrap ((BitVec.ofInt (IntKind.bits .i64) x ^^^ BitVec.ofInt (IntKind.bits .i64) y).toNat : Int)
def anI (x y : Int) : Int := IntKind.i64.wrap ((BitVec.ofInt (IntKind.bits .i64) x &&& ~~~(BitVec.ofInt (IntKind.bits .i64) y)).toNat : Int)
theorem m7.dup {P : Program} {f : FuncId} {args args' : List AV} {S S' : List It} {d : D} {res : AV} {i : Nat} (hc : m7.ok P ⟨f, args, S ++ [.dat d], S' ++ [.dat d], res⟩) (hi : S[i]? = some (.dat d)) (hl : S'.length = S.length)
  (hS : S.all (fun x => al1 S.length x.ids) = true) (ha : ∀ ρ : Nat → Value, ρ S.length = ρ i → AV.vals ρ args = AV.vals ρ args') (hg : al1 S.length (AV.idsL args') = true) : m7.ok P ⟨f, args', S, S', res⟩ := by
 intro ι φ ψ w0 w F ρ M
 have hi' : x6 S i = .dat d := by simp [x6, hi]
 have hlt : i < S.length := (b96.1 hi).1
 have hinv : Inv (x6 S) ρ [S.length] := fun ρ' h j => by
  by_cases hj : j < S.length
  ·refine It.res_congr _ (fun k hk => h k ?_) (.inr (.inr (h j (by simp; omega))))
   have h1 := Q4 (b93.1 hS (S[j]) (ca5 hj)) k (by simpa [x6, b90, b89 hj] using hk)
   simp; omega
  ·rw [show x6 S j = .none by simp only [x6, b90, cb3 (Nat.le_of_not_lt hj)]; rfl]; rfl
 obtain ⟨ρ', h1, M1, h2⟩ := M.newDat (id := S.length) (by simp [x6]) hinv (M.datAt hi')
 have e : s7 (x6 S) [(S.length, .dat d)] = x6 (S ++ [.dat d]) := by
  funext j
  simp only [s7, x6, b90]
  by_cases hj : j = S.length
  ·subst hj; simp
  ·rw [if_neg hj]
   by_cases hj2 : j < S.length
   ·rw [cb9 hj2]
   ·rw [cb3 (by omega), cb3 (by simp; omega)]
 rw [e] at M1
 have hρ : ρ' i = ρ i := h1 i (by simp; omega)
 have ea : AV.vals ρ args' = AV.vals ρ' args := by
  rw [ha ρ' (by rw [← h2, hρ])]
  exact (AV.vals_congr _ fun k hk => by
   have := Q4 hg k hk
   exact h1 k (by simp; omega)).symm
 simp only
 rw [ea]
 refine (hc ι φ ψ w0 w F ρ' M1).mono ?_
 rintro x w' ⟨ρ2, g1, g2, M2⟩
 refine ⟨ρ2, fun k hk => ?_, g2, ?_⟩
 ·rw [g1 k (by simp; omega)]; exact h1 k (by simp; omega)
 ·refine M2.map (fun k => match k with | .inl i => some (.inl i) | .inr j => if j < S'.length then some (.inr j) else none) ?_ ?_
  ·intro k k' x h1 h2
   match k, k' with
   | .inl i, .inl i' => simp at h1 h2; rw [h1, h2]
   | .inl i, .inr j => simp at h1; subst h1; simp at h2
   | .inr j, .inl i => simp at h2; subst h2; simp at h1
   | .inr j, .inr j' => simp at h1 h2; rw [← h1.2] at h2; rw [Sum.inr.inj h2.2]
  ·intro k
   match k with
   | .inl i => exact .inl ⟨.inl i, rfl, rfl⟩
   | .inr j =>
    by_cases hj : j < S'.length
    ·refine .inl ⟨.inr j, by simp [hj], ?_⟩
     simp only [t4, x6, b90, cb9 hj]
    ·refine .inr ?_
     simp only [t4, x6, b90, cb3 (Nat.le_of_not_lt hj)]
     rfl
end Go.Proofs.YthikdkjjdeehoaaGreat

namespace Go.Proofs.YthikdkjjdeehoaaGreat
set_option linter.unusedVariables false
set_option linter.unusedSimpArgs false
open Go Go.RowKit
end Go.Proofs.YthikdkjjdeehoaaGreat

namespace Go.Proofs.YthikdkjjdeehoaaGreat
set_option linter.unusedVariables false
set_option linter.unusedSimpArgs false
open Go Go.RowKit
section
variable {P : Program} {ι κ : Type} {φ ψ : Nat → Prop} {w0 w w' : World} {F : ι → Rs} {ρ ρ0 : Nat → Value}
theorem n6.grow {L L' : κ → Rs} (M : n6 φ ψ w0 w L) (hb : Below w.heap.size w w') (K : κ → Prop) (ho : ∀ k, ¬ K k → L' k = L k) (hg : ∀ k, K k → ∀ b, (L' k).blk b → w.heap.size ≤ b) (hd : ∀ j k b, j ≠ k → K j → K k → (L' j).blk b → ¬ (L' k).blk b) (h : ∀ k, K k → (L' k).holds w' (FrF φ L')) : n6 φ ψ w0 w' L' := by
 have M1 := M.call hb
 have old : ∀ k, ¬ K k → ∀ b, (L' k).blk b → b < w.heap.size := fun k hk b h1 => by rw [ho k hk] at h1; exact M.lt h1
 refine ⟨M1.kept, M.fresh, fun k => ?_, fun i j g hij h1 h2 => ?_, fun i b h1 => ?_, fun i b h1 => ?_⟩
 ·by_cases e : K k
  ·exact h k e
  ·rw [ho k e]
   refine Rs.keep (M.holds k) ⟨hb.size, fun b hl hf => ⟨⟨hf.1, fun j hj => ?_⟩, hb.block b hl⟩⟩ fun g hgx => hb.block g (M.lt hgx)
   by_cases e2 : K j
   ·have := hg j e2 b hj; omega
   ·rw [ho j e2] at hj; exact hf.2 j hj
 ·by_cases e1 : K i <;> by_cases e2 : K j
  ·exact hd i j g hij e1 e2 h1 h2
  ·have := hg i e1 g h1; have := old j e2 g h2; omega
  ·have := hg j e2 g h2; have := old i e1 g h1; omega
  ·rw [ho i e1] at h1; rw [ho j e2] at h2; exact M.dis i j g hij h1 h2
 ·by_cases e : K i
  ·exact .inl (cb5 M.size (hg i e b h1))
  ·rw [ho i e] at h1; exact M.ge i b h1
 ·by_cases e : K i
  ·exact M.fresh b (cb5 M.size (hg i e b h1))
  ·rw [ho i e] at h1; exact M.ph i b h1
end
abbrev oP (p : f7) : List It := [.row 3 (.ints p.vars), .row 3 (.ints p.arrays), .tree (.stmts p.body)]
abbrev oA (r : Nat) : AV := .agg [.ref r, .ref (r + 1), .tref (r + 2)]
theorem br0 {w : World} {φ : Nat → Prop} {v : Value} {l : List Int} (h : w.ownsRow 0 3 1 v l.length (ints l)) : (Rs.row 3 (D.ints l).sz v (D.ints l).len fun xs w φ => RW w φ (.ints l) xs).holds w φ := by
 refine ⟨fun xs => RW.nice (.ints l) xs, ints l, h, fun i hi j x hx => ?_⟩
 have hi' : i < l.length := hi
 simp only [D.elem] at hx
 have hj : j = 0 := by
  cases j with
  | zero => rfl
  | succ j => simp at hx
 subst hj
 simp at hx
 subst hx
 refine ⟨_, ?_, rfl⟩
 simp only [D.sz]
 rw [Nat.mul_one, cc8]
 simp [ints, hi']
theorem bg9 (v : Value) (t : List Int) (w : World) (h : N3 w v t.length 1 (ints t)) (hb : t.length ≤ 1000000000000) :
  Calls Tryz.prog 70 #[v] w fun e w' => ∃ u, e = .returned u ∧ I8 w' w.heap.size w'.heap.size 3 1 u t.length (ints t) ∧ Below w.heap.size w w' := by
 obtain ⟨a, cap, rfl, hc1, hc2, hc3, -⟩ := h.open
 have hnil := fun w => Lib.run_eql_slice_nil (P := Tryz.prog) w 23 3 a t.length cap 0 0 Tryz.underlying23
 rcases a with _ | a
 ·have hn : t.length = 0 := by
   rcases Nat.eq_zero_or_pos t.length with h0 | h0
   ·exact h0
   ·obtain ⟨_, a, c, he, _, _, hx⟩ := h
    cases he
    obtain ⟨_, _, he, _⟩ := hx h0
    cases he
  have ht : t = [] := ca3 hn
  subst ht
  simp only [b86, Option.isNone_none] at hnil
  go_enter Tryz.func70, Tryz.ntmps70
  go_wp2_with fail
  go_ret
  exact ⟨_, rfl, ⟨World.ownsRow_nil _ _ _ _, fun g hg => by cases hg⟩, Below.refl _ _⟩
 ·go_enter Tryz.func70, Tryz.ntmps70
  simp only [Option.isNone_some] at hnil
  have ba := (Below.refl w.heap.size w).alloc (b94 _) (.cells #[] 3)
  go_wp2_with (at_builtin; refine Y9 rfl _ _ rfl Tryz.underlying23 bn3 rfl (by omega) rfl (Q3 w #[] 0 1 _ rfl rfl (by omega)).1 rfl (h.below ba) bD0 (by omega) (by omega) (by simp) ?_; rintro a4 q4 w4 o4 b4 - -)
  go_ret
  refine ⟨_, rfl, I8.mk' (by simpa using o4), ba.trans b4⟩
theorem aC5 (l : List Int) (hb : l.length ≤ 1000000000000) : m7.ok Tryz.prog ⟨70, [.ref 0], [.dat (.ints l)], [.dat (.ints l), .row 3 (.ints l)], .ref 1⟩ := by
 intro ι φ ψ w0 w F ρ M
 have hr := M.datAt (id := 0) (d := .ints l) rfl
 refine (bg9 (ρ 0) l w (z8.row hr) hb).mono ?_
 rintro e w' ⟨u, rfl, ⟨ho, hg⟩, hbl⟩
 refine ⟨fun i => if i = 1 then u else ρ i, fun i hi => if_neg (show ¬ i = 1 by have : i < 1 := hi; omega), by simp [AV.val], ?_⟩
 refine M.grow hbl (fun k => k = .inr 1) (fun k hk => ?_) ?_ ?_ ?_
 ·cases k with
  | inl i => rfl
  | inr j =>
   match j, hk with
   | 0, _ => rfl
   | 1, h => exact absurd rfl h
   | j + 2, _ => rfl
 ·rintro k rfl b hb; exact (World.ownsRow.lt ho b hb).1
 ·rintro j k b hjk rfl rfl; exact absurd rfl hjk
 ·rintro k rfl; exact br0 (M5 ho (cb1 _))
theorem J1 (e : d7) : m7.ok Tryz.prog ⟨229, [.agg [.v (.int .i64 e.kind), .v (.int .i64 e.value), .ref 0]], [.dat (.exprs e.kids)], [.dat (.exprs e.kids)], .v (.bool (noneB e))⟩ := by
  refine H8 17 Tryz.func229 [dE e.kids] [(0, eA e 0)] fun G => ?_; refine wp_seq (m5 G i7 [0, 1] [dE e.kids, .box (eL e 0)] [(1, .ptr 1 0), (2, bA false)] fun G => b0 (wp_seq ?_)); cases h0 : (e.kind == 0)
  · have q0 := ne_of_beq_false h0; refine m5 G (X3 (fc h0 (fc (b := false) rfl fz)) (us [(4, 6, 0), (1007, 1007, 0), (9, 12, 1), (1013, 1013, 1)])) [0] [dE e.kids] [(2, bA false)] fun G => b0 (wp_ret ?_); exact H6 false G [0] (by rw [Bool.eq_iff_iff]; simp [noneB, h0, q0]; done)
  ·
   have q0 := eq_of_beq h0; cases h1 : (e.value == 0)
   · have q1 := ne_of_beq_false h1; refine m5 G (X3 (fc h0 (fc h1 fz)) (us [(4, 6, 0), (1007, 1007, 0), (9, 12, 1), (1013, 1013, 1)])) [0] [dE e.kids] [(2, bA false)] fun G => b0 (wp_ret ?_); exact H6 false G [0] (by rw [Bool.eq_iff_iff]; simp [noneB, h0, q0, h1, q1]; done)
   · have q1 := eq_of_beq h1; refine m5 G (X3 (fc h0 (fc h1 fz)) (us [(4, 6, 0), (1007, 1007, 0), (9, 12, 1), (1013, 1013, 1)])) [0] [dE e.kids] [(2, bA ((e.kids.length : Int) == 0))] fun G => b0 (wp_ret ?_); exact H6 ((e.kids.length : Int) == 0) G [0] (by rw [Bool.eq_iff_iff]; simp [noneB, h0, q0, h1, q1]; done)
theorem bu8 (k : Int) : m7.ok Tryz.prog ⟨261, [.v (.int .i64 k)], [], [], .v (.int .i64 (o0 k))⟩ := by
  refine H8 23 Tryz.func261 [] [(0, iA k)] fun G => ?_; refine wp_seq (l8 G i7 [(2, iA 0)] fun G => b0 (wp_seq (wp_block (wp_seq ?_)))); cases h0 : (k == 1)
  ·
   have q0 := ne_of_beq_false h0; refine l8 G (X3 (fc h0 fz) [(3, 0), (4, 0), (1005, 0)]) [(3, bA (k == 2))] fun G => b0 (T1 G (fun h1 q1 => ?_) fun h1 q1 => ?_)
   ·
    refine wp_seq (l8 G i7 [(10, bA (k == 3))] fun G => b0 (T1 G (fun h2 q2 => ?_) fun h2 q2 => ?_))
    ·
     refine wp_seq ?_; cases h3 : (decide (k ≥ 4))
     ·
      have q3 := dFf h3; refine l8 G (X3 (fc h3 fz) [(3, 0), (4, 0), (1005, 0)]) [(13, bA false)] fun G => b0 (rF G false (by kernel_rfl) (wp_seq (K8 G i7 [(2, iA 0), (20, bA (k == 11))] fun G => b0 ?_))); cases h4 : (k == 11)
      · have q4 := ne_of_beq_false h4; refine rF G _ h4 (wp_skip (r7 (b0 (wp_seq (l8 G i7 [(2, iA (-1))] fun G => b0 (wp_ret ?_)))))); exact P7 (-1) G [] (by unfold o0; (repeat' split) <;> omega)
      · have q4 := eq_of_beq h4; exact False.elim (by omega)
     ·
      have q3 := dTt h3; refine l8 G (X3 (fc h3 fz) [(3, 0), (4, 0), (1005, 0)]) [(13, bA (decide (k ≤ 10)))] fun G => b0 (rcD G (fun h5 q5 => ?_) fun h5 q5 => ?_)
      ·
       refine wp_seq (l8 G i7 [(20, bA (k == 11))] fun G => b0 (T1 G (fun h6 q6 => ?_) fun h6 q6 => ?_))
       · refine wp_skip (r7 (b0 (wp_seq (l8 G i7 [(2, iA (-1))] fun G => b0 (wp_ret ?_))))); exact P7 (-1) G [] (by unfold o0; (repeat' split) <;> omega)
       · refine wp_seq (l8 G i7 [(2, iA 3)] fun G => b0 (wp_ret (B7 (m8 ?_)))); exact P7 3 G [] (by unfold o0; (repeat' split) <;> omega)
      · refine wp_seq (l8 G i7 [(2, iA 2)] fun G => b0 (wp_ret (B7 (m8 ?_)))); exact P7 2 G [] (by unfold o0; (repeat' split) <;> omega)
    · refine wp_seq (l8 G i7 [(2, iA 1)] fun G => b0 (wp_ret (B7 (m8 ?_)))); exact P7 1 G [] (by unfold o0; (repeat' split) <;> omega)
   · refine wp_seq (l8 G i7 [] fun G => b0 (wp_ret (B7 (m8 ?_)))); exact P7 0 G [] (by unfold o0; (repeat' split) <;> omega)
  · have q0 := eq_of_beq h0; refine l8 G (X3 (fc h0 fz) [(3, 0), (4, 0), (1005, 0)]) [(3, bA true)] fun G => b0 (rT G true (by kernel_rfl) (wp_seq (l8 G i7 [] fun G => b0 (wp_ret (B7 (m8 ?_)))))); exact P7 0 G [] (by unfold o0; (repeat' split) <;> omega)
section
variable {nv na d : Nat} {e : d7}
end
def E1 : Nat → List b5 → Nat
 | 0, ss => ss.length
 | d + 1, ss => ss.length + (ss.map fun s => E1 d s.body + E1 d s.els).sum
def szP (d : Nat) (ss : List b5) (k : Nat) : Nat := ss.length + ((ss.take k).map fun s => E1 d s.body + E1 d s.els).sum
theorem bI4 (d : Nat) (ss : List b5) {k : Nat} (h : ss.length ≤ k) : szP d ss k = E1 (d + 1) ss := by unfold szP; rw [b98 h, E1]
theorem I9 {d : Nat} {ss : List b5} {k : Nat} (h : k < ss.length) : szP d ss (k + 1) = szP d ss k + (E1 d (ss.getD k b81).body + E1 d (ss.getD k b81).els) := by
 unfold szP
 rw [D4 ss k h, List.map_append, List.sum_append, p6 h]
 simp; omega
theorem by1 : ∀ (d : Nat) (ss : List b5), E1 d ss ≤ p7 ss := by
 intro d
 induction d with
 | zero => intro ss; exact Z1 ss
 | succ d ih =>
  intro ss
  induction ss with
  | nil => simp [E1]
  | cons s r ihr =>
   have h1 := ih s.body
   have h2 := ih s.els
   have h3 := aS0 s
   simp only [E1, cc2, List.sum_cons, b84, p7] at ihr ⊢
   have h4 : p7 s.body + p7 s.els ≤ szS s := by
    rcases s with ⟨_, _, _, _, _, b, e⟩
    simp only [szS, b5.body, b5.els]; omega
   omega
theorem V8 {d : Nat} {ss : List b5} {k : Nat} : szP d ss k ≤ p7 ss := by
 refine cb5 ?_ (by1 (d + 1) ss)
 unfold szP
 rw [E1]
 have : ∀ (l : List Nat) (k : Nat), (l.take k).sum ≤ l.sum := fun l k => by
  have := List.sum_append (l₁ := l.take k) (l₂ := l.drop k)
  rw [List.take_append_drop] at this; omega
 have h := this (ss.map fun s => E1 d s.body + E1 d s.els) k
 rw [← List.map_take] at h
 omega
theorem bp6 {ss : List b5} {k B : Nat} (h : p7 ss ≤ B) (hk : k < ss.length) : p7 (ss.getD k b81).body ≤ B ∧ p7 (ss.getD k b81).els ≤ B := by
 rw [p6 hk]
 have h1 := ab1 (ca5 hk)
 have h2 := aS0 ss[k]
 omega
theorem bu5 (ss : List b5) (n : Int) (hn : n = 1) (hb : p7 ss ≤ 1048576) : m7.ok Tryz.prog (N1 131 [.ref 0, iA n] [.dat (.stmts ss)] (iA (E1 0 ss : Nat))) := by
 have h100 : decide (n > 1) = false := by simp; omega
 refine H8 39 Tryz.func131 [dT ss] [(0, .ref 0), (1, iA n)] fun G => ?_; refine wp_seq (l8 G i7 [(4, iA 0)] fun G => b0 (wp_seq (l8 G i7 [(5, iA (ss.length : Int))] fun G => b0 (wp_seq (wp_seq (K8 G i7 [(0, .ref 0), (1, iA n), (4, iA 0), (5, iA (ss.length : Int)), (6, iA 0)] fun G => b0 (wp_block ?_))))))); refine y9 (κ := Nat) (fun k => k = 0) (fun k => 0) (fun k => [dT ss]) (fun k => [(0, .ref 0), (1, iA n), (4, iA 0), (5, iA (ss.length : Nat)), (6, iA k)]) 0 (by kernel_rfl) (x8.at G _ _) ?_; clear G; intro k ρ a w hp G; replace G := x8.at G [dT ss] [(0, .ref 0), (1, iA n), (4, iA 0), (5, iA (ss.length : Int)), (6, iA k)]; refine wp_seq (wp_seq ?_); cases h0 : (decide ((k : Int) < ss.length))
 ·have q0 := dFf h0; refine l8 G (X3 (fc h0 fz) [(5, 0), (6, 0), (1007, 0)]) [(16, bA false)] fun G => b0 (rF G false (by kernel_rfl) (wp_exit (y7 (y7 (y6 (b0 (wp_seq (l8 G i7 [(4, iA (ss.length : Int))] fun G => b0 (wp_ret ?_))))))))); exact Q9 G [0]
 ·have q0 := dTt h0; refine l8 G (X3 (fc h0 fz) [(5, 0), (6, 0), (1007, 0)]) [(16, bA (decide (n > 1)))] fun G => b0 (rF G (decide (n > 1)) (by assumption) (wp_exit (y7 (y7 (y6 (b0 (wp_seq (l8 G i7 [(4, iA (ss.length : Int))] fun G => b0 (wp_ret ?_))))))))); exact Q9 G [0]
theorem bu3 (d : Nat) (hd : d ≤ 5) (ih : ∀ (ss : List b5) (n : Int), n = (d + 1 : Nat) → p7 ss ≤ 1048576 → m7.ok Tryz.prog (N1 131 [.ref 0, iA n] [.dat (.stmts ss)] (iA (E1 d ss : Nat))))
  (ss : List b5) (n : Int) (hn : n = (d + 2 : Nat)) (hb : p7 ss ≤ 1048576) : m7.ok Tryz.prog (N1 131 [.ref 0, iA n] [.dat (.stmts ss)] (iA (E1 (d + 1) ss : Nat))) := by
 have h100 : decide (n > 1) = true := by simp; omega
 refine H8 39 Tryz.func131 [dT ss] [(0, .ref 0), (1, iA n)] fun G => ?_; refine wp_seq (l8 G i7 [(4, iA 0)] fun G => b0 (wp_seq (l8 G i7 [(5, iA (ss.length : Int))] fun G => b0 (wp_seq (wp_seq (K8 G i7 [(0, .ref 0), (1, iA n), (4, iA 0), (5, iA (ss.length : Int)), (6, iA 0)] fun G => b0 (wp_block ?_))))))); refine y9 (κ := Nat) (fun k => k ≤ ss.length) (fun k => ss.length - k) (fun k => [dT ss]) (fun k => [(0, .ref 0), (1, iA n), (4, iA 0), (5, iA (szP d ss k : Nat)), (6, iA k)]) 0 (by simp [h100]) (x8.at G _ _) ?_; clear G; intro k ρ a w hp G; replace G := x8.at G [dT ss] [(0, .ref 0), (1, iA n), (4, iA 0), (5, iA ((szP d ss k) : Int)), (6, iA k)]; have hlen := Z1 ss; refine wp_seq (wp_seq ?_); cases h0 : (decide ((k : Int) < ss.length))
 ·have q0 := dFf h0; refine l8 G (X3 (fc h0 fz) [(5, 0), (6, 0), (1007, 0)]) [(16, bA false)] fun G => b0 (rF G false (by kernel_rfl) (wp_exit (y7 (y7 (y6 (b0 (wp_seq (l8 G i7 [(4, iA ((szP d ss k) : Int))] fun G => b0 (wp_ret ?_))))))))); exact P7 (((szP d ss k) : Int)) G [0] (by have h1 := bI4 d ss (k := k) (by omega); omega)
 ·have q0 := dTt h0; refine l8 G (X3 (fc h0 fz) [(5, 0), (6, 0), (1007, 0)]) [(16, bA (decide (n > 1)))] fun G => b0 (rT G (decide (n > 1)) (by assumption) (wp_skip (b0 (wp_seq (wp_block (aD2 G (B8 ⟨[(8, _, [41]), (17, _, [113])], [], []⟩ (b9 (ih ((ss.getD k b81).body) (n - 1) (by have h1 := I9 (d := d) (ss := ss) (k := k) (by omega); have h2 := V8 (d := d) (ss := ss) (k := k + 1); omega) ((bp6 hb (by omega)).1)) (b9 (ih ((ss.getD k b81).els) (n - 1) (by have h1 := I9 (d := d) (ss := ss) (k := k) (by omega); have h2 := V8 (d := d) (ss := ss) (k := k + 1); omega) ((bp6 hb (by omega)).2)) d8)) b91) [0, 0, 0, 6, 14, 30, 0, 64, 254, 511, 0, 0, 3072, 7168, 15360, 0, 32768, 130558, 262143, 524287] [(5, iA (((szP d ss k) : Int) + ((E1 d (ss.getD k b81).body) : Int) + ((E1 d (ss.getD k b81).els) : Int)))] (iX k k ss.length ((wO (n - 1)) :: ((wO (((szP d ss k) : Int) + ((E1 d (ss.getD k b81).body) : Int))) :: (iX k k ss.length ((wO (n - 1)) :: ((wO (((szP d ss k) : Int) + ((E1 d (ss.getD k b81).body) : Int) + ((E1 d (ss.getD k b81).els) : Int))) :: [])))))) (iK (by have h1 := I9 (d := d) (ss := ss) (k := k) (by omega); have h2 := V8 (d := d) (ss := ss) (k := k + 1); omega) ⟨(by have h1 := I9 (d := d) (ss := ss) (k := k) (by omega); have h2 := V8 (d := d) (ss := ss) (k := k + 1); exact w64 (by omega) (by omega)), ⟨(by have h1 := I9 (d := d) (ss := ss) (k := k) (by omega); have h2 := V8 (d := d) (ss := ss) (k := k + 1); exact w64 (by omega) (by omega)), (iK (by have h1 := I9 (d := d) (ss := ss) (k := k) (by omega); have h2 := V8 (d := d) (ss := ss) (k := k + 1); omega) ⟨(by have h1 := I9 (d := d) (ss := ss) (k := k) (by omega); have h2 := V8 (d := d) (ss := ss) (k := k + 1); exact w64 (by omega) (by omega)), ⟨(by have h1 := I9 (d := d) (ss := ss) (k := k) (by omega); have h2 := V8 (d := d) (ss := ss) (k := k + 1); exact w64 (by omega) (by omega)), b91⟩⟩)⟩⟩) fun G => r7 (b0 (K7 G i7 [(6, iA ((k : Int) + 1))] [wO ((k : Int) + 1)] ⟨(by have h1 := I9 (d := d) (ss := ss) (k := k) (by omega); have h2 := V8 (d := d) (ss := ss) (k := k + 1); exact w64 (by omega) (by omega)), b91⟩ fun G => b0 ?_)))))))); exact rxn G (k + 1) (by have h1 := I9 (d := d) (ss := ss) (k := k) (by omega); have h2 := V8 (d := d) (ss := ss) (k := k + 1); omega) (by have h1 := I9 (d := d) (ss := ss) (k := k) (by omega); have h2 := V8 (d := d) (ss := ss) (k := k + 1); omega) [0] (ht := by have e1 : (((szP d ss (k + 1)) : Int) : Int) = (((szP d ss k) : Int) + ((E1 d (ss.getD k b81).body) : Int) + ((E1 d (ss.getD k b81).els) : Int)) := (by have h1 := I9 (d := d) (ss := ss) (k := k) (by omega); have h2 := V8 (d := d) (ss := ss) (k := k + 1); omega); (first | rw [e1] | simp only [e1]) <;> rfl)
theorem bu4 : ∀ d, d ≤ 5 → ∀ (ss : List b5) (n : Int), n = (d + 1 : Nat) → p7 ss ≤ 1048576 → m7.ok Tryz.prog (N1 131 [.ref 0, iA n] [.dat (.stmts ss)] (iA (E1 d ss : Nat))) := by
 intro d
 induction d with
 | zero => intro _ ss n hn hb; exact bu5 ss n (by omega) hb
 | succ d ih => intro hd ss n hn hb; exact bu3 d (by omega) (fun ss n hn hb => ih (by omega) ss n hn hb) ss n (by omega) hb
theorem bG3 (ss : List b5) (n : Int) (hn : n = 5) (hb : p7 ss ≤ 1048576) : m7.ok Tryz.prog (N1 131 [.ref 0, iA n] [.dat (.stmts ss)] (iA (E1 4 ss : Nat))) :=
 bu4 4 (by omega) ss n (by omega) hb
theorem by2 {nv na : Nat} : ∀ (d : Nat) (ss : List b5), (∀ s ∈ ss, i9 nv na (d + 1) s = true) → E1 d ss = E9 ss := by
 intro d
 induction d with
 | zero => intro ss h; rw [a68 h]; rfl
 | succ d ih =>
  intro ss
  induction ss with
  | nil => intro _; rfl
  | cons s r ihr =>
   intro h
   have h1 := af5 (h s ca6)
   have h2 := ih s.body fun x hx => b93.1 h1.1 x hx
   have h3 := ih s.els fun x hx => b93.1 h1.2 x hx
   have h4 := ihr fun x hx => h x (ca9 _ hx)
   rw [E9, ak9, ← h2, ← h3, ← h4]
   simp [E1]; omega
theorem aB8 {p : f7} (h : B6 p.vars p.arrays = false) : n4 p = false := by simp [n4, h]
theorem a44 {p : f7} (h : S6 p.vars.length p.arrays.length 5 p.body = false) : n4 p = false := by simp [n4, h]
theorem bd8 {p : f7} (h1 : B6 p.vars p.arrays = true) (h2 : S6 p.vars.length p.arrays.length 5 p.body = true) : n4 p = decide ((E1 4 p.body : Int) ≤ 60) := by
 have h3 := by2 (nv := p.vars.length) (na := p.arrays.length) 4 p.body (fun x hx => b93.1 h2 x hx)
 rw [n4, h1, h2, h3]
 simp
 exact ⟨fun h => by omega, fun h => by omega⟩
theorem a96 (p : f7) (n : Int) (hn : n = 5) : m7.ok Tryz.prog (N1 130 [pA 0, .ref 2, iA n] (pS p) (bA (S6 p.vars.length p.arrays.length 5 p.body))) :=
 m7.dup (S := pS p) (S' := pS p) (d := .stmts p.body) (i := 2) (bu7 p p.body n hn) rfl rfl rfl (fun ρ h => by simp only [AV.vals, AV.val]; rw [show ρ 3 = ρ 2 from h]) rfl
theorem S5 (p : f7) (hb : p7 p.body ≤ 1048576) : m7.ok Tryz.prog (N1 62 [pA 0] (pS p) (bA (n4 p))) := by
  refine H8 17 Tryz.func62 [dI p.vars, dI p.arrays, dT p.body] [(0, pA 0)] fun G => ?_; refine wp_seq (m5 G i7 (rg 4) [dI p.vars, dI p.arrays, dT p.body, .box (pL 0)] [(1, .ptr 3 0), (2, bA false)] fun G => b0 (wp_seq ?_)); cases h0 : (B6 p.vars p.arrays)
  · refine m5 G (B8 ⟨[(1, _, [0, 1, 2])], [(B6 p.vars p.arrays, false), (false, false)], us [(3, 6, 0), (1007, 1007, 0), (9, 12, 1), (1013, 1013, 1)]⟩ (b9 (az8 p) d8) ⟨(by assumption), (by kernel_rfl), b91⟩) [0, 1, 2] [dI p.vars, dI p.arrays, dT p.body] [(2, bA false)] fun G => b0 (wp_ret ?_); exact H6 false G [0, 1, 2] (aB8 (by assumption))
  ·
   cases h1 : (S6 p.vars.length p.arrays.length (5 : Nat) p.body)
   · refine m5 G (B8 ⟨[(1, _, [0, 1, 2]), (6, _, [0, 1, 2])], [(B6 p.vars p.arrays, true), (S6 p.vars.length p.arrays.length (5 : Nat) p.body, false)], us [(3, 6, 0), (1007, 1007, 0), (9, 12, 1), (1013, 1013, 1)]⟩ (b9 (az8 p) (b9 (a96 p 5 (by kernel_rfl)) d8)) ⟨(by assumption), (by assumption), b91⟩) [0, 1, 2] [dI p.vars, dI p.arrays, dT p.body] [(2, bA false)] fun G => b0 (wp_ret ?_); exact H6 false G [0, 1, 2] (a44 (by assumption))
   · refine m5 G (B8 ⟨[(1, _, [0, 1, 2]), (6, _, [0, 1, 2]), (11, _, [2])], [(B6 p.vars p.arrays, true), (S6 p.vars.length p.arrays.length (5 : Nat) p.body, true)], us [(3, 6, 0), (1007, 1007, 0), (9, 12, 1), (1013, 1013, 1)]⟩ (b9 (az8 p) (b9 (a96 p 5 (by kernel_rfl)) (b9 (bG3 p.body 5 (by kernel_rfl) (by assumption)) d8))) ⟨(by assumption), (by assumption), b91⟩) [0, 1, 2] [dI p.vars, dI p.arrays, dT p.body] [(2, bA (decide (((E1 4 p.body) : Int) ≤ 60)))] fun G => b0 (wp_ret ?_); exact H6 (decide (((E1 4 p.body) : Int) ≤ 60)) G [0, 1, 2] (bd8 (by assumption) (by assumption))
def D5 (nv na : Nat) (s : b5) : Bool := A7 s &&
    (if s.kind = 1 ∨ s.kind = 5 then decide (0 ≤ s.target) && decide (s.target < nv) && l0 nv na s.value
     else if s.kind = 2 then decide (0 ≤ s.target) && decide (s.target < na) && l0 nv na s.index && F6 s.index && l0 nv na s.value
     else if s.kind = 3 then l0 nv na s.value
     else decide (s.kind = 4))
theorem O5 {nv na d : Nat} {s : b5} : i9 nv na (d + 1) s = (D5 nv na s && (s.body.all (i9 nv na d) && s.els.all (i9 nv na d))) := by
 rw [Bool.eq_iff_iff]
 constructor
 ·intro h
  have h1 := af5 h
  rw [h1.1, h1.2, Bool.and_true, Bool.and_true]
  rw [i9, b85] at h
  rw [D5, h.1, Bool.true_and]
  obtain ⟨-, h⟩ := h
  split at h
  ·rw [if_pos (by assumption)]; exact h
  split at h
  ·rw [if_neg (by assumption), if_pos (by assumption)]; exact h
  split at h
  ·rw [if_neg (by assumption), if_neg (by assumption), if_pos (by assumption)]
   simp only [b85] at h; exact h.1.1
  split at h
  ·rw [if_neg (by assumption), if_neg (by assumption), if_neg (by assumption)]; simp [*]
  ·simp at h
 ·intro h
  simp only [b85] at h
  obtain ⟨h, hb, he⟩ := h
  rw [D5, b85] at h
  obtain ⟨h0, h⟩ := h
  rw [i9, h0, Bool.true_and]
  split at h
  ·rw [if_pos (by assumption)]; exact h
  split at h
  ·rw [if_neg (by assumption), if_pos (by assumption)]; exact h
  split at h
  ·rw [if_neg (by assumption), if_neg (by assumption), if_pos (by assumption), h, hb, he]; rfl
  ·rw [if_neg (by assumption), if_neg (by assumption), if_neg (by assumption), if_pos (by simpa using h), hb]
def C3 (F : Nat → b5 → Bool × Nat) : Nat → List b5 → Bool × Nat
 | c, [] => (true, c)
 | c, s :: r => if (F c s).1 then C3 F (F c s).2 r else F c s
def x7 (nv na : Nat) : Nat → Nat → b5 → Bool × Nat
 | 0, c, _ => (false, c + 1)
 | d + 1, c, s => if 60 < c + 1 then (false, c + 1) else if D5 nv na s then
   (if (C3 (x7 nv na d) (c + 1) s.body).1 then C3 (x7 nv na d) (C3 (x7 nv na d) (c + 1) s.body).2 s.els else C3 (x7 nv na d) (c + 1) s.body)
   else (false, c + 1)
abbrev m0 (nv na d c : Nat) (ss : List b5) : Bool × Nat := C3 (x7 nv na d) c ss
theorem ag6 (F : Nat → b5 → Bool × Nat) : ∀ (a b : List b5) (c : Nat), C3 F c (a ++ b) = if (C3 F c a).1 then C3 F (C3 F c a).2 b else C3 F c a
 | [], b, c => by simp [C3]
 | x :: r, b, c => by
  simp only [List.cons_append, C3]
  by_cases h : (F c x).1 = true
  ·simp only [h, if_true]; exact ag6 F r b _
  ·simp [h]
theorem ar4 {F : Nat → b5 → Bool × Nat} {c k : Nat} {ss : List b5} (h : (C3 F c (ss.take k)).1 = true) (hk : k < ss.length) : C3 F c (ss.take (k + 1)) = F (C3 F c (ss.take k)).2 (ss.getD k b81) := by
 rw [n9 _ _ hk, ag6, if_pos h, p6 hk]
 simp only [C3]
 split
 ·rename_i h; exact Prod.ext h.symm rfl
 ·rfl
theorem aN1 {F : Nat → b5 → Bool × Nat} {c k : Nat} {ss : List b5} (h : (C3 F c (ss.take k)).1 = true) (hk : k < ss.length) (hf : (F (C3 F c (ss.take k)).2 (ss.getD k b81)).1 = false) : C3 F c ss = F (C3 F c (ss.take k)).2 (ss.getD k b81) := by
 conv => lhs; rw [← List.take_append_drop (k + 1) ss]
 rw [ag6, ar4 h hk, hf]
 rfl
theorem aN2 {F : Nat → b5 → Bool × Nat} {c k : Nat} {ss : List b5} (hk : ss.length ≤ k) : C3 F c (ss.take k) = C3 F c ss := by rw [b98 hk]
theorem av2 {F : Nat → b5 → Bool × Nat} (hF : ∀ c s, c ≤ 60 → (F c s).2 ≤ 61 ∧ ((F c s).1 = true → (F c s).2 ≤ 60)) : ∀ (ss : List b5) (c : Nat), c ≤ 60 → (C3 F c ss).2 ≤ 61 ∧ ((C3 F c ss).1 = true → (C3 F c ss).2 ≤ 60)
 | [], c, h => ⟨by simp only [C3]; omega, fun _ => by simp only [C3]; omega⟩
 | s :: r, c, h => by
  simp only [C3]
  by_cases h1 : (F c s).1 = true
  ·rw [if_pos h1]; exact av2 hF r _ ((hF c s h).2 h1)
  ·rw [if_neg h1]; exact hF c s h
theorem at7 {nv na : Nat} : ∀ (d c : Nat) (s : b5), c ≤ 60 → (x7 nv na d c s).2 ≤ 61 ∧ ((x7 nv na d c s).1 = true → (x7 nv na d c s).2 ≤ 60)
 | 0, c, s, h => by simp [x7]; omega
 | d + 1, c, s, h => by
  rw [x7]
  by_cases h1 : 60 < c + 1
  ·rw [if_pos h1]; simp; omega
  rw [if_neg h1]
  by_cases h2 : D5 nv na s = true
  ·rw [if_pos h2]
   have h3 := av2 (at7 (nv := nv) (na := na) d) s.body (c + 1) (by omega)
   by_cases h4 : (C3 (x7 nv na d) (c + 1) s.body).1 = true
   ·rw [if_pos h4]; exact av2 (at7 d) s.els _ (h3.2 h4)
   ·rw [if_neg h4]; exact h3
  ·rw [if_neg h2]; simp; omega
theorem T8 {nv na d c : Nat} {ss : List b5} (h : c ≤ 60) (h1 : (m0 nv na d c ss).1 = true) : (m0 nv na d c ss).2 ≤ 60 := (av2 (at7 d) ss c h).2 h1
section
variable {nv na d c : Nat} {s : b5}
theorem aq3 (h : 60 < c + 1) : x7 nv na d c s = (false, c + 1) := by cases d with
 | zero => rfl
 | succ d => rw [x7, if_pos h]
theorem l6 (h : D5 nv na s = false) : x7 nv na d c s = (false, c + 1) := by cases d with
 | zero => rfl
 | succ d => rw [x7, h]; simp
theorem E0 (h1 : c + 1 ≤ 60) (h : D5 nv na s = true) (h2 : (m0 nv na d (c + 1) s.body).1 = false) : x7 nv na (d + 1) c s = m0 nv na d (c + 1) s.body := by
 rw [x7, if_neg (by omega), if_pos h, if_neg (by simp [h2])]
theorem G8 (h1 : c + 1 ≤ 60) (h : D5 nv na s = true) (h2 : (m0 nv na d (c + 1) s.body).1 = true) : x7 nv na (d + 1) c s = m0 nv na d (m0 nv na d (c + 1) s.body).2 s.els := by
 rw [x7, if_neg (by omega), if_pos h, if_pos h2]
end
theorem av3 {nv na d : Nat} (hF : ∀ c s, c ≤ 60 → ((x7 nv na d c s).1 = (i9 nv na d s && decide (c + nS s ≤ 60))) ∧ ((x7 nv na d c s).1 = true → (x7 nv na d c s).2 = c + nS s)) : ∀ (ss : List b5) (c : Nat), c ≤ 60 → ((m0 nv na d c ss).1 = (ss.all (i9 nv na d) && decide (c + E9 ss ≤ 60))) ∧ ((m0 nv na d c ss).1 = true → (m0 nv na d c ss).2 = c + E9 ss)
 | [], c, h => by simp [C3, E9, h]
 | s :: r, c, h => by
  obtain ⟨h1, h2⟩ := hF c s h
  simp only [m0, C3]
  by_cases h3 : (x7 nv na d c s).1 = true
  ·rw [if_pos h3]
   have e := h2 h3
   have l := (at7 d c s h).2 h3
   obtain ⟨h4, h5⟩ := av3 hF r (x7 nv na d c s).2 l
   rw [h1, b85] at h3
   constructor
   ·rw [show C3 (x7 nv na d) (x7 nv na d c s).2 r = m0 nv na d (x7 nv na d c s).2 r from rfl, h4, List.all_cons, h3.1, Bool.true_and, e, E9, Nat.add_assoc]
   ·intro h6; rw [show C3 (x7 nv na d) (x7 nv na d c s).2 r = m0 nv na d (x7 nv na d c s).2 r from rfl, h5 h6, e, E9]; omega
  ·rw [if_neg h3]
   refine ⟨?_, fun h => absurd h h3⟩
   have h4 := h3
   rw [h1] at h4
   rw [Bool.eq_false_iff.2 h3, List.all_cons, E9]
   cases ha : i9 nv na d s
   ·simp
   ·rw [ha, Bool.true_and, decide_eq_true_eq] at h4
    rw [Bool.true_and, show decide (c + (nS s + E9 r) ≤ 60) = false from decide_eq_false (by omega), Bool.and_false]
theorem aJ0 {nv na : Nat} : ∀ (d c : Nat) (s : b5), c ≤ 60 → ((x7 nv na d c s).1 = (i9 nv na d s && decide (c + nS s ≤ 60))) ∧ ((x7 nv na d c s).1 = true → (x7 nv na d c s).2 = c + nS s)
 | 0, c, s, h => by simp [x7, i9]
 | d + 1, c, s, h => by
  have hs := ak9 s
  by_cases h1 : 60 < c + 1
  ·rw [aq3 h1, show decide (c + nS s ≤ 60) = false from decide_eq_false (by omega), Bool.and_false]; simp
  cases h2 : D5 nv na s
  ·rw [l6 h2, O5, h2]; simp
  obtain ⟨b1, b2⟩ := av3 (aJ0 (nv := nv) (na := na) d) s.body (c + 1) (by omega)
  rw [O5, h2, Bool.true_and]
  cases h3 : (m0 nv na d (c + 1) s.body).1
  ·rw [E0 (by omega) h2 h3, h3]
   refine ⟨?_, fun h => by simp at h⟩
   rw [h3] at b1
   cases h4 : s.body.all (i9 nv na d)
   ·simp
   ·rw [h4, Bool.true_and] at b1
    have := of_decide_eq_false b1.symm
    rw [show decide (c + nS s ≤ 60) = false from decide_eq_false (by omega), Bool.and_false]
  ·rw [G8 (by omega) h2 h3]
   have e := b2 h3
   have l := T8 (nv := nv) (na := na) (d := d) (c := c + 1) (by omega) h3
   obtain ⟨e1, e2⟩ := av3 (aJ0 (nv := nv) (na := na) d) s.els _ l
   rw [h3] at b1
   have b3 := b1.symm
   rw [b85] at b3
   rw [b3.1, Bool.true_and, e1, e]
   refine ⟨by rw [show c + 1 + E9 s.body + E9 s.els = c + nS s by omega], fun h => ?_⟩
   have h' : (m0 nv na d (m0 nv na d (c + 1) s.body).2 s.els).1 = true := by rw [e1, e]; exact h
   have := e2 h'
   rw [e] at this
   rw [this]; omega
theorem a27 {p : f7} (h : B6 p.vars p.arrays = true) : (m0 p.vars.length p.arrays.length 5 0 p.body).1 = n4 p := by
 rw [(av3 (aJ0 5) p.body 0 (by omega)).1, n4, h, Bool.true_and, S6]; simp
theorem bO4 (p : f7) (s : b5) (c : Nat) (hc : c ≤ 60) (n : Int) (hn : n = 6) : m7.ok Tryz.prog ⟨186, [pA 0, sA s 4, iA n, .ptr 3 0], pS p ++ [.box [iA c]] ++ sS s, pS p ++ [.box [iA (x7 p.vars.length p.arrays.length 0 c s).2]] ++ sS s, bA false⟩ := by
 have h100 : decide (n > 5) = true := by simp; omega
 refine H8 149 Tryz.func186 [dI p.vars, dI p.arrays, dT p.body, .box [iA c], dE s.index.kids, dE s.value.kids, dT s.body, dT s.els] [(0, pA 0), (1, sA s 4), (2, iA n), (3, .ptr 3 0)] fun G => ?_; refine wp_seq (m5 G i7 [0, 1, 2, 3, 4, 5, 6, 7, 8, 16] [dI p.vars, dI p.arrays, dT p.body, .box [iA c], dE s.index.kids, dE s.value.kids, dT s.body, dT s.els, .box (pL 0), .box (sL s 4)] [(2, iA n), (3, .ptr 3 0), (4, .ptr 8 0), (5, .ptr 9 0), (8, bA false)] fun G => b0 (wp_seq (U0 G i7 (rg 10) [dI p.vars, dI p.arrays, dT p.body, .box [iA ((c : Int) + 1)], dE s.index.kids, dE s.value.kids, dT s.body, dT s.els, .box (pL 0), .box (sL s 4)] [(2, iA n), (3, .ptr 3 0), (4, .ptr 8 0), (5, .ptr 9 0), (8, bA false)] [wO ((c : Int) + 1)] (o1 (by omega)) fun G => b0 (wp_seq (wp_seq ?_))))); cases h0 : (decide ((c : Int) + 1 > 60))
 ·have q0 := dFf h0; refine l8 G (X3 (fc h0 fz) [(5, 0), (6, 0), (1007, 0)]) [(27, bA (decide (n > 5)))] fun G => b0 (rT G (decide (n > 5)) (by assumption) (wp_seq (l8 G i7 [] fun G => b0 (wp_ret (m8 ?_))))); exact Q9 G (rg 8)
 ·have q0 := dTt h0; refine l8 G (X3 (fc h0 fz) [(5, 0), (6, 0), (1007, 0)]) [(27, bA true)] fun G => b0 (rT G true (by kernel_rfl) (wp_seq (l8 G i7 [] fun G => b0 (wp_ret (m8 ?_))))); exact Q9 G (rg 8)
abbrev bQ4 (p : f7) (d c : Nat) (s : b5) (n : Int) : m7 := ⟨186, [pA 0, sA s 4, iA n, .ptr 3 0], pS p ++ [.box [iA c]] ++ sS s, pS p ++ [.box [iA (x7 p.vars.length p.arrays.length d c s).2]] ++ sS s, bA (x7 p.vars.length p.arrays.length d c s).1⟩
abbrev bb9 (p : f7) (d c : Nat) (ss : List b5) (n : Int) : m7 := ⟨125, [pA 0, .ref 4, iA n, .ptr 3 0], pS p ++ [.box [iA c]] ++ [.dat (.stmts ss)], pS p ++ [.box [iA (m0 p.vars.length p.arrays.length d c ss).2]] ++ [.dat (.stmts ss)], bA (m0 p.vars.length p.arrays.length d c ss).1⟩
theorem a88 (p : f7) (d : Nat) (hd : d ≤ 5) (ih : ∀ (s : b5) (c : Nat) (n : Int), c ≤ 60 → n = 6 - (d : Int) → m7.ok Tryz.prog (bQ4 p d c s n))
    (ss : List b5) (c : Nat) (n : Int) (hc : c ≤ 60) (hn : n = 6 - (d : Int)) : m7.ok Tryz.prog (bb9 p d c ss n) := by
  refine H8 24 Tryz.func125 [dI p.vars, dI p.arrays, dT p.body, .box [iA c], dT ss] [(0, pA 0), (1, .ref 4), (2, iA n), (3, .ptr 3 0)] fun G => ?_; refine wp_seq (m5 G i7 (rg 6) [dI p.vars, dI p.arrays, dT p.body, .box [iA c], dT ss, .box (pL 0)] [(1, .ref 4), (2, iA n), (3, .ptr 3 0), (4, .ptr 5 0), (8, bA false)] fun G => b0 (wp_seq (wp_seq (K8 G i7 [(2, iA n), (3, .ptr 3 0), (4, .ptr 5 0), (8, bA false), (11, .ref 4), (12, iA (ss.length : Int)), (13, iA 0)] fun G => b0 (wp_block ?_))))); have hlen : ss.length ≤ 9223372036854775807 := G.len 4 (d := .stmts ss) (by kernel_rfl); refine y9 (κ := Nat) (fun k => k ≤ ss.length ∧ (m0 p.vars.length p.arrays.length d c (ss.take k)).1 = true) (fun k => ss.length - k) (fun k => [dI p.vars, dI p.arrays, dT p.body, .box [iA (m0 p.vars.length p.arrays.length d c (ss.take k)).2], dT ss, .box (pL 0)]) (fun k => [(2, iA n), (3, .ptr 3 0), (4, .ptr 5 0), (8, bA false), (11, .ref 4), (12, iA (ss.length : Int)), (13, iA k)]) 0 (by simp [m0, C3]; done) (x8.at G _ _) ?_; clear G; intro k ρ a w hp G; replace G := x8.at G [dI p.vars, dI p.arrays, dT p.body, .box [iA ((m0 p.vars.length p.arrays.length d c (b88 k ss)).snd : Int)], dT ss, .box (pL 0)] [(2, iA n), (3, .ptr 3 0), (4, .ptr 5 0), (8, bA false), (11, .ref 4), (12, iA (ss.length : Int)), (13, iA k)]; refine wp_seq (l8 G i7 [(14, bA (decide ((k : Int) < ss.length)))] fun G => b0 (wp_seq (rcD G (fun h0 q0 => ?_) fun h0 q0 => ?_)))
  · refine wp_exit (y7 (y7 (y6 (b0 (wp_seq (m5 G i7 (rg 5) [dI p.vars, dI p.arrays, dT p.body, .box [iA ((m0 p.vars.length p.arrays.length d c (b88 k ss)).snd : Int)], dT ss] [(8, bA true)] fun G => b0 (wp_ret ?_))))))); exact H6 true G (rg 5) (by rw [m0, ← aN2 (k := k) (by omega)]; exact hp.2) (by show _ = mR (rg 5) [dI p.vars, dI p.arrays, dT p.body, .box [iA ((m0 p.vars.length p.arrays.length d c ss).snd : Int)], dT ss]; have e1 : (((m0 p.vars.length p.arrays.length d c ss).snd : Int) : Int) = (((m0 p.vars.length p.arrays.length d c (b88 k ss)).snd : Int)) := (by rw [m0, ← aN2 (k := k) (by omega)]); (first | rw [e1] | simp only [e1]) <;> rfl)
  ·
   refine wp_skip (b0 (wp_seq (wp_block (wp_seq (U0 G i7 [0, 1, 2, 3, 4, 5, 14, 15, 16, 17, 22] [dI p.vars, dI p.arrays, dT p.body, .box [iA ((m0 p.vars.length p.arrays.length d c (b88 k ss)).snd : Int)], dT ss, .box (pL 0), dE (ss.getD k b81).index.kids, dE (ss.getD k b81).value.kids, dT (ss.getD k b81).body, dT (ss.getD k b81).els, .box (sL (ss.getD k b81) 6)] [(2, iA n), (3, .ptr 3 0), (4, .ptr 5 0), (8, bA false), (10, .ptr 10 0), (11, .ref 4), (12, iA (ss.length : Int)), (13, iA k)] (iX k k ss.length []) (iK (by have hp := hp; omega) b91) fun G => b0 (wp_seq (m5 G (t5 4 [0, 1, 2, 3, 6, 7, 8, 9] (ih (ss.getD k b81) ((m0 p.vars.length p.arrays.length d c (b88 k ss)).snd) n (T8 (by omega) hp.2) (by assumption))) (rg 6) [dI p.vars, dI p.arrays, dT p.body, .box [iA ((x7 p.vars.length p.arrays.length d (m0 p.vars.length p.arrays.length d c (b88 k ss)).snd (ss.getD k b81)).snd : Int)], dT ss, .box (pL 0)] [(2, iA n), (3, .ptr 3 0), (4, .ptr 5 0), (8, bA false), (11, .ref 4), (12, iA (ss.length : Int)), (13, iA k), (22, .v (.bool !(x7 p.vars.length p.arrays.length d (m0 p.vars.length p.arrays.length d c (b88 k ss)).snd (ss.getD k b81)).fst))] fun G => b0 ?_))))))); cases h1 : (!(x7 p.vars.length p.arrays.length d (m0 p.vars.length p.arrays.length d c (b88 k ss)).snd (ss.getD k b81)).fst)
   · have q1 : ((x7 p.vars.length p.arrays.length d (m0 p.vars.length p.arrays.length d c (b88 k ss)).snd (ss.getD k b81)).fst) = true := (Eq.mp (ca0 _) h1); refine rF G _ h1 (wp_skip (r7 (b0 (K7 G i7 [(13, iA ((k : Int) + 1))] [wO ((k : Int) + 1)] (o1 (by omega)) fun G => b0 ?_)))); exact rxn G (k + 1) (⟨by omega, by rw [m0, ar4 hp.2 (by omega)]; assumption⟩) (by have hp := hp; omega) (rg 6) (by have e1 : (((m0 p.vars.length p.arrays.length d c (b88 (k + 1) ss)).snd : Int) : Int) = (((x7 p.vars.length p.arrays.length d (m0 p.vars.length p.arrays.length d c (b88 k ss)).snd (ss.getD k b81)).snd : Int)) := (by rw [m0, ar4 hp.2 (by omega)]); (first | rw [e1] | simp only [e1]) <;> rfl)
   · have q1 : ((x7 p.vars.length p.arrays.length d (m0 p.vars.length p.arrays.length d c (b88 k ss)).snd (ss.getD k b81)).fst) = false := (Eq.mp (b99 _) h1); refine rT G _ h1 (wp_seq (l8 G i7 [] fun G => b0 (wp_ret (B7 (m8 (m8 (B7 (m8 ?_)))))))); exact H6 false G (rg 5) (by rw [m0, aN1 hp.2 (by omega) (by assumption)]; assumption) (by show _ = mR (rg 5) [dI p.vars, dI p.arrays, dT p.body, .box [iA ((m0 p.vars.length p.arrays.length d c ss).snd : Int)], dT ss]; have e1 : (((m0 p.vars.length p.arrays.length d c ss).snd : Int) : Int) = (((x7 p.vars.length p.arrays.length d (m0 p.vars.length p.arrays.length d c (b88 k ss)).snd (ss.getD k b81)).snd : Int)) := (by rw [m0, aN1 hp.2 (by omega) (by assumption)]); (first | rw [e1] | simp only [e1]) <;> rfl)
section
variable {nv na : Nat} {s : b5}
theorem C5 (k : s.kind = 1 ∨ s.kind = 5) : D5 nv na s = (decide (0 ≤ s.target ∧ s.target < nv ∧ s.body.length = 0 ∧ s.els.length = 0 ∧ s.count = 0) && (noneB s.index && l0 nv na s.value)) := by
 rw [D5, A7, if_pos k, if_neg (by omega), show decide (s.kind = 2) = false from decide_eq_false (by omega), Bool.eq_iff_iff]
 simp only [b85, decide_eq_true_eq, Bool.false_or]
 constructor
 ·rintro ⟨⟨⟨⟨a, b⟩, c⟩, d⟩, ⟨e, f⟩, g⟩; exact ⟨⟨e, f, a, b, c⟩, d, g⟩
 ·rintro ⟨⟨e, f, a, b, c⟩, d, g⟩; exact ⟨⟨⟨⟨a, b⟩, c⟩, d⟩, ⟨e, f⟩, g⟩
theorem N7 (k : s.kind = 2) : D5 nv na s = (decide (0 ≤ s.target ∧ s.target < na ∧ s.body.length = 0 ∧ s.els.length = 0 ∧ s.count = 0) && (l0 nv na s.index && (F6 s.index && l0 nv na s.value))) := by
 rw [D5, A7, if_neg (by omega), if_pos k, if_neg (by omega), show decide (s.kind = 2) = true from decide_eq_true k, Bool.eq_iff_iff]
 simp only [b85, decide_eq_true_eq, Bool.true_or]
 constructor
 ·rintro ⟨⟨⟨⟨a, b⟩, c⟩, -⟩, ⟨⟨⟨e, f⟩, i⟩, j⟩, g⟩; exact ⟨⟨e, f, a, b, c⟩, i, j, g⟩
 ·rintro ⟨⟨e, f, a, b, c⟩, i, j, g⟩; exact ⟨⟨⟨⟨a, b⟩, c⟩, b91⟩, ⟨⟨⟨e, f⟩, i⟩, j⟩, g⟩
theorem ae2 (k : s.kind = 3) : D5 nv na s = (decide (s.target = 0 ∧ s.count = 0) && (noneB s.index && l0 nv na s.value)) := by
 rw [D5, A7, if_pos (show s.kind = 3 ∨ s.kind = 4 from .inl k), if_neg (show ¬ s.kind = 4 by omega), if_neg (by omega), if_neg (by omega), if_pos k, Bool.eq_iff_iff]
 simp only [b85, decide_eq_true_eq]
 constructor
 ·rintro ⟨⟨a, b, c⟩, d⟩; exact ⟨⟨a, b⟩, c, d⟩
 ·rintro ⟨⟨a, b⟩, c, d⟩; exact ⟨⟨a, b, c⟩, d⟩
theorem ab7 (k : s.kind = 4) : D5 nv na s = (decide (s.target = 0 ∧ s.els.length = 0 ∧ 1 ≤ s.count ∧ s.count ≤ 3) && (noneB s.index && noneB s.value)) := by
 rw [D5, A7, if_pos (show s.kind = 3 ∨ s.kind = 4 from .inr k), if_pos k, if_neg (by omega), if_neg (by omega), if_neg (by omega), show decide (s.kind = 4) = true from decide_eq_true k, Bool.eq_iff_iff]
 simp only [b85, decide_eq_true_eq]
 constructor
 ·rintro ⟨⟨a, ⟨⟨⟨b, c⟩, d⟩, e⟩, f⟩, -⟩; exact ⟨⟨a, b, c, d⟩, e, f⟩
 ·rintro ⟨⟨a, b, c, d⟩, e, f⟩; exact ⟨⟨a, ⟨⟨⟨b, c⟩, d⟩, e⟩, f⟩, b91⟩
theorem V2 (k : ¬ s.kind = 1 ∧ ¬ s.kind = 2 ∧ ¬ s.kind = 3 ∧ ¬ s.kind = 4 ∧ ¬ s.kind = 5) : D5 nv na s = false := by
 rw [D5, if_neg (by omega), if_neg (by omega), if_neg (by omega), show decide (s.kind = 4) = false from decide_eq_false (by omega), Bool.and_false]
theorem X5 {p : Prop} [Decidable p] {a b : Bool} (hp : p) (ha : a = true) (hb : b = true) : (decide p && (a && b)) = true := by rw [ha, hb, decide_eq_true hp]; rfl
theorem a12 {p : Prop} [Decidable p] {a b c : Bool} (hp : p) (ha : a = true) (hb : b = true) (hc : c = true) : (decide p && (a && (b && c))) = true := by rw [ha, hb, hc, decide_eq_true hp]; rfl
end
abbrev ao9 (p : f7) (d : Nat) (s : b5) (c : Nat) := m0 p.vars.length p.arrays.length d (m0 p.vars.length p.arrays.length d (c + 1) s.body).snd s.els
abbrev ao8 (p : f7) (d : Nat) (s : b5) (c : Nat) := m0 p.vars.length p.arrays.length d (c + 1) s.body
abbrev n7 (p : f7) (d : Nat) (s : b5) (c : Nat) : List It := [dI p.vars, dI p.arrays, dT p.body, .box [iA ((x7 p.vars.length p.arrays.length (d + 1) c s).snd : Int)], dE s.index.kids, dE s.value.kids, dT s.body, dT s.els]
abbrev ad4 (s : b5) (r0 : List It) : List It := dE s.index.kids :: dE s.value.kids :: dT s.body :: dT s.els :: r0
abbrev ad3 (p : f7) (r0 : List It) : List It := dI p.vars :: dI p.arrays :: dT p.body :: r0
theorem bO3 (p : f7) (d : Nat) (hd : d ≤ 4) (ih : ∀ (ss : List b5) (c : Nat) (n : Int), c ≤ 60 → n = 6 - (d : Int) → m7.ok Tryz.prog (bb9 p d c ss n))
    (s : b5) (c : Nat) (n : Int) (hc : c ≤ 60) (hn : n = 5 - (d : Int)) : m7.ok Tryz.prog (bQ4 p (d + 1) c s n) := by
  have h100 : decide (n > 5) = false := by simp; omega
  refine H8 149 Tryz.func186 (ad3 p (.box [iA c] :: (ad4 s []))) [(0, pA 0), (1, sA s 4), (2, iA n), (3, .ptr 3 0)] fun G => ?_; have hl0 : p.vars.length ≤ 9223372036854775807 := G.len 0 (d := .ints p.vars) (by kernel_rfl); have hl1 : p.arrays.length ≤ 9223372036854775807 := G.len 1 (d := .ints p.arrays) (by kernel_rfl); refine wp_seq (m5 G i7 [0, 1, 2, 3, 4, 5, 6, 7, 8, 16] (ad3 p (.box [iA c] :: (ad4 s [.box (pL 0), .box (sL s 4)]))) [(2, iA n), (3, .ptr 3 0), (4, .ptr 8 0), (5, .ptr 9 0), (8, bA false)] fun G => b0 (wp_seq (U0 G i7 (rg 10) (ad3 p (.box [iA ((c : Int) + 1)] :: (ad4 s [.box (pL 0), .box (sL s 4)]))) [(2, iA n), (3, .ptr 3 0), (4, .ptr 8 0), (5, .ptr 9 0), (8, bA false)] [wO ((c : Int) + 1)] (o1 (by omega)) fun G => b0 (wp_seq (wp_seq ?_))))); cases h0 : (decide ((c : Int) + 1 > 60))
  ·
   have q0 := dFf h0; refine l8 G (X3 (fc h0 fz) [(5, 0), (6, 0), (1007, 0)]) [(27, bA (decide (n > 5)))] fun G => b0 (rF G (decide (n > 5)) (by assumption) (wp_skip (b0 (wp_seq (l8 G i7 [(9, iA 1), (10, bA false), (11, bA true), (12, bA false), (13, bA false), (14, bA false)] fun G => b0 (wp_seq (wp_seq (l8 G i7 [(29, iA s.kind)] fun G => b0 (wp_block (wp_seq (wp_seq (l8 G i7 [(30, bA (s.kind == 1))] fun G => b0 (T1 G (fun h1 q1 => ?_) fun h1 q1 => ?_)))))))))))))
   ·
    refine l8 G i7 [(30, bA (s.kind == 5))] fun G => b0 (T1 G (fun h2 q2 => ?_) fun h2 q2 => ?_)
    ·
     refine wp_seq (l8 G i7 [(36, bA (s.kind == 2))] fun G => b0 (T1 G (fun h3 q3 => ?_) fun h3 q3 => ?_))
     ·
      refine wp_seq (l8 G i7 [(41, bA (s.kind == 3))] fun G => b0 (T1 G (fun h4 q4 => ?_) fun h4 q4 => ?_))
      ·
       refine wp_seq (l8 G i7 [(43, bA (s.kind == 4))] fun G => b0 (T1 G (fun h5 q5 => ?_) fun h5 q5 => ?_))
       · refine wp_seq (l8 G i7 [] fun G => b0 (wp_ret (B7 (m8 ?_)))); exact H6 false G (rg 8) (by rw [l6 (V2 (by omega))]; done) (by show _ = mR (rg 8) (n7 p d s c); unfold n7; rw [l6 (V2 (by omega))] <;> rfl)
       ·
        refine l8 G i7 [(11, bA false), (12, bA true), (13, bA true)] fun G => r7 (b0 (wp_seq (wp_seq ?_))); cases h6 : (!(decide ((0 : Int) ≤ s.target) && decide (s.target ≤ 0)))
        ·
         have q6 : (0 ≤ s.target) ∧ (s.target ≤ 0) := (fun hq => And.imp (fun hq => of_decide_eq_true hq) (fun hq => of_decide_eq_true hq) (cb6.1 hq)) (Eq.mp (ca0 _) h6); cases h7 : (!(decide ((1 : Int) ≤ s.count) && decide (s.count ≤ 3)))
         ·
          have q7 : (1 ≤ s.count) ∧ (s.count ≤ 3) := (fun hq => And.imp (fun hq => of_decide_eq_true hq) (fun hq => of_decide_eq_true hq) (cb6.1 hq)) (Eq.mp (ca0 _) h7); refine K7 G (B8 ⟨[(4, _, []), (11, _, [])], [(!(decide ((0 : Int) ≤ s.target) && decide (s.target ≤ 0)), false), (true, true), (!(decide ((1 : Int) ≤ s.count) && decide (s.count ≤ 3)), false), (false, false)], us [(7, 8, 0), (9, 12, 1), (13, 13, 0), (1013, 1013, 1), (1014, 1014, 0), (16, 18, 2), (19, 21, 3), (22, 22, 2), (1022, 1022, 3), (1023, 1023, 2), (25, 32, 3), (1032, 1033, 3), (35, 37, 3), (38, 41, 1), (42, 42, 3), (1042, 1042, 1), (1043, 1043, 3)]⟩ (b9 (A3 s.target 0 0) (b9 (A3 s.count 1 3) d8)) ⟨(by assumption), (by kernel_rfl), (by assumption), (by kernel_rfl), b91⟩) [(88, bA (decide ((s.els.length : Int) > 0)))] [IntKind.i64.wrap ((1 : Int) - 1) = 1 - 1] ⟨(by kernel_rfl), b91⟩ fun G => b0 (rcD G (fun h8 q8 => ?_) fun h8 q8 => ?_)
          ·
           refine wp_skip (b0 (wp_seq (wp_seq ?_))); cases h9 : (!noneB s.index)
           ·
            have q9 : (noneB s.index) = true := (Eq.mp (ca0 _) h9); refine l8 G (B8 ⟨[(20, _, [4]), (40, _, [5])], [(false, false), (true, true), (!noneB s.index, false)], us [(2, 7, 0), (12, 12, 0), (1013, 1013, 0), (15, 17, 0), (18, 21, 1), (22, 22, 0), (1022, 1022, 1), (1023, 1023, 0), (25, 26, 2), (27, 31, 0), (32, 32, 2), (1032, 1032, 0), (1033, 1033, 2), (35, 37, 0), (38, 41, 1), (42, 42, 0), (1042, 1042, 1), (1043, 1043, 0)]⟩ (b9 (J1 s.index) (b9 (J1 s.value) d8)) ⟨(by kernel_rfl), (by kernel_rfl), (by assumption), b91⟩) [(132, .v (.bool !noneB s.value))] fun G => b0 ?_; cases h10 : (!noneB s.value)
            ·
             have q10 : (noneB s.value) = true := (Eq.mp (ca0 _) h10); refine rF G _ h10 (wp_skip (b0 (wp_seq ?_))); cases h11 : ((m0 p.vars.length p.arrays.length d (c + (1 : Nat)) s.body).fst)
             · refine U0 G (B8 ⟨[(6, _, [0, 1, 2, 3, 6])], [((m0 p.vars.length p.arrays.length d (c + (1 : Nat)) s.body).fst, false)], us [(8, 14, 0), (1015, 1015, 0)]⟩ (b9 (ih s.body (c + 1) (n + 1) (by simp; omega) (by omega)) d8) ⟨(by assumption), b91⟩) (rg 8) (ad3 p (.box [iA ((ao8 p d s c).snd : Int)] :: (ad4 s []))) [(8, bA false)] [wO (n + 1)] (o1 (by omega)) fun G => b0 (wp_ret ?_); exact H6 false G (rg 8) (by rw [E0 (by omega) (by (rw [ab7 (by omega)]; exact X5 (by omega) (by assumption) (by assumption))) (by assumption)]; assumption) (by show _ = mR (rg 8) (n7 p d s c); unfold n7; rw [E0 (by omega) (by (rw [ab7 (by omega)]; exact X5 (by omega) (by assumption) (by assumption))) (by assumption)] <;> rfl)
             · refine U0 G (B8 ⟨[(6, _, [0, 1, 2, 3, 6]), (14, _, [0, 1, 2, 3, 7])], [((m0 p.vars.length p.arrays.length d (c + (1 : Nat)) s.body).fst, true)], us [(8, 14, 0), (1015, 1015, 0)]⟩ (b9 (ih s.body (c + 1) (n + 1) (by simp; omega) (by omega)) (b9 (ih s.els ((ao8 p d s c).snd) (n + 1) (T8 (by omega) (by assumption)) (by omega)) d8)) ⟨(by assumption), b91⟩) (rg 8) (ad3 p (.box [iA ((ao9 p d s c).snd : Int)] :: (ad4 s []))) [(8, bA (ao9 p d s c).fst)] [wO (n + 1), wO (n + 1)] (o2 (by omega)) fun G => b0 (wp_ret ?_); exact H6 ((m0 p.vars.length p.arrays.length d (m0 p.vars.length p.arrays.length d (c + 1) s.body).snd s.els).fst) G (rg 8) (by rw [G8 (by omega) (by (rw [ab7 (by omega)]; exact X5 (by omega) (by assumption) (by assumption))) (by assumption)]; done) (by show _ = mR (rg 8) (n7 p d s c); unfold n7; rw [G8 (by omega) (by (rw [ab7 (by omega)]; exact X5 (by omega) (by assumption) (by assumption))) (by assumption)] <;> rfl)
            · have q10 : (noneB s.value) = false := (Eq.mp (b99 _) h10); refine rT G _ h10 (wp_seq (l8 G i7 [] fun G => b0 (wp_ret (m8 ?_)))); exact H6 false G (rg 8) (by rw [l6 (by (rw [ab7 (by omega)]; simp [h100, h0, q0, h1, q1, h2, q2, h3, q3, h4, q4, h5, q5, h6, q6, h7, q7, h8, q8, h9, q9, h10, q10]; done))]; done) (by show _ = mR (rg 8) (n7 p d s c); unfold n7; rw [l6 (by (rw [ab7 (by omega)]; simp [h100, h0, q0, h1, q1, h2, q2, h3, q3, h4, q4, h5, q5, h6, q6, h7, q7, h8, q8, h9, q9, h10, q10]; done))] <;> rfl)
           · have q9 : (noneB s.index) = false := (Eq.mp (b99 _) h9); refine l8 G (B8 ⟨[(20, _, [4])], [(false, false), (true, true), (!noneB s.index, true)], us [(2, 7, 0), (12, 12, 0), (1013, 1013, 0), (15, 17, 0), (18, 21, 1), (22, 22, 0), (1022, 1022, 1), (1023, 1023, 0), (25, 26, 2), (32, 32, 2), (1033, 1033, 2), (35, 37, 1), (42, 42, 1), (1043, 1043, 1)]⟩ (b9 (J1 s.index) d8) ⟨(by kernel_rfl), (by kernel_rfl), (by assumption), b91⟩) [(132, bA true)] fun G => b0 (rT G true (by kernel_rfl) (wp_seq (l8 G i7 [] fun G => b0 (wp_ret (m8 ?_))))); exact H6 false G (rg 8) (by rw [l6 (by (rw [ab7 (by omega)]; simp [h100, h0, q0, h1, q1, h2, q2, h3, q3, h4, q4, h5, q5, h6, q6, h7, q7, h8, q8, h9, q9]; done))]; done) (by show _ = mR (rg 8) (n7 p d s c); unfold n7; rw [l6 (by (rw [ab7 (by omega)]; simp [h100, h0, q0, h1, q1, h2, q2, h3, q3, h4, q4, h5, q5, h6, q6, h7, q7, h8, q8, h9, q9]; done))] <;> rfl)
          · refine wp_seq (l8 G i7 [] fun G => b0 (wp_ret (m8 ?_))); exact H6 false G (rg 8) (by rw [l6 (by (rw [ab7 (by omega), decide_eq_false (by omega)]; rfl))]; done) (by show _ = mR (rg 8) (n7 p d s c); unfold n7; rw [l6 (by (rw [ab7 (by omega), decide_eq_false (by omega)]; rfl))] <;> rfl)
         · have q7 : (¬ (1 ≤ s.count)) ∨ (¬ (s.count ≤ 3)) := (fun hq => Or.imp (fun hq => of_decide_eq_false hq) (fun hq => of_decide_eq_false hq) (cb4.1 hq)) (Eq.mp (b99 _) h7); refine K7 G (B8 ⟨[(4, _, []), (11, _, [])], [(!(decide ((0 : Int) ≤ s.target) && decide (s.target ≤ 0)), false), (true, true), (!(decide ((1 : Int) ≤ s.count) && decide (s.count ≤ 3)), true)], us [(7, 8, 0), (9, 12, 1), (13, 13, 0), (1013, 1013, 1), (1014, 1014, 0), (16, 18, 2), (22, 22, 2), (1023, 1023, 2), (25, 27, 1), (32, 32, 1), (1033, 1033, 1), (35, 37, 1), (42, 42, 1), (1043, 1043, 1)]⟩ (b9 (A3 s.target 0 0) (b9 (A3 s.count 1 3) d8)) ⟨(by assumption), (by kernel_rfl), (by assumption), b91⟩) [(88, bA true)] [IntKind.i64.wrap ((1 : Int) - 1) = 1 - 1] ⟨(by kernel_rfl), b91⟩ fun G => b0 (rT G true (by kernel_rfl) (wp_seq (l8 G i7 [] fun G => b0 (wp_ret (m8 ?_))))); exact H6 false G (rg 8) (by rw [l6 (by (rw [ab7 (by omega), decide_eq_false (by omega)]; rfl))]; done) (by show _ = mR (rg 8) (n7 p d s c); unfold n7; rw [l6 (by (rw [ab7 (by omega), decide_eq_false (by omega)]; rfl))] <;> rfl)
        · have q6 : (¬ (0 ≤ s.target)) ∨ (¬ (s.target ≤ 0)) := (fun hq => Or.imp (fun hq => of_decide_eq_false hq) (fun hq => of_decide_eq_false hq) (cb4.1 hq)) (Eq.mp (b99 _) h6); refine K7 G (B8 ⟨[(4, _, [])], [(!(decide ((0 : Int) ≤ s.target) && decide (s.target ≤ 0)), true), (true, true)], [(7, 0), (8, 0), (13, 0), (1014, 0), (16, 1), (17, 1), (18, 1), (22, 1), (1023, 1), (25, 1), (26, 1), (27, 1), (32, 1), (1033, 1), (35, 1), (36, 1), (37, 1), (42, 1), (1043, 1)]⟩ (b9 (A3 s.target 0 0) d8) ⟨(by assumption), (by kernel_rfl), b91⟩) [(88, bA true)] [IntKind.i64.wrap ((1 : Int) - 1) = 1 - 1] ⟨(by kernel_rfl), b91⟩ fun G => b0 (rT G true (by kernel_rfl) (wp_seq (l8 G i7 [] fun G => b0 (wp_ret (m8 ?_))))); exact H6 false G (rg 8) (by rw [l6 (by (rw [ab7 (by omega), decide_eq_false (by omega)]; rfl))]; done) (by show _ = mR (rg 8) (n7 p d s c); unfold n7; rw [l6 (by (rw [ab7 (by omega), decide_eq_false (by omega)]; rfl))] <;> rfl)
      ·
       refine l8 G i7 [(13, bA true), (14, bA true)] fun G => r7 (b0 (wp_seq (wp_seq ?_))); cases h12 : (!(decide ((0 : Int) ≤ s.target) && decide (s.target ≤ 0)))
       ·
        have q12 : (0 ≤ s.target) ∧ (s.target ≤ 0) := (fun hq => And.imp (fun hq => of_decide_eq_true hq) (fun hq => of_decide_eq_true hq) (cb6.1 hq)) (Eq.mp (ca0 _) h12); cases h13 : (s.count != 0)
        ·
         have q13 := bne_eq_false_iff_eq.1 h13; refine K7 G (B8 ⟨[(4, _, [])], [(!(decide ((0 : Int) ≤ s.target) && decide (s.target ≤ 0)), false), (false, false), (true, true), (s.count != 0, false)], us [(7, 8, 0), (9, 12, 1), (13, 13, 0), (1013, 1013, 1), (1014, 1014, 0), (16, 18, 1), (19, 21, 2), (22, 22, 1), (1022, 1022, 2), (1023, 1023, 1), (25, 27, 3), (28, 31, 1), (32, 32, 3), (1032, 1032, 1), (1033, 1033, 3), (35, 42, 1), (1042, 1043, 1)]⟩ (b9 (A3 s.target 0 0) d8) ⟨(by assumption), (by kernel_rfl), (by kernel_rfl), (by assumption), b91⟩) [(88, bA false)] [IntKind.i64.wrap ((1 : Int) - 1) = 1 - 1] ⟨(by kernel_rfl), b91⟩ fun G => b0 (rF G false (by kernel_rfl) (wp_skip (b0 (wp_seq (wp_seq ?_))))); cases h14 : (!noneB s.index)
         ·
          have q14 : (noneB s.index) = true := (Eq.mp (ca0 _) h14); cases h15 : (!l0 p.vars.length p.arrays.length s.value)
          ·
           have q15 : (l0 p.vars.length p.arrays.length s.value) = true := (Eq.mp (ca0 _) h15); refine l8 G (B8 ⟨[(20, _, [4]), (30, _, [0, 1, 2, 5])], [(false, false), (true, true), (!noneB s.index, false), (!l0 p.vars.length p.arrays.length s.value, false)], us [(2, 7, 0), (12, 12, 0), (1013, 1013, 0), (15, 17, 0), (18, 21, 1), (22, 22, 0), (1022, 1022, 1), (1023, 1023, 0), (25, 26, 2), (27, 31, 1), (32, 32, 2), (1032, 1032, 1), (1033, 1033, 2), (35, 37, 3), (38, 41, 0), (42, 42, 3), (1042, 1042, 0), (1043, 1043, 3)]⟩ (b9 (J1 s.index) (b9 (W4 p s.value) d8)) ⟨(by kernel_rfl), (by kernel_rfl), (by assumption), (by assumption), b91⟩) [(132, bA false)] fun G => b0 (rF G false (by kernel_rfl) (wp_skip (b0 (wp_seq ?_)))); cases h16 : ((m0 p.vars.length p.arrays.length d (c + (1 : Nat)) s.body).fst)
           · refine U0 G (B8 ⟨[(6, _, [0, 1, 2, 3, 6])], [((m0 p.vars.length p.arrays.length d (c + (1 : Nat)) s.body).fst, false)], us [(8, 14, 0), (1015, 1015, 0)]⟩ (b9 (ih s.body (c + 1) (n + 1) (by simp; omega) (by omega)) d8) ⟨(by assumption), b91⟩) (rg 8) (ad3 p (.box [iA ((ao8 p d s c).snd : Int)] :: (ad4 s []))) [(8, bA false)] [wO (n + 1)] (o1 (by omega)) fun G => b0 (wp_ret ?_); exact H6 false G (rg 8) (by rw [E0 (by omega) (by (rw [ae2 (by omega)]; exact X5 (by omega) (by assumption) (by assumption))) (by assumption)]; assumption) (by show _ = mR (rg 8) (n7 p d s c); unfold n7; rw [E0 (by omega) (by (rw [ae2 (by omega)]; exact X5 (by omega) (by assumption) (by assumption))) (by assumption)] <;> rfl)
           · refine U0 G (B8 ⟨[(6, _, [0, 1, 2, 3, 6]), (14, _, [0, 1, 2, 3, 7])], [((m0 p.vars.length p.arrays.length d (c + (1 : Nat)) s.body).fst, true)], us [(8, 14, 0), (1015, 1015, 0)]⟩ (b9 (ih s.body (c + 1) (n + 1) (by simp; omega) (by omega)) (b9 (ih s.els ((ao8 p d s c).snd) (n + 1) (T8 (by omega) (by assumption)) (by omega)) d8)) ⟨(by assumption), b91⟩) (rg 8) (ad3 p (.box [iA ((ao9 p d s c).snd : Int)] :: (ad4 s []))) [(8, bA (ao9 p d s c).fst)] [wO (n + 1), wO (n + 1)] (o2 (by omega)) fun G => b0 (wp_ret ?_); exact H6 ((m0 p.vars.length p.arrays.length d (m0 p.vars.length p.arrays.length d (c + 1) s.body).snd s.els).fst) G (rg 8) (by rw [G8 (by omega) (by (rw [ae2 (by omega)]; exact X5 (by omega) (by assumption) (by assumption))) (by assumption)]; done) (by show _ = mR (rg 8) (n7 p d s c); unfold n7; rw [G8 (by omega) (by (rw [ae2 (by omega)]; exact X5 (by omega) (by assumption) (by assumption))) (by assumption)] <;> rfl)
          · have q15 : (l0 p.vars.length p.arrays.length s.value) = false := (Eq.mp (b99 _) h15); refine l8 G (B8 ⟨[(20, _, [4]), (30, _, [0, 1, 2, 5])], [(false, false), (true, true), (!noneB s.index, false), (!l0 p.vars.length p.arrays.length s.value, true)], us [(2, 7, 0), (12, 12, 0), (1013, 1013, 0), (15, 17, 0), (18, 21, 1), (22, 22, 0), (1022, 1022, 1), (1023, 1023, 0), (25, 26, 2), (27, 31, 1), (32, 32, 2), (1032, 1032, 1), (1033, 1033, 2), (35, 37, 3), (42, 42, 3), (1043, 1043, 3)]⟩ (b9 (J1 s.index) (b9 (W4 p s.value) d8)) ⟨(by kernel_rfl), (by kernel_rfl), (by assumption), (by assumption), b91⟩) [(132, bA true)] fun G => b0 (rT G true (by kernel_rfl) (wp_seq (l8 G i7 [] fun G => b0 (wp_ret (m8 ?_))))); exact H6 false G (rg 8) (by rw [l6 (by (rw [ae2 (by omega)]; simp [h100, h0, q0, h1, q1, h2, q2, h3, q3, h4, q4, h12, q12, h13, q13, h14, q14, h15, q15]; done))]; done) (by show _ = mR (rg 8) (n7 p d s c); unfold n7; rw [l6 (by (rw [ae2 (by omega)]; simp [h100, h0, q0, h1, q1, h2, q2, h3, q3, h4, q4, h12, q12, h13, q13, h14, q14, h15, q15]; done))] <;> rfl)
         · have q14 : (noneB s.index) = false := (Eq.mp (b99 _) h14); refine l8 G (B8 ⟨[(20, _, [4])], [(false, false), (true, true), (!noneB s.index, true)], us [(2, 7, 0), (12, 12, 0), (1013, 1013, 0), (15, 17, 0), (18, 21, 1), (22, 22, 0), (1022, 1022, 1), (1023, 1023, 0), (25, 26, 2), (32, 32, 2), (1033, 1033, 2), (35, 37, 1), (42, 42, 1), (1043, 1043, 1)]⟩ (b9 (J1 s.index) d8) ⟨(by kernel_rfl), (by kernel_rfl), (by assumption), b91⟩) [(132, bA true)] fun G => b0 (rT G true (by kernel_rfl) (wp_seq (l8 G i7 [] fun G => b0 (wp_ret (m8 ?_))))); exact H6 false G (rg 8) (by rw [l6 (by (rw [ae2 (by omega)]; simp [h100, h0, q0, h1, q1, h2, q2, h3, q3, h4, q4, h12, q12, h13, q13, h14, q14]; done))]; done) (by show _ = mR (rg 8) (n7 p d s c); unfold n7; rw [l6 (by (rw [ae2 (by omega)]; simp [h100, h0, q0, h1, q1, h2, q2, h3, q3, h4, q4, h12, q12, h13, q13, h14, q14]; done))] <;> rfl)
        · have q13 := bne_iff_ne.1 h13; refine K7 G (B8 ⟨[(4, _, [])], [(!(decide ((0 : Int) ≤ s.target) && decide (s.target ≤ 0)), false), (false, false), (true, true), (s.count != 0, true)], us [(7, 8, 0), (9, 12, 1), (13, 13, 0), (1013, 1013, 1), (1014, 1014, 0), (16, 18, 1), (19, 21, 2), (22, 22, 1), (1022, 1022, 2), (1023, 1023, 1), (25, 27, 3), (32, 32, 3), (1033, 1033, 3), (35, 37, 2), (42, 42, 2), (1043, 1043, 2)]⟩ (b9 (A3 s.target 0 0) d8) ⟨(by assumption), (by kernel_rfl), (by kernel_rfl), (by assumption), b91⟩) [(88, bA true)] [IntKind.i64.wrap ((1 : Int) - 1) = 1 - 1] ⟨(by kernel_rfl), b91⟩ fun G => b0 (rT G true (by kernel_rfl) (wp_seq (l8 G i7 [] fun G => b0 (wp_ret (m8 ?_))))); exact H6 false G (rg 8) (by rw [l6 (by (rw [ae2 (by omega), decide_eq_false (by omega)]; rfl))]; done) (by show _ = mR (rg 8) (n7 p d s c); unfold n7; rw [l6 (by (rw [ae2 (by omega), decide_eq_false (by omega)]; rfl))] <;> rfl)
       · have q12 : (¬ (0 ≤ s.target)) ∨ (¬ (s.target ≤ 0)) := (fun hq => Or.imp (fun hq => of_decide_eq_false hq) (fun hq => of_decide_eq_false hq) (cb4.1 hq)) (Eq.mp (b99 _) h12); refine K7 G (B8 ⟨[(4, _, [])], [(!(decide ((0 : Int) ≤ s.target) && decide (s.target ≤ 0)), true), (true, true)], [(7, 0), (8, 0), (13, 0), (1014, 0), (16, 1), (17, 1), (18, 1), (22, 1), (1023, 1), (25, 1), (26, 1), (27, 1), (32, 1), (1033, 1), (35, 1), (36, 1), (37, 1), (42, 1), (1043, 1)]⟩ (b9 (A3 s.target 0 0) d8) ⟨(by assumption), (by kernel_rfl), b91⟩) [(88, bA true)] [IntKind.i64.wrap ((1 : Int) - 1) = 1 - 1] ⟨(by kernel_rfl), b91⟩ fun G => b0 (rT G true (by kernel_rfl) (wp_seq (l8 G i7 [] fun G => b0 (wp_ret (m8 ?_))))); exact H6 false G (rg 8) (by rw [l6 (by (rw [ae2 (by omega), decide_eq_false (by omega)]; rfl))]; done) (by show _ = mR (rg 8) (n7 p d s c); unfold n7; rw [l6 (by (rw [ae2 (by omega), decide_eq_false (by omega)]; rfl))] <;> rfl)
     ·
      refine l8 G i7 [(9, iA (p.arrays.length : Int)), (10, bA true)] fun G => r7 (b0 (wp_seq (wp_seq ?_))); cases h17 : (!(decide ((0 : Int) ≤ s.target) && decide (s.target ≤ (p.arrays.length : Int) - 1)))
      ·
       have q17 : (0 ≤ s.target) ∧ (s.target ≤ (p.arrays.length : Int) - 1) := (fun hq => And.imp (fun hq => of_decide_eq_true hq) (fun hq => of_decide_eq_true hq) (cb6.1 hq)) (Eq.mp (ca0 _) h17); cases h18 : (s.count != 0)
       ·
        have q18 := bne_eq_false_iff_eq.1 h18; cases h19 : (decide ((s.body.length : Int) > 0))
        ·
         have q19 := dFf h19; refine K7 G (B8 ⟨[(4, _, [])], [(!(decide ((0 : Int) ≤ s.target) && decide (s.target ≤ (p.arrays.length : Int) - 1)), false), (false, false), (true, true), (s.count != 0, false), (decide ((s.body.length : Int) > 0), false)], us [(7, 8, 0), (9, 12, 1), (13, 13, 0), (1013, 1013, 1), (1014, 1014, 0), (16, 18, 1), (19, 21, 2), (22, 22, 1), (1022, 1022, 2), (1023, 1023, 1), (25, 27, 3), (28, 31, 2), (32, 32, 3), (1032, 1032, 2), (1033, 1033, 3), (35, 37, 4), (38, 41, 2), (42, 42, 4), (1042, 1042, 2), (1043, 1043, 4)]⟩ (b9 (A3 s.target 0 ((p.arrays.length : Int) - 1)) d8) ⟨(by assumption), (by kernel_rfl), (by kernel_rfl), (by assumption), (by assumption), b91⟩) [(88, bA (decide ((s.els.length : Int) > 0)))] [wO ((p.arrays.length : Int) - 1)] (o1 (by omega)) fun G => b0 (rcD G (fun h20 q20 => ?_) fun h20 q20 => ?_)
         ·
          refine wp_skip (b0 (wp_seq (wp_seq ?_))); cases h21 : (!l0 p.vars.length p.arrays.length s.index)
          ·
           have q21 : (l0 p.vars.length p.arrays.length s.index) = true := (Eq.mp (ca0 _) h21); cases h22 : (!F6 s.index)
           ·
            have q22 : (F6 s.index) = true := (Eq.mp (ca0 _) h22); cases h23 : (!l0 p.vars.length p.arrays.length s.value)
            ·
             have q23 : (l0 p.vars.length p.arrays.length s.value) = true := (Eq.mp (ca0 _) h23); refine l8 G (B8 ⟨[(5, _, [0, 1, 2, 4]), (10, _, [4]), (30, _, [0, 1, 2, 5])], [(true, true), (!l0 p.vars.length p.arrays.length s.index, false), (!F6 s.index, false), (false, false), (!l0 p.vars.length p.arrays.length s.value, false)], us [(2, 7, 0), (8, 11, 1), (12, 12, 0), (1012, 1012, 1), (1013, 1013, 0), (15, 17, 2), (18, 21, 3), (22, 22, 2), (1022, 1022, 3), (1023, 1023, 2), (25, 26, 3), (27, 31, 0), (32, 32, 3), (1032, 1032, 0), (1033, 1033, 3), (35, 37, 4), (38, 41, 3), (42, 42, 4), (1042, 1042, 3), (1043, 1043, 4)]⟩ (b9 (W4 p s.index) (b9 (aA0 s.index) (b9 (W4 p s.value) d8))) ⟨(by kernel_rfl), (by assumption), (by assumption), (by kernel_rfl), (by assumption), b91⟩) [(132, bA false)] fun G => b0 (rF G false (by kernel_rfl) (wp_skip (b0 (wp_seq ?_)))); cases h24 : ((m0 p.vars.length p.arrays.length d (c + (1 : Nat)) s.body).fst)
             · refine U0 G (B8 ⟨[(6, _, [0, 1, 2, 3, 6])], [((m0 p.vars.length p.arrays.length d (c + (1 : Nat)) s.body).fst, false)], us [(8, 14, 0), (1015, 1015, 0)]⟩ (b9 (ih s.body (c + 1) (n + 1) (by simp; omega) (by omega)) d8) ⟨(by assumption), b91⟩) (rg 8) (ad3 p (.box [iA ((ao8 p d s c).snd : Int)] :: (ad4 s []))) [(8, bA false)] [wO (n + 1)] (o1 (by omega)) fun G => b0 (wp_ret ?_); exact H6 false G (rg 8) (by rw [E0 (by omega) (by (rw [N7 (by omega)]; exact a12 (by omega) (by assumption) (by assumption) (by assumption))) (by assumption)]; assumption) (by show _ = mR (rg 8) (n7 p d s c); unfold n7; rw [E0 (by omega) (by (rw [N7 (by omega)]; exact a12 (by omega) (by assumption) (by assumption) (by assumption))) (by assumption)] <;> rfl)
             · refine U0 G (B8 ⟨[(6, _, [0, 1, 2, 3, 6]), (14, _, [0, 1, 2, 3, 7])], [((m0 p.vars.length p.arrays.length d (c + (1 : Nat)) s.body).fst, true)], us [(8, 14, 0), (1015, 1015, 0)]⟩ (b9 (ih s.body (c + 1) (n + 1) (by simp; omega) (by omega)) (b9 (ih s.els ((ao8 p d s c).snd) (n + 1) (T8 (by omega) (by assumption)) (by omega)) d8)) ⟨(by assumption), b91⟩) (rg 8) (ad3 p (.box [iA ((ao9 p d s c).snd : Int)] :: (ad4 s []))) [(8, bA (ao9 p d s c).fst)] [wO (n + 1), wO (n + 1)] (o2 (by omega)) fun G => b0 (wp_ret ?_); exact H6 ((m0 p.vars.length p.arrays.length d (m0 p.vars.length p.arrays.length d (c + 1) s.body).snd s.els).fst) G (rg 8) (by rw [G8 (by omega) (by (rw [N7 (by omega)]; exact a12 (by omega) (by assumption) (by assumption) (by assumption))) (by assumption)]; done) (by show _ = mR (rg 8) (n7 p d s c); unfold n7; rw [G8 (by omega) (by (rw [N7 (by omega)]; exact a12 (by omega) (by assumption) (by assumption) (by assumption))) (by assumption)] <;> rfl)
            · have q23 : (l0 p.vars.length p.arrays.length s.value) = false := (Eq.mp (b99 _) h23); refine l8 G (B8 ⟨[(5, _, [0, 1, 2, 4]), (10, _, [4]), (30, _, [0, 1, 2, 5])], [(true, true), (!l0 p.vars.length p.arrays.length s.index, false), (!F6 s.index, false), (false, false), (!l0 p.vars.length p.arrays.length s.value, true)], us [(2, 7, 0), (8, 11, 1), (12, 12, 0), (1012, 1012, 1), (1013, 1013, 0), (15, 17, 2), (18, 21, 3), (22, 22, 2), (1022, 1022, 3), (1023, 1023, 2), (25, 26, 3), (27, 31, 0), (32, 32, 3), (1032, 1032, 0), (1033, 1033, 3), (35, 37, 4), (42, 42, 4), (1043, 1043, 4)]⟩ (b9 (W4 p s.index) (b9 (aA0 s.index) (b9 (W4 p s.value) d8))) ⟨(by kernel_rfl), (by assumption), (by assumption), (by kernel_rfl), (by assumption), b91⟩) [(132, bA true)] fun G => b0 (rT G true (by kernel_rfl) (wp_seq (l8 G i7 [] fun G => b0 (wp_ret (m8 ?_))))); exact H6 false G (rg 8) (by rw [l6 (by (rw [N7 (by omega)]; simp [h100, h0, q0, h1, q1, h2, q2, h3, q3, h17, q17, h18, q18, h19, q19, h20, q20, h21, q21, h22, q22, h23, q23]; done))]; done) (by show _ = mR (rg 8) (n7 p d s c); unfold n7; rw [l6 (by (rw [N7 (by omega)]; simp [h100, h0, q0, h1, q1, h2, q2, h3, q3, h17, q17, h18, q18, h19, q19, h20, q20, h21, q21, h22, q22, h23, q23]; done))] <;> rfl)
           · have q22 : (F6 s.index) = false := (Eq.mp (b99 _) h22); refine l8 G (B8 ⟨[(5, _, [0, 1, 2, 4]), (10, _, [4])], [(true, true), (!l0 p.vars.length p.arrays.length s.index, false), (!F6 s.index, true)], us [(2, 7, 0), (8, 11, 1), (12, 12, 0), (1012, 1012, 1), (1013, 1013, 0), (15, 17, 2), (22, 22, 2), (1023, 1023, 2), (25, 26, 0), (32, 32, 0), (1033, 1033, 0), (35, 37, 0), (42, 42, 0), (1043, 1043, 0)]⟩ (b9 (W4 p s.index) (b9 (aA0 s.index) d8)) ⟨(by kernel_rfl), (by assumption), (by assumption), b91⟩) [(132, bA true)] fun G => b0 (rT G true (by kernel_rfl) (wp_seq (l8 G i7 [] fun G => b0 (wp_ret (m8 ?_))))); exact H6 false G (rg 8) (by rw [l6 (by (rw [N7 (by omega)]; simp [h100, h0, q0, h1, q1, h2, q2, h3, q3, h17, q17, h18, q18, h19, q19, h20, q20, h21, q21, h22, q22]; done))]; done) (by show _ = mR (rg 8) (n7 p d s c); unfold n7; rw [l6 (by (rw [N7 (by omega)]; simp [h100, h0, q0, h1, q1, h2, q2, h3, q3, h17, q17, h18, q18, h19, q19, h20, q20, h21, q21, h22, q22]; done))] <;> rfl)
          · have q21 : (l0 p.vars.length p.arrays.length s.index) = false := (Eq.mp (b99 _) h21); refine l8 G (B8 ⟨[(5, _, [0, 1, 2, 4])], [(true, true), (!l0 p.vars.length p.arrays.length s.index, true)], us [(2, 7, 0), (8, 11, 1), (12, 12, 0), (1012, 1012, 1), (1013, 1013, 0), (15, 17, 0), (22, 22, 0), (1023, 1023, 0), (25, 26, 0), (32, 32, 0), (1033, 1033, 0), (35, 37, 0), (42, 42, 0), (1043, 1043, 0)]⟩ (b9 (W4 p s.index) d8) ⟨(by kernel_rfl), (by assumption), b91⟩) [(132, bA true)] fun G => b0 (rT G true (by kernel_rfl) (wp_seq (l8 G i7 [] fun G => b0 (wp_ret (m8 ?_))))); exact H6 false G (rg 8) (by rw [l6 (by (rw [N7 (by omega)]; simp [h100, h0, q0, h1, q1, h2, q2, h3, q3, h17, q17, h18, q18, h19, q19, h20, q20, h21, q21]; done))]; done) (by show _ = mR (rg 8) (n7 p d s c); unfold n7; rw [l6 (by (rw [N7 (by omega)]; simp [h100, h0, q0, h1, q1, h2, q2, h3, q3, h17, q17, h18, q18, h19, q19, h20, q20, h21, q21]; done))] <;> rfl)
         · refine wp_seq (l8 G i7 [] fun G => b0 (wp_ret (m8 ?_))); exact H6 false G (rg 8) (by rw [l6 (by (rw [N7 (by omega), decide_eq_false (by omega)]; rfl))]; done) (by show _ = mR (rg 8) (n7 p d s c); unfold n7; rw [l6 (by (rw [N7 (by omega), decide_eq_false (by omega)]; rfl))] <;> rfl)
        · have q19 := dTt h19; refine K7 G (B8 ⟨[(4, _, [])], [(!(decide ((0 : Int) ≤ s.target) && decide (s.target ≤ (p.arrays.length : Int) - 1)), false), (false, false), (true, true), (s.count != 0, false), (decide ((s.body.length : Int) > 0), true)], us [(7, 8, 0), (9, 12, 1), (13, 13, 0), (1013, 1013, 1), (1014, 1014, 0), (16, 18, 1), (19, 21, 2), (22, 22, 1), (1022, 1022, 2), (1023, 1023, 1), (25, 27, 3), (28, 31, 2), (32, 32, 3), (1032, 1032, 2), (1033, 1033, 3), (35, 37, 4), (42, 42, 4), (1043, 1043, 4)]⟩ (b9 (A3 s.target 0 ((p.arrays.length : Int) - 1)) d8) ⟨(by assumption), (by kernel_rfl), (by kernel_rfl), (by assumption), (by assumption), b91⟩) [(88, bA true)] [wO ((p.arrays.length : Int) - 1)] (o1 (by omega)) fun G => b0 (rT G true (by kernel_rfl) (wp_seq (l8 G i7 [] fun G => b0 (wp_ret (m8 ?_))))); exact H6 false G (rg 8) (by rw [l6 (by (rw [N7 (by omega), decide_eq_false (by omega)]; rfl))]; done) (by show _ = mR (rg 8) (n7 p d s c); unfold n7; rw [l6 (by (rw [N7 (by omega), decide_eq_false (by omega)]; rfl))] <;> rfl)
       · have q18 := bne_iff_ne.1 h18; refine K7 G (B8 ⟨[(4, _, [])], [(!(decide ((0 : Int) ≤ s.target) && decide (s.target ≤ (p.arrays.length : Int) - 1)), false), (false, false), (true, true), (s.count != 0, true)], us [(7, 8, 0), (9, 12, 1), (13, 13, 0), (1013, 1013, 1), (1014, 1014, 0), (16, 18, 1), (19, 21, 2), (22, 22, 1), (1022, 1022, 2), (1023, 1023, 1), (25, 27, 3), (32, 32, 3), (1033, 1033, 3), (35, 37, 2), (42, 42, 2), (1043, 1043, 2)]⟩ (b9 (A3 s.target 0 ((p.arrays.length : Int) - 1)) d8) ⟨(by assumption), (by kernel_rfl), (by kernel_rfl), (by assumption), b91⟩) [(88, bA true)] [wO ((p.arrays.length : Int) - 1)] (o1 (by omega)) fun G => b0 (rT G true (by kernel_rfl) (wp_seq (l8 G i7 [] fun G => b0 (wp_ret (m8 ?_))))); exact H6 false G (rg 8) (by rw [l6 (by (rw [N7 (by omega), decide_eq_false (by omega)]; rfl))]; done) (by show _ = mR (rg 8) (n7 p d s c); unfold n7; rw [l6 (by (rw [N7 (by omega), decide_eq_false (by omega)]; rfl))] <;> rfl)
      · have q17 : (¬ (0 ≤ s.target)) ∨ (¬ (s.target ≤ (p.arrays.length : Int) - 1)) := (fun hq => Or.imp (fun hq => of_decide_eq_false hq) (fun hq => of_decide_eq_false hq) (cb4.1 hq)) (Eq.mp (b99 _) h17); refine K7 G (B8 ⟨[(4, _, [])], [(!(decide ((0 : Int) ≤ s.target) && decide (s.target ≤ (p.arrays.length : Int) - 1)), true), (true, true)], [(7, 0), (8, 0), (13, 0), (1014, 0), (16, 1), (17, 1), (18, 1), (22, 1), (1023, 1), (25, 1), (26, 1), (27, 1), (32, 1), (1033, 1), (35, 1), (36, 1), (37, 1), (42, 1), (1043, 1)]⟩ (b9 (A3 s.target 0 ((p.arrays.length : Int) - 1)) d8) ⟨(by assumption), (by kernel_rfl), b91⟩) [(88, bA true)] [wO ((p.arrays.length : Int) - 1)] (o1 (by omega)) fun G => b0 (rT G true (by kernel_rfl) (wp_seq (l8 G i7 [] fun G => b0 (wp_ret (m8 ?_))))); exact H6 false G (rg 8) (by rw [l6 (by (rw [N7 (by omega), decide_eq_false (by omega)]; rfl))]; done) (by show _ = mR (rg 8) (n7 p d s c); unfold n7; rw [l6 (by (rw [N7 (by omega), decide_eq_false (by omega)]; rfl))] <;> rfl)
    ·
     refine l8 G i7 [(9, iA (p.vars.length : Int))] fun G => r7 (b0 (wp_seq (wp_seq ?_))); cases h25 : (!(decide ((0 : Int) ≤ s.target) && decide (s.target ≤ (p.vars.length : Int) - 1)))
     ·
      have q25 : (0 ≤ s.target) ∧ (s.target ≤ (p.vars.length : Int) - 1) := (fun hq => And.imp (fun hq => of_decide_eq_true hq) (fun hq => of_decide_eq_true hq) (cb6.1 hq)) (Eq.mp (ca0 _) h25); cases h26 : (s.count != 0)
      ·
       have q26 := bne_eq_false_iff_eq.1 h26; cases h27 : (decide ((s.body.length : Int) > 0))
       ·
        have q27 := dFf h27; refine K7 G (B8 ⟨[(4, _, [])], [(!(decide ((0 : Int) ≤ s.target) && decide (s.target ≤ (p.vars.length : Int) - 1)), false), (false, false), (true, true), (s.count != 0, false), (decide ((s.body.length : Int) > 0), false)], us [(7, 8, 0), (9, 12, 1), (13, 13, 0), (1013, 1013, 1), (1014, 1014, 0), (16, 18, 1), (19, 21, 2), (22, 22, 1), (1022, 1022, 2), (1023, 1023, 1), (25, 27, 3), (28, 31, 2), (32, 32, 3), (1032, 1032, 2), (1033, 1033, 3), (35, 37, 4), (38, 41, 2), (42, 42, 4), (1042, 1042, 2), (1043, 1043, 4)]⟩ (b9 (A3 s.target 0 ((p.vars.length : Int) - 1)) d8) ⟨(by assumption), (by kernel_rfl), (by kernel_rfl), (by assumption), (by assumption), b91⟩) [(88, bA (decide ((s.els.length : Int) > 0)))] [wO ((p.vars.length : Int) - 1)] (o1 (by omega)) fun G => b0 (rcD G (fun h28 q28 => ?_) fun h28 q28 => ?_)
        ·
         refine wp_skip (b0 (wp_seq (wp_seq ?_))); cases h29 : (!noneB s.index)
         ·
          have q29 : (noneB s.index) = true := (Eq.mp (ca0 _) h29); cases h30 : (!l0 p.vars.length p.arrays.length s.value)
          ·
           have q30 : (l0 p.vars.length p.arrays.length s.value) = true := (Eq.mp (ca0 _) h30); refine l8 G (B8 ⟨[(20, _, [4]), (30, _, [0, 1, 2, 5])], [(false, false), (true, true), (!noneB s.index, false), (!l0 p.vars.length p.arrays.length s.value, false)], us [(2, 7, 0), (12, 12, 0), (1013, 1013, 0), (15, 17, 0), (18, 21, 1), (22, 22, 0), (1022, 1022, 1), (1023, 1023, 0), (25, 26, 2), (27, 31, 1), (32, 32, 2), (1032, 1032, 1), (1033, 1033, 2), (35, 37, 3), (38, 41, 0), (42, 42, 3), (1042, 1042, 0), (1043, 1043, 3)]⟩ (b9 (J1 s.index) (b9 (W4 p s.value) d8)) ⟨(by kernel_rfl), (by kernel_rfl), (by assumption), (by assumption), b91⟩) [(132, bA false)] fun G => b0 (rF G false (by kernel_rfl) (wp_skip (b0 (wp_seq ?_)))); cases h31 : ((m0 p.vars.length p.arrays.length d (c + (1 : Nat)) s.body).fst)
           · refine U0 G (B8 ⟨[(6, _, [0, 1, 2, 3, 6])], [((m0 p.vars.length p.arrays.length d (c + (1 : Nat)) s.body).fst, false)], us [(8, 14, 0), (1015, 1015, 0)]⟩ (b9 (ih s.body (c + 1) (n + 1) (by simp; omega) (by omega)) d8) ⟨(by assumption), b91⟩) (rg 8) (ad3 p (.box [iA ((ao8 p d s c).snd : Int)] :: (ad4 s []))) [(8, bA false)] [wO (n + 1)] (o1 (by omega)) fun G => b0 (wp_ret ?_); exact H6 false G (rg 8) (by rw [E0 (by omega) (by (rw [C5 (by omega)]; exact X5 (by omega) (by assumption) (by assumption))) (by assumption)]; assumption) (by show _ = mR (rg 8) (n7 p d s c); unfold n7; rw [E0 (by omega) (by (rw [C5 (by omega)]; exact X5 (by omega) (by assumption) (by assumption))) (by assumption)] <;> rfl)
           · refine U0 G (B8 ⟨[(6, _, [0, 1, 2, 3, 6]), (14, _, [0, 1, 2, 3, 7])], [((m0 p.vars.length p.arrays.length d (c + (1 : Nat)) s.body).fst, true)], us [(8, 14, 0), (1015, 1015, 0)]⟩ (b9 (ih s.body (c + 1) (n + 1) (by simp; omega) (by omega)) (b9 (ih s.els ((ao8 p d s c).snd) (n + 1) (T8 (by omega) (by assumption)) (by omega)) d8)) ⟨(by assumption), b91⟩) (rg 8) (ad3 p (.box [iA ((ao9 p d s c).snd : Int)] :: (ad4 s []))) [(8, bA (ao9 p d s c).fst)] [wO (n + 1), wO (n + 1)] (o2 (by omega)) fun G => b0 (wp_ret ?_); exact H6 ((m0 p.vars.length p.arrays.length d (m0 p.vars.length p.arrays.length d (c + 1) s.body).snd s.els).fst) G (rg 8) (by rw [G8 (by omega) (by (rw [C5 (by omega)]; exact X5 (by omega) (by assumption) (by assumption))) (by assumption)]; done) (by show _ = mR (rg 8) (n7 p d s c); unfold n7; rw [G8 (by omega) (by (rw [C5 (by omega)]; exact X5 (by omega) (by assumption) (by assumption))) (by assumption)] <;> rfl)
          · have q30 : (l0 p.vars.length p.arrays.length s.value) = false := (Eq.mp (b99 _) h30); refine l8 G (B8 ⟨[(20, _, [4]), (30, _, [0, 1, 2, 5])], [(false, false), (true, true), (!noneB s.index, false), (!l0 p.vars.length p.arrays.length s.value, true)], us [(2, 7, 0), (12, 12, 0), (1013, 1013, 0), (15, 17, 0), (18, 21, 1), (22, 22, 0), (1022, 1022, 1), (1023, 1023, 0), (25, 26, 2), (27, 31, 1), (32, 32, 2), (1032, 1032, 1), (1033, 1033, 2), (35, 37, 3), (42, 42, 3), (1043, 1043, 3)]⟩ (b9 (J1 s.index) (b9 (W4 p s.value) d8)) ⟨(by kernel_rfl), (by kernel_rfl), (by assumption), (by assumption), b91⟩) [(132, bA true)] fun G => b0 (rT G true (by kernel_rfl) (wp_seq (l8 G i7 [] fun G => b0 (wp_ret (m8 ?_))))); exact H6 false G (rg 8) (by rw [l6 (by (rw [C5 (by omega)]; simp [h100, h0, q0, h1, q1, h2, q2, h25, q25, h26, q26, h27, q27, h28, q28, h29, q29, h30, q30]; done))]; done) (by show _ = mR (rg 8) (n7 p d s c); unfold n7; rw [l6 (by (rw [C5 (by omega)]; simp [h100, h0, q0, h1, q1, h2, q2, h25, q25, h26, q26, h27, q27, h28, q28, h29, q29, h30, q30]; done))] <;> rfl)
         · have q29 : (noneB s.index) = false := (Eq.mp (b99 _) h29); refine l8 G (B8 ⟨[(20, _, [4])], [(false, false), (true, true), (!noneB s.index, true)], us [(2, 7, 0), (12, 12, 0), (1013, 1013, 0), (15, 17, 0), (18, 21, 1), (22, 22, 0), (1022, 1022, 1), (1023, 1023, 0), (25, 26, 2), (32, 32, 2), (1033, 1033, 2), (35, 37, 1), (42, 42, 1), (1043, 1043, 1)]⟩ (b9 (J1 s.index) d8) ⟨(by kernel_rfl), (by kernel_rfl), (by assumption), b91⟩) [(132, bA true)] fun G => b0 (rT G true (by kernel_rfl) (wp_seq (l8 G i7 [] fun G => b0 (wp_ret (m8 ?_))))); exact H6 false G (rg 8) (by rw [l6 (by (rw [C5 (by omega)]; simp [h100, h0, q0, h1, q1, h2, q2, h25, q25, h26, q26, h27, q27, h28, q28, h29, q29]; done))]; done) (by show _ = mR (rg 8) (n7 p d s c); unfold n7; rw [l6 (by (rw [C5 (by omega)]; simp [h100, h0, q0, h1, q1, h2, q2, h25, q25, h26, q26, h27, q27, h28, q28, h29, q29]; done))] <;> rfl)
        · refine wp_seq (l8 G i7 [] fun G => b0 (wp_ret (m8 ?_))); exact H6 false G (rg 8) (by rw [l6 (by (rw [C5 (by omega), decide_eq_false (by omega)]; rfl))]; done) (by show _ = mR (rg 8) (n7 p d s c); unfold n7; rw [l6 (by (rw [C5 (by omega), decide_eq_false (by omega)]; rfl))] <;> rfl)
       · have q27 := dTt h27; refine K7 G (B8 ⟨[(4, _, [])], [(!(decide ((0 : Int) ≤ s.target) && decide (s.target ≤ (p.vars.length : Int) - 1)), false), (false, false), (true, true), (s.count != 0, false), (decide ((s.body.length : Int) > 0), true)], us [(7, 8, 0), (9, 12, 1), (13, 13, 0), (1013, 1013, 1), (1014, 1014, 0), (16, 18, 1), (19, 21, 2), (22, 22, 1), (1022, 1022, 2), (1023, 1023, 1), (25, 27, 3), (28, 31, 2), (32, 32, 3), (1032, 1032, 2), (1033, 1033, 3), (35, 37, 4), (42, 42, 4), (1043, 1043, 4)]⟩ (b9 (A3 s.target 0 ((p.vars.length : Int) - 1)) d8) ⟨(by assumption), (by kernel_rfl), (by kernel_rfl), (by assumption), (by assumption), b91⟩) [(88, bA true)] [wO ((p.vars.length : Int) - 1)] (o1 (by omega)) fun G => b0 (rT G true (by kernel_rfl) (wp_seq (l8 G i7 [] fun G => b0 (wp_ret (m8 ?_))))); exact H6 false G (rg 8) (by rw [l6 (by (rw [C5 (by omega), decide_eq_false (by omega)]; rfl))]; done) (by show _ = mR (rg 8) (n7 p d s c); unfold n7; rw [l6 (by (rw [C5 (by omega), decide_eq_false (by omega)]; rfl))] <;> rfl)
      · have q26 := bne_iff_ne.1 h26; refine K7 G (B8 ⟨[(4, _, [])], [(!(decide ((0 : Int) ≤ s.target) && decide (s.target ≤ (p.vars.length : Int) - 1)), false), (false, false), (true, true), (s.count != 0, true)], us [(7, 8, 0), (9, 12, 1), (13, 13, 0), (1013, 1013, 1), (1014, 1014, 0), (16, 18, 1), (19, 21, 2), (22, 22, 1), (1022, 1022, 2), (1023, 1023, 1), (25, 27, 3), (32, 32, 3), (1033, 1033, 3), (35, 37, 2), (42, 42, 2), (1043, 1043, 2)]⟩ (b9 (A3 s.target 0 ((p.vars.length : Int) - 1)) d8) ⟨(by assumption), (by kernel_rfl), (by kernel_rfl), (by assumption), b91⟩) [(88, bA true)] [wO ((p.vars.length : Int) - 1)] (o1 (by omega)) fun G => b0 (rT G true (by kernel_rfl) (wp_seq (l8 G i7 [] fun G => b0 (wp_ret (m8 ?_))))); exact H6 false G (rg 8) (by rw [l6 (by (rw [C5 (by omega), decide_eq_false (by omega)]; rfl))]; done) (by show _ = mR (rg 8) (n7 p d s c); unfold n7; rw [l6 (by (rw [C5 (by omega), decide_eq_false (by omega)]; rfl))] <;> rfl)
     · have q25 : (¬ (0 ≤ s.target)) ∨ (¬ (s.target ≤ (p.vars.length : Int) - 1)) := (fun hq => Or.imp (fun hq => of_decide_eq_false hq) (fun hq => of_decide_eq_false hq) (cb4.1 hq)) (Eq.mp (b99 _) h25); refine K7 G (B8 ⟨[(4, _, [])], [(!(decide ((0 : Int) ≤ s.target) && decide (s.target ≤ (p.vars.length : Int) - 1)), true), (true, true)], [(7, 0), (8, 0), (13, 0), (1014, 0), (16, 1), (17, 1), (18, 1), (22, 1), (1023, 1), (25, 1), (26, 1), (27, 1), (32, 1), (1033, 1), (35, 1), (36, 1), (37, 1), (42, 1), (1043, 1)]⟩ (b9 (A3 s.target 0 ((p.vars.length : Int) - 1)) d8) ⟨(by assumption), (by kernel_rfl), b91⟩) [(88, bA true)] [wO ((p.vars.length : Int) - 1)] (o1 (by omega)) fun G => b0 (rT G true (by kernel_rfl) (wp_seq (l8 G i7 [] fun G => b0 (wp_ret (m8 ?_))))); exact H6 false G (rg 8) (by rw [l6 (by (rw [C5 (by omega), decide_eq_false (by omega)]; rfl))]; done) (by show _ = mR (rg 8) (n7 p d s c); unfold n7; rw [l6 (by (rw [C5 (by omega), decide_eq_false (by omega)]; rfl))] <;> rfl)
   ·
    refine wp_skip (b0 (rT G _ h1 (l8 G i7 [(9, iA (p.vars.length : Int))] fun G => r7 (b0 (wp_seq (wp_seq ?_)))))); cases h32 : (!(decide ((0 : Int) ≤ s.target) && decide (s.target ≤ (p.vars.length : Int) - 1)))
    ·
     have q32 : (0 ≤ s.target) ∧ (s.target ≤ (p.vars.length : Int) - 1) := (fun hq => And.imp (fun hq => of_decide_eq_true hq) (fun hq => of_decide_eq_true hq) (cb6.1 hq)) (Eq.mp (ca0 _) h32); cases h33 : (s.count != 0)
     ·
      have q33 := bne_eq_false_iff_eq.1 h33; cases h34 : (decide ((s.body.length : Int) > 0))
      ·
       have q34 := dFf h34; refine K7 G (B8 ⟨[(4, _, [])], [(!(decide ((0 : Int) ≤ s.target) && decide (s.target ≤ (p.vars.length : Int) - 1)), false), (false, false), (true, true), (s.count != 0, false), (decide ((s.body.length : Int) > 0), false)], us [(7, 8, 0), (9, 12, 1), (13, 13, 0), (1013, 1013, 1), (1014, 1014, 0), (16, 18, 1), (19, 21, 2), (22, 22, 1), (1022, 1022, 2), (1023, 1023, 1), (25, 27, 3), (28, 31, 2), (32, 32, 3), (1032, 1032, 2), (1033, 1033, 3), (35, 37, 4), (38, 41, 2), (42, 42, 4), (1042, 1042, 2), (1043, 1043, 4)]⟩ (b9 (A3 s.target 0 ((p.vars.length : Int) - 1)) d8) ⟨(by assumption), (by kernel_rfl), (by kernel_rfl), (by assumption), (by assumption), b91⟩) [(88, bA (decide ((s.els.length : Int) > 0)))] [wO ((p.vars.length : Int) - 1)] (o1 (by omega)) fun G => b0 (rcD G (fun h35 q35 => ?_) fun h35 q35 => ?_)
       ·
        refine wp_skip (b0 (wp_seq (wp_seq ?_))); cases h36 : (!noneB s.index)
        ·
         have q36 : (noneB s.index) = true := (Eq.mp (ca0 _) h36); cases h37 : (!l0 p.vars.length p.arrays.length s.value)
         ·
          have q37 : (l0 p.vars.length p.arrays.length s.value) = true := (Eq.mp (ca0 _) h37); refine l8 G (B8 ⟨[(20, _, [4]), (30, _, [0, 1, 2, 5])], [(false, false), (true, true), (!noneB s.index, false), (!l0 p.vars.length p.arrays.length s.value, false)], us [(2, 7, 0), (12, 12, 0), (1013, 1013, 0), (15, 17, 0), (18, 21, 1), (22, 22, 0), (1022, 1022, 1), (1023, 1023, 0), (25, 26, 2), (27, 31, 1), (32, 32, 2), (1032, 1032, 1), (1033, 1033, 2), (35, 37, 3), (38, 41, 0), (42, 42, 3), (1042, 1042, 0), (1043, 1043, 3)]⟩ (b9 (J1 s.index) (b9 (W4 p s.value) d8)) ⟨(by kernel_rfl), (by kernel_rfl), (by assumption), (by assumption), b91⟩) [(132, bA false)] fun G => b0 (rF G false (by kernel_rfl) (wp_skip (b0 (wp_seq ?_)))); cases h38 : ((m0 p.vars.length p.arrays.length d (c + (1 : Nat)) s.body).fst)
          · refine U0 G (B8 ⟨[(6, _, [0, 1, 2, 3, 6])], [((m0 p.vars.length p.arrays.length d (c + (1 : Nat)) s.body).fst, false)], us [(8, 14, 0), (1015, 1015, 0)]⟩ (b9 (ih s.body (c + 1) (n + 1) (by simp; omega) (by omega)) d8) ⟨(by assumption), b91⟩) (rg 8) (ad3 p (.box [iA ((ao8 p d s c).snd : Int)] :: (ad4 s []))) [(8, bA false)] [wO (n + 1)] (o1 (by omega)) fun G => b0 (wp_ret ?_); exact H6 false G (rg 8) (by rw [E0 (by omega) (by (rw [C5 (by omega)]; exact X5 (by omega) (by assumption) (by assumption))) (by assumption)]; assumption) (by show _ = mR (rg 8) (n7 p d s c); unfold n7; rw [E0 (by omega) (by (rw [C5 (by omega)]; exact X5 (by omega) (by assumption) (by assumption))) (by assumption)] <;> rfl)
          · refine U0 G (B8 ⟨[(6, _, [0, 1, 2, 3, 6]), (14, _, [0, 1, 2, 3, 7])], [((m0 p.vars.length p.arrays.length d (c + (1 : Nat)) s.body).fst, true)], us [(8, 14, 0), (1015, 1015, 0)]⟩ (b9 (ih s.body (c + 1) (n + 1) (by simp; omega) (by omega)) (b9 (ih s.els ((ao8 p d s c).snd) (n + 1) (T8 (by omega) (by assumption)) (by omega)) d8)) ⟨(by assumption), b91⟩) (rg 8) (ad3 p (.box [iA ((ao9 p d s c).snd : Int)] :: (ad4 s []))) [(8, bA (ao9 p d s c).fst)] [wO (n + 1), wO (n + 1)] (o2 (by omega)) fun G => b0 (wp_ret ?_); exact H6 ((m0 p.vars.length p.arrays.length d (m0 p.vars.length p.arrays.length d (c + 1) s.body).snd s.els).fst) G (rg 8) (by rw [G8 (by omega) (by (rw [C5 (by omega)]; exact X5 (by omega) (by assumption) (by assumption))) (by assumption)]; done) (by show _ = mR (rg 8) (n7 p d s c); unfold n7; rw [G8 (by omega) (by (rw [C5 (by omega)]; exact X5 (by omega) (by assumption) (by assumption))) (by assumption)] <;> rfl)
         · have q37 : (l0 p.vars.length p.arrays.length s.value) = false := (Eq.mp (b99 _) h37); refine l8 G (B8 ⟨[(20, _, [4]), (30, _, [0, 1, 2, 5])], [(false, false), (true, true), (!noneB s.index, false), (!l0 p.vars.length p.arrays.length s.value, true)], us [(2, 7, 0), (12, 12, 0), (1013, 1013, 0), (15, 17, 0), (18, 21, 1), (22, 22, 0), (1022, 1022, 1), (1023, 1023, 0), (25, 26, 2), (27, 31, 1), (32, 32, 2), (1032, 1032, 1), (1033, 1033, 2), (35, 37, 3), (42, 42, 3), (1043, 1043, 3)]⟩ (b9 (J1 s.index) (b9 (W4 p s.value) d8)) ⟨(by kernel_rfl), (by kernel_rfl), (by assumption), (by assumption), b91⟩) [(132, bA true)] fun G => b0 (rT G true (by kernel_rfl) (wp_seq (l8 G i7 [] fun G => b0 (wp_ret (m8 ?_))))); exact H6 false G (rg 8) (by rw [l6 (by (rw [C5 (by omega)]; simp [h100, h0, q0, h1, q1, h32, q32, h33, q33, h34, q34, h35, q35, h36, q36, h37, q37]; done))]; done) (by show _ = mR (rg 8) (n7 p d s c); unfold n7; rw [l6 (by (rw [C5 (by omega)]; simp [h100, h0, q0, h1, q1, h32, q32, h33, q33, h34, q34, h35, q35, h36, q36, h37, q37]; done))] <;> rfl)
        · have q36 : (noneB s.index) = false := (Eq.mp (b99 _) h36); refine l8 G (B8 ⟨[(20, _, [4])], [(false, false), (true, true), (!noneB s.index, true)], us [(2, 7, 0), (12, 12, 0), (1013, 1013, 0), (15, 17, 0), (18, 21, 1), (22, 22, 0), (1022, 1022, 1), (1023, 1023, 0), (25, 26, 2), (32, 32, 2), (1033, 1033, 2), (35, 37, 1), (42, 42, 1), (1043, 1043, 1)]⟩ (b9 (J1 s.index) d8) ⟨(by kernel_rfl), (by kernel_rfl), (by assumption), b91⟩) [(132, bA true)] fun G => b0 (rT G true (by kernel_rfl) (wp_seq (l8 G i7 [] fun G => b0 (wp_ret (m8 ?_))))); exact H6 false G (rg 8) (by rw [l6 (by (rw [C5 (by omega)]; simp [h100, h0, q0, h1, q1, h32, q32, h33, q33, h34, q34, h35, q35, h36, q36]; done))]; done) (by show _ = mR (rg 8) (n7 p d s c); unfold n7; rw [l6 (by (rw [C5 (by omega)]; simp [h100, h0, q0, h1, q1, h32, q32, h33, q33, h34, q34, h35, q35, h36, q36]; done))] <;> rfl)
       · refine wp_seq (l8 G i7 [] fun G => b0 (wp_ret (m8 ?_))); exact H6 false G (rg 8) (by rw [l6 (by (rw [C5 (by omega), decide_eq_false (by omega)]; rfl))]; done) (by show _ = mR (rg 8) (n7 p d s c); unfold n7; rw [l6 (by (rw [C5 (by omega), decide_eq_false (by omega)]; rfl))] <;> rfl)
      · have q34 := dTt h34; refine K7 G (B8 ⟨[(4, _, [])], [(!(decide ((0 : Int) ≤ s.target) && decide (s.target ≤ (p.vars.length : Int) - 1)), false), (false, false), (true, true), (s.count != 0, false), (decide ((s.body.length : Int) > 0), true)], us [(7, 8, 0), (9, 12, 1), (13, 13, 0), (1013, 1013, 1), (1014, 1014, 0), (16, 18, 1), (19, 21, 2), (22, 22, 1), (1022, 1022, 2), (1023, 1023, 1), (25, 27, 3), (28, 31, 2), (32, 32, 3), (1032, 1032, 2), (1033, 1033, 3), (35, 37, 4), (42, 42, 4), (1043, 1043, 4)]⟩ (b9 (A3 s.target 0 ((p.vars.length : Int) - 1)) d8) ⟨(by assumption), (by kernel_rfl), (by kernel_rfl), (by assumption), (by assumption), b91⟩) [(88, bA true)] [wO ((p.vars.length : Int) - 1)] (o1 (by omega)) fun G => b0 (rT G true (by kernel_rfl) (wp_seq (l8 G i7 [] fun G => b0 (wp_ret (m8 ?_))))); exact H6 false G (rg 8) (by rw [l6 (by (rw [C5 (by omega), decide_eq_false (by omega)]; rfl))]; done) (by show _ = mR (rg 8) (n7 p d s c); unfold n7; rw [l6 (by (rw [C5 (by omega), decide_eq_false (by omega)]; rfl))] <;> rfl)
     · have q33 := bne_iff_ne.1 h33; refine K7 G (B8 ⟨[(4, _, [])], [(!(decide ((0 : Int) ≤ s.target) && decide (s.target ≤ (p.vars.length : Int) - 1)), false), (false, false), (true, true), (s.count != 0, true)], us [(7, 8, 0), (9, 12, 1), (13, 13, 0), (1013, 1013, 1), (1014, 1014, 0), (16, 18, 1), (19, 21, 2), (22, 22, 1), (1022, 1022, 2), (1023, 1023, 1), (25, 27, 3), (32, 32, 3), (1033, 1033, 3), (35, 37, 2), (42, 42, 2), (1043, 1043, 2)]⟩ (b9 (A3 s.target 0 ((p.vars.length : Int) - 1)) d8) ⟨(by assumption), (by kernel_rfl), (by kernel_rfl), (by assumption), b91⟩) [(88, bA true)] [wO ((p.vars.length : Int) - 1)] (o1 (by omega)) fun G => b0 (rT G true (by kernel_rfl) (wp_seq (l8 G i7 [] fun G => b0 (wp_ret (m8 ?_))))); exact H6 false G (rg 8) (by rw [l6 (by (rw [C5 (by omega), decide_eq_false (by omega)]; rfl))]; done) (by show _ = mR (rg 8) (n7 p d s c); unfold n7; rw [l6 (by (rw [C5 (by omega), decide_eq_false (by omega)]; rfl))] <;> rfl)
    · have q32 : (¬ (0 ≤ s.target)) ∨ (¬ (s.target ≤ (p.vars.length : Int) - 1)) := (fun hq => Or.imp (fun hq => of_decide_eq_false hq) (fun hq => of_decide_eq_false hq) (cb4.1 hq)) (Eq.mp (b99 _) h32); refine K7 G (B8 ⟨[(4, _, [])], [(!(decide ((0 : Int) ≤ s.target) && decide (s.target ≤ (p.vars.length : Int) - 1)), true), (true, true)], [(7, 0), (8, 0), (13, 0), (1014, 0), (16, 1), (17, 1), (18, 1), (22, 1), (1023, 1), (25, 1), (26, 1), (27, 1), (32, 1), (1033, 1), (35, 1), (36, 1), (37, 1), (42, 1), (1043, 1)]⟩ (b9 (A3 s.target 0 ((p.vars.length : Int) - 1)) d8) ⟨(by assumption), (by kernel_rfl), b91⟩) [(88, bA true)] [wO ((p.vars.length : Int) - 1)] (o1 (by omega)) fun G => b0 (rT G true (by kernel_rfl) (wp_seq (l8 G i7 [] fun G => b0 (wp_ret (m8 ?_))))); exact H6 false G (rg 8) (by rw [l6 (by (rw [C5 (by omega), decide_eq_false (by omega)]; rfl))]; done) (by show _ = mR (rg 8) (n7 p d s c); unfold n7; rw [l6 (by (rw [C5 (by omega), decide_eq_false (by omega)]; rfl))] <;> rfl)
  · have q0 := dTt h0; refine l8 G (X3 (fc h0 fz) [(5, 0), (6, 0), (1007, 0)]) [(27, bA true)] fun G => b0 (rT G true (by kernel_rfl) (wp_seq (l8 G i7 [] fun G => b0 (wp_ret (m8 ?_))))); exact H6 false G (rg 8) (by simp [aq3 (d := d + 1) (s := s) (show 60 < c + 1 by omega)]; done) (by show _ = mR (rg 8) (n7 p d s c); unfold n7; have e1 : (((x7 p.vars.length p.arrays.length (d + 1) c s).snd : Int) : Int) = ((c : Int) + 1) := (by simp [aq3 (d := d + 1) (s := s) (show 60 < c + 1 by omega)]; done); (first | rw [e1] | simp only [e1]) <;> rfl)
theorem bG0 (p : f7) : ∀ (d : Nat), d ≤ 5 → ∀ (ss : List b5) (c : Nat) (n : Int), c ≤ 60 → n = 6 - (d : Int) → m7.ok Tryz.prog (bb9 p d c ss n) := by
 intro d
 induction d with
 | zero => intro hd ss c n hc hn; exact a88 p 0 hd (fun s c n hc hn => bO4 p s c hc n (by omega)) ss c n hc hn
 | succ d ih => intro hd ss c n hc hn; exact a88 p (d + 1) hd (fun s c n hc hn => bO3 p d (by omega) (ih (by omega)) s c n hc (by omega)) ss c n hc hn
theorem a89 (p : f7) (n : Int) (hn : n = 1) : m7.ok Tryz.prog ⟨125, [pA 0, .ref 2, iA n, .ptr 3 0], pS p ++ [.box [iA 0]], pS p ++ [.box [iA (m0 p.vars.length p.arrays.length 5 0 p.body).2]], bA (m0 p.vars.length p.arrays.length 5 0 p.body).1⟩ :=
 m7.dup (S := pS p ++ [.box [iA 0]]) (S' := pS p ++ [.box [iA (m0 p.vars.length p.arrays.length 5 0 p.body).2]]) (d := .stmts p.body) (i := 2) (bG0 p 5 (by omega) p.body 0 n (by omega) (by omega)) rfl rfl rfl (fun ρ h => by simp only [AV.vals, AV.val]; rw [show ρ 4 = ρ 2 from h]) rfl
theorem W3 (p : f7) : m7.ok Tryz.prog (N1 57 [pA 0] (pS p) (bA (n4 p))) := by
 refine H8 15 Tryz.func57 [dI p.vars, dI p.arrays, dT p.body] [(0, pA 0)] fun G => ?_; refine wp_seq (m5 G i7 (rg 4) [dI p.vars, dI p.arrays, dT p.body, .box (pL 0)] [(1, .ptr 3 0), (2, bA false)] fun G => b0 (wp_seq (m5 G i7 (rg 5) [dI p.vars, dI p.arrays, dT p.body, .box (pL 0), .box [iA 0]] [(1, .ptr 3 0), (2, bA false), (3, .ptr 4 0)] fun G => b0 (wp_seq ?_)))); cases h0 : (B6 p.vars p.arrays)
 ·refine m5 G (B8 ⟨[(4, _, [0, 1])], [(B6 p.vars p.arrays, false)], us [(6, 9, 0), (1010, 1010, 0)]⟩ (b9 (aO5 p.vars p.arrays) d8) ⟨(by assumption), b91⟩) [0, 1, 2] [dI p.vars, dI p.arrays, dT p.body] [(2, bA false)] fun G => b0 (wp_ret ?_); exact H6 false G [0, 1, 2] (aB8 (by assumption))
 ·refine m5 G (B8 ⟨[(4, _, [0, 1]), (9, _, [0, 1, 2, 4])], [(B6 p.vars p.arrays, true)], us [(6, 9, 0), (1010, 1010, 0)]⟩ (b9 (aO5 p.vars p.arrays) (b9 (a89 p 1 (by kernel_rfl)) d8)) ⟨(by assumption), b91⟩) [0, 1, 2] [dI p.vars, dI p.arrays, dT p.body] [(2, bA (m0 p.vars.length p.arrays.length 5 0 p.body).fst)] fun G => b0 (wp_ret ?_); exact H6 ((m0 p.vars.length p.arrays.length 5 0 p.body).fst) G [0, 1, 2] (by rw [← a27 (p := p) (by assumption)])
theorem bX6 {l : List d7} {k : Nat} (hk : k < l.length) : l.take k ++ [⟨(l.getD k b81).kind, (l.getD k b81).value, (l.getD k b81).kids⟩] = l.take (k + 1) := by
 rw [d7.eta, n9 _ _ hk, p6 hk]
theorem bX5 {l : List b5} {k : Nat} (hk : k < l.length) : l.take k ++ [⟨(l.getD k b81).kind, (l.getD k b81).target, ⟨(l.getD k b81).index.kind, (l.getD k b81).index.value, (l.getD k b81).index.kids⟩, ⟨(l.getD k b81).value.kind, (l.getD k b81).value.value, (l.getD k b81).value.kids⟩, (l.getD k b81).count, (l.getD k b81).body, (l.getD k b81).els⟩] = l.take (k + 1) := by
 rw [d7.eta, d7.eta, b5.eta, n9 _ _ hk, p6 hk]
theorem bk6 {α : Type} {l : List α} {k : Nat} (h1 : k ≤ l.length) (h2 : ¬ (k : Int) < l.length) : l.take k = l := by rw [b98 (by omega)]
theorem bC0 {α : Type} {l : List α} {k n : Nat} (h1 : k ≤ l.length) (h : l.length ≤ n) : (l.take k).length ≤ n := by rw [List.length_take]; omega
theorem bC7 {e : d7} (h : F0 e ≤ 1048576) : e.kids.length ≤ 1048576 := by
 have h1 := at6 e.kids
 have h2 : F0 e = s8 e.kids := by cases e; rfl
 omega
theorem bv4 {l : List b5} (h : p7 l ≤ 1048576) : l.length ≤ 1048576 := cb5 (Z1 l) h
theorem aP7 {α : Type} {l : List α} {x : α} {k : Nat} (h1 : k ≤ l.length) (h : l.length ≤ 1048576) : (l.take k).length + [x].length ≤ 1048577 := by
 have := bC0 (k := k) h1 h
 simp only [b84, b86]; omega
theorem b12 {a b : Nat} (ha : a ≤ 1048577) (hb : Nat.ble b 1000 = true) : a * b ≤ 140737488355328 := by
 have h1 := Nat.le_of_ble_eq_true hb
 have h2 := Nat.mul_le_mul ha h1
 omega
theorem av1 {l : List d7} {k : Nat} (h : (k : Int) < l.length) : l.getD k b81 ∈ l := by rw [p6 (by omega)]; exact ca5 (by omega)
theorem ae4 {l : List b5} {k : Nat} (h : (k : Int) < l.length) : l.getD k b81 ∈ l := by rw [p6 (by omega)]; exact ca5 (by omega)
abbrev cpC (e : d7) : m7 := ⟨132, [eA e 0], eS e, eS e ++ [.tree (.exprs e.kids)], .agg [iA e.kind, iA e.value, .tref 1]⟩
abbrev a14 (e : d7) (r0 : List It) : List It := dE e.kids :: .box (eL e 0) :: .box [iA 0, iA 0, .v (.slice none 0 0)] :: r0
theorem bz0 (e : d7) (hb : F0 e ≤ 1048576) (ih : ∀ (x : d7), x ∈ e.kids → m7.ok Tryz.prog (cpC x)) : m7.ok Tryz.prog (cpC e) := by
 refine H8 29 Tryz.func132 [dE e.kids] [(0, eA e 0)] fun G => ?_; have hl := bC7 hb; refine wp_seq (m5 G i7 [0, 1, 9] (a14 e []) [(1, .ptr 1 0), (2, .ptr 2 0)] fun G => b0 (wp_seq (m5 G i7 [0, 1, 2, 43] (a14 e [.box [iA e.kind, iA e.value, .v (.slice none 0 0)]]) [(1, .ptr 1 0), (2, .ptr 2 0), (3, .ptr 3 0)] fun G => b0 (wp_seq (wp_seq (K8 G i7 [(1, .ptr 1 0), (2, .ptr 2 0), (3, .ptr 3 0), (4, iA 0)] fun G => b0 (wp_block ?_))))))); obtain ⟨ρ, G⟩ := G.nilT 4 (.exprs []) (a14 e [.box [iA e.kind, iA e.value, .tref 4]]) [(1, .ptr 1 0), (2, .ptr 2 0), (3, .ptr 3 0), (4, iA 0)]; refine y9 (κ := Nat) (fun k => k ≤ e.kids.length) (fun k => e.kids.length - k) (fun k => [dE e.kids, .box (eL e 0), .box [iA 0, iA 0, .v (.slice none 0 0)], .box [iA e.kind, iA e.value, .tref 4], .tree (.exprs (e.kids.take k))]) (fun k => [(1, .ptr 1 0), (2, .ptr 2 0), (3, .ptr 3 0), (4, iA k)]) 0 (by omega) (x8.at G _ _) ?_; clear G; intro k ρ a w hp G; replace G := x8.at G (a14 e [.box [iA e.kind, iA e.value, .tref 4], .tree (D.exprs (b88 k e.kids))]) [(1, .ptr 1 0), (2, .ptr 2 0), (3, .ptr 3 0), (4, iA k)]; refine wp_seq (wp_seq (l8 G i7 [(14, bA (decide ((k : Int) < e.kids.length)))] fun G => b0 (rcD G (fun h0 q0 => ?_) fun h0 q0 => ?_)))
 ·refine wp_exit (y7 (y7 (y6 (b0 (wp_seq (m5 G i7 [0, 2, 4] [dE e.kids, .box [iA e.kind, iA e.value, .tref 2], .tree (D.exprs (b88 k e.kids))] [(2, .ptr 1 0)] fun G => b0 (wp_ret ?_))))))); exact Q9 G [0, 2] (by show _ = mR [0, 2] [dE e.kids, .tree (D.exprs e.kids)]; have e1 : (b88 k e.kids : List d7) = (e.kids) := (bk6 hp (by assumption)); (first | rw [e1] | simp only [e1]) <;> rfl)
 ·refine wp_skip (b0 (wp_seq (wp_block (R5 G (t5 7 [53] (ih (e.kids.getD k b81) (av1 (by assumption)))) [0, 1, 0, 4, 0, 28, 60, 124, 252, 511, 1023, 2047] [0, 1, 2, 3, 77] (a14 e [.box [iA e.kind, iA e.value, .tref 4], .tree (D.exprs (b88 k e.kids ++ [qzE (e.kids.getD k b81)]))]) [(1, .ptr 1 0), (2, .ptr 2 0), (3, .ptr 3 0), (4, iA k)] [(0 : Int) ≤ (k : Int), (k : Int) < e.kids.length, k < e.kids.length, (b88 k e.kids).length + [qzE (e.kids.getD k b81)].length ≤ (9223372036854775807 : Nat), ((b88 k e.kids).length + [qzE (e.kids.getD k b81)].length) * (40 : Nat) ≤ (140737488355328 : Nat)] ⟨(by simp [h0]), (by assumption), (by have := aP7 (x := (b81 : d7)) hp hl; simp only [b84, b86] at this ⊢; omega), (by have := aP7 (x := (b81 : d7)) hp hl; simp only [b84, b86] at this ⊢; omega), (b12 (aP7 hp hl) (by kernel_rfl)), b91⟩ fun G => r7 (b0 (K7 G i7 [(4, iA ((k : Int) + 1))] [wO ((k : Int) + 1)] (o1 (by omega)) fun G => b0 ?_)))))); exact rxn G (k + 1) (by have := aP7 (x := (b81 : d7)) hp hl; simp only [b84, b86] at this ⊢; omega) (by have := aP7 (x := (b81 : d7)) hp hl; simp only [b84, b86] at this ⊢; omega) (rg 5) (by have e1 : (b88 (k + 1) e.kids : List d7) = (b88 k e.kids ++ [qzE (e.kids.getD k b81)]) := ((bX6 (by omega)).symm); (first | rw [e1] | simp only [e1]) <;> rfl)
theorem bp5 (e : d7) : F0 e ≤ 1048576 → m7.ok Tryz.prog (cpC e) :=
 d7.ind (P := fun e => F0 e ≤ 1048576 → m7.ok Tryz.prog (cpC e)) (fun k n ks ih hb => bz0 ⟨k, n, ks⟩ hb fun x hx => ih x hx (by
  have h1 := bI5 (show x ∈ ks from hx)
  have h2 : F0 ⟨k, n, ks⟩ = s8 ks := rfl
  omega)) e
abbrev a81 (l : List b5) : m7 := ⟨151, [.ref 0], [dT l], [dT l, .tree (.stmts l)], .tref 1⟩
theorem bn9 {l : List b5} {k : Nat} (hb : p7 l ≤ 1048576) (h : (k : Int) < l.length) : F0 (l.getD k b81).index ≤ 1048576 ∧ F0 (l.getD k b81).value ≤ 1048576 ∧ p7 (l.getD k b81).body ≤ 1048576 ∧ p7 (l.getD k b81).els ≤ 1048576 := by
 have h1 := ab1 (ae4 h)
 generalize l.getD k b81 = s at *
 rcases s with ⟨_, _, i, v, _, b, e⟩
 simp only [szS] at h1
 simp only [b5.index, b5.value, b5.body, b5.els]
 omega
abbrev aG4 (k : Nat) (r0 : List (Nat × AV)) : List (Nat × AV) := (0, .ref 0) :: (2, .v (.slice none 0 0)) :: (3, .tref 1) :: (4, iA (k : Int)) :: r0
theorem aJ6 (l : List b5) (hb : p7 l ≤ 1048576) (ih1 : ∀ (s : b5), s ∈ l → m7.ok Tryz.prog (a81 s.body)) (ih2 : ∀ (s : b5), s ∈ l → m7.ok Tryz.prog (a81 s.els)) : m7.ok Tryz.prog (a81 l) := by
  refine H8 38 Tryz.func151 [dT l] [(0, .ref 0)] fun G => ?_; have hl := bv4 hb; refine wp_seq (l8 G i7 [(2, .v (.slice none 0 0))] fun G => b0 (wp_seq (m5 G i7 [0, 1] [dT l, .tree (D.stmts [])] [(0, .ref 0), (2, .v (.slice none 0 0)), (3, .tref 1)] fun G => b0 (wp_seq (wp_seq (K8 G i7 [(0, .ref 0), (2, .v (.slice none 0 0)), (3, .tref 1), (4, iA 0)] fun G => b0 (wp_block ?_))))))); refine y9 (κ := Nat) (fun k => k ≤ l.length) (fun k => l.length - k) (fun k => [dT l, .tree (.stmts (l.take k))]) (fun k => [(0, .ref 0), (2, .v (.slice none 0 0)), (3, .tref 1), (4, iA k)]) 0 (by omega) (x8.at G _ _) ?_; clear G; intro k ρ a w hp G; replace G := x8.at G [dT l, .tree (D.stmts (b88 k l))] (aG4 k []); refine wp_seq (wp_seq (l8 G i7 [(10, bA (decide ((k : Int) < l.length)))] fun G => b0 (rcD G (fun h0 q0 => ?_) fun h0 q0 => ?_)))
  · refine wp_exit (y7 (y7 (y6 (b0 (wp_seq (l8 G i7 [(2, .tref 1)] fun G => b0 (wp_ret ?_))))))); exact Q9 G [0, 1] (by show _ = mR [0, 1] [dT l, .tree (D.stmts l)]; have e1 : (b88 k l : List b5) = (l) := (bk6 hp (by assumption)); (first | rw [e1] | simp only [e1]) <;> rfl)
  ·
   refine wp_skip (b0 (wp_seq (wp_block (wp_seq (U0 G i7 [0, 1, 26, 27, 28, 29, 34] [dT l, .tree (D.stmts (b88 k l)), dE (l.getD k b81).index.kids, dE (l.getD k b81).value.kids, dT (l.getD k b81).body, dT (l.getD k b81).els, .box (sL (l.getD k b81) 2)] (aG4 k [(5, .ptr 6 0)]) [(0 : Int) ≤ (k : Int), (k : Int) < l.length, k < l.length] ⟨(by simp [h0]), (by assumption), (by have := aP7 (x := (b81 : b5)) hp hl; simp only [b84, b86] at this ⊢; omega), b91⟩ fun G => b0 (wp_seq (m5 G (t5 2 [2] (bp5 ((l.getD k b81).index) ((bn9 hb (by assumption)).1))) [0, 1, 3, 4, 5, 6, 23] [dT l, .tree (D.stmts (b88 k l)), dE (l.getD k b81).value.kids, dT (l.getD k b81).body, dT (l.getD k b81).els, .box [iA (l.getD k b81).kind, iA (l.getD k b81).target, iA (l.getD k b81).index.kind, iA (l.getD k b81).index.value, .tref 6, iA (l.getD k b81).value.kind, iA (l.getD k b81).value.value, .ref 2, iA (l.getD k b81).count, .ref 3, .ref 4], .tree (D.exprs (l.getD k b81).index.kids)] (aG4 k [(5, .ptr 5 0)]) fun G => b0 (wp_seq (m5 G (t5 2 [2] (bp5 ((l.getD k b81).value) ((bn9 hb (by assumption)).2.1))) [0, 1, 3, 4, 5, 6, 23] [dT l, .tree (D.stmts (b88 k l)), dT (l.getD k b81).body, dT (l.getD k b81).els, .box [iA (l.getD k b81).kind, iA (l.getD k b81).target, iA (l.getD k b81).index.kind, iA (l.getD k b81).index.value, .tref 5, iA (l.getD k b81).value.kind, iA (l.getD k b81).value.value, .tref 6, iA (l.getD k b81).count, .ref 2, .ref 3], .tree (D.exprs (l.getD k b81).index.kids), .tree (D.exprs (l.getD k b81).value.kids)] (aG4 k [(5, .ptr 4 0)]) fun G => b0 (wp_seq (m5 G (t5 2 [2] (ih1 (l.getD k b81) (ae4 (by assumption)))) [0, 1, 3, 4, 5, 6, 23] [dT l, .tree (D.stmts (b88 k l)), dT (l.getD k b81).els, .box [iA (l.getD k b81).kind, iA (l.getD k b81).target, iA (l.getD k b81).index.kind, iA (l.getD k b81).index.value, .tref 4, iA (l.getD k b81).value.kind, iA (l.getD k b81).value.value, .tref 5, iA (l.getD k b81).count, .tref 6, .ref 2], .tree (D.exprs (l.getD k b81).index.kids), .tree (D.exprs (l.getD k b81).value.kids), .tree (D.stmts (l.getD k b81).body)] (aG4 k [(5, .ptr 3 0)]) fun G => b0 (wp_seq (m5 G (t5 2 [2] (ih2 (l.getD k b81) (ae4 (by assumption)))) [0, 1, 3, 4, 5, 6, 23] [dT l, .tree (D.stmts (b88 k l)), .box [iA (l.getD k b81).kind, iA (l.getD k b81).target, iA (l.getD k b81).index.kind, iA (l.getD k b81).index.value, .tref 3, iA (l.getD k b81).value.kind, iA (l.getD k b81).value.value, .tref 4, iA (l.getD k b81).count, .tref 5, .tref 6], .tree (D.exprs (l.getD k b81).index.kids), .tree (D.exprs (l.getD k b81).value.kids), .tree (D.stmts (l.getD k b81).body), .tree (D.stmts (l.getD k b81).els)] (aG4 k [(5, .ptr 2 0)]) fun G => ?_)))))))))))))
   refine b0 (U0 G i7 [0, 31] [dT l, .tree (D.stmts (b88 k l ++ [qzS (l.getD k b81)]))] (aG4 k []) [(b88 k l).length + [qzS (l.getD k b81)].length ≤ (9223372036854775807 : Nat), ((b88 k l).length + [qzS (l.getD k b81)].length) * (152 : Nat) ≤ (140737488355328 : Nat)] ⟨(by have := aP7 (x := (b81 : b5)) hp hl; simp only [b84, b86] at this ⊢; omega), (b12 (aP7 hp hl) (by kernel_rfl)), b91⟩ fun G => r7 (b0 (K7 G i7 [(4, iA ((k : Int) + 1))] [wO ((k : Int) + 1)] (o1 (by omega)) fun G => b0 ?_))); exact rxn G (k + 1) (by have := aP7 (x := (b81 : b5)) hp hl; simp only [b84, b86] at this ⊢; omega) (by have := aP7 (x := (b81 : b5)) hp hl; simp only [b84, b86] at this ⊢; omega) [0, 1] (by have e1 : (b88 (k + 1) l : List b5) = (b88 k l ++ [qzS (l.getD k b81)]) := ((bX5 (by omega)).symm); (first | rw [e1] | simp only [e1]) <;> rfl)
theorem bO9 (l : List b5) : p7 l ≤ 1048576 → m7.ok Tryz.prog (a81 l) := fun hb => aJ6 l hb
 (fun s hs => (c_copyS2 s).1 (cb5 (Nat.le_of_lt (ab1 hs)) hb)) fun s hs => (c_copyS2 s).2 (cb5 (Nat.le_of_lt (ab1 hs)) hb)
where
 c_copyS2 (s : b5) : (szS s ≤ 1048576 → m7.ok Tryz.prog (a81 s.body)) ∧ (szS s ≤ 1048576 → m7.ok Tryz.prog (a81 s.els)) :=
  b5.ind (P := fun s => (szS s ≤ 1048576 → m7.ok Tryz.prog (a81 s.body)) ∧ (szS s ≤ 1048576 → m7.ok Tryz.prog (a81 s.els))) (fun k t i v c b e h1 h2 => by
   have hz : szS ⟨k, t, i, v, c, b, e⟩ = F0 i + F0 v + p7 b + p7 e := rfl
   constructor
   ·intro hb
    refine aJ6 b (by omega) (fun s hs => (h1 s hs).1 ?_) fun s hs => (h1 s hs).2 ?_
    ·have := ab1 hs; omega
    ·have := ab1 hs; omega
   ·intro hb
    refine aJ6 e (by omega) (fun s hs => (h2 s hs).1 ?_) fun s hs => (h2 s hs).2 ?_
    ·have := ab1 hs; omega
    ·have := ab1 hs; omega) s
theorem bG4 (p : f7) (hb : p.size ≤ 1048576) : m7.ok Tryz.prog ⟨78, [pA 0], pS p, pS p ++ oP p, oA 3⟩ := by
 refine H8 15 Tryz.func78 [dI p.vars, dI p.arrays, dT p.body] [(0, pA 0)] fun G => ?_
 have hb1 : p.vars.length ≤ 1048576 ∧ p.arrays.length ≤ 1048576 ∧ p7 p.body ≤ 1048576 := by unfold f7.size at hb; omega
 refine wp_seq (m5 G i7 [0, 1, 2, 3, 11] [dI p.vars, dI p.arrays, dT p.body, .box (pL 0), .box [.v (.slice none 0 0), .v (.slice none 0 0), .v (.slice none 0 0)]] [(1, .ptr 3 0), (2, .ptr 4 0)] fun G => b0 (wp_seq (R5 G (t5 10 [2] (bO9 p.body hb1.2.2)) [0, 0, 2, 7, 0, 0, 32, 127, 0, 256, 1023, 2047, 4095] [0, 1, 2, 4, 29, 61, 85] [dI p.vars, dI p.arrays, dT p.body, .box [.ref 4, .ref 5, .tref 6], .row 3 (D.ints ([] ++ p.vars)), .row 3 (D.ints ([] ++ p.arrays)), .tree (D.stmts p.body)] [(2, .ptr 3 0)] (aP ((0 : Nat) + p.vars.length) 8 (aP ((0 : Nat) + p.arrays.length) 8 [])) (aK (by omega) (aK (by omega) b91)) fun G => b0 (wp_ret ?_)))); exact Q9 G [0, 1, 2, 4, 5, 6]
def al3 (k v r : Int) : d9 := if k = 3 then ⟨4, r, v, r, 0⟩ else if k = 11 then ⟨7, r, r, r + 1, r + 2⟩ else ⟨6, r, k, r, r + 1⟩
mutual
def b6 : d7 → Int → List d9
 | ⟨k, v, ks⟩, r => if k = 1 then [⟨1, r, v, 0, 0⟩] else if k = 2 then [⟨2, r, v, 0, 0⟩] else k6 ks r ++ [al3 k v r]
def k6 : List d7 → Int → List d9
 | [], _ => []
 | e :: t, r => b6 e r ++ k6 t (r + 1)
end
theorem ao3 (e : d7) (r : Int) : b6 e r = if e.kind = 1 then [⟨1, r, e.value, 0, 0⟩] else if e.kind = 2 then [⟨2, r, e.value, 0, 0⟩] else k6 e.kids r ++ [al3 e.kind e.value r] := by cases e; rw [b6]; rfl
theorem ap7 : ∀ (a b : List d7) (r : Int), k6 (a ++ b) r = k6 a r ++ k6 b (r + a.length)
 | [], b, r => by simp [k6]
 | e :: t, b, r => by
  simp only [List.cons_append, k6, cc0]
  rw [ap7 t b (r + 1)]
  congr 2
  simp only [b84]
  rw [show r + 1 + (t.length : Int) = r + ((t.length + 1 : Nat) : Int) by omega]
theorem aC3 {ks : List d7} {k : Nat} {r : Int} (hk : k < ks.length) : k6 (ks.take (k + 1)) r = k6 (ks.take k) r ++ b6 (ks.getD k b81) (r + k) := by
 rw [n9 _ _ hk, ap7, p6 hk]
 simp [k6, List.length_take, Nat.min_eq_left (Nat.le_of_lt hk)]
mutual
theorem Q6 : ∀ (e : d7) (r : Int), (b6 e r).length ≤ 1 + F0 e
 | ⟨k, v, ks⟩, r => by
  have h := ah1 ks r
  rw [b6]
  simp only [F0]
  split
  ·simp
  ·split
   ·simp
   ·simp only [b83, b84, b86]; omega
theorem ah1 : ∀ (ks : List d7) (r : Int), (k6 ks r).length ≤ s8 ks
 | [], _ => by simp [k6]
 | e :: t, r => by
  have h1 := Q6 e r
  have h2 := ah1 t (r + 1)
  simp only [k6, s8, b83]; omega
end
abbrev D3 : Type := List d9 × List Int × Int
def s9 (x : D3) (n : Int) (c : List d9) : D3 := (x.1 ++ c, x.2.1 ++ b82 c.length n, x.2.2)
def ak3 (l : List d9) (i : Nat) (n : Int) : List d9 := l.set i ⟨(l.getD i b81).op, (l.getD i b81).a, n, (l.getD i b81).c, (l.getD i b81).d⟩
def aP6 (l : List d9) (i : Nat) (n : Int) : List d9 := l.set i ⟨(l.getD i b81).op, n, (l.getD i b81).b, (l.getD i b81).c, (l.getD i b81).d⟩
mutual
def N9 : b5 → Int → D3 → D3
 | ⟨k, t, i, v, c, b, e⟩, d, x =>
  if k = 4 then s9 (l9 b (d + 1) (s9 (x.1, x.2.1, x.2.2 + 1) x.2.2 [⟨1, 9 + d, c, 0, 0⟩])) x.2.2 [⟨10, 9 + d, ((x.1.length + 1 : Nat) : Int), 0, 0⟩]
  else if k = 1 then s9 (s9 (x.1, x.2.1, x.2.2 + 1) x.2.2 (b6 v 0)) x.2.2 [⟨3, t, 0, 0, 0⟩]
  else if k = 5 then s9 (s9 (s9 (x.1, x.2.1, x.2.2 + 1) x.2.2 (b6 v 0)) x.2.2 [⟨11, 0, 0, 0, 0⟩]) x.2.2 [⟨3, t, 0, 0, 0⟩]
  else if k = 2 then s9 (s9 (s9 (x.1, x.2.1, x.2.2 + 1) x.2.2 (b6 v 0)) x.2.2 (b6 i 1)) x.2.2 [⟨5, t, 1, 0, 0⟩]
  else
   (fun (y : D3) =>
    (fun (z : D3) =>
     (fun (u : D3) => (aP6 u.1 (z.1.length - 1) (u.1.length : Int), u.2)) (l9 e (d + 1) (ak3 z.1 y.1.length (z.1.length : Int), z.2)))
    (s9 (l9 b (d + 1) (s9 y x.2.2 [⟨9, 0, 0, 0, 0⟩])) x.2.2 [⟨8, 0, 0, 0, 0⟩]))
   (s9 (x.1, x.2.1, x.2.2 + 1) x.2.2 (b6 v 0))
def l9 : List b5 → Int → D3 → D3
 | [], _, x => x
 | s :: r, d, x => l9 r d (N9 s d x)
end
theorem bg8 (a b : List b5) (d : Int) (x : D3) : l9 (a ++ b) d x = l9 b d (l9 a d x) := by
 induction a generalizing x with
 | nil => rfl
 | cons s r ih => simp only [List.cons_append, l9]; exact ih _
theorem V3 {ss : List b5} {k : Nat} {d : Int} {x : D3} (hk : k < ss.length) : l9 (ss.take (k + 1)) d x = N9 (ss.getD k b81) d (l9 (ss.take k) d x) := by
 rw [n9 _ _ hk, bg8, p6 hk]
 simp [l9]
mutual
def ad1 : b5 → Nat
 | ⟨k, _, i, v, _, b, e⟩ => if k = 4 then 2 + A6 b else if k = 1 then (b6 v 0).length + 1 else if k = 5 then (b6 v 0).length + 2 else if k = 2 then (b6 v 0).length + (b6 i 1).length + 1 else (b6 v 0).length + 2 + A6 b + A6 e
def A6 : List b5 → Nat
 | [] => 0
 | s :: r => ad1 s + A6 r
end
mutual
theorem bo5 : ∀ (s : b5) (d : Int) (x : D3), (N9 s d x).1.length = x.1.length + ad1 s ∧ (N9 s d x).2.1.length = x.2.1.length + ad1 s
 | ⟨k, t, i, v, c, b, e⟩, d, x => by
  rw [N9, ad1]
  split
  ·have h := F5 b (d + 1) (s9 (x.1, x.2.1, x.2.2 + 1) x.2.2 [⟨1, 9 + d, c, 0, 0⟩])
   simp only [s9, b83, b84, b86, b87] at h ⊢
   omega
  ·split
   ·simp only [s9, b83, b84, b86, b87]; omega
   ·split
    ·simp only [s9, b83, b84, b86, b87]; omega
    ·split
     ·simp only [s9, b83, b84, b86, b87]; omega
     ·simp only
      generalize hy : s9 (x.1, x.2.1, x.2.2 + 1) x.2.2 (b6 v 0) = y
      have hy1 : y.1.length = x.1.length + (b6 v 0).length := by rw [← hy]; simp [s9]
      have hy2 : y.2.1.length = x.2.1.length + (b6 v 0).length := by rw [← hy]; simp [s9]
      have h1 := F5 b (d + 1) (s9 y x.2.2 [⟨9, 0, 0, 0, 0⟩])
      generalize l9 b (d + 1) (s9 y x.2.2 [⟨9, 0, 0, 0, 0⟩]) = z at h1 ⊢
      have h2 := F5 e (d + 1) (ak3 (s9 z x.2.2 [⟨8, 0, 0, 0, 0⟩]).1 y.1.length ((s9 z x.2.2 [⟨8, 0, 0, 0, 0⟩]).1.length : Int), (s9 z x.2.2 [⟨8, 0, 0, 0, 0⟩]).2)
      simp only [s9, aP6, ak3, b97, b83, b84, b86, b87] at h1 h2 ⊢
      omega
theorem F5 : ∀ (ss : List b5) (d : Int) (x : D3), (l9 ss d x).1.length = x.1.length + A6 ss ∧ (l9 ss d x).2.1.length = x.2.1.length + A6 ss
 | [], _, _ => ⟨rfl, rfl⟩
 | s :: r, d, x => by
  have h1 := bo5 s d x
  have h2 := F5 r d (N9 s d x)
  rw [l9, A6]
  omega
end
mutual
theorem bN8 : ∀ s : b5, ad1 s ≤ 4 + 4 * szS s
 | ⟨k, t, i, v, c, b, e⟩ => by
  have h1 := Q6 v 0
  have h2 := Q6 i 1
  have h3 := O2 b
  have h4 := O2 e
  rw [ad1]
  simp only [szS]
  (repeat' split) <;> omega
theorem O2 : ∀ ss : List b5, A6 ss ≤ 4 * p7 ss
 | [] => cb1 _
 | s :: r => by
  have h1 := bN8 s
  have h2 := O2 r
  simp only [A6, p7]; omega
end
section
variable {P : Program} {ι κ : Type} {φ ψ : Nat → Prop} {w0 w : World} {F : ι → Rs} {ρ ρ0 : Nat → Value} {N m n : Nat} {S : List It} {tm : List (Nat × AV)} {a : Act}
theorem It.res_ren' {σ : Nat → Nat} {i j : Nat} {ρ : Nat → Value} (x : It) (h : σ i = j) : (x.ren σ).res ρ j = x.res (fun i => ρ (σ i)) i := by
 subst h; exact It.res_ren x
def mv (i n j : Nat) : Nat := if natEq j i then n else j
theorem aM0 {f : AV → AV} {t : Nat} {y : AV} : ∀ {tm : List (Nat × AV)}, A9 (tm.map fun p => (p.1, f p.2)) t = some y → ∃ x, A9 tm t = some x ∧ y = f x
 | [], h => by cases h
 | (k, z) :: r, h => by
  simp only [A9, cc2] at h ⊢
  split at h
  ·rename_i hk; cases h; exact ⟨z, by rw [if_pos hk], rfl⟩
  ·rename_i hk
   obtain ⟨x, h1, h2⟩ := aM0 h
   exact ⟨x, by rw [if_neg hk]; exact h1, h2⟩
theorem bU5 {i n : Nat} {x : AV} : ∀ j ∈ (x.ren (mv i n)).ids, (∃ k ∈ x.ids, mv i n k = j) := by
 have key : (∀ x : AV, ∀ j ∈ (x.ren (mv i n)).ids, ∃ k ∈ x.ids, mv i n k = j) ∧ (∀ l : List AV, ∀ j ∈ AV.idsL (AV.renL (mv i n) l), ∃ k ∈ AV.idsL l, mv i n k = j) := by
  have hL : ∀ (l : List AV), (∀ x ∈ l, ∀ j ∈ (x.ren (mv i n)).ids, ∃ k ∈ x.ids, mv i n k = j) → ∀ j ∈ AV.idsL (AV.renL (mv i n) l), ∃ k ∈ AV.idsL l, mv i n k = j := by
   intro l
   induction l with
   | nil => intro _ j hj; cases hj
   | cons y r ih =>
    intro h j hj
    simp only [AV.renL, AV.idsL, ca1] at hj ⊢
    rcases hj with hj | hj
    ·obtain ⟨k, h1, h2⟩ := h y ca6 j hj
     exact ⟨k, .inl h1, h2⟩
    ·obtain ⟨k, h1, h2⟩ := ih (fun x hx => h x (ca9 _ hx)) j hj
     exact ⟨k, .inr h1, h2⟩
  have hx : ∀ x : AV, ∀ j ∈ (x.ren (mv i n)).ids, ∃ k ∈ x.ids, mv i n k = j := fun x => goX hL x
  exact ⟨hx, fun l => hL l fun x _ => hx x⟩
 exact key.1 x
where
 goX {i n : Nat} (hL : ∀ (l : List AV), (∀ x ∈ l, ∀ j ∈ (x.ren (mv i n)).ids, ∃ k ∈ x.ids, mv i n k = j) → ∀ j ∈ AV.idsL (AV.renL (mv i n) l), ∃ k ∈ AV.idsL l, mv i n k = j) : ∀ x : AV, ∀ j ∈ (x.ren (mv i n)).ids, ∃ k ∈ x.ids, mv i n k = j
  | .v _, j, hj => by cases hj
  | .ptr a b, j, hj => ⟨a, ca4.2 rfl, (ca4.1 hj).symm⟩
  | .ea a b c d, j, hj => ⟨a, ca4.2 rfl, (ca4.1 hj).symm⟩
  | .ref a, j, hj => ⟨a, ca4.2 rfl, (ca4.1 hj).symm⟩
  | .tref a, j, hj => ⟨a, ca4.2 rfl, (ca4.1 hj).symm⟩
  | .agg l, j, hj => hL l (fun x _ => goX hL x) j hj
  | .tup l, j, hj => hL l (fun x _ => goX hL x) j hj
  | .fn _ l, j, hj => hL l (fun x _ => goX hL x) j hj
  | .bm _ l, j, hj => hL l (fun x _ => goX hL x) j hj
theorem x8.shift (G : x8 φ ψ w0 F N m ρ0 ρ S tm a w) (i n : Nat) (S1 : List It) (tm1 : List (Nat × AV)) (hn : (natEq S.length n && decide (i < n)) = true := by kernel_rfl) (hS : S1 = (S.map (It.ren (mv i n))).set i .dead ++ [(x6 S i).ren (mv i n)] := by kernel_rfl) (ht : tm1 = tm.map (fun p => (p.1, p.2.ren (mv i n))) := by kernel_rfl) :
  ∃ ρ', x8 φ ψ w0 F N m ρ0 ρ' S1 tm1 a w := by
 subst hS
 subst ht
 simp only [b85, natEq, beq_iff_eq, decide_eq_true_eq] at hn
 obtain ⟨hn, hin⟩ := hn
 have hlen : ((S.map (It.ren (mv i n))).set i .dead ++ [(x6 S i).ren (mv i n)]).length = n + 1 := by simp [hn]
 have hat : ∀ j, x6 ((S.map (It.ren (mv i n))).set i .dead ++ [(x6 S i).ren (mv i n)]) j = if j = n then (x6 S i).ren (mv i n) else if j = i then .dead else (x6 S j).ren (mv i n) := fun j => by
  by_cases e : j = n
  ·subst e
   rw [if_pos rfl]
   simp only [x6, b90]
   rw [cc9 (by simp [hn])]
   simp [hn]
  ·rw [if_neg e]
   by_cases e2 : j = i
   ·subst e2
    rw [if_pos rfl]
    simp only [x6, b90]
    rw [cb9 (by simp; omega)]
    simp [show j < S.length by omega]
   ·rw [if_neg e2]
    simp only [x6, b90]
    rcases ca8 j n with h | h
    ·rw [cb9 (by simp; omega), List.getElem?_set_ne (fun h => e2 h.symm), List.getElem?_map, b89 (by omega)]
     rfl
    ·rw [cb3 (by simp; omega), cb3 (by omega)]; rfl
 have hbd : ∀ x : AV, (∀ j ∈ x.ids, j < n) → ∀ j ∈ (x.ren (mv i n)).ids, j < n + 1 := fun x h j hj => by
  obtain ⟨k, h1, h2⟩ := bU5 j hj
  have := h k h1
  rw [← h2]; unfold mv
  split <;> omega
 let ρ1 : Nat → Value := fun j => if j = n then ρ i else ρ j
 have hmv : ∀ j, j < n → ρ1 (mv i n j) = ρ j := fun j hj => by
  show (if mv i n j = n then ρ i else ρ (mv i n j)) = ρ j
  by_cases e : j = i
  ·subst e; simp [mv, natEq]
  ·have h : mv i n j = j := by simp [mv, natEq, e]
   rw [h, if_neg (by omega)]
 have hval : ∀ x : AV, (∀ j ∈ x.ids, j < n) → (x.ren (mv i n)).val ρ1 = x.val ρ := fun x h => by
  rw [AV.val_ren]
  exact AV.val_congr x fun j hj => hmv j (h j hj)
 have hids : ∀ j, ∀ q ∈ (x6 S j).ids, q < n := fun j q hq => by have := (G.bd j).1 q hq; omega
 have hitem : ∀ j, ∀ q ∈ ((x6 S j).ren (mv i n)).ids, q < n + 1 := fun j q hq => by
  cases hx : x6 S j with
  | box cs =>
   rw [hx] at hq
   have h1 := hids j
   rw [hx] at h1
   exact hbd (.agg cs) h1 q hq
  | _ => rw [hx] at hq; cases hq
 refine ⟨ρ1, G.size, G.defs, fun t y hy => ?_, fun t y hy j hj => ?_, fun j => ⟨fun q hq => ?_, fun hj => F3 hj⟩, ?_, ?_, fun j hj => ?_⟩
 ·obtain ⟨x, h1, rfl⟩ := aM0 hy
  rw [G.tmv t x h1, hval x fun j hj => by have := G.tmi t x h1 j hj; omega]
 ·obtain ⟨x, h1, rfl⟩ := aM0 hy
  rw [hlen]
  exact hbd x (fun j hj => by have := G.tmi t x h1 j hj; omega) j hj
 ·rw [hlen]
  rw [hat] at hq
  split at hq
  ·exact hitem i q hq
  ·split at hq
   ·cases hq
   ·exact hitem j q hq
 ·refine G.mem.map (fun k : ι ⊕ Nat => (match k with | .inl q => some (.inl q) | .inr j => if j = n then some (.inr i) else if j = i then none else some (.inr j) : Option (ι ⊕ Nat))) ?_ ?_
  ·intro k k' x h1 h2
   match k, k' with
   | .inl q, .inl q' => simp at h1 h2; rw [← h1] at h2; simpa using h2.symm
   | .inl q, .inr j => simp at h1; subst h1; simp at h2; split at h2 <;> simp at h2
   | .inr j, .inl q => simp at h2; subst h2; simp at h1; split at h1 <;> simp at h1
   | .inr j, .inr j' =>
    simp only at h1 h2
    by_cases e1 : j = n <;> by_cases e2 : j' = n
    ·rw [e1, e2]
    ·rw [if_pos e1] at h1
     rw [if_neg e2] at h2
     by_cases e3 : j' = i
     ·rw [if_pos e3] at h2; cases h2
     ·rw [if_neg e3] at h2
      simp at h1 h2
      rw [← h1] at h2
      exact absurd (Sum.inr.inj h2) e3
    ·rw [if_pos e2] at h2
     rw [if_neg e1] at h1
     by_cases e3 : j = i
     ·rw [if_pos e3] at h1; cases h1
     ·rw [if_neg e3] at h1
      simp at h1 h2
      rw [← h2] at h1
      exact absurd (Sum.inr.inj h1) e3
    ·rw [if_neg e1] at h1
     rw [if_neg e2] at h2
     by_cases e3 : j = i
     ·rw [if_pos e3] at h1; cases h1
     ·by_cases e4 : j' = i
      ·rw [if_pos e4] at h2; cases h2
      ·rw [if_neg e3] at h1
       rw [if_neg e4] at h2
       simp at h1 h2
       rw [← h1] at h2
       rw [Sum.inr.inj h2]
  ·intro k
   match k with
   | .inl q => exact .inl ⟨_, rfl, rfl⟩
   | .inr j =>
    by_cases e : j = n
    ·refine .inl ⟨.inr i, by simp [e], ?_⟩
     simp only [t4]
     rw [hat, if_pos e]
     subst e
     have h1 : mv i j i = j := by simp [mv, natEq]
     rw [It.res_ren' (x6 S i) h1]
     exact It.res_congr _ (fun q hq => hmv q (hids i q hq)) (.inr (.inr (hmv i hin)))
    ·by_cases e2 : j = i
     ·refine .inr ?_
      simp only [t4]
      rw [hat, if_neg e, if_pos e2]
      rfl
     ·refine .inl ⟨.inr j, by simp [e, e2], ?_⟩
      simp only [t4]
      rw [hat, if_neg e, if_neg e2]
      rcases ca8 j n with hj | hj
      ·have h1 : mv i n j = j := by simp [mv, natEq, e2]
       rw [It.res_ren' (x6 S j) h1]
       exact It.res_congr _ (fun q hq => hmv q (hids j q hq)) (.inr (.inr (hmv j hj)))
      ·rw [F3 (by omega)]; rfl
 ·have := G.le; rw [hlen]; omega
 ·have := G.le
  show (if j = n then ρ i else ρ j) = ρ0 j
  rw [if_neg (by omega)]; exact G.old j hj
end
abbrev rN (l : List d9) : It := .row 86 (.instrs l)
abbrev rI (l : List Int) : It := .row 3 (.ints l)
theorem G4 (l : List d9) (fr : List Int) (at0 n o x y z u : Int) (h1 : l.length ≤ 8000000) (h2 : fr.length ≤ 8000000) : m7.ok Tryz.prog ⟨147, [.agg [.ref 0, .ref 1, iA at0], iA n, .agg [iA o, iA x, iA y, iA z, iA u]], [rN l, rI fr], [.dead, .dead, rN (l ++ [⟨o, x, y, z, u⟩]), rI (fr ++ [n])], .agg [.ref 2, .ref 3, iA at0]⟩ := by
 refine H8 20 Tryz.func147 [.row 86 (D.instrs l), .row 3 (D.ints fr)] [(0, .agg [.ref 0, .ref 1, iA at0]), (1, iA n), (2, .agg [iA o, iA x, iA y, iA z, iA u])] fun G => ?_; refine wp_seq (m5 G i7 [0, 1, 2, 10, 18] [.row 86 (D.instrs l), .row 3 (D.ints fr), .box [.ref 0, .ref 1, iA at0], .box [iA o, iA x, iA y, iA z, iA u], .box [.v (.slice none 0 0), .v (.slice none 0 0), iA 0]] [(1, iA n), (3, .ptr 2 0), (5, .ptr 3 0), (6, .ptr 4 0)] fun G => b0 (wp_seq (U0 G i7 [0, 1, 2, 4, 37] [.dead, .row 3 (D.ints fr), .box [.ref 4, .ref 1, iA at0], .box [.v (.slice none 0 0), .v (.slice none 0 0), iA 0], .row 86 (D.instrs (l ++ ([d9.mk o x y z u] ++ [])))] [(1, iA n), (3, .ptr 2 0), (6, .ptr 3 0)] (aP (l.length + 1) 40 []) (aK (by omega) b91) fun G => b0 (wp_seq (U0 G i7 [0, 1, 2, 3, 4, 37] [.dead, .dead, .box [.ref 4, .ref 5, iA at0], .box [.v (.slice none 0 0), .v (.slice none 0 0), iA 0], .row 86 (D.instrs (l ++ ([d9.mk o x y z u] ++ []))), .row 3 (D.ints (fr ++ ([n] ++ [])))] [(3, .ptr 2 0), (6, .ptr 3 0)] (aP (fr.length + 1) 8 []) (aK (by omega) b91) fun G => b0 (wp_seq (m5 G i7 [0, 1, 3, 4, 5] [.dead, .dead, .box [.ref 3, .ref 4, iA at0], .row 86 (D.instrs (l ++ ([d9.mk o x y z u] ++ []))), .row 3 (D.ints (fr ++ ([n] ++ [])))] [(6, .ptr 2 0)] fun G => b0 (wp_ret ?_)))))))); exact Q9 G [0, 1, 3, 4]
abbrev l7C (l : List d9) (fr : List Int) (at0 n : Int) (e : d7) (reg : Int) : m7 := ⟨239, [.agg [.ref 0, .ref 1, iA at0], iA n, eA e 2, iA reg], [rN l, rI fr, dE e.kids], [.dead, .dead, dE e.kids, rN (l ++ b6 e reg), rI (fr ++ b82 (b6 e reg).length n)], .agg [.ref 3, .ref 4, iA at0]⟩
theorem ce1 {e : d7} {r : Int} (k : e.kind = 1) : b6 e r = [⟨1, r, e.value, 0, 0⟩] := by rw [ao3, if_pos k]
theorem ce2 {e : d7} {r : Int} (k : e.kind = 2) : b6 e r = [⟨2, r, e.value, 0, 0⟩] := by rw [ao3, if_neg (by omega), if_pos k]
theorem aE6 (ks : List d7) (k : Nat) : s8 (ks.take k) ≤ s8 ks ∧ (k < ks.length → s8 (ks.take k) + 1 + F0 (ks.getD k b81) ≤ s8 ks) ∧ (ks.take k).length ≤ s8 (ks.take k) := by
 refine ⟨?_, fun h => ?_, at6 _⟩
 ·have := P6 (ks.take k) (ks.drop k)
  rw [List.take_append_drop] at this
  omega
 ·have h1 := P6 (ks.take (k + 1)) (ks.drop (k + 1))
  rw [List.take_append_drop, n9 _ _ h, P6, ← p6 (d := b81) h] at h1
  simp only [s8] at h1
  omega
section
variable {e : d7} {l : List d9} {fr : List Int} {n reg : Int} {k : Nat}
theorem aV5 (e : d7) : F0 e = s8 e.kids := by cases e; rfl
theorem bF2 (h0 : 0 ≤ reg) (h1 : reg + F0 e ≤ 2000000) (hk : k < e.kids.length) : 0 ≤ reg + (k : Int) ∧ reg + (k : Int) + F0 (e.kids.getD k b81) ≤ 2000000 := by
 have h2 := (aE6 e.kids k).2.1 hk
 have h3 := (aE6 e.kids k).2.2
 rw [List.length_take] at h3
 rw [aV5] at h1
 omega
theorem bF3 (h2 : l.length + F0 e ≤ 5000000) (hk : k < e.kids.length) : (l ++ k6 (e.kids.take k) reg).length + F0 (e.kids.getD k b81) ≤ 5000000 := by
 have h3 := (aE6 e.kids k).2.1 hk
 have h4 := ah1 (e.kids.take k) reg
 rw [aV5] at h2
 rw [b83]
 omega
theorem H2 (h2 : l.length + F0 e ≤ 5000000) : (l ++ k6 (e.kids.take k) reg).length ≤ 5000000 := by
 have h3 := (aE6 e.kids k).1
 have h4 := ah1 (e.kids.take k) reg
 rw [aV5] at h2
 rw [b83]
 omega
theorem N0 (h3 : fr.length = l.length) : (fr ++ b82 (k6 (e.kids.take k) reg).length n).length = (l ++ k6 (e.kids.take k) reg).length := by simp [h3]
theorem bo7 (hk : k < e.kids.length) : l ++ k6 (e.kids.take (k + 1)) reg = l ++ k6 (e.kids.take k) reg ++ b6 (e.kids.getD k b81) (reg + (k : Int)) := by rw [aC3 hk, cc0]
theorem a86 (hk : k < e.kids.length) : fr ++ b82 (k6 (e.kids.take (k + 1)) reg).length n = fr ++ b82 (k6 (e.kids.take k) reg).length n ++ b82 (b6 (e.kids.getD k b81) (reg + (k : Int))).length n := by
 rw [aC3 hk, b83, cc0, List.replicate_append_replicate]
theorem a85 : l = l ++ k6 (e.kids.take 0) reg := by simp [k6]
theorem aT9 : fr = fr ++ b82 (k6 (e.kids.take 0) reg).length n := by simp [k6]
theorem az7 (k1 : ¬ e.kind = 1) (k2 : ¬ e.kind = 2) (hk : e.kids.length ≤ k) {x : d9} (hx : al3 e.kind e.value reg = x) : l ++ b6 e reg = l ++ k6 (e.kids.take k) reg ++ [x] := by
 rw [ao3, if_neg k1, if_neg k2, b98 hk, hx, cc0]
theorem ao4 (k1 : ¬ e.kind = 1) (k2 : ¬ e.kind = 2) (hk : e.kids.length ≤ k) : fr ++ b82 (b6 e reg).length n = fr ++ b82 (k6 (e.kids.take k) reg).length n ++ [n] := by
 rw [ao3, if_neg k1, if_neg k2, b98 hk, cc0, b83, b84, b86, List.replicate_succ']
theorem la3 (k : e.kind = 3) : al3 e.kind e.value reg = ⟨4, reg, e.value, reg, 0⟩ := by rw [al3, if_pos k]
theorem b03 (k : e.kind = 11) : al3 e.kind e.value reg = ⟨7, reg, reg, reg + 1, reg + 2⟩ := by rw [al3, if_neg (by omega), if_pos k]
theorem la0 (k3 : ¬ e.kind = 3) (k : ¬ e.kind = 11) : al3 e.kind e.value reg = ⟨6, reg, e.kind, reg, reg + 1⟩ := by rw [al3, if_neg k3, if_neg k]
end
abbrev ac2 (e : d7) (l : List d9) (fr : List Int) (n : Int) (reg : Int) : List It := [.dead, .dead, dE e.kids, .row 86 (D.instrs (l ++ b6 e reg)), .row 3 (D.ints (fr ++ b82 (b6 e reg).length n))]
abbrev Y7 (n : Int) (reg : Int) (r0 : List (Nat × AV)) : List (Nat × AV) := (1, iA n) :: (3, iA reg) :: (4, .ptr 3 0) :: (6, .ptr 4 0) :: (8, .ptr 5 0) :: r0
abbrev aU6 (e : d7) (at0 : Int) (r0 : List It) : List It := .dead :: .dead :: dE e.kids :: .box [.ref 6, .ref 7, iA at0] :: .box (eL e 2) :: .box [.v (.slice none 0 0), .v (.slice none 0 0), iA 0] :: r0
theorem by7 (e : d7) (ih : ∀ (u : d7), u ∈ e.kids → ∀ (l : List d9) (fr : List Int) (at0 n reg : Int), 0 ≤ reg → reg + F0 u ≤ 2000000 → l.length + F0 u ≤ 5000000 → fr.length = l.length → m7.ok Tryz.prog (l7C l fr at0 n u reg)) (l : List d9) (fr : List Int) (at0 n reg : Int) (r0 : 0 ≤ reg) (r1 : reg + F0 e ≤ 2000000) (r2 : l.length + F0 e ≤ 5000000) (r3 : fr.length = l.length) : m7.ok Tryz.prog (l7C l fr at0 n e reg) := by
  refine H8 82 Tryz.func239 [.row 86 (D.instrs l), .row 3 (D.ints fr), dE e.kids] [(0, .agg [.ref 0, .ref 1, iA at0]), (1, iA n), (2, eA e 2), (3, iA reg)] fun G => ?_
  have hlen : e.kids.length ≤ F0 e := by cases e; exact at6 _
  refine wp_seq (m5 G i7 [0, 1, 2, 3, 11, 19] [.row 86 (D.instrs l), .row 3 (D.ints fr), dE e.kids, .box [.ref 0, .ref 1, iA at0], .box (eL e 2), .box [.v (.slice none 0 0), .v (.slice none 0 0), iA 0]] (Y7 n reg []) fun G => b0 (wp_seq (wp_seq (l8 G i7 [(11, iA e.kind)] fun G => b0 (wp_block (wp_seq (l8 G i7 [(12, bA (e.kind == 1))] fun G => b0 (T1 G (fun h0 q0 => ?_) fun h0 q0 => ?_))))))))
  ·
   refine wp_seq (l8 G i7 [(21, bA (e.kind == 2))] fun G => b0 (T1 G (fun h1 q1 => ?_) fun h1 q1 => ?_))
   ·
    refine wp_skip (r7 (b0 (wp_seq (wp_seq (K8 G i7 (Y7 n reg [(9, iA 0)]) fun G => b0 (wp_block ?_)))))); obtain ⟨ρ, G⟩ := G.shift 0 6 [.dead, .row 3 (D.ints fr), dE e.kids, .box [.ref 6, .ref 1, iA at0], .box (eL e 2), .box [.v (.slice none 0 0), .v (.slice none 0 0), iA 0], .row 86 (D.instrs l)] (Y7 n reg [(9, iA 0)]); obtain ⟨ρ, G⟩ := G.shift 1 7 (aU6 e at0 [.row 86 (D.instrs l), .row 3 (D.ints fr)]) (Y7 n reg [(9, iA 0)]); replace G := G.as (aU6 e at0 [.row 86 (D.instrs (l ++ k6 (b88 0 e.kids) reg)), .row 3 (D.ints (fr ++ b82 (k6 (b88 0 e.kids) reg).length n))]) (Y7 n reg [(9, iA 0)]) (by have e1 : (l ++ k6 (b88 0 e.kids) reg : List d9) = (l) := a85.symm; have e2 : (fr ++ b82 (k6 (b88 0 e.kids) reg).length n : List Int) = (fr) := aT9.symm; (first | rw [e1, e2] | simp only [e1, e2]) <;> rfl) (by kernel_rfl); refine y9 (κ := Nat) (fun k => k ≤ e.kids.length) (fun k => e.kids.length - k) (fun k => [.dead, .dead, dE e.kids, .box [.ref 6, .ref 7, iA at0], .box (eL e 2), .box [.v (.slice none 0 0), .v (.slice none 0 0), iA 0], .row 86 (.instrs (l ++ k6 (e.kids.take k) reg)), .row 3 (.ints (fr ++ b82 (k6 (e.kids.take k) reg).length n))]) (fun k => [(1, iA n), (3, iA reg), (4, .ptr 3 0), (6, .ptr 4 0), (8, .ptr 5 0), (9, iA k)]) 0 (by simp [h0, h1]) (x8.at G _ _) ?_; clear G; intro k ρ a w hp G; replace G := x8.at G (aU6 e at0 [.row 86 (D.instrs (l ++ k6 (b88 k e.kids) reg)), .row 3 (D.ints (fr ++ b82 (k6 (b88 k e.kids) reg).length n))]) (Y7 n reg [(9, iA k)]); refine wp_seq (wp_seq (l8 G i7 [(34, bA (decide ((k : Int) < e.kids.length)))] fun G => b0 (rcD G (fun h2 q2 => ?_) fun h2 q2 => ?_)))
    ·
     refine wp_exit (y7 (y7 (y6 (b0 (wp_seq (wp_seq (l8 G i7 [(49, iA e.kind)] fun G => b0 (wp_block (wp_seq (l8 G i7 [(50, bA (e.kind == 3))] fun G => b0 (T1 G (fun h3 q3 => ?_) fun h3 q3 => ?_)))))))))))
     ·
      refine wp_seq (l8 G i7 [(60, bA (e.kind == 11))] fun G => b0 (T1 G (fun h4 q4 => ?_) fun h4 q4 => ?_))
      · refine wp_skip (r7 (b0 (wp_seq (U0 G (t5 9 [6, 7] (G4 (l ++ k6 (b88 k e.kids) reg) (fr ++ b82 (k6 (b88 k e.kids) reg).length n) at0 n 6 reg e.kind reg (reg + 1) (by have := H2 (k := k) (reg := reg) r2; have := N0 (e := e) (n := n) (k := k) (reg := reg) r3; omega) (by have := H2 (k := k) (reg := reg) r2; have := N0 (e := e) (n := n) (k := k) (reg := reg) r3; omega))) [0, 1, 2, 5, 80, 81] [.dead, .dead, dE e.kids, .box [.ref 4, .ref 5, iA at0], .row 86 (D.instrs (l ++ k6 (b88 k e.kids) reg ++ [d9.mk 6 reg e.kind reg (reg + 1)])), .row 3 (D.ints (fr ++ b82 (k6 (b88 k e.kids) reg).length n ++ [n]))] [(8, .ptr 3 0)] [wO (reg + 1)] (o1 (by omega)) fun G => b0 (wp_ret ?_))))); exact Q9 G [0, 1, 2, 4, 5] (by show _ = mR [0, 1, 2, 4, 5] (ac2 e l fr n reg); unfold ac2; have e1 : (l ++ b6 e reg : List d9) = (l ++ k6 (b88 k e.kids) reg ++ [d9.mk 6 reg e.kind reg (reg + 1)]) := (az7 (by omega) (by omega) (by omega) (la0 (by omega) (by omega))); have e2 : (fr ++ b82 (b6 e reg).length n : List Int) = (fr ++ b82 (k6 (b88 k e.kids) reg).length n ++ [n]) := (ao4 (by omega) (by omega) (by omega)); (first | rw [e1, e2] | simp only [e1, e2]) <;> rfl)
      · refine wp_seq (U0 G (t5 9 [6, 7] (G4 (l ++ k6 (b88 k e.kids) reg) (fr ++ b82 (k6 (b88 k e.kids) reg).length n) at0 n 7 reg reg (reg + 1) (reg + 2) (by have := H2 (k := k) (reg := reg) r2; have := N0 (e := e) (n := n) (k := k) (reg := reg) r3; omega) (by have := H2 (k := k) (reg := reg) r2; have := N0 (e := e) (n := n) (k := k) (reg := reg) r3; omega))) [0, 1, 2, 3, 4, 5, 6, 7, 80, 81] [.dead, .dead, dE e.kids, .box [.ref 6, .ref 7, iA at0], .box (eL e 2), .box [.ref 8, .ref 9, iA at0], .dead, .dead, .row 86 (D.instrs (l ++ k6 (b88 k e.kids) reg ++ [d9.mk 7 reg reg (reg + 1) (reg + 2)])), .row 3 (D.ints (fr ++ b82 (k6 (b88 k e.kids) reg).length n ++ [n]))] (Y7 n reg []) [wO (reg + 1), wO (reg + 2)] (o2 (by omega)) fun G => b0 (wp_ret (B7 (m8 ?_)))); exact Q9 G [0, 1, 2, 8, 9] (by show _ = mR [0, 1, 2, 8, 9] (ac2 e l fr n reg); unfold ac2; have e1 : (l ++ b6 e reg : List d9) = (l ++ k6 (b88 k e.kids) reg ++ [d9.mk 7 reg reg (reg + 1) (reg + 2)]) := (az7 (by omega) (by omega) (by omega) (b03 (by omega))); have e2 : (fr ++ b82 (b6 e reg).length n : List Int) = (fr ++ b82 (k6 (b88 k e.kids) reg).length n ++ [n]) := (ao4 (by omega) (by omega) (by omega)); (first | rw [e1, e2] | simp only [e1, e2]) <;> rfl)
     · refine wp_seq (m5 G (t5 7 [6, 7] (G4 (l ++ k6 (b88 k e.kids) reg) (fr ++ b82 (k6 (b88 k e.kids) reg).length n) at0 n 4 reg e.value reg 0 (by have := H2 (k := k) (reg := reg) r2; have := N0 (e := e) (n := n) (k := k) (reg := reg) r3; omega) (by have := H2 (k := k) (reg := reg) r2; have := N0 (e := e) (n := n) (k := k) (reg := reg) r3; omega))) [0, 1, 2, 3, 4, 5, 6, 7, 64, 65] [.dead, .dead, dE e.kids, .box [.ref 6, .ref 7, iA at0], .box (eL e 2), .box [.ref 8, .ref 9, iA at0], .dead, .dead, .row 86 (D.instrs (l ++ k6 (b88 k e.kids) reg ++ [d9.mk 4 reg e.value reg 0])), .row 3 (D.ints (fr ++ b82 (k6 (b88 k e.kids) reg).length n ++ [n]))] (Y7 n reg []) fun G => b0 (wp_ret (B7 (m8 ?_)))); exact Q9 G [0, 1, 2, 8, 9] (by show _ = mR [0, 1, 2, 8, 9] (ac2 e l fr n reg); unfold ac2; have e1 : (l ++ b6 e reg : List d9) = (l ++ k6 (b88 k e.kids) reg ++ [d9.mk 4 reg e.value reg 0]) := (az7 (by omega) (by omega) (by omega) (la3 (by omega))); have e2 : (fr ++ b82 (b6 e reg).length n : List Int) = (fr ++ b82 (k6 (b88 k e.kids) reg).length n ++ [n]) := (ao4 (by omega) (by omega) (by omega)); (first | rw [e1, e2] | simp only [e1, e2]) <;> rfl)
    · refine wp_skip (b0 (wp_seq (wp_block (R5 G (t5 10 [6, 7, 56] (ih (e.kids.getD k b81) (av1 (by omega)) (l ++ k6 (b88 k e.kids) reg) (fr ++ b82 (k6 (b88 k e.kids) reg).length n) at0 n (reg + (k : Int)) (by have := H2 (k := k) (reg := reg) r2; have := N0 (e := e) (n := n) (k := k) (reg := reg) r3; omega) ((bF2 r0 r1 (by omega)).2) (bF3 r2 (by omega)) (N0 r3))) [0, 0, 0, 4, 0, 28, 60, 0, 0, 384, 1023, 2047] [0, 1, 2, 3, 4, 5, 88, 89] (aU6 e at0 [.row 86 (D.instrs (l ++ k6 (b88 k e.kids) reg ++ b6 (e.kids.getD k b81) (reg + (k : Int)))), .row 3 (D.ints (fr ++ b82 (k6 (b88 k e.kids) reg).length n ++ b82 (b6 (e.kids.getD k b81) (reg + (k : Int))).length n))]) (Y7 n reg [(9, iA k)]) (iX k k e.kids.length ((wO (reg + (k : Int))) :: [])) (iK (by have := H2 (k := k) (reg := reg) r2; have := N0 (e := e) (n := n) (k := k) (reg := reg) r3; omega) (o1 (by omega))) fun G => r7 (b0 (K7 G i7 [(9, iA ((k : Int) + 1))] [wO ((k : Int) + 1)] (o1 (by omega)) fun G => b0 ?_)))))); exact rxn G (k + 1) (by have := H2 (k := k) (reg := reg) r2; have := N0 (e := e) (n := n) (k := k) (reg := reg) r3; omega) (by have := H2 (k := k) (reg := reg) r2; have := N0 (e := e) (n := n) (k := k) (reg := reg) r3; omega) (rg 8) (by have e1 : (l ++ k6 (b88 (k + 1) e.kids) reg : List d9) = (l ++ k6 (b88 k e.kids) reg ++ b6 (e.kids.getD k b81) (reg + (k : Int))) := (bo7 (by omega)); have e2 : (fr ++ b82 (k6 (b88 (k + 1) e.kids) reg).length n : List Int) = (fr ++ b82 (k6 (b88 k e.kids) reg).length n ++ b82 (b6 (e.kids.getD k b81) (reg + (k : Int))).length n) := (a86 (by omega)); (first | rw [e1, e2] | simp only [e1, e2]) <;> rfl)
   · refine wp_seq (m5 G (t5 6 [0, 1] (G4 l fr at0 n 2 reg e.value 0 0 (by omega) (by omega))) [0, 1, 2, 3, 4, 5, 54, 55] [.dead, .dead, dE e.kids, .box [.ref 0, .ref 1, iA at0], .box (eL e 2), .box [.ref 6, .ref 7, iA at0], .row 86 (D.instrs (l ++ [d9.mk 2 reg e.value 0 0])), .row 3 (D.ints (fr ++ [n]))] (Y7 n reg []) fun G => b0 (wp_ret (B7 (m8 ?_)))); exact Q9 G [0, 1, 2, 6, 7] (by show _ = mR [0, 1, 2, 6, 7] (ac2 e l fr n reg); unfold ac2; rw [ce2 (by omega)] <;> rfl)
  · refine wp_seq (m5 G (t5 6 [0, 1] (G4 l fr at0 n 1 reg e.value 0 0 (by omega) (by omega))) [0, 1, 2, 3, 4, 5, 54, 55] [.dead, .dead, dE e.kids, .box [.ref 0, .ref 1, iA at0], .box (eL e 2), .box [.ref 6, .ref 7, iA at0], .row 86 (D.instrs (l ++ [d9.mk 1 reg e.value 0 0])), .row 3 (D.ints (fr ++ [n]))] (Y7 n reg []) fun G => b0 (wp_ret (B7 (m8 ?_)))); exact Q9 G [0, 1, 2, 6, 7] (by show _ = mR [0, 1, 2, 6, 7] (ac2 e l fr n reg); unfold ac2; rw [ce1 (by omega)] <;> rfl)
theorem a91 (e : d7) : ∀ (l : List d9) (fr : List Int) (at0 n reg : Int), 0 ≤ reg → reg + F0 e ≤ 2000000 → l.length + F0 e ≤ 5000000 → fr.length = l.length → m7.ok Tryz.prog (l7C l fr at0 n e reg) :=
 d7.ind (P := fun e => ∀ (l : List d9) (fr : List Int) (at0 n reg : Int), 0 ≤ reg → reg + F0 e ≤ 2000000 → l.length + F0 e ≤ 5000000 → fr.length = l.length → m7.ok Tryz.prog (l7C l fr at0 n e reg)) (fun k v ks ih l fr at0 n reg r0 r1 r2 r3 => by7 ⟨k, v, ks⟩ (fun u hu => ih u hu) l fr at0 n reg r0 r1 r2 r3) e
theorem av5 {nv na d k : Nat} {ss : List b5} (hs : ss.all (i9 nv na (d + 1)) = true) (hk : k < ss.length) : D5 nv na (ss.getD k b81) = true ∧ (ss.getD k b81).body.all (i9 nv na d) = true ∧ (ss.getD k b81).els.all (i9 nv na d) = true := by
 have h := b93.1 hs _ (ca5 hk)
 rw [O5, b85, b85] at h
 rw [p6 hk]; exact h
end Go.Proofs.YthikdkjjdeehoaaGreat
