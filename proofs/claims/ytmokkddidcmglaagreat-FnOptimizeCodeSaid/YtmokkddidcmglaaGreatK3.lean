/- Part 3: functions on the way, plain laws. Conditions: as said. -/
import Derived.Laws.StructEq
import Derived.Deep.LoopGhost
import Derived.Test.YtmokkddidcmglaaGreatK1
import Derived.Test.YtmokkddidcmglaaGreatK2
set_option maxRecDepth 100000
set_option maxHeartbeats 16000000
set_option linter.unusedVariables false
set_option linter.unusedSimpArgs false
open Bool renaming and_eq_true → cb0
open Int renaming toNat_natCast → ce4, toNat_of_nonneg → cf4
open List renaming getElem?_cons_succ → cb5, getElem?_cons_zero → cb4, getElem?_eq_getElem → ca8, mem_of_getElem? → cc3, range → cc5
open Nat renaming add_zero → cf3, le_refl → cb1, le_trans → cd3, lt_of_lt_of_le → cf1, lt_succ_self → cd8, zero_le → cc7
open True renaming intro → cc2

namespace Go.Proofs.YtmokkddidcmglaaGreat
open Go Go.RowKit
def B7 (w : World) (φ : Nat → Prop) (v : Value) (c : b6) : Prop :=
 ∃ v1 v2 v3, v = .agg #[v1, v2, v3] ∧ l9 w φ v1 c.vars.length 1 (ints c.vars) ∧ l9 w φ v2 c.arrays.length 1 (ints c.arrays) ∧ l9 w φ v3 c.list.length 5 (ints (t8 c.list))
theorem B7.nice (v : Value) (c : b6) : T4 fun w φ => B7 w φ v c := by
 rintro w w' φ φ' ha ⟨v1, v2, v3, rfl, h1, h2, h3⟩
 exact ⟨v1, v2, v3, rfl, l9.nice _ _ _ _ _ _ _ _ ha h1, l9.nice _ _ _ _ _ _ _ _ ha h2, l9.nice _ _ _ _ _ _ _ _ ha h3⟩
theorem B7.row {w : World} {φ : Nat → Prop} {v : Value} {c : b6} (h : B7 w φ v c) : r8 w v c := by
 obtain ⟨v1, v2, v3, rfl, h1, h2, h3⟩ := h
 exact ⟨v1, v2, v3, rfl, h1.row, h2.row, h3.row⟩
theorem aV4 (v : Value) (c : b6) (hc : e6 c = true) (w : World) (h : r8 w v c) :
  Calls Tryz.prog 41 #[v] w fun e w' => ∃ z, e = .returned z ∧ B7 w' (fun b => w.heap.size ≤ b) z (H4 c) ∧ Below w.heap.size w w' := by
 have hrow := h
 obtain ⟨v1, v2, v3, rfl, h1, h2, h3⟩ := h
 obtain ⟨a3, k3, rfl, -, hm3, -, hc3⟩ := h3.ins
 have hn4 := (i8 hc).2.2.1
 obtain ⟨φ, hφ⟩ : ∃ φ : Nat → Prop, φ = fun b => w.heap.size ≤ b := ⟨_, rfl⟩
 obtain ⟨W, hW, M⟩ : ∃ W, W = (w.alloc (.cells #[v1, v2, .slice a3 c.list.length k3] 26)).alloc (.cells #[.slice none 0 0, .slice none 0 0, .slice none 0 0] 26) ∧ C0 φ (fun _ => True) w W [.box w.heap.size [v1, v2, .slice a3 c.list.length k3], .box (w.heap.size + 1) [.slice none 0 0, .slice none 0 0, .slice none 0 0]] :=
  ⟨_, rfl, ((C0.start (by rw [hφ]; exact fun _ h => h)).box _ _).box' _ _ (by simp)⟩
 have HF := show Hid _ from hφ
 clear hφ
 have x0 := M.c 0 0 rfl rfl
 have x1 := M.c 0 1 rfl rfl
 have x2 := M.c 0 2 rfl rfl
 rw [hW] at x0 x1 x2
 go_enter Tryz.func41, Tryz.ntmps41
 go_wp2_with fail
 rw [← hW]
 clear hW x0 x1 x2
 refine (aN3 _ c hc _ (hrow.below (M.below fun _ _ => trivial))).mono ?_
 rintro e w1 ⟨ud, rfl, od, b1⟩
 obtain ⟨ad, kd, rfl⟩ := od.form
 replace M := M.callR b1 od.1
 have HI := show Hid _ from hc3
 clear hc3 od b1
 go_wp2_with fail
 rw [← aP6] at M
 go_loopw [4] (fun i wr => ∃ k : Nat, k ≤ c.list.length ∧ i = .int .i64 k ∧ C0 φ (fun _ => True) w wr [.box w.heap.size [v1, v2, .slice a3 c.list.length k3], .box (w.heap.size + 1) [.slice none 0 0, .slice none 0 0, .slice none 0 0], .row 4 1 (.slice ad c.list.length kd) c.list.length (bools (z8 c k))]) (fun i _ => c.list.length - (intOf i).toNat)
 case atStart => exact ⟨0, cc7 _, rfl, M⟩
 case round =>
  clear M
  obtain ⟨k, hk, rfl, M⟩ := hrel
  have x2 := M.c 0 2 rfl rfl
  by_cases hlt : k < c.list.length
  ·have hb := M.below fun _ _ => trivial
   obtain ⟨b, off, he3, hb3, i0, i1, -⟩ := HI.out k hlt
   rw [← (D8 hb).1 _ _ hb3] at i0 i1
   have HK : Hid (aD2 c k = (decide (c.list[k].op = 8) && decide (c.list[k].a = (k : Int) + 1))) := by unfold Hid aD2; rw [B9 hlt]
   have HKEEP := show Hid (aD2 c k = false → z8 c (k + 1) = z8 c k) from fun h => aP7 h
   have HPUT := show Hid (aD2 c k = true → z8 c (k + 1) = (z8 c k).set k false) from fun h => aZ1 hlt h
   obtain ⟨x, hx⟩ : ∃ x, x = c.list[k] := ⟨_, rfl⟩
   rw [← hx] at i0 i1 HK
   clear hx hb
   subst he3
   have hki : (k : Int) < c.list.length := by omega
   obtain ⟨g, cap, hv, hg1, hg2, hg3, hf, u, yk⟩ := (y7.mk' (M.r 2 rfl)).at (j := k) (by simp [bools, Z4]; exact hlt)
   cases hv
   by_cases hh : x.op = 8 ∧ x.a = (k : Int) + 1
   ·have q8 : (x.op == 8) = true := by simp [hh.1]
    have qa : (x.a == (k : Int) + 1) = true := by simp [hh.2]
    have HV := show Hid (z8 c (k + 1) = (z8 c k).set k false) from HPUT.out (by rw [HK.out]; simp [hh.1, hh.2])
    have M' := M.rowSet 2 rfl (j := k) (by simp [bools, Z4]; exact hlt) (.bool false)
    rw [show (bools (z8 c k)).set k (.bool false) = bools ((z8 c k).set k false) by simp [bools, List.map_set], ← HV.out] at M'
    clear hh M
    go_wp2_with fail
    exact ⟨⟨k + 1, by omega, by go_num, M'⟩, by simp [intOf]; omega⟩
   ·have HV := show Hid (z8 c (k + 1) = z8 c k) from HKEEP.out (by rw [HK.out]; cases h8 : decide (x.op = 8) <;> cases ha : decide (x.a = (k : Int) + 1) <;> simp_all)
    rw [← HV.out] at M
    by_cases h8 : x.op = 8
    ·have q8 : (x.op == 8) = true := by simp [h8]
     have qa : (x.a == (k : Int) + 1) = false := by simp; exact fun h => hh ⟨h8, h⟩
     clear hh h8
     go_wp2_with fail
     exact ⟨⟨k + 1, by omega, by go_num, M⟩, by simp [intOf]; omega⟩
    ·have q8 : (x.op == 8) = false := by simp [h8]
     clear hh h8
     go_wp2_with fail
     exact ⟨⟨k + 1, by omega, by go_num, M⟩, by simp [intOf]; omega⟩
  ·have hkn : k = c.list.length := by omega
   subst hkn
   rw [aZ2] at M
   go_wp2_with fail
   clear x2
   have HKL := show Hid _ from ad2 c
   replace M := M.add ((Below.refl _ _).alloc (cb1 _) _) (.row 3 1 (.slice (some ⟨wr.heap.size, 0, none⟩) 0 0) 0 []) (v8 (t0 wr (g := wr.heap.size) #[] 0 1 3 rfl rfl (by omega)).1 (cc7 _)) (fun g hg => by cases hg; exact cb1 _)
   generalize wr.alloc (.cells #[] 3) = wa at *
   go_loopw [5, 6, 7] (fun q m i wr => ∃ (k : Nat) (a : Option Addr) (cq : Nat), k ≤ c.list.length ∧ i = .int .i64 k ∧ m = .int .i64 (Q3 (A7 c) k : Int) ∧ q = .slice a k cq ∧ C0 φ (fun _ => True) w wr [.box w.heap.size [v1, v2, .slice a3 c.list.length k3], .box (w.heap.size + 1) [.slice none 0 0, .slice none 0 0, .slice none 0 0], .row 4 1 (.slice ad c.list.length kd) c.list.length (bools (A7 c)), .row 3 1 q k (ints (ae8 (A7 c) k))]) (fun _ _ i _ => c.list.length - (intOf i).toNat)
   case atStart => exact ⟨0, _, _, cc7 _, rfl, by rw [ab3]; rfl, rfl, M⟩
   case round =>
    clear M
    obtain ⟨k, qa, cq, hk, rfl, rfl, rfl, M⟩ := hrel
    by_cases hlt : k < c.list.length
    ·obtain ⟨g, cap, hv, hg1, hg2, hg3, -, -, -, hgc⟩ := (y7.mk' (M.r 2 rfl)).open (by omega)
     cases hv
     have hkl := HKL.out
     have yk := hgc k _ (V4 _ k (by omega))
     have hde : (A7 c)[k]'(by omega) = (A7 c).getD k false := by simp [show k < (A7 c).length by omega]
     rw [hde] at yk
     have HS := show Hid _ from W5 (A7 c) k (by omega)
     have HP := show Hid _ from aK4 (A7 c) k
     have hpl := bv0 (A7 c) k
     clear hgc hde
     have bz : Below wr.heap.size wr (wr.alloc (.cells #[.int .i64 (Q3 (A7 c) k : Int)] 3)) := by go_grown
     have M1 := M.call bz
     have hown := M1.r 3 rfl
     have hne : ∀ g', (Value.slice qa k cq).ownBlock = some g' → g' ≠ g := fun g' h e => M.dis 3 2 _ _ g' rfl rfl (by omega) h (by rw [e]; rfl)
     have HNE := show Hid _ from hne
     have HM := show Hid _ from M1
     clear M M1 hne
     cases hkb : (A7 c).getD k false
     all_goals
      have HB := show Hid _ from hkb
      clear hkb
      have hyk : ∀ w4 v4, C0 φ (fun _ => True) w w4 [.box w.heap.size [v1, v2, .slice a3 c.list.length k3], .box (w.heap.size + 1) [.slice none 0 0, .slice none 0 0, .slice none 0 0], .row 4 1 (.slice (some ⟨g, 0, none⟩) c.list.length kd) c.list.length (bools (A7 c)), v4] → w4.cell? ⟨g, k, none⟩ = some (.bool ((A7 c).getD k false)) := by
       intro w4 v4 M4
       obtain ⟨g', cap', hv', -, -, -, -, -, -, hgc⟩ := (y7.mk' (M4.r 2 rfl)).open (by omega)
       cases hv'
       rw [hgc k _ (V4 _ k (by omega))]
       simp [show k < (A7 c).length by omega]
      have HYK := show Hid _ from hyk
      clear hyk
      go_wp2_with (at_builtin; refine A5 rfl _ _ rfl Tryz.underlying23 ab9 rfl (by omega) rfl hown rfl (af9 wr (.int .i64 (Q3 (A7 c) k : Int)) _ rfl) (bG9 _) (by omega) (by omega) (cc7 _) ?_; rintro a4 q4 w4 o4 - g4 n4; have HM4 := show Hid _ from HM.out.app 3 rfl o4 g4 n4; have yk4 := HYK.out w4 _ HM4.out; rw [HB.out] at yk4)
      have M4 := HM4.out
      refine ⟨⟨k + 1, a4, q4, by omega, by go_num, by rw [HS.out, HB.out]; go_num, by simp, ?_⟩, by simp [intOf]; omega⟩
      rw [HP.out, show ints (ae8 (A7 c) k ++ [(Q3 (A7 c) k : Int)]) = ints (ae8 (A7 c) k) ++ [.int .i64 (Q3 (A7 c) k : Int)] by simp [ints]]
      exact M4
    ·have hkn : k = c.list.length := by omega
     subst hkn
     go_wp2_with fail
     have hsz := S8 hc
     unfold b6.size at hsz
     have HM := show Hid _ from M
     have HR := show Hid (∀ W', Below wr.heap.size wr W' → (D3 W' v1 c.vars.length 1 (ints c.vars) ∧ D3 W' v2 c.arrays.length 1 (ints c.arrays)) ∧ W'.cell? ⟨w.heap.size, 0, none⟩ = some v1 ∧ W'.cell? ⟨w.heap.size, 1, none⟩ = some v2) from fun W' k => by
      have M' := M.call k
      have bb := M'.below fun _ _ => trivial
      exact ⟨⟨h1.below bb, h2.below bb⟩, M'.c 0 0 rfl rfl, M'.c 0 1 rfl rfl⟩
     have hfr := M.frFresh
     obtain ⟨φ', hφ'⟩ : ∃ φ', φ' = Fr φ [.box w.heap.size [v1, v2, .slice a3 c.list.length k3], .box (w.heap.size + 1) [.slice none 0 0, .slice none 0 0, .slice none 0 0], .row 4 1 (.slice ad c.list.length kd) c.list.length (bools (A7 c)), .row 3 1 (.slice qa c.list.length cq) c.list.length (ints (ae8 (A7 c) c.list.length))] := ⟨_, rfl⟩
     rw [← hφ'] at hfr
     have HFR := show Hid _ from hfr
     have HPH := show Hid _ from hφ'
     clear M hφ' hfr
     refine an0 10 (PS [bC3, IsS (.pointer (some ⟨w.heap.size, 0, none⟩)), IsS v1, bK2 φ' (fun v w φ => l9 w φ v c.vars.length 1 (ints c.vars)), bC3, IsS (.pointer (some ⟨w.heap.size, 1, none⟩)), IsS v2, bK2 φ' (fun v w φ => l9 w φ v c.arrays.length 1 (ints c.arrays)),
      bK2 φ' (fun x w φ => ∃ y1 y2, x = .agg #[y1, y2, .slice none 0 0] ∧ l9 w φ y1 c.vars.length 1 (ints c.vars) ∧ l9 w φ y2 c.arrays.length 1 (ints c.arrays)), b37 [.slice none 0 0, .slice none 0 0, .slice none 0 0]])
      (by kernel_rfl) (by kernel_rfl) (by kernel_rfl) (PS.stable ⟨br9, be5 _, be5 _, a59 _ (fun _ => l9.nice _ _ _ _), br9, be5 _, be5 _, a59 _ (fun _ => l9.nice _ _ _ _),
       a59 _ (fun _ _ _ _ _ ha ⟨y1, y2, e, g1, g2⟩ => ⟨y1, y2, e, l9.nice _ _ _ _ _ _ _ _ ha g1, l9.nice _ _ _ _ _ _ _ _ ha g2⟩), bN8 _, cc2⟩) ?_ ?_
     ·intro i o hi ho f W' S hG hdep Q' hQ
      have hc : i = 0 ∨ i = 1 ∨ i = 2 ∨ i = 3 ∨ i = 4 ∨ i = 5 ∨ i = 6 ∨ i = 7 ∨ i = 8 ∨ i = 9 := by omega
      have HQ := show Hid _ from hQ
      have HG := show Hid _ from hG
      clear hQ hG
      rcases hc with rfl | rfl | rfl | rfl | rfl | rfl | rfl | rfl | rfl | rfl
      all_goals
       simp only [cb4, cb5, Option.some.injEq] at ho
       subst ho
      ·clear hdep
       simp only [y8]
       go_wp2_with fail
       exact Y9 (HQ.out.1 (.slice (some ⟨W'.heap.size, 0, none⟩) 0 0) _ (by go_grown) ⟨_, rfl⟩) (by kernel_rfl)
      ·clear hdep
       simp only [y8]
       go_wp2_with fail
       exact Y9 (HQ.out.1 (.pointer (some ⟨w.heap.size, 0, none⟩)) _ (Below.refl _ _) rfl) (by kernel_rfl)
      ·have e1 : f 1 = .pointer (some ⟨w.heap.size, 0, none⟩) := hdep { on := 1, ground := .data } (by simp) (by kernel_rfl)
       have cc := (HR.out W' HG.out.below).2.1
       clear hdep
       obtain ⟨f', rfl⟩ := ab1 e1
       clear e1
       simp only [y8, upd, ↓reduceIte, Nat.reduceEqDiff]
       go_wp2_with fail
       exact Y9 (HQ.out.1 v1 _ (Below.refl _ _) rfl) (by kernel_rfl)
      ·have e0 : bC3 (f 0) W' S := hdep { on := 0, ground := .data } (by simp) (by kernel_rfl)
       have e2 : f 2 = v1 := hdep { on := 2, ground := .data } (by simp) (by kernel_rfl)
       refine an1 rfl _ _ rfl Tryz.underlying23 ab9 rfl (by omega) e0 (by kernel_rfl) (Eq.trans (by kernel_rfl) e2) (HR.out W' HG.out.below).1.1 (by omega) ?_
       intro x w' ox bx
       exact wpList_nil (HQ.out.1 _ _ bx (l9.nice _ _ _ _ _ _ _ _ (Agr.mono (HG.out.fresh' bx HFR.out)) ox))
      ·clear hdep
       simp only [y8]
       go_wp2_with fail
       exact Y9 (HQ.out.1 (.slice (some ⟨W'.heap.size, 0, none⟩) 0 0) _ (by go_grown) ⟨_, rfl⟩) (by kernel_rfl)
      ·clear hdep
       simp only [y8]
       go_wp2_with fail
       exact Y9 (HQ.out.1 (.pointer (some ⟨w.heap.size, 1, none⟩)) _ (Below.refl _ _) rfl) (by kernel_rfl)
      ·have e1 : f 5 = .pointer (some ⟨w.heap.size, 1, none⟩) := hdep { on := 5, ground := .data } (by simp) (by kernel_rfl)
       have cc := (HR.out W' HG.out.below).2.2
       clear hdep
       obtain ⟨f', rfl⟩ := ab1 e1
       clear e1
       simp only [y8, upd, ↓reduceIte, Nat.reduceEqDiff]
       go_wp2_with fail
       exact Y9 (HQ.out.1 v2 _ (Below.refl _ _) rfl) (by kernel_rfl)
      ·have e0 : bC3 (f 4) W' S := hdep { on := 4, ground := .data } (by simp) (by kernel_rfl)
       have e2 : f 6 = v2 := hdep { on := 6, ground := .data } (by simp) (by kernel_rfl)
       refine an1 rfl _ _ rfl Tryz.underlying23 ab9 rfl (by omega) e0 (by kernel_rfl) (Eq.trans (by kernel_rfl) e2) (HR.out W' HG.out.below).1.2 (by omega) ?_
       intro x w' ox bx
       exact wpList_nil (HQ.out.1 _ _ bx (l9.nice _ _ _ _ _ _ _ _ (Agr.mono (HG.out.fresh' bx HFR.out)) ox))
      ·have g3 : l9 W' (RF φ' S) (f 3) c.vars.length 1 (ints c.vars) := hdep { on := 3, ground := .data } (by simp) (by kernel_rfl)
       have g7 : l9 W' (RF φ' S) (f 7) c.arrays.length 1 (ints c.arrays) := hdep { on := 7, ground := .data } (by simp) (by kernel_rfl)
       obtain ⟨p3, k3', e3⟩ := g3.row.form
       obtain ⟨p7, k7', e7⟩ := g7.row.form
       rw [e3] at g3
       rw [e7] at g7
       clear hdep
       obtain ⟨f', rfl⟩ := ab1 e3
       clear e3
       simp only [upd, ↓reduceIte, Nat.reduceEqDiff] at e7
       obtain ⟨f'', rfl⟩ := ab1 e7
       clear e7
       simp only [y8, upd, ↓reduceIte, Nat.reduceEqDiff]
       go_wp2_with fail
       exact Y9 (HQ.out.1 (.agg #[.slice p3 c.vars.length k3', .slice p7 c.arrays.length k7', .slice none 0 0]) _ (Below.refl _ _) ⟨_, _, rfl, g3, g7⟩) (by kernel_rfl)
      ·clear hdep
       simp only [y8]
       go_wp2_with fail
       exact Y9 (HQ.out.2 (.pointer (some ⟨W'.heap.size, 0, none⟩)) _ (by go_grown) (by simp) ⟨_, rfl, v9.new W' [.slice none 0 0, .slice none 0 0, .slice none 0 0] _, .inr rfl⟩) (by kernel_rfl)
     ·intro o ho f W' S hG hall
      simp only [cb4, cb5, Option.some.injEq] at ho
      subst ho
      obtain ⟨y1, y2, e8, g1, g2⟩ : ∃ y1 y2, f 8 = .agg #[y1, y2, .slice none 0 0] ∧ l9 W' (RF φ' S) y1 c.vars.length 1 (ints c.vars) ∧ l9 W' (RF φ' S) y2 c.arrays.length 1 (ints c.arrays) := hall 8 (by omega)
      obtain ⟨gb, e9, Lb, hgb⟩ : ∃ g, f 9 = .pointer (some ⟨g, 0, none⟩) ∧ v9 W' g [.slice none 0 0, .slice none 0 0, .slice none 0 0] ∧ S g := hall 9 (by omega)
      obtain ⟨p1, q1, rfl⟩ := g1.row.form
      obtain ⟨p2, q2, rfl⟩ := g2.row.form
      clear hall
      have M := HM.out
      rw [HPH.out] at g1 g2
      have M1 := M.region hG Lb hgb
      have M2 := C0.rdat [_] M1 (fun r hr g h => by simp at hr; subst hr; cases h; exact hgb) (l9.nice _ _ _ _) g1
      have M3 := C0.rdat [_, _] M2 (fun r hr g h => by simp at hr; rcases hr with rfl | rfl <;> cases h; exact hgb) (l9.nice _ _ _ _) g2
      have M4 := (((M3.nil 60 5).set 4 rfl 0 (.slice p1 c.vars.length q1)).set 4 rfl 1 (.slice p2 c.arrays.length q2)).set 4 rfl 2 (.slice none 0 0)
      have c0 := Lb.cell 0
      have c1 := Lb.cell 1
      have c2 := Lb.cell 2
      simp only [cb4, cb5] at c0 c1 c2
      have fr := Lb.free
      have HM4 := show Hid _ from M4
      clear M M1 M2 M3 M4 g1 g2 HR HM HFR HPH hG
      obtain ⟨f', rfl⟩ := ab1 e8
      clear e8
      simp only [upd, ↓reduceIte, Nat.reduceEqDiff] at e9
      obtain ⟨f'', rfl⟩ := ab1 e9
      clear e9
      simp only [y8, upd, ↓reduceIte, Nat.reduceEqDiff]
      go_wp2_with fail
      clear c0 c1 c2 fr Lb
      have M := HM4.out
      clear HM4
      generalize ((W'.setCell ⟨gb, 0, none⟩ (.slice p1 c.vars.length q1)).setCell ⟨gb, 1, none⟩ (.slice p2 c.arrays.length q2)).setCell ⟨gb, 2, none⟩ (.slice none 0 0) = wa at *
      have HKL := show Hid _ from ad2 c
      obtain ⟨Q5, hQ5⟩ : ∃ Q5, Q5 = Value.slice qa c.list.length cq := ⟨_, rfl⟩
      obtain ⟨g5, c5, hv5, -⟩ := (y7.mk' (M.r 3 rfl)).open (by have := (i8 hc).2.1; omega)
      obtain ⟨g2, c2, hv2, -⟩ := (y7.mk' (M.r 2 rfl)).open (by have := (i8 hc).2.1; omega)
      cases hv5
      cases hv2
      clear hQ5 Q5
      go_loopw [9, 10] (fun i _ wr => ∃ (k : Nat) (qb : Option Addr) (cb : Nat), k ≤ c.list.length ∧ i = .int .i64 k ∧ C0 φ (fun _ => True) w wr [.box w.heap.size [v1, v2, .slice a3 c.list.length k3], .box (w.heap.size + 1) [.slice none 0 0, .slice none 0 0, .slice none 0 0], .row 4 1 (.slice (some ⟨g2, 0, none⟩) c.list.length kd) c.list.length (bools (A7 c)), .row 3 1 (.slice (some ⟨g5, 0, none⟩) c.list.length cq) c.list.length (ints (ae8 (A7 c) c.list.length)), .box gb [.slice p1 c.vars.length q1, .slice p2 c.arrays.length q2, .slice qb (j6 c (A7 c) k).length cb], .dat (fun w φ => l9 w φ (.slice p1 c.vars.length q1) c.vars.length 1 (ints c.vars)), .dat (fun w φ => l9 w φ (.slice p2 c.arrays.length q2) c.arrays.length 1 (ints c.arrays)), .row 60 5 (.slice qb (j6 c (A7 c) k).length cb) (j6 c (A7 c) k).length (ints (t8 (j6 c (A7 c) k)))]) (fun i _ _ => c.list.length - (intOf i).toNat)
      case atStart => exact ⟨0, none, 0, cc7 _, rfl, M⟩
      case round =>
       clear M
       obtain ⟨k, qb, cb, hk, rfl, M⟩ := hrel
       by_cases hlt : k < c.list.length
       ·obtain ⟨g', cap', hv', -, -, -, -, -, -, hgc⟩ := (y7.mk' (M.r 2 rfl)).open (by omega)
        cases hv'
        have hkl := HKL.out
        have yk := hgc k _ (V4 _ k (by omega))
        have hde : (A7 c)[k]'(by omega) = (A7 c).getD k false := by simp [show k < (A7 c).length by omega]
        rw [hde] at yk
        clear hgc hde
        have hb := M.below fun _ _ => trivial
        obtain ⟨bl, ol, he3, hb3, i0, i1, i2, i3, i4⟩ := HI.out k hlt
        rw [← (D8 hb).1 _ _ hb3] at i0 i1 i2 i3 i4
        subst he3
        have hins := (i8 hc).2.2.2.1 k hlt
        have HTG := show Hid (0 ≤ i6 c.list[k] → B6 c (i6 c.list[k])) from fun g => ⟨g, R0 hins g⟩
        have HTR : Hid (trI (A7 c) c.list[k] = if 0 ≤ i6 c.list[k] then B5 c.list[k] (Q3 (A7 c) (i6 c.list[k]).toNat : Int) else c.list[k]) := rfl
        have HPUT := show Hid ((A7 c).getD k false = true → j6 c (A7 c) (k + 1) = j6 c (A7 c) k ++ [trI (A7 c) c.list[k]]) from fun g => by rw [V0 g, B9 hlt]
        have HSKIP := show Hid ((A7 c).getD k false = false → j6 c (A7 c) (k + 1) = j6 c (A7 c) k) from fun g => V7 g
        have hle := an4 c (A7 c) k
        obtain ⟨x, hx⟩ : ∃ x, x = c.list[k] := ⟨_, rfl⟩
        rw [← hx] at i0 i1 i2 i3 i4 HTG HTR HPUT
        have hki : (k : Int) < c.list.length := by omega
        clear hx hins hb
        have x2 := M.c 0 2 rfl rfl
        cases hkb : (A7 c).getD k false
        ·rw [hkb] at yk
         have HN := HSKIP.out hkb
         rw [← HN] at M
         have HM := show Hid _ from M
         clear hkb HN M HSKIP HPUT
         go_wp2_with fail
         exact ⟨⟨k + 1, _, _, by omega, by go_num, HM.out⟩, by simp [intOf]; omega⟩
        ·rw [hkb] at yk
         have HN := show Hid _ from HPUT.out hkb
         clear hkb HSKIP HPUT
         have M1 := M.box [.int .i64 x.op, .int .i64 x.a, .int .i64 x.b, .int .i64 x.c, .int .i64 x.d] 60
         have HM1 := show Hid _ from M1
         clear M M1
         go_wp2_with fail
         clear yk i0 i1 i2 i3 i4 x2
         have M1 := HM1.out
         clear HM1
         obtain ⟨X0, hX0⟩ : ∃ X0, X0 = wr.heap.size := ⟨_, rfl⟩
         rw [← hX0] at M1 ⊢
         clear hX0
         refine (R6 x _).mono ?_
         rintro e w5 ⟨rfl, b5⟩
         have M5 := M1.call b5
         clear M1 b5
         by_cases ht : 0 ≤ i6 x
         ·have hpl := HTG.out ht
          have htr := HTR.out
          rw [if_pos ht] at htr
          obtain ⟨t, htt⟩ : ∃ t : Nat, i6 x = t := ⟨(i6 x).toNat, by omega⟩
          rw [htt] at htr hpl ht ⊢
          rw [ce4] at htr
          obtain ⟨hp0, hp1⟩ := hpl
          have htl : t < c.list.length := by omega
          obtain ⟨g, cap, hv, -, -, -, -, -, -, hcc⟩ := (y7.mk' (M5.r 3 rfl)).open (by omega)
          cases hv
          have hpc := hcc t _ (by rw [O7 _ _ (by rw [O5]; exact htl)])
          have hpe : (ae8 (A7 c) c.list.length)[t]'(by rw [O5]; exact htl) = (Q3 (A7 c) t : Int) := by
           have := aX6 (A7 c) c.list.length t htl
           rw [ca8 (by rw [O5]; exact htl)] at this
           exact Option.some.inj this
          rw [hpe] at hpc
          obtain ⟨q, hqe⟩ : ∃ q, q = B5 x (Q3 (A7 c) t : Int) := ⟨_, rfl⟩
          have HQE := show Hid (trI (A7 c) x = q) from by unfold Hid; rw [htr, hqe]
          have HC2 : Hid (∀ X, Calls Tryz.prog 57 #[.agg #[.int .i64 x.op, .int .i64 x.a, .int .i64 x.b, .int .i64 x.c, .int .i64 x.d]] (w5.ext X) fun e w'' => e = .returned (.int .i64 (t : Int)) ∧ ∃ Y, w'' = w5.ext Y) := fun X => Calls.ext_of' (by have := R6 x (w5.ext X); rw [htt] at this; exact this)
          have HC3 : Hid (∀ X, Calls Tryz.prog 58 #[.agg #[.int .i64 x.op, .int .i64 x.a, .int .i64 x.b, .int .i64 x.c, .int .i64 x.d], .int .i64 (Q3 (A7 c) t : Int)] (w5.ext X) fun e w'' => e = .returned (.agg #[.int .i64 q.op, .int .i64 q.a, .int .i64 q.b, .int .i64 q.c, .int .i64 q.d]) ∧ ∃ Y, w'' = w5.ext Y) := fun X => Calls.ext_of' ((aA2 x _ _).mono fun e w' h => by rw [← hqe] at h; exact h)
          have LX5 := M5.blk 8 rfl
          have hX3 := LX5.lt
          have i0 := LX5.cell 0
          have i1 := LX5.cell 1
          have i2 := LX5.cell 2
          have i3 := LX5.cell 3
          have i4 := LX5.cell 4
          simp only [cb4, cb5] at i0 i1 i2 i3 i4
          have j0 := fun X => i5 i0 X
          have j1 := fun X => i5 i1 X
          have j2 := fun X => i5 i2 X
          have j3 := fun X => i5 i3 X
          have j4 := fun X => i5 i4 X
          have jp := fun X => i5 hpc X
          have ff := fun (X : World) (j : Nat) => s6 (o := j) hX3 (LX5.free j) X
          have HM5 := show Hid _ from M5
          clear i0 i1 i2 i3 i4 hpc hcc hpe hqe htr htt LX5 M5
          go_wp2_with fail
          refine J7 7 _ rfl (by kernel_rfl) (by kernel_rfl) ?_
          simp only [List.set_cons_succ, List.set_cons_zero, Y1]
          repeat (any_goals (first | go_big_quiet_step ((first | (go_at_call 57; exact HC2.out _) | (go_at_call 58; exact HC3.out _))) | quiet_step ((first | (go_at_call 57; exact HC2.out _) | (go_at_call 58; exact HC3.out _)))))
          refine wpQuiet_nil ?_
          rintro _ ⟨X, rfl⟩
          have M6 := (((((HM5.out.call (t4 w5 X)).set 8 rfl 0 (.int .i64 q.op)).set 8 rfl 1 (.int .i64 q.a)).set 8 rfl 2 (.int .i64 q.b)).set 8 rfl 3 (.int .i64 q.c)).set 8 rfl 4 (.int .i64 q.d)
          clear HM5 jp
          have k0 : World.cell? _ ⟨X0, 0, none⟩ = some (.int .i64 q.op) := M6.c 8 0 rfl rfl
          have k1 : World.cell? _ ⟨X0, 1, none⟩ = some (.int .i64 q.a) := M6.c 8 1 rfl rfl
          have k2 : World.cell? _ ⟨X0, 2, none⟩ = some (.int .i64 q.b) := M6.c 8 2 rfl rfl
          have k3' : World.cell? _ ⟨X0, 3, none⟩ = some (.int .i64 q.c) := M6.c 8 3 rfl rfl
          have k4 : World.cell? _ ⟨X0, 4, none⟩ = some (.int .i64 q.d) := M6.c 8 4 rfl rfl
          have kg : World.cell? _ ⟨gb, 2, none⟩ = some (.slice qb (j6 c (A7 c) k).length cb) := M6.c 4 2 rfl rfl
          have hrow6 := (t0 ((((((w5.ext X).setCell ⟨X0, 0, none⟩ (.int .i64 q.op)).setCell ⟨X0, 1, none⟩ (.int .i64 q.a)).setCell ⟨X0, 2, none⟩ (.int .i64 q.b)).setCell ⟨X0, 3, none⟩ (.int .i64 q.c)).setCell ⟨X0, 4, none⟩ (.int .i64 q.d)) (g := (w5.ext X).heap.size) #[.int .i64 q.op, .int .i64 q.a, .int .i64 q.b, .int .i64 q.c, .int .i64 q.d] 1 5 60 (by simp) rfl (by omega)).row
          have M6a := M6.call ((Below.refl _ _).alloc (cb1 _) (.cells #[.int .i64 q.op, .int .i64 q.a, .int .i64 q.b, .int .i64 q.c, .int .i64 q.d] 60))
          have hqa := M6a.r 7 rfl
          have HM6a := show Hid _ from M6a
          clear M6a M6 HTG HTR
          go_wp2_with (at_builtin; refine A5 rfl _ _ rfl Tryz.underlying24 aK9 rfl (by omega) rfl hqa rfl hrow6 (S7 (l := (q).l)) (by omega) (by omega) (cc7 _) ?_; rintro a4 q4 w7 o4 - g4 n4; have M7 := HM6a.out.app 7 rfl o4 g4 n4; have f7 := M7.f 4 rfl; have c7 := M7.c 4 2 rfl rfl; have HM7 := show Hid _ from M7; clear M7)
          have M8 := (HM7.out.set 4 rfl 2 (.slice a4 ((j6 c (A7 c) k).length + 1) q4)).take 8
          have hll : (j6 c (A7 c) (k + 1)).length = (j6 c (A7 c) k).length + 1 := by rw [HN.out]; simp
          have hcells : ints (t8 (j6 c (A7 c) (k + 1))) = ints (t8 (j6 c (A7 c) k)) ++ (#[.int .i64 q.op, .int .i64 q.a, .int .i64 q.b, .int .i64 q.c, .int .i64 q.d] : Array Value).toList := by
           rw [HN.out, HQE.out, Z5]; simp [ints, t8]
          refine ⟨⟨k + 1, a4, q4, by omega, by go_num, ?_⟩, by simp [intOf]; omega⟩
          rw [hll, hcells]
          exact M8
         ·have htr := HTR.out
          rw [if_neg ht] at htr
          have HQE := show Hid (trI (A7 c) x = x) from htr
          have ht' : i6 x < 0 := by omega
          clear htr ht
          have M6 := M5
          clear M5
          have k0 : World.cell? _ ⟨X0, 0, none⟩ = some (.int .i64 x.op) := M6.c 8 0 rfl rfl
          have k1 : World.cell? _ ⟨X0, 1, none⟩ = some (.int .i64 x.a) := M6.c 8 1 rfl rfl
          have k2 : World.cell? _ ⟨X0, 2, none⟩ = some (.int .i64 x.b) := M6.c 8 2 rfl rfl
          have k3' : World.cell? _ ⟨X0, 3, none⟩ = some (.int .i64 x.c) := M6.c 8 3 rfl rfl
          have k4 : World.cell? _ ⟨X0, 4, none⟩ = some (.int .i64 x.d) := M6.c 8 4 rfl rfl
          have kg : World.cell? _ ⟨gb, 2, none⟩ = some (.slice qb (j6 c (A7 c) k).length cb) := M6.c 4 2 rfl rfl
          have hrow6 := (t0 w5 (g := w5.heap.size) #[.int .i64 x.op, .int .i64 x.a, .int .i64 x.b, .int .i64 x.c, .int .i64 x.d] 1 5 60 rfl rfl (by omega)).row
          have M6a := M6.call ((Below.refl _ _).alloc (cb1 _) (.cells #[.int .i64 x.op, .int .i64 x.a, .int .i64 x.b, .int .i64 x.c, .int .i64 x.d] 60))
          have hqa := M6a.r 7 rfl
          have HM6a := show Hid _ from M6a
          clear M6a M6 HTG HTR
          go_wp2_with (at_builtin; refine A5 rfl _ _ rfl Tryz.underlying24 aK9 rfl (by omega) rfl hqa rfl hrow6 (S7 (l := (x).l)) (by omega) (by omega) (cc7 _) ?_; rintro a4 q4 w7 o4 - g4 n4; have M7 := HM6a.out.app 7 rfl o4 g4 n4; have f7 := M7.f 4 rfl; have c7 := M7.c 4 2 rfl rfl; have HM7 := show Hid _ from M7; clear M7)
          have M8 := (HM7.out.set 4 rfl 2 (.slice a4 ((j6 c (A7 c) k).length + 1) q4)).take 8
          have hll : (j6 c (A7 c) (k + 1)).length = (j6 c (A7 c) k).length + 1 := by rw [HN.out]; simp
          have hcells : ints (t8 (j6 c (A7 c) (k + 1))) = ints (t8 (j6 c (A7 c) k)) ++ (#[.int .i64 x.op, .int .i64 x.a, .int .i64 x.b, .int .i64 x.c, .int .i64 x.d] : Array Value).toList := by
           rw [HN.out, HQE.out, Z5]; simp [ints, t8]
          refine ⟨⟨k + 1, a4, q4, by omega, by go_num, ?_⟩, by simp [intOf]; omega⟩
          rw [hll, hcells]
          exact M8
       ·have hkn : k = c.list.length := by omega
        subst hkn
        have y0 := M.c 4 0 rfl rfl
        have y1 := M.c 4 1 rfl rfl
        have y2 := M.c 4 2 rfl rfl
        have z0 := M.c 1 0 rfl rfl
        have z1 := M.c 1 1 rfl rfl
        have z2 := M.c 1 2 rfl rfl
        have fz := M.f 1 rfl
        have M2 := (((M.freeze 7 rfl (fun g hg => by rw [HF.out]; exact (M.ge _ g (cc3 (i := 7) rfl) hg).elim (fun h => h) (fun h => absurd cc2 h))).set 1 rfl 0 (.slice p1 c.vars.length q1)).set 1 rfl 1 (.slice p2 c.arrays.length q2)).set 1 rfl 2 (.slice qb (j6 c (A7 c) c.list.length).length cb)
        have HM2 := show Hid _ from M2
        clear M M2
        go_wp2_with fail
        have M2 := HM2.out
        have r0 : World.cell? _ ⟨w.heap.size + 1, 0, none⟩ = some (.slice p1 c.vars.length q1) := M2.c 1 0 rfl rfl
        have r1 : World.cell? _ ⟨w.heap.size + 1, 1, none⟩ = some (.slice p2 c.arrays.length q2) := M2.c 1 1 rfl rfl
        have r2 : World.cell? _ ⟨w.heap.size + 1, 2, none⟩ = some (.slice qb (j6 c (A7 c) c.list.length).length cb) := M2.c 1 2 rfl rfl
        refine bodyPost_ret (v := .agg #[.slice p1 c.vars.length q1, .slice p2 c.arrays.length q2, .slice qb (j6 c (A7 c) c.list.length).length cb]) (by simp [results, Tryz.results41, go_sem, r0, r1, r2]) rfl ⟨_, rfl, ⟨_, _, _, rfl, ?_, ?_, ?_⟩, M2.below fun _ _ => trivial⟩
        ·rw [← HF.out]; exact M2.out 5 rfl
        ·rw [← HF.out]; exact M2.out 6 rfl
        ·rw [← HF.out]; exact M2.out 7 rfl
theorem aG7 (v : Value) (c : b6) (hc : e6 c = true) (w : World) (h : r8 w v c) :
  Calls Tryz.prog 27 #[v] w fun e w' => ∃ u, e = .returned u ∧ y6 w' w.heap.size w'.heap.size u (E7 c) ∧ Below w.heap.size w w' := by
 have hrow := h
 obtain ⟨v1, v2, v3, rfl, h1, h2, h3⟩ := h
 obtain ⟨a3, k3, rfl, -, hm3, -, hc3⟩ := h3.ins
 have hn4 := (i8 hc).2.2.1
 obtain ⟨n, hn⟩ : ∃ n, n = w.heap.size := ⟨_, rfl⟩
 obtain ⟨W, hW⟩ : ∃ W, W = (w.alloc (.cells #[v1, v2, .slice a3 c.list.length k3] 26)).alloc (.cells #[.slice none 0 0, .slice none 0 0, .slice none 0 0] 26) := ⟨_, rfl⟩
 have B0 : Below w.heap.size w W := by rw [hW]; go_grown
 have sW : W.heap.size = n + 1 + 1 := by rw [hW, hn]; simp
 have L1 : v9 W n [v1, v2, .slice a3 c.list.length k3] := by rw [hW, hn]; exact (v9.new w [v1, v2, .slice a3 c.list.length k3] _).alloc _
 have L2 : v9 W (n + 1) [.slice none 0 0, .slice none 0 0, .slice none 0 0] := by rw [hW, hn]; exact v9.new' (w.alloc _) [.slice none 0 0, .slice none 0 0, .slice none 0 0] _ (by simp)
 have x0 := L1.cell 0
 have x1 := L1.cell 1
 have x2 := L1.cell 2
 simp only [cb4, cb5] at x0 x1 x2
 rw [hW, hn] at x0 x1 x2
 go_enter Tryz.func27, Tryz.ntmps27
 go_wp2_with fail
 rw [← hW]
 clear hW x0 x1 x2
 refine (a01 _ c _ (hrow.below B0) (S8 hc)).mono ?_
 rintro e w1 ⟨u, rfl, ou, b1⟩
 obtain ⟨y1, y2, y3, rfl, -⟩ := id ou
 obtain ⟨p1, q1, p2, q2, p3, q3, rfl, rfl, rfl⟩ := Code.rowOf ou
 obtain ⟨z1, z2, z3, hz, o1, o2, o3, d12, d13, d23⟩ := ou
 simp only [Value.agg.injEq, Array.mk.injEq, List.cons.injEq, and_true] at hz
 obtain ⟨rfl, rfl, rfl⟩ := hz
 have B1 := B0.trans (b1.mono B0.size)
 have s1 := b1.size
 replace L1 := L1.below b1 L1.lt
 replace L2 := L2.below b1 L2.lt
 have x2 : (w1.alloc (.cells #[.slice p1 c.vars.length q1, .slice p2 c.arrays.length q2, .slice p3 c.list.length q3] 26)).cell? ⟨w.heap.size, 2, none⟩ = some (.slice a3 c.list.length k3) := by
  have := (L1.alloc (.cells #[.slice p1 c.vars.length q1, .slice p2 c.arrays.length q2, .slice p3 c.list.length q3] 26)).cell 2
  rw [← hn]
  simpa using this
 go_wp2_with fail
 clear x2
 obtain ⟨T, hT⟩ : ∃ T, T = w1.heap.size := ⟨_, rfl⟩
 obtain ⟨w2, hw2⟩ : ∃ w2, w2 = w1.alloc (.cells #[.slice p1 c.vars.length q1, .slice p2 c.arrays.length q2, .slice p3 c.list.length q3] 26) := ⟨_, rfl⟩
 have L3 : v9 w2 T [.slice p1 c.vars.length q1, .slice p2 c.arrays.length q2, .slice p3 c.list.length q3] := by rw [hw2]; exact v9.new' w1 _ _ hT
 have b2 : Below w1.heap.size w1 w2 := by rw [hw2]; go_grown
 have s2 : w2.heap.size = T + 1 := by rw [hw2, hT]; simp
 rw [← hw2, ← hT]
 have B2 := B1.trans (b2.mono B1.size)
 replace L1 := L1.below b2 L1.lt
 replace L2 := L2.below b2 L2.lt
 replace o1 := (o1.keep b2 (cb1 _)).wide (show n + 1 + 1 ≤ W.heap.size by omega) (show w1.heap.size ≤ T by omega)
 replace o2 := (o2.keep b2 (cb1 _)).wide (show n + 1 + 1 ≤ W.heap.size by omega) (show w1.heap.size ≤ T by omega)
 replace o3 := (o3.keep b2 (cb1 _)).wide (show n + 1 + 1 ≤ W.heap.size by omega) (show w1.heap.size ≤ T by omega)
 have HT := show Hid (n + 1 + 1 ≤ T) from by unfold Hid; omega
 have HN := show Hid (n = w.heap.size) from hn
 have HD := show Hid _ from And.intro d12 (And.intro d13 d23)
 have HI := show Hid _ from hc3
 rw [← hn]
 clear hw2 hT b1 b2 B0 B1 sW s1 hc3 d12 d13 d23 hn
 rw [← ah8 c] at o3
 go_loopw [4, 5, 6, 7, 13] (fun _ _ _ _ i wr => ∃ k : Nat, k ≤ c.list.length ∧ i = .int .i64 k ∧ v9 wr n [v1, v2, .slice a3 c.list.length k3] ∧ v9 wr (n + 1) [.slice none 0 0, .slice none 0 0, .slice none 0 0] ∧ v9 wr T [.slice p1 c.vars.length q1, .slice p2 c.arrays.length q2, .slice p3 c.list.length q3] ∧
   y7 wr (n + 1 + 1) T 3 1 (.slice p1 c.vars.length q1) c.vars.length (ints c.vars) ∧ y7 wr (n + 1 + 1) T 3 1 (.slice p2 c.arrays.length q2) c.arrays.length (ints c.arrays) ∧ y7 wr (n + 1 + 1) T 60 5 (.slice p3 c.list.length q3) c.list.length (ints (t8 (N8 c k))) ∧ Below w.heap.size w wr) (fun _ _ _ _ i _ => c.list.length - (intOf i).toNat)
 case atStart => exact ⟨0, cc7 _, rfl, L1, L2, L3, o1, o2, by have := o3; simp only [ah8] at this ⊢; exact this, B2⟩
 case round =>
  obtain ⟨k, hk, rfl, hL1, hL2, hL3, ho1, ho2, ho3, hb⟩ := hrel
  clear L1 L2 L3 o1 o2 o3 B2
  by_cases hlt : k < c.list.length
  ·obtain ⟨b, off, he3, hb3, i0, i1, i2, i3, i4⟩ := HI.out k hlt
   have hins := (i8 hc).2.2.2.1 k hlt
   rw [← (D8 hb).1 _ _ hb3] at i0 i1 i2 i3 i4
   have HTH : Hid (J4 c c.list[k] = if 0 ≤ i6 c.list[k] then B5 c.list[k] (A0 c (i6 c.list[k])) else c.list[k]) := rfl
   have HTG := show Hid (0 ≤ i6 c.list[k] → B6 c (i6 c.list[k])) from fun g => ⟨g, R0 hins g⟩
   have HM := show Hid _ from ar8 c k hlt
   have HK := show Hid _ from aK6 c k hlt
   obtain ⟨x, hx⟩ : ∃ x, x = c.list[k] := ⟨_, rfl⟩
   rw [← hx] at i0 i1 i2 i3 i4 HTH HTG HM HK
   clear hins hx
   subst he3
   have hki : (k : Int) < c.list.length := by omega
   go_wp2_with fail
   obtain ⟨w4, hw4⟩ : ∃ w4, w4 = wr.alloc (.cells #[.int .i64 x.op, .int .i64 x.a, .int .i64 x.b, .int .i64 x.c, .int .i64 x.d] 60) := ⟨_, rfl⟩
   have LX : v9 w4 wr.heap.size [.int .i64 x.op, .int .i64 x.a, .int .i64 x.b, .int .i64 x.c, .int .i64 x.d] := by rw [hw4]; exact v9.new wr _ _
   have b4 : Below wr.heap.size wr w4 := by rw [hw4]; go_grown
   rw [← hw4]
   refine (Z6 x _).mono ?_
   rintro e w3 ⟨rfl, b3'⟩
   have b3 := b4.trans (b3'.mono b4.size)
   have hTl := hL3.lt
   have ho3x := ho3.keep b3 (by omega)
   have ho1x := ho1.keep b3 (by omega)
   have ho2x := ho2.keep b3 (by omega)
   have hL1x := hL1.below b3 hL1.lt
   have hL2x := hL2.below b3 hL2.lt
   have hL3x := hL3.below b3 hL3.lt
   have LXx := LX.below b3' LX.lt
   have hb3x := hb.trans (b3.mono hb.size)
   have hXs : T < wr.heap.size := hTl
   have hX3 := LXx.lt
   obtain ⟨X0, hX0⟩ : ∃ X0, X0 = wr.heap.size := ⟨_, rfl⟩
   rw [← hX0] at LXx hXs hX3 ⊢
   clear hL1 hL2 hL3 ho1 ho2 ho3 i0 i1 i2 i3 i4 hw4 b4 b3' LX b3 hX0 hTl
   have x2 := hL1x.cell 2
   simp only [cb4, cb5] at x2
   by_cases ht : 0 ≤ i6 x
   case neg =>
    have hth := HTH.out
    rw [if_neg ht] at hth
    have HN2 := show Hid _ from HK.out hth
    have ht' : i6 x < 0 := by omega
    clear hth ht HTH HTG HK HM
    generalize i6 x = tg at *
    go_wp2_with fail
    go_loop [6, 7] (fun t _ => t = .int .i64 tg) (fun _ _ => 0)
    case atStart => exact rfl
    case round =>
     obtain rfl := hrel
     go_wp2_with fail
     exact ⟨⟨k + 1, by omega, by go_num, hL1x, hL2x, hL3x, ho1x, ho2x, by rw [HN2.out]; exact ho3x, hb3x⟩, by simp [intOf]; omega⟩
   case pos =>
    have hpl := HTG.out ht
    have HT0 := show Hid _ from ht
    have HPT := show Hid _ from hpl
    have HF : Hid (A0 c (i6 x) = if X4 c (t2 c c.list.length (i6 x)) = true then i6 x else t2 c c.list.length (i6 x)) := rfl
    have HCELL := show Hid (∀ i, i < c.list.length → w3.cell? ⟨b, off + i * 5, none⟩ = some (.int .i64 (t6 c i).op) ∧ w3.cell? ⟨b, off + i * 5 + 1, none⟩ = some (.int .i64 (t6 c i).a)) from by
     intro i hi
     obtain ⟨b', off', e, hb', i0, i1, -⟩ := HI.out i hi
     cases e
     rw [← (D8 hb3x).1 _ _ hb'] at i0 i1
     rw [B9 hi]
     exact ⟨i0, i1⟩
    have hw30 := LXx.cell 0
    have hw31 := LXx.cell 1
    have hw32 := LXx.cell 2
    have hw33 := LXx.cell 3
    have hw34 := LXx.cell 4
    simp only [cb4, cb5] at hw30 hw31 hw32 hw33 hw34
    clear HTG HK hpl
    go_wp2_with fail
    go_loop [6, 7] (fun t i => ∃ (y : Nat) (m : Nat), t = .int .i64 y ∧ i = .int .i64 m ∧ m ≤ c.list.length ∧ y < c.list.length ∧ t2 c (c.list.length - m) y = t2 c c.list.length (i6 x)) (fun _ i => c.list.length - (intOf i).toNat)
    case atStart => exact ⟨(i6 x).toNat, 0, by rw [cf4 HPT.out.1], rfl, cc7 _, by have := HPT.out.1; have := HPT.out.2; omega, by rw [cf4 HPT.out.1]; rfl⟩
    case round =>
     obtain ⟨y, m, rfl, rfl, hm, hy, hch⟩ := hrel
     have HCH := show Hid _ from hch
     clear hch
     obtain ⟨i0, i1⟩ := HCELL.out y hy
     have HJ : Hid (X4 c y = decide ((t6 c y).op = 8)) := by unfold Hid X4; rw [ce4]
     have HST : Hid (∀ k, X4 c y = true → t2 c (k + 1) y = t2 c k (t6 c y).a) := fun k h => by have := K0 (k := k) h; rw [ce4] at this; exact this
     have HPL := show Hid (X4 c y = true → B6 c (t6 c y).a) from fun h => by have := ax7 hc (x := (y : Int)) ⟨by omega, by omega⟩ h; rw [ce4] at this; exact this
     have hyi : (y : Int) < c.list.length := by omega
     generalize t6 c y = z at *
     by_cases h8 : z.op = 8
     ·have q8 : (z.op == 8) = true := by simp [h8]
      have hj : X4 c y = true := by rw [HJ.out]; exact decide_eq_true h8
      by_cases hml : m < c.list.length
      ·obtain ⟨hp0, hp1⟩ := HPL.out hj
       have hst := HST.out (c.list.length - (m + 1)) hj
       rw [show c.list.length - (m + 1) + 1 = c.list.length - m by omega, HCH.out] at hst
       have HS := show Hid _ from hst
       have qm : ((m : Int) == c.list.length) = false := by simp; omega
       clear hst h8 hj ht
       go_wp2_with fail
       go_round
       case rel => exact ⟨z.a.toNat, m + 1, by rw [cf4 hp0], by go_num, by omega, by omega, by rw [cf4 hp0]; exact HS.out.symm⟩
       case measure => simp [intOf]; omega
      ·have hmn : m = c.list.length := by omega
       have hch := HCH.out
       rw [hmn, Nat.sub_self, show t2 c 0 (y : Int) = y from rfl] at hch
       have HFZ := show Hid (A0 c (i6 x) = i6 x) from by unfold Hid; rw [HF.out, ← hch, hj]; rfl
       subst hmn
       clear hch h8 hj
       go_wp2_with fail
       refine (Z6 x _).mono ?_
       rintro e w5 ⟨rfl, bw5⟩
       clear hw30 hw31 hw32 hw33 hw34 i0 i1 x2
       go_wp2_with fail
       have hth := HTH.out
       rw [if_pos HT0.out, HFZ.out] at hth
       have HTR' := show Hid (J4 c x = B5 x (i6 x)) from hth
       obtain ⟨q, hq⟩ : ∃ q, q = B5 x (i6 x) := ⟨_, rfl⟩
       have HC3 : Hid (∀ X, Calls Tryz.prog 53 #[x.v, .int .i64 (i6 x)] (w5.ext X) fun e w'' => e = .returned (.agg #[.int .i64 q.op, .int .i64 q.a, .int .i64 q.b, .int .i64 q.c, .int .i64 q.d]) ∧ ∃ Y, w'' = w5.ext Y) := fun X => Calls.ext_of' ((aQ4 x _ _ HT0.out).mono fun e w' h => by rw [← hq] at h; exact h)
       have HM2 := show Hid (N8 c (k + 1) = (N8 c k).set k q) from by unfold Hid; rw [HM.out, HTR'.out, hq]
       have z5 := bw5.size
       have ho3y := ho3x.keep bw5 (by omega)
       have ho1y := ho1x.keep bw5 (by omega)
       have ho2y := ho2x.keep bw5 (by omega)
       have hL1y := hL1x.below bw5 hL1x.lt
       have hL2y := hL2x.below bw5 hL2x.lt
       have hL3y := hL3x.below bw5 hL3x.lt
       have LXy := LXx.below bw5 LXx.lt
       have hb5 := hb3x.trans (bw5.mono hb3x.size)
       obtain ⟨g3, hv3, hg1, hg2, hg3, hfr, hcl⟩ : ∃ g3, p3 = some ⟨g3, 0, none⟩ ∧ n + 1 + 1 ≤ g3 ∧ g3 < T ∧ g3 < w5.heap.size ∧ (∀ o, w5.frozen? ⟨g3, o, none⟩ = false) ∧ ∀ j, j < 5 → ∃ u, w5.cell? ⟨g3, k * 5 + j, none⟩ = some u := by
        obtain ⟨g, cap, hv, q1, q2, q3, -, -, q6, q7⟩ := ho3y.open (by omega)
        cases hv
        have hl : (ints (t8 (N8 c k))).length = c.list.length * 5 := ho3y.1.1
        exact ⟨g, rfl, q1, q2, q3, q6, fun j hj => ⟨_, q7 _ _ (ca8 (by omega))⟩⟩
       subst hv3
       obtain ⟨c0, w0⟩ := hcl 0 (by omega)
       obtain ⟨c1, w1'⟩ := hcl 1 (by omega)
       obtain ⟨c2, w2'⟩ := hcl 2 (by omega)
       obtain ⟨c3, w3'⟩ := hcl 3 (by omega)
       obtain ⟨c4, w4'⟩ := hcl 4 (by omega)
       simp only [cf3] at w0
       have y2 := hL3y.cell 2
       have i0 := LXy.cell 0
       have i1 := LXy.cell 1
       have i2 := LXy.cell 2
       have i3 := LXy.cell 3
       have i4 := LXy.cell 4
       simp only [cb4, cb5] at y2 i0 i1 i2 i3 i4
       have ZY2 := fun X => i5 y2 X
       have j0 := fun X => i5 i0 X
       have j1 := fun X => i5 i1 X
       have j2 := fun X => i5 i2 X
       have j3 := fun X => i5 i3 X
       have j4 := fun X => i5 i4 X
       have d0 := fun X => i5 w0 X
       have d1 := fun X => i5 w1' X
       have d2 := fun X => i5 w2' X
       have d3 := fun X => i5 w3' X
       have d4 := fun X => i5 w4' X
       have ff0 := fun X => s6 hg3 (hfr (k * 5)) X
       have ff1 := fun X => s6 hg3 (hfr (k * 5 + 1)) X
       have ff2 := fun X => s6 hg3 (hfr (k * 5 + 2)) X
       have ff3 := fun X => s6 hg3 (hfr (k * 5 + 3)) X
       have ff4 := fun X => s6 hg3 (hfr (k * 5 + 4)) X
       have hsz3 : (ints (t8 (N8 c k))).length = c.list.length * 5 := ho3y.1.1
       have HSZ := show Hid _ from hsz3
       have hT3 := hL3y.lt
       clear y2 i0 i1 i2 i3 i4 w0 w1' w2' w3' w4' hcl hfr hth hsz3 hq HTR' HM
       refine J7 7 _ rfl (by kernel_rfl) (by kernel_rfl) ?_
       simp only [List.set_cons_succ, List.set_cons_zero, Y1]
       repeat (any_goals (first | go_big_quiet_step ((go_at_call 53; exact HC3.out _)) | quiet_step ((go_at_call 53; exact HC3.out _))))
       refine wpQuiet_nil ?_
       rintro _ ⟨X, rfl⟩
       go_wp2_with fail
       have bX := t4 w5 X
       have ho1X := ho1y.keep bX (by omega)
       have ho2X := ho2y.keep bX (by omega)
       have ho3X := ho3y.keep bX (by omega)
       have hL1X := hL1y.below bX hL1y.lt
       have hL2X := hL2y.below bX hL2y.lt
       have hL3X := hL3y.below bX hL3y.lt
       have hbX := hb5.trans (bX.mono hb5.size)
       have hO := V5.setFrom (lo := g3) (hi := g3 + 1) (p := k * 5) [.int .i64 q.op, .int .i64 q.a, .int .i64 q.b, .int .i64 q.c, .int .i64 q.d] (V5.refl g3 (g3 + 1) (w5.ext X)) (cb1 g3) (cd8 g3)
       have hS3 := ho3X.setFrom (p := k * 5) [.int .i64 q.op, .int .i64 q.a, .int .i64 q.b, .int .i64 q.c, .int .i64 q.d] (by rw [HSZ.out]; simp; omega)
       rw [ax8 q (N8 c k) k (by rw [ap2]; exact hlt), ← HM2.out] at hS3
       have htt : ∀ g, g3 ≤ g → g < g3 + 1 → (Value.slice (some ⟨g3, 0, none⟩) c.list.length q3).ownBlock = some g := fun g e1 e2 => by rw [show g = g3 by omega]; rfl
       refine ⟨⟨k + 1, by omega, by go_num, hL1X.out hO (by omega), hL2X.out hO (by omega), hL3X.out hO (by omega), ho1X.disj hO htt HD.out.2.1.symm, ho2X.disj hO htt HD.out.2.2.symm, hS3, ?_⟩, by simp [intOf]; omega⟩
       exact aa8 (g := g3) (p := k * 5) [.int .i64 q.op, .int .i64 q.a, .int .i64 q.b, .int .i64 q.c, .int .i64 q.d] hbX (by have := HN.out; omega)
     ·have q8 : (z.op == 8) = false := by simp [h8]
      have hj : X4 c y = false := by rw [HJ.out]; exact decide_eq_false h8
      have hch := HCH.out
      rw [F2 hj] at hch
      have HFZ := show Hid (A0 c (i6 x) = (y : Int)) from by unfold Hid; rw [HF.out, ← hch, hj]; rfl
      clear hch h8 hj ht
      go_wp2_with fail
      clear hw30 hw31 hw32 hw33 hw34 i0 i1 x2
      have bw5 := Below.refl w3.heap.size w3
      obtain ⟨w5, hw5⟩ : ∃ w5, w5 = w3 := ⟨_, rfl⟩
      rw [← hw5]
      have bw5 : Below w3.heap.size w3 w5 := by rw [hw5]; exact Below.refl _ _
      clear hw5
      have hth := HTH.out
      rw [if_pos HT0.out, HFZ.out] at hth
      have HTR' := show Hid (J4 c x = B5 x (y : Int)) from hth
      obtain ⟨q, hq⟩ : ∃ q, q = B5 x (y : Int) := ⟨_, rfl⟩
      have HC3 : Hid (∀ X, Calls Tryz.prog 53 #[x.v, .int .i64 (y : Int)] (w5.ext X) fun e w'' => e = .returned (.agg #[.int .i64 q.op, .int .i64 q.a, .int .i64 q.b, .int .i64 q.c, .int .i64 q.d]) ∧ ∃ Y, w'' = w5.ext Y) := fun X => Calls.ext_of' ((aQ4 x _ _ HT0.out).mono fun e w' h => by rw [← hq] at h; exact h)
      have HM2 := show Hid (N8 c (k + 1) = (N8 c k).set k q) from by unfold Hid; rw [HM.out, HTR'.out, hq]
      have z5 := bw5.size
      have ho3y := ho3x.keep bw5 (by omega)
      have ho1y := ho1x.keep bw5 (by omega)
      have ho2y := ho2x.keep bw5 (by omega)
      have hL1y := hL1x.below bw5 hL1x.lt
      have hL2y := hL2x.below bw5 hL2x.lt
      have hL3y := hL3x.below bw5 hL3x.lt
      have LXy := LXx.below bw5 LXx.lt
      have hb5 := hb3x.trans (bw5.mono hb3x.size)
      obtain ⟨g3, hv3, hg1, hg2, hg3, hfr, hcl⟩ : ∃ g3, p3 = some ⟨g3, 0, none⟩ ∧ n + 1 + 1 ≤ g3 ∧ g3 < T ∧ g3 < w5.heap.size ∧ (∀ o, w5.frozen? ⟨g3, o, none⟩ = false) ∧ ∀ j, j < 5 → ∃ u, w5.cell? ⟨g3, k * 5 + j, none⟩ = some u := by
       obtain ⟨g, cap, hv, q1, q2, q3, -, -, q6, q7⟩ := ho3y.open (by omega)
       cases hv
       have hl : (ints (t8 (N8 c k))).length = c.list.length * 5 := ho3y.1.1
       exact ⟨g, rfl, q1, q2, q3, q6, fun j hj => ⟨_, q7 _ _ (ca8 (by omega))⟩⟩
      subst hv3
      obtain ⟨c0, w0⟩ := hcl 0 (by omega)
      obtain ⟨c1, w1'⟩ := hcl 1 (by omega)
      obtain ⟨c2, w2'⟩ := hcl 2 (by omega)
      obtain ⟨c3, w3'⟩ := hcl 3 (by omega)
      obtain ⟨c4, w4'⟩ := hcl 4 (by omega)
      simp only [cf3] at w0
      have y2 := hL3y.cell 2
      have i0 := LXy.cell 0
      have i1 := LXy.cell 1
      have i2 := LXy.cell 2
      have i3 := LXy.cell 3
      have i4 := LXy.cell 4
      simp only [cb4, cb5] at y2 i0 i1 i2 i3 i4
      have ZY2 := fun X => i5 y2 X
      have j0 := fun X => i5 i0 X
      have j1 := fun X => i5 i1 X
      have j2 := fun X => i5 i2 X
      have j3 := fun X => i5 i3 X
      have j4 := fun X => i5 i4 X
      have d0 := fun X => i5 w0 X
      have d1 := fun X => i5 w1' X
      have d2 := fun X => i5 w2' X
      have d3 := fun X => i5 w3' X
      have d4 := fun X => i5 w4' X
      have ff0 := fun X => s6 hg3 (hfr (k * 5)) X
      have ff1 := fun X => s6 hg3 (hfr (k * 5 + 1)) X
      have ff2 := fun X => s6 hg3 (hfr (k * 5 + 2)) X
      have ff3 := fun X => s6 hg3 (hfr (k * 5 + 3)) X
      have ff4 := fun X => s6 hg3 (hfr (k * 5 + 4)) X
      have hsz3 : (ints (t8 (N8 c k))).length = c.list.length * 5 := ho3y.1.1
      have HSZ := show Hid _ from hsz3
      have hT3 := hL3y.lt
      clear y2 i0 i1 i2 i3 i4 w0 w1' w2' w3' w4' hcl hfr hth hsz3 hq HTR' HM
      refine J7 7 _ rfl (by kernel_rfl) (by kernel_rfl) ?_
      simp only [List.set_cons_succ, List.set_cons_zero, Y1]
      repeat (any_goals (first | go_big_quiet_step ((go_at_call 53; exact HC3.out _)) | quiet_step ((go_at_call 53; exact HC3.out _))))
      refine wpQuiet_nil ?_
      rintro _ ⟨X, rfl⟩
      go_wp2_with fail
      have bX := t4 w5 X
      have ho1X := ho1y.keep bX (by omega)
      have ho2X := ho2y.keep bX (by omega)
      have ho3X := ho3y.keep bX (by omega)
      have hL1X := hL1y.below bX hL1y.lt
      have hL2X := hL2y.below bX hL2y.lt
      have hL3X := hL3y.below bX hL3y.lt
      have hbX := hb5.trans (bX.mono hb5.size)
      have hO := V5.setFrom (lo := g3) (hi := g3 + 1) (p := k * 5) [.int .i64 q.op, .int .i64 q.a, .int .i64 q.b, .int .i64 q.c, .int .i64 q.d] (V5.refl g3 (g3 + 1) (w5.ext X)) (cb1 g3) (cd8 g3)
      have hS3 := ho3X.setFrom (p := k * 5) [.int .i64 q.op, .int .i64 q.a, .int .i64 q.b, .int .i64 q.c, .int .i64 q.d] (by rw [HSZ.out]; simp; omega)
      rw [ax8 q (N8 c k) k (by rw [ap2]; exact hlt), ← HM2.out] at hS3
      have htt : ∀ g, g3 ≤ g → g < g3 + 1 → (Value.slice (some ⟨g3, 0, none⟩) c.list.length q3).ownBlock = some g := fun g e1 e2 => by rw [show g = g3 by omega]; rfl
      refine ⟨⟨k + 1, by omega, by go_num, hL1X.out hO (by omega), hL2X.out hO (by omega), hL3X.out hO (by omega), ho1X.disj hO htt HD.out.2.1.symm, ho2X.disj hO htt HD.out.2.2.symm, hS3, ?_⟩, by simp [intOf]; omega⟩
      exact aa8 (g := g3) (p := k * 5) [.int .i64 q.op, .int .i64 q.a, .int .i64 q.b, .int .i64 q.c, .int .i64 q.d] hbX (by have := HN.out; omega)
  ·have hkn : k = c.list.length := by omega
   subst hkn
   have y0 := hL3.cell 0
   have y1 := hL3.cell 1
   have y2 := hL3.cell 2
   have z0 := hL2.cell 0
   have z1 := hL2.cell 1
   have z2 := hL2.cell 2
   simp only [cb4, cb5] at y0 y1 y2 z0 z1 z2
   have f0 := hL2.free 0
   have f1 := hL2.free 1
   have f2 := hL2.free 2
   go_wp2_with fail
   have hn' := HN.out
   have hT' := HT.out
   have L4 := ((hL2.set (j := 0) (.slice p1 c.vars.length q1)).set (j := 1) (.slice p2 c.arrays.length q2)).set (j := 2) (.slice p3 c.list.length q3)
   have hO : V5 (n + 1) (n + 1 + 1) wr (((wr.setCell ⟨n + 1, 0, none⟩ (.slice p1 c.vars.length q1)).setCell ⟨n + 1, 1, none⟩ (.slice p2 c.arrays.length q2)).setCell ⟨n + 1, 2, none⟩ (.slice p3 c.list.length q3)) :=
    (((V5.refl (n + 1) (n + 1 + 1) wr).setCell (p := ⟨n + 1, 0, none⟩) (cb1 _) (cd8 _) _).setCell (p := ⟨n + 1, 1, none⟩) (cb1 _) (cd8 _) _).setCell (p := ⟨n + 1, 2, none⟩) (cb1 _) (cd8 _) _
   replace ho1 := ho1.out hO (.inr (cb1 _))
   replace ho2 := ho2.out hO (.inr (cb1 _))
   replace ho3 := ho3.out hO (.inr (cb1 _))
   rw [aY5] at ho3
   have hTs := hL3.lt
   have zF : (((wr.setCell ⟨n + 1, 0, none⟩ (.slice p1 c.vars.length q1)).setCell ⟨n + 1, 1, none⟩ (.slice p2 c.arrays.length q2)).setCell ⟨n + 1, 2, none⟩ (.slice p3 c.list.length q3)).heap.size = wr.heap.size := by simp
   have hll : (E7 c).list.length = c.list.length := by simp [E7]
   have BF := ((hb.setCell (p := ⟨n + 1, 0, none⟩) (by show w.heap.size ≤ n + 1; omega) (.slice p1 c.vars.length q1)).setCell (p := ⟨n + 1, 1, none⟩) (by show w.heap.size ≤ n + 1; omega) (.slice p2 c.arrays.length q2)).setCell (p := ⟨n + 1, 2, none⟩) (by show w.heap.size ≤ n + 1; omega) (.slice p3 c.list.length q3)
   have r0 := L4.cell 0
   have r1 := L4.cell 1
   have r2 := L4.cell 2
   simp only [cb4, cb5, List.set_cons_zero, List.set_cons_succ] at r0 r1 r2
   generalize ((wr.setCell ⟨n + 1, 0, none⟩ (.slice p1 c.vars.length q1)).setCell ⟨n + 1, 1, none⟩ (.slice p2 c.arrays.length q2)).setCell ⟨n + 1, 2, none⟩ (.slice p3 c.list.length q3) = WF at *
   refine bodyPost_ret (v := .agg #[.slice p1 c.vars.length q1, .slice p2 c.arrays.length q2, .slice p3 c.list.length q3]) (by simp [results, Tryz.results27, go_sem, r0, r1, r2]) rfl ⟨_, rfl, ⟨_, _, _, rfl, ho1.wide (by omega) (by omega), ho2.wide (by omega) (by omega), ?_, HD.out.1, HD.out.2.1, HD.out.2.2⟩, BF⟩
   rw [hll]
   exact ho3.wide (by omega) (by omega)
theorem bm9 (w : World) (lo hi : Nat) : y6 w lo hi (.agg #[.slice none 0 0, .slice none 0 0, .slice none 0 0]) ⟨[], [], []⟩ :=
 ⟨_, _, _, rfl, ⟨World.ownsRow_nil _ _ _ _, (fun g hg => by cases hg)⟩, ⟨World.ownsRow_nil _ _ _ _, (fun g hg => by cases hg)⟩, ⟨World.ownsRow_nil _ _ _ _, (fun g hg => by cases hg)⟩, (fun g hg => by cases hg), (fun g hg => by cases hg), (fun g hg => by cases hg)⟩
def I9 (w : World) (lo hi : Nat) (v : Value) (c : b6) : Prop := B7 w (fun b => lo ≤ b ∧ b < hi) v c
theorem I9.row {w : World} {lo hi : Nat} {v : Value} {c : b6} (h : I9 w lo hi v c) : r8 w v c := B7.row h
theorem B7.in {w : World} {φ : Nat → Prop} {lo : Nat} {v : Value} {c : b6} (h : B7 w φ v c) (hf : ∀ b, φ b → lo ≤ b) : I9 w lo w.heap.size v c := B7.nice v c _ _ _ _ (Agr.mono fun b hb hp => ⟨hf b hp, hb⟩) h
theorem I9.wide {w : World} {lo hi lo' hi' : Nat} {v : Value} {c : b6} (h : I9 w lo hi v c) (h1 : lo' ≤ lo) (h2 : hi ≤ hi') : I9 w lo' hi' v c := B7.nice v c _ _ _ _ (Agr.mono fun _ _ hp => ⟨cd3 h1 hp.1, cf1 hp.2 h2⟩) h
theorem I9.keep {w w' : World} {lo hi B : Nat} {v : Value} {c : b6} (h : I9 w lo hi v c) (hb : Below B w w') (hB : hi ≤ B) : I9 w' lo hi v c := B7.nice v c _ _ _ _ ⟨hb.size, fun b _ hp => ⟨hp, hb.block b (by omega)⟩⟩ h
theorem I9.out {w w' : World} {lo hi lo' hi' : Nat} {v : Value} {c : b6} (h : I9 w lo hi v c) (ho : V5 lo' hi' w w') (hd : hi ≤ lo' ∨ hi' ≤ lo) : I9 w' lo hi v c := B7.nice v c _ _ _ _ ⟨ho.size, fun b hb hp => ⟨hp, ho.block b hb (by omega)⟩⟩ h
theorem I9.rowOf {w : World} {lo hi : Nat} {v1 v2 v3 : Value} {c : b6} (h : I9 w lo hi (.agg #[v1, v2, v3]) c) : ∃ a1 k1 a2 k2 a3 k3, v1 = .slice a1 c.vars.length k1 ∧ v2 = .slice a2 c.arrays.length k2 ∧ v3 = .slice a3 c.list.length k3 := by
 obtain ⟨u1, u2, u3, he, h1, h2, h3⟩ := h
 simp only [Value.agg.injEq, Array.mk.injEq, List.cons.injEq, and_true] at he
 obtain ⟨rfl, rfl, rfl⟩ := he
 obtain ⟨a1, k1, e1⟩ := h1.row.form
 obtain ⟨a2, k2, e2⟩ := h2.row.form
 obtain ⟨a3, k3, e3⟩ := h3.row.form
 exact ⟨a1, k1, a2, k2, a3, k3, e1, e2, e3⟩
theorem a23 (w : World) (lo hi : Nat) : I9 w lo hi (.agg #[.slice none 0 0, .slice none 0 0, .slice none 0 0]) ⟨[], [], []⟩ := ⟨_, _, _, rfl, l9.nil _ _ _, l9.nil _ _ _, l9.nil _ _ _⟩
noncomputable def ca3 (c : b6) : b6 := if e6 c = true then H4 c else ⟨[], [], []⟩
theorem au7 (v1 v2 : Value) (xs ys : List Int) (w : World) (h1 : D3 w v1 xs.length 1 (ints xs)) (h2 : D3 w v2 ys.length 1 (ints ys)) :
  Calls Tryz.prog 73 #[v1, v2] w fun e w' => e = .returned (.bool (decide (xs = ys))) ∧ ∃ n, w' = w.drewN n := by
 obtain ⟨a1, c1, rfl, -, hm1, -, hc1⟩ := h1.open1
 obtain ⟨a2, c2, rfl, -, hm2, -, hc2⟩ := h2.open1
 by_cases hl : xs.length = ys.length
 ·rw [← hl] at hc2 ⊢
  clear h1 h2 hm2
  go_enter Tryz.func73, Tryz.ntmps73
  go_wp2
  go_loopw [5] (fun i wr => ∃ k : Nat, k ≤ xs.length ∧ i = .int .i64 k ∧ xs.take k = ys.take k ∧ ∃ n, wr = w.drewN n) (fun i _ => xs.length - (intOf i).toNat)
  case atStart => exact ⟨0, cc7 _, rfl, rfl, 0, rfl⟩
  case round =>
   obtain ⟨k, hk, rfl, ht, nd, rfl⟩ := hrel
   have HT : Hid (xs.take k = ys.take k) := ht
   clear ht
   have HL : Hid (xs.length = ys.length) := hl
   clear hl
   by_cases hlt : k < xs.length
   ·have hlt2 : k < ys.length := by have := HL.out; omega
    obtain ⟨b1, o1, rfl, hb1, hx⟩ := hc1 k hlt
    obtain ⟨b2, o2, rfl, hb2, hy⟩ := hc2 k hlt
    rw [O7 _ _ hlt] at hx
    rw [O7 _ _ hlt2] at hy
    clear hc1 hc2
    go_wp2
    go_quiet (fail)
    go_wp2
    ·rename_i hd
     go_ret
     exact ⟨i9 (by symm; simp; intro h; subst h; simp at hd), _, by first | rfl | exact World.drewN_drewN _ _ _⟩
    ·rename_i hd
     refine ⟨⟨k + 1, by omega, by go_num, O4 HT.out hlt hlt2 (by simpa using hd), _, by first | rfl | exact World.drewN_drewN _ _ _⟩, by simp [intOf]; omega⟩
   ·go_wp2
    go_ret
    exact ⟨i9 (by symm; simp; exact S4 HT.out (by omega) (by have := HL.out; omega)), _, rfl⟩
 ·have hne : ((xs.length : Int) == (ys.length : Int)) = false := by simp; omega
  clear hc1 hc2
  go_enter Tryz.func73, Tryz.ntmps73
  go_wp2
  go_ret
  exact ⟨i9 (by symm; simp; intro h; exact hl (by rw [h])), 0, rfl⟩
theorem bh5 (x y : d8) (w : World) : (binOp .neq 60 (.agg #[.int .i64 x.op, .int .i64 x.a, .int .i64 x.b, .int .i64 x.c, .int .i64 x.d]) (.agg #[.int .i64 y.op, .int .i64 y.a, .int .i64 y.b, .int .i64 y.c, .int .i64 y.d])).run Tryz.prog w = .ok (.bool (!decide (x.l = y.l))) w := by
 rw [run_neq_struct, run_equalIn_struct _ _ _ _ _ (by kernel_rfl) (by kernel_rfl)]
 rw [show (Tryz.prog.fieldsOf 60).toList = [⟨"Op", 3, 0, false, "", "", 0⟩, ⟨"A", 3, 1, false, "", "", 8⟩, ⟨"B", 3, 2, false, "", "", 16⟩, ⟨"C", 3, 3, false, "", "", 24⟩, ⟨"D", 3, 4, false, "", "", 32⟩] from by kernel_rfl]
 simp only [d8.l, List.cons.injEq, and_true]
 simp [go_sem, Op.eqFields]
 (repeat' split) <;> simp_all
theorem aE2 (v1 v2 : Value) (xs ys : List Int) (w : World) (h1 : D3 w v1 xs.length 1 (ints xs)) (h2 : D3 w v2 ys.length 1 (ints ys)) :
  Calls Tryz.prog 30 #[v1, v2] w fun e w' => e = .returned (.bool (decide (xs = ys))) ∧ ∃ n, w' = w.drewN n := by
 obtain ⟨a1, c1, rfl, -, hm1, -, hc1⟩ := h1.open1
 obtain ⟨a2, c2, rfl, -, hm2, -, hc2⟩ := h2.open1
 by_cases hl : xs.length = ys.length
 ·have heq : ((xs.length : Int) == (ys.length : Int)) = true := by simp; omega
  have HL : Hid (xs.length = ys.length) := hl
  clear h1 h2 hl
  go_enter Tryz.func30, Tryz.ntmps30
  go_wp2
  go_loopw [5, 13] (fun _ i wr => ∃ k : Nat, k ≤ xs.length ∧ i = .int .i64 k ∧ xs.take k = ys.take k ∧ ∃ n, wr = w.drewN n) (fun _ i _ => xs.length - (intOf i).toNat)
  case atStart => exact ⟨0, cc7 _, rfl, rfl, 0, rfl⟩
  case round =>
   obtain ⟨k, hk, rfl, ht, nd, rfl⟩ := hrel
   have HT : Hid (xs.take k = ys.take k) := ht
   clear ht
   by_cases hlt : k < xs.length
   ·have hlt2 : k < ys.length := by have := HL.out; omega
    obtain ⟨b1, o1, rfl, hb1, hx⟩ := hc1 k hlt
    obtain ⟨b2, o2, rfl, hb2, hy⟩ := hc2 k hlt2
    rw [O7 _ _ hlt] at hx
    rw [O7 _ _ hlt2] at hy
    clear hc1 hc2
    go_wp2
    go_quiet (fail)
    go_wp2
    ·rename_i hd
     go_ret
     exact ⟨i9 (by symm; simp; intro h; subst h; simp at hd), _, by first | rfl | exact World.drewN_drewN _ _ _⟩
    ·rename_i hd
     refine ⟨⟨k + 1, by omega, by go_num, O4 HT.out hlt hlt2 (by simpa using hd), _, by first | rfl | exact World.drewN_drewN _ _ _⟩, by simp [intOf]; omega⟩
   ·have hge : decide ((k : Int) < (xs.length : Int)) = false := by simp; omega
    go_wp2
    go_ret
    exact ⟨i9 (by symm; simp; exact S4 HT.out (by omega) (by have := HL.out; omega)), _, rfl⟩
 ·have hne : ((xs.length : Int) == (ys.length : Int)) = false := by simp; omega
  clear hc1 hc2
  go_enter Tryz.func30, Tryz.ntmps30
  go_wp2
  go_ret
  exact ⟨i9 (by symm; simp; intro h; exact hl (by rw [h])), 0, rfl⟩
theorem bm3 (v1 v2 : Value) (xs ys : List d8) (w : World) (h1 : P3 w v1 xs) (h2 : P3 w v2 ys) :
  Calls Tryz.prog 31 #[v1, v2] w fun e w' => e = .returned (.bool (decide (t8 xs = t8 ys))) ∧ ∃ n, w' = w.drewN n := by
 obtain ⟨a1, c1, rfl, -, hm1, -, hc1⟩ := h1.ins
 obtain ⟨a2, c2, rfl, -, hm2, -, hc2⟩ := h2.ins
 by_cases hl : xs.length = ys.length
 ·have heq : ((xs.length : Int) == (ys.length : Int)) = true := by simp; omega
  have HL : Hid (xs.length = ys.length) := hl
  clear h1 h2 hl
  go_enter Tryz.func31, Tryz.ntmps31
  go_wp2
  go_loopw [5, 13] (fun _ i wr => ∃ k : Nat, k ≤ xs.length ∧ i = .int .i64 k ∧ xs.take k = ys.take k ∧ ∃ n, wr = w.drewN n) (fun _ i _ => xs.length - (intOf i).toNat)
  case atStart => exact ⟨0, cc7 _, rfl, rfl, 0, rfl⟩
  case round =>
   obtain ⟨k, hk, rfl, ht, nd, rfl⟩ := hrel
   have HT : Hid (xs.take k = ys.take k) := ht
   clear ht
   by_cases hlt : k < xs.length
   ·have hlt2 : k < ys.length := by have := HL.out; omega
    obtain ⟨b1, o1, e1, hb1, i0, i1, i2, i3, i4⟩ := hc1 k hlt
    obtain ⟨b2, o2, e2, hb2, j0, j1, j2, j3, j4⟩ := hc2 k hlt2
    have hq := fun w => bh5 xs[k] ys[k] w
    have HE := show Hid _ from (fun (h : xs[k].l = ys[k].l) => O4 HT.out hlt hlt2 (d8.ext' h))
    obtain ⟨q, hq0⟩ : ∃ q, q = !decide (xs[k].l = ys[k].l) := ⟨_, rfl⟩
    rw [← hq0] at hq
    have HQ0 := show Hid _ from hq0
    obtain ⟨x, hx⟩ : ∃ x, x = xs[k] := ⟨_, rfl⟩
    obtain ⟨y, hy⟩ : ∃ y, y = ys[k] := ⟨_, rfl⟩
    rw [← hx] at i0 i1 i2 i3 i4
    rw [← hy] at j0 j1 j2 j3 j4
    simp only [← hx, ← hy] at hq
    subst e1 e2
    clear hc1 hc2 hq0 hx hy
    cases q
    ·go_wp2
     go_quiet (fail)
     go_wp2
     refine ⟨⟨k + 1, by omega, by go_num, HE.out (by have := HQ0.out; simpa using this), _, by first | rfl | exact World.drewN_drewN _ _ _⟩, by simp [intOf]; omega⟩
    ·go_wp2
     go_quiet (fail)
     go_wp2
     go_ret
     exact ⟨i9 (by symm; simp; intro h; have := ab8 h; subst this; simpa using HQ0.out), _, by first | rfl | exact World.drewN_drewN _ _ _⟩
   ·go_wp2
    go_ret
    exact ⟨i9 (by symm; simp; exact congrArg t8 (S4 HT.out (by omega) (by have := HL.out; omega))), _, rfl⟩
 ·have hne : ((xs.length : Int) == (ys.length : Int)) = false := by simp; omega
  clear hc1 hc2
  go_enter Tryz.func31, Tryz.ntmps31
  go_wp2
  go_ret
  exact ⟨i9 (by symm; simp; intro h; exact hl (by rw [ab8 h])), 0, rfl⟩
theorem ak2 (v u : Value) (c d : b6) (w : World) (h : r8 w v c) (h' : r8 w u d) :
  Calls Tryz.prog 10 #[v, u] w fun e w' => e = .returned (.bool (c.same d)) ∧ Below w.heap.size w w' := by
 obtain ⟨v1, v2, v3, rfl, h1, h2, h3⟩ := h
 obtain ⟨u1, u2, u3, rfl, g1, g2, g3⟩ := h'
 obtain ⟨W, hW, M⟩ : ∃ W, W = ((w.alloc (.cells #[v1, v2, v3] 26)).alloc (.cells #[u1, u2, u3] 26)) ∧ C0 (fun _ => True) (fun _ => True) w W [.box w.heap.size [v1, v2, v3], .box (w.heap.size + 1) [u1, u2, u3]] :=
  ⟨_, rfl, ((C0.start fun _ _ => trivial).box _ _).box' _ _ (by simp)⟩
 have hs : Hid (c.same d = (decide (c.vars = d.vars) && decide (c.arrays = d.arrays) && decide (t8 c.list = t8 d.list))) := rfl
 have HR := show Hid (∀ W', Below W.heap.size W W' → (D3 W' v1 c.vars.length 1 (ints c.vars) ∧ D3 W' v2 c.arrays.length 1 (ints c.arrays) ∧ P3 W' v3 c.list) ∧ D3 W' u1 d.vars.length 1 (ints d.vars) ∧ D3 W' u2 d.arrays.length 1 (ints d.arrays) ∧ P3 W' u3 d.list) from fun W' k => by
  have bb := (M.call k).below fun _ _ => trivial
  exact ⟨⟨h1.below bb, h2.below bb, h3.below bb⟩, g1.below bb, g2.below bb, g3.below bb⟩
 have HB := show Hid (∀ n, Below w.heap.size w (W.drewN n)) from fun n => (M.call (below_drewN (Below.refl _ _) n)).below fun _ _ => trivial
 have x0 := M.c 0 0 rfl rfl
 have x1 := M.c 0 1 rfl rfl
 have x2 := M.c 0 2 rfl rfl
 have y0 := M.c 1 0 rfl rfl
 have y1 := M.c 1 1 rfl rfl
 have y2 := M.c 1 2 rfl rfl
 rw [hW] at x0 x1 x2 y0 y1 y2
 clear h1 h2 h3 g1 g2 g3 M
 go_enter Tryz.func10, Tryz.ntmps10
 go_wp2_with fail
 rw [← hW] at x0 x1 x2 y0 y1 y2 ⊢
 clear hW
 refine (aE2 _ _ c.vars d.vars _ (HR.out _ (Below.refl _ _)).1.1 (HR.out _ (Below.refl _ _)).2.1).mono ?_
 rintro e w1 ⟨rfl, n1, rfl⟩
 by_cases q1 : c.vars = d.vars
 ·rw [decide_eq_true q1]
  have Q1 := show Hid _ from q1
  clear q1
  go_wp2_with fail
  refine (aE2 _ _ c.arrays d.arrays _ (HR.out _ (below_drewN (Below.refl _ _) n1)).1.2.1 (HR.out _ (below_drewN (Below.refl _ _) n1)).2.2.1).mono ?_
  rintro e w1 ⟨rfl, n2, rfl⟩
  by_cases q2 : c.arrays = d.arrays
  ·rw [decide_eq_true q2]
   have Q2 := show Hid _ from q2
   clear q2
   go_wp2_with fail
   refine (bm3 _ _ c.list d.list _ (HR.out _ (below_drewN (Below.refl _ _) (n1 + n2))).1.2.2 (HR.out _ (below_drewN (Below.refl _ _) (n1 + n2))).2.2.2).mono ?_
   rintro e w1 ⟨rfl, n3, rfl⟩
   obtain ⟨q, hq⟩ : ∃ q, q = decide (t8 c.list = t8 d.list) := ⟨_, rfl⟩
   rw [← hq]
   have HQ := show Hid _ from hq
   clear hq
   go_wp2_with fail
   go_ret
   exact ⟨i9 (by rw [hs.out, decide_eq_true Q1.out, decide_eq_true Q2.out, HQ.out]; rfl), HB.out _⟩
  ·rw [decide_eq_false q2]
   go_wp2_with fail
   go_ret
   exact ⟨i9 (by rw [hs.out, decide_eq_false q2]; simp), HB.out _⟩
 ·rw [decide_eq_false q1]
  go_wp2_with fail
  go_ret
  exact ⟨i9 (by rw [hs.out, decide_eq_false q1]; simp), HB.out _⟩
theorem aG3 (v u : Value) (c d : b6) (w : World) (h : r8 w v c) (h' : r8 w u d) :
  Calls Tryz.prog 44 #[v, u] w fun e w' => e = .returned (.bool (c.same d)) ∧ Below w.heap.size w w' := by
 obtain ⟨v1, v2, v3, rfl, h1, h2, h3⟩ := h
 obtain ⟨u1, u2, u3, rfl, g1, g2, g3⟩ := h'
 obtain ⟨a1, k1, rfl, -, hm1, -, hc1⟩ := h3.ins
 obtain ⟨a2, k2, rfl, -, hm2, -, hc2⟩ := g3.ins
 obtain ⟨W, hW, M⟩ : ∃ W, W = ((w.alloc (.cells #[v1, v2, .slice a1 c.list.length k1] 26)).alloc (.cells #[u1, u2, .slice a2 d.list.length k2] 26)) ∧ C0 (fun _ => True) (fun _ => True) w W [.box w.heap.size [v1, v2, .slice a1 c.list.length k1], .box (w.heap.size + 1) [u1, u2, .slice a2 d.list.length k2]] :=
  ⟨_, rfl, ((C0.start fun _ _ => trivial).box _ _).box' _ _ (by simp)⟩
 have hs : Hid (c.same d = (decide (c.vars = d.vars) && decide (c.arrays = d.arrays) && decide (t8 c.list = t8 d.list))) := rfl
 have HR := show Hid (∀ n, (D3 (W.drewN n) v1 c.vars.length 1 (ints c.vars) ∧ D3 (W.drewN n) v2 c.arrays.length 1 (ints c.arrays)) ∧ D3 (W.drewN n) u1 d.vars.length 1 (ints d.vars) ∧ D3 (W.drewN n) u2 d.arrays.length 1 (ints d.arrays)) from fun n => by
  have bb := (M.call (below_drewN (Below.refl _ _) n)).below fun _ _ => trivial
  exact ⟨⟨h1.below bb, h2.below bb⟩, g1.below bb, g2.below bb⟩
 have HB := show Hid (∀ n, Below w.heap.size w (W.drewN n)) from fun n => (M.call (below_drewN (Below.refl _ _) n)).below fun _ _ => trivial
 have hb0 := M.below fun _ _ => trivial
 have HC1 := show Hid (∀ k (h : k < c.list.length), ∃ b o, a1 = some ⟨b, o, none⟩ ∧ W.cell? ⟨b, o + k * 5, none⟩ = some (.int .i64 c.list[k].op) ∧ W.cell? ⟨b, o + k * 5 + 1, none⟩ = some (.int .i64 c.list[k].a) ∧ W.cell? ⟨b, o + k * 5 + 2, none⟩ = some (.int .i64 c.list[k].b) ∧ W.cell? ⟨b, o + k * 5 + 3, none⟩ = some (.int .i64 c.list[k].c) ∧ W.cell? ⟨b, o + k * 5 + 4, none⟩ = some (.int .i64 c.list[k].d)) from fun k hk => by
  obtain ⟨b, o, e, hb, i0, i1, i2, i3, i4⟩ := hc1 k hk
  rw [← (D8 hb0).1 _ _ hb] at i0 i1 i2 i3 i4
  exact ⟨b, o, e, i0, i1, i2, i3, i4⟩
 have HC2 := show Hid (∀ k (h : k < d.list.length), ∃ b o, a2 = some ⟨b, o, none⟩ ∧ W.cell? ⟨b, o + k * 5, none⟩ = some (.int .i64 d.list[k].op) ∧ W.cell? ⟨b, o + k * 5 + 1, none⟩ = some (.int .i64 d.list[k].a) ∧ W.cell? ⟨b, o + k * 5 + 2, none⟩ = some (.int .i64 d.list[k].b) ∧ W.cell? ⟨b, o + k * 5 + 3, none⟩ = some (.int .i64 d.list[k].c) ∧ W.cell? ⟨b, o + k * 5 + 4, none⟩ = some (.int .i64 d.list[k].d)) from fun k hk => by
  obtain ⟨b, o, e, hb, i0, i1, i2, i3, i4⟩ := hc2 k hk
  rw [← (D8 hb0).1 _ _ hb] at i0 i1 i2 i3 i4
  exact ⟨b, o, e, i0, i1, i2, i3, i4⟩
 have x0 := M.c 0 0 rfl rfl
 have x1 := M.c 0 1 rfl rfl
 have x2 := M.c 0 2 rfl rfl
 have y0 := M.c 1 0 rfl rfl
 have y1 := M.c 1 1 rfl rfl
 have y2 := M.c 1 2 rfl rfl
 rw [hW] at x0 x1 x2 y0 y1 y2
 clear h1 h2 h3 g1 g2 g3 M hc1 hc2 hb0
 go_enter Tryz.func44, Tryz.ntmps44
 go_wp2_with fail
 rw [← hW] at x0 x1 x2 y0 y1 y2 ⊢
 clear hW
 refine (au7 _ _ c.vars d.vars _ (HR.out 0).1.1 (HR.out 0).2.1).mono ?_
 rintro e w1 ⟨rfl, n1, rfl⟩
 by_cases q1 : c.vars = d.vars
 ·rw [decide_eq_true q1]
  have Q1 := show Hid _ from q1
  clear q1
  go_wp2_with fail
  refine (au7 _ _ c.arrays d.arrays _ (HR.out n1).1.2 (HR.out n1).2.2).mono ?_
  rintro e w1 ⟨rfl, n2, rfl⟩
  by_cases q2 : c.arrays = d.arrays
  ·rw [decide_eq_true q2]
   have Q2 := show Hid _ from q2
   clear q2
   by_cases hl : c.list.length = d.list.length
   ·have heq : ((c.list.length : Int) == (d.list.length : Int)) = true := by simp; omega
    have HL := show Hid _ from hl
    clear hl
    go_wp2_with fail
    go_loopw [5] (fun i wr => ∃ k : Nat, k ≤ c.list.length ∧ i = .int .i64 k ∧ c.list.take k = d.list.take k ∧ ∃ n, wr = W.drewN n) (fun i _ => c.list.length - (intOf i).toNat)
    case atStart => exact ⟨0, cc7 _, rfl, rfl, _, by first | rfl | exact World.drewN_drewN _ _ _⟩
    case round =>
     obtain ⟨k, hk, rfl, ht, nd, rfl⟩ := hrel
     have HT : Hid (c.list.take k = d.list.take k) := ht
     clear ht
     by_cases hlt : k < c.list.length
     ·have hlt2 : k < d.list.length := by have := HL.out; omega
      obtain ⟨b1, o1, e1, i0, i1, i2, i3, i4⟩ := HC1.out k hlt
      obtain ⟨b2, o2, e2, j0, j1, j2, j3, j4⟩ := HC2.out k hlt2
      have hq := fun w => bh5 c.list[k] d.list[k] w
      have HE := show Hid _ from (fun (h : c.list[k].l = d.list[k].l) => O4 HT.out hlt hlt2 (d8.ext' h))
      obtain ⟨q, hq0⟩ : ∃ q, q = !decide (c.list[k].l = d.list[k].l) := ⟨_, rfl⟩
      rw [← hq0] at hq
      have HQ0 := show Hid _ from hq0
      obtain ⟨x, hx⟩ : ∃ x, x = c.list[k] := ⟨_, rfl⟩
      obtain ⟨y, hy⟩ : ∃ y, y = d.list[k] := ⟨_, rfl⟩
      rw [← hx] at i0 i1 i2 i3 i4
      rw [← hy] at j0 j1 j2 j3 j4
      simp only [← hx, ← hy] at hq
      subst e1 e2
      clear hq0 hx hy
      cases q
      ·go_wp2
       go_quiet (fail)
       go_wp2
       refine ⟨⟨k + 1, by omega, by go_num, HE.out (by have := HQ0.out; simpa using this), _, by first | rfl | exact World.drewN_drewN _ _ _⟩, by simp [intOf]; omega⟩
      ·go_wp2
       go_quiet (fail)
       go_wp2
       go_ret
       exact ⟨i9 (by rw [hs.out, decide_eq_false (fun h => by have hcd := ab8 h; have h1 := HQ0.out; simp [hcd] at h1 : ¬ t8 c.list = t8 d.list)]; simp), by rw [World.drewN_drewN]; exact HB.out _⟩
     ·go_wp2
      go_ret
      exact ⟨i9 (by rw [hs.out, decide_eq_true Q1.out, decide_eq_true Q2.out, decide_eq_true (congrArg t8 (S4 HT.out (by omega) (by have := HL.out; omega)))]; rfl), HB.out _⟩
   ·have hne : ((c.list.length : Int) == (d.list.length : Int)) = false := by simp; omega
    have HL := show Hid _ from hl
    clear hl
    go_wp2_with fail
    go_ret
    exact ⟨i9 (by rw [hs.out, decide_eq_false (fun h => HL.out (by rw [ab8 h]) : ¬ t8 c.list = t8 d.list)]; simp), HB.out _⟩
  ·rw [decide_eq_false q2]
   go_wp2_with fail
   go_ret
   exact ⟨i9 (by rw [hs.out, decide_eq_false q2]; simp), HB.out _⟩
 ·rw [decide_eq_false q1]
  go_wp2_with fail
  go_ret
  exact ⟨i9 (by rw [hs.out, decide_eq_false q1]; simp), HB.out _⟩
noncomputable def T3 (c : b6) : b6 := if e6 c = true then aa6 c else ⟨[], [], []⟩
theorem aW0 (c d : b6) : c.same d = true ∧ c = d ∨ c.same d = false ∧ c ≠ d := by
 by_cases h : c = d
 ·exact .inl ⟨b6.same_eq.2 h, h⟩
 ·exact .inr ⟨by cases hs : c.same d; rfl; exact absurd (b6.same_eq.1 hs) h, h⟩
theorem a24 (lo : Nat) (v : Value) (c : b6) : T4 fun w φ => B7 w (fun b => φ b ∧ lo ≤ b) v c :=
 fun _ _ _ _ ha h => B7.nice v c _ _ _ _ ⟨ha.1, fun b hb hp => ⟨⟨(ha.2 b hb hp.1).1, hp.2⟩, (ha.2 b hb hp.1).2⟩⟩ h
theorem B7.mono {w : World} {φ φ' : Nat → Prop} {v : Value} {c : b6} (h : B7 w φ v c) (hf : ∀ b, b < w.heap.size → φ b → φ' b) : B7 w φ' v c := B7.nice v c _ _ _ _ (Agr.mono hf) h
theorem an8 (v : Value) (c : b6) (w : World) (h : r8 w v c) :
  Calls Tryz.prog 20 #[v] w fun e w' => ∃ u, e = .returned (.tuple #[u, .bool (e6 c)]) ∧ I9 w' w.heap.size w'.heap.size u (T3 c) ∧ Below w.heap.size w w' := by
 obtain ⟨v1, v2, v3, rfl, h1, h2, h3⟩ := h
 have HT : Hid (T3 c = if e6 c = true then aa6 c else ⟨[], [], []⟩) := rfl
 obtain ⟨W, hW, M⟩ : ∃ W, W = (w.alloc (.cells #[v1, v2, v3] 26)).alloc (.cells #[.slice none 0 0, .slice none 0 0, .slice none 0 0] 26) ∧ C0 (fun _ => True) (fun _ => True) w W [.dat fun w φ => B7 w φ (.agg #[v1, v2, v3]) c, .box w.heap.size [v1, v2, v3], .box (w.heap.size + 1) [.slice none 0 0, .slice none 0 0, .slice none 0 0]] :=
  ⟨_, rfl, (((C0.start (fun _ _ => trivial)).dat (B7.nice (.agg #[v1, v2, v3]) c) ⟨_, _, _, rfl, h1.rowF fun _ _ => ⟨cc2, fun r hr => by cases hr⟩, D3.rowF h2 fun _ _ => ⟨cc2, fun r hr => by cases hr⟩, D3.rowF h3 fun _ _ => ⟨cc2, fun r hr => by cases hr⟩⟩).box _ _).box' _ _ (by simp)⟩
 clear h1 h2 h3
 have x0 := M.c 1 0 rfl rfl
 have x1 := M.c 1 1 rfl rfl
 have x2 := M.c 1 2 rfl rfl
 rw [hW] at x0 x1 x2
 go_enter Tryz.func20, Tryz.ntmps20
 go_wp2_with fail
 rw [← hW]
 clear hW x0 x1 x2
 refine (aA3 _ c _ (M.d 0 rfl).row).mono ?_
 rintro e w1 ⟨rfl, b1⟩
 replace M := M.call b1
 clear b1
 cases hc : e6 c
 ·have HC := show Hid (T3 c = ⟨[], [], []⟩) from by unfold Hid; rw [HT.out, hc]; simp
  have HO := show Hid _ from hc
  clear hc
  have z0 := M.c 2 0 rfl rfl
  have z1 := M.c 2 1 rfl rfl
  have z2 := M.c 2 2 rfl rfl
  have fz := M.f 2 rfl
  have M2 := ((M.set 2 rfl 0 (.slice none 0 0)).set 2 rfl 1 (.slice none 0 0)).set 2 rfl 2 (.slice none 0 0)
  have HM2 := show Hid _ from M2
  clear M M2
  go_wp2_with fail
  have M2 := HM2.out
  have r0 : World.cell? _ ⟨w.heap.size + 1, 0, none⟩ = some (.slice none 0 0) := M2.c 2 0 rfl rfl
  have r1 : World.cell? _ ⟨w.heap.size + 1, 1, none⟩ = some (.slice none 0 0) := M2.c 2 1 rfl rfl
  have r2 : World.cell? _ ⟨w.heap.size + 1, 2, none⟩ = some (.slice none 0 0) := M2.c 2 2 rfl rfl
  exact bodyPost_ret (v := .tuple #[.agg #[.slice none 0 0, .slice none 0 0, .slice none 0 0], .bool false]) (by simp [results, Tryz.results20, go_sem, r0, r1, r2]) rfl ⟨_, by rw [HO.out], by rw [HC.out]; exact a23 _ _ _, M2.below fun _ _ => trivial⟩
 ·have HC := show Hid (T3 c = aa6 c) from by unfold Hid; rw [HT.out, hc]; simp
  have HO := show Hid _ from hc
  clear hc
  go_wp2_with fail
  go_loopg [4] (ae9 c) (fun m _ wr => ∃ (c1 c2 c3 : Value) (cur : b6), ae9 cur ≤ m ∧ e6 cur = true ∧ aa6 cur = aa6 c ∧ C0 (fun _ => True) (fun _ => True) w wr [.dat fun w φ => B7 w φ (.agg #[c1, c2, c3]) cur, .box w.heap.size [c1, c2, c3], .box (w.heap.size + 1) [.slice none 0 0, .slice none 0 0, .slice none 0 0]])
  case atStart => exact ⟨v1, v2, v3, c, cb1 _, HO.out, rfl, M⟩
  case round =>
   clear M
   obtain ⟨c1, c2, c3, cur, hm, hok, hcur, M⟩ := hrel
   have HM := show Hid _ from hm
   have HK := show Hid _ from hok
   have HU := show Hid _ from hcur
   clear hm hok hcur
   have x0 := M.c 1 0 rfl rfl
   have x1 := M.c 1 1 rfl rfl
   have x2 := M.c 1 2 rfl rfl
   go_wp2_with fail
   refine (aG2 _ cur HK.out _ (M.d 0 rfl).row).mono ?_
   rintro e w2 ⟨u2, rfl, o2, b2⟩
   replace M := M.call b2
   clear x0 x1 x2 b2
   go_wp2_with fail
   refine (aV4 _ (E7 cur) (ar1 HK.out) _ o2.row).mono ?_
   rintro e w3 ⟨u3, rfl, o3, b3⟩
   obtain ⟨nx, hnx⟩ : ∃ nx, nx = W6 cur := ⟨_, rfl⟩
   have HNX := show Hid _ from hnx
   rw [show H4 (E7 cur) = nx from hnx.symm] at o3
   clear hnx
   have s2 := M.size
   replace M := M.callD b3 (R := fun w' φ => B7 w' (fun b => φ b ∧ w.heap.size ≤ b) u3 nx) (a24 _ _ _) (B7.mono o3 fun b _ hb => ⟨M.frFresh b hb, cd3 s2 hb⟩)
   obtain ⟨y1, y2, y3, rfl, -⟩ := id o3
   obtain ⟨a1, k1, a2, k2, a3, k3, rfl, rfl, rfl⟩ := I9.rowOf (o3.in (lo := 0) fun _ _ => cc7 _)
   clear b3 o3 o2
   have M4 := M.box [.slice a1 nx.vars.length k1, .slice a2 nx.arrays.length k2, .slice a3 nx.list.length k3] 26
   have x0 : World.cell? _ ⟨w.heap.size, 0, none⟩ = some c1 := M4.c 1 0 rfl rfl
   have x1 : World.cell? _ ⟨w.heap.size, 1, none⟩ = some c2 := M4.c 1 1 rfl rfl
   have x2 : World.cell? _ ⟨w.heap.size, 2, none⟩ = some c3 := M4.c 1 2 rfl rfl
   have HM4 := show Hid _ from M4
   clear M M4
   go_wp2_with fail
   clear x0 x1 x2
   have M := HM4.out
   clear HM4
   obtain ⟨X0, hX0⟩ : ∃ X0, X0 = w3.heap.size := ⟨_, rfl⟩
   rw [← hX0] at M ⊢
   clear hX0
   refine (aG3 _ _ nx cur _ (M.d 3 rfl).row (M.d 0 rfl).row).mono ?_
   rintro e w5 ⟨rfl, b5⟩
   replace M := M.call b5
   clear b5
   have y0 : World.cell? _ ⟨X0, 0, none⟩ = some (.slice a1 nx.vars.length k1) := M.c 4 0 rfl rfl
   have y1 : World.cell? _ ⟨X0, 1, none⟩ = some (.slice a2 nx.arrays.length k2) := M.c 4 1 rfl rfl
   have y2 : World.cell? _ ⟨X0, 2, none⟩ = some (.slice a3 nx.list.length k3) := M.c 4 2 rfl rfl
   have z0 : World.cell? _ ⟨w.heap.size + 1, 0, none⟩ = some (.slice none 0 0) := M.c 2 0 rfl rfl
   have z1 : World.cell? _ ⟨w.heap.size + 1, 1, none⟩ = some (.slice none 0 0) := M.c 2 1 rfl rfl
   have z2 : World.cell? _ ⟨w.heap.size + 1, 2, none⟩ = some (.slice none 0 0) := M.c 2 2 rfl rfl
   have fz := M.f 2 rfl
   have x0 : World.cell? _ ⟨w.heap.size, 0, none⟩ = some c1 := M.c 1 0 rfl rfl
   have x1 : World.cell? _ ⟨w.heap.size, 1, none⟩ = some c2 := M.c 1 1 rfl rfl
   have x2 : World.cell? _ ⟨w.heap.size, 2, none⟩ = some c3 := M.c 1 2 rfl rfl
   have fx := M.f 1 rfl
   rcases aW0 nx cur with ⟨hs, he⟩ | ⟨hs, he⟩
   ·rw [hs]
    have M2 := ((M.set 2 rfl 0 (.slice a1 nx.vars.length k1)).set 2 rfl 1 (.slice a2 nx.arrays.length k2)).set 2 rfl 2 (.slice a3 nx.list.length k3)
    have HM2 := show Hid _ from M2
    have HE := show Hid _ from he
    clear M M2 hs he
    go_wp2_with fail
    have M2 := HM2.out
    have r0 : World.cell? _ ⟨w.heap.size + 1, 0, none⟩ = some (.slice a1 nx.vars.length k1) := M2.c 2 0 rfl rfl
    have r1 : World.cell? _ ⟨w.heap.size + 1, 1, none⟩ = some (.slice a2 nx.arrays.length k2) := M2.c 2 1 rfl rfl
    have r2 : World.cell? _ ⟨w.heap.size + 1, 2, none⟩ = some (.slice a3 nx.list.length k3) := M2.c 2 2 rfl rfl
    have hres : T3 c = nx := by
     rw [HC.out, ← HU.out, ar7 HK.out (by rw [← HNX.out]; exact HE.out)]
     exact HE.out.symm
    refine bodyPost_ret (v := .tuple #[.agg #[.slice a1 nx.vars.length k1, .slice a2 nx.arrays.length k2, .slice a3 nx.list.length k3], .bool true]) (by simp [results, Tryz.results20, go_sem, r0, r1, r2]) rfl ⟨_, by rw [HO.out], ?_, M2.below fun _ _ => trivial⟩
    rw [hres]
    exact B7.in (M2.out 3 rfl) fun _ hb => hb.2
   ·rw [hs]
    have M1 := (((M.dat (B7.nice _ nx) (B7.mono (M.d 3 rfl) fun _ _ hb => hb.1)).set 1 rfl 0 (.slice a1 nx.vars.length k1)).set 1 rfl 1 (.slice a2 nx.arrays.length k2)).set 1 rfl 2 (.slice a3 nx.list.length k3)
    have M2 := M1.sel [5, 1, 2] [.dat fun w φ => B7 w φ (.agg #[.slice a1 nx.vars.length k1, .slice a2 nx.arrays.length k2, .slice a3 nx.list.length k3]) nx, .box w.heap.size [.slice a1 nx.vars.length k1, .slice a2 nx.arrays.length k2, .slice a3 nx.list.length k3], .box (w.heap.size + 1) [.slice none 0 0, .slice none 0 0, .slice none 0 0]] rfl (by decide)
    have HM2 := show Hid _ from M2
    have HE := show Hid _ from he
    clear M M1 M2 hs he
    go_wp2_with fail
    have hne : W6 cur ≠ cur := by rw [← HNX.out]; exact HE.out
    go_roundg (ae9 nx)
    case measure => rw [HNX.out]; have := aO6 HK.out hne; have := HM.out; omega
    case rel => exact ⟨_, _, _, nx, cb1 _, by rw [HNX.out]; exact ao7 HK.out, by rw [HNX.out, aK5 HK.out hne]; exact HU.out, HM2.out⟩
theorem y6.codeF {w : World} {lo hi : Nat} {v : Value} {c : b6} (h : y6 w lo hi v c) {φ : Nat → Prop} (hf : ∀ b, lo ≤ b → b < hi → φ b) : B7 w φ v c := by
 obtain ⟨v1, v2, v3, rfl, h1, h2, h3, -⟩ := h
 exact ⟨v1, v2, v3, rfl, x6 h1.1 fun g hg => hf g (h1.lt g hg).1 (h1.lt g hg).2.1, x6 h2.1 fun g hg => hf g (h2.lt g hg).1 (h2.lt g hg).2.1, x6 h3.1 fun g hg => hf g (h3.lt g hg).1 (h3.lt g hg).2.1⟩
def bK1 (lo hi : Nat) (v : Value) (c : b6) : World → (Nat → Prop) → Prop := fun w φ => y6 w lo hi v c ∧ hi ≤ w.heap.size ∧ ∀ b, lo ≤ b → b < hi → φ b
theorem bK1.nice (lo hi : Nat) (v : Value) (c : b6) : T4 (bK1 lo hi v c) := by
 rintro w w' φ φ' ha ⟨⟨v1, v2, v3, rfl, h1, h2, h3, hd⟩, hh, hf⟩
 have key : ∀ g, lo ≤ g → g < hi → w'.heap[g]? = w.heap[g]? := fun g a b => (ha.2 g (by omega) (hf g a b)).2
 exact ⟨⟨v1, v2, v3, rfl, h1.same fun g hg => key g (h1.lt g hg).1 (h1.lt g hg).2.1, h2.same fun g hg => key g (h2.lt g hg).1 (h2.lt g hg).2.1, h3.same fun g hg => key g (h3.lt g hg).1 (h3.lt g hg).2.1, hd⟩, cd3 hh ha.1, fun b a c => (ha.2 b (by omega) (hf b a c)).1⟩
theorem Z7 (v : Value) (c : b6) (w : World) (h : r8 w v c) :
  Calls Tryz.prog 19 #[v] w fun e w' => ∃ u, e = .returned (.tuple #[u, .bool (e6 c)]) ∧ y6 w' w.heap.size w'.heap.size u (T3 c) ∧ Below w.heap.size w w' := by
 obtain ⟨v1, v2, v3, rfl, h1, h2, h3⟩ := h
 have HT : Hid (T3 c = if e6 c = true then aa6 c else ⟨[], [], []⟩) := rfl
 obtain ⟨W, hW, M⟩ : ∃ W, W = (w.alloc (.cells #[v1, v2, v3] 26)).alloc (.cells #[.slice none 0 0, .slice none 0 0, .slice none 0 0] 26) ∧ C0 (fun _ => True) (fun _ => True) w W [.dat fun w φ => B7 w φ (.agg #[v1, v2, v3]) c, .box w.heap.size [v1, v2, v3], .box (w.heap.size + 1) [.slice none 0 0, .slice none 0 0, .slice none 0 0]] :=
  ⟨_, rfl, (((C0.start (fun _ _ => trivial)).dat (B7.nice (.agg #[v1, v2, v3]) c) ⟨_, _, _, rfl, h1.rowF fun _ _ => ⟨cc2, fun r hr => by cases hr⟩, D3.rowF h2 fun _ _ => ⟨cc2, fun r hr => by cases hr⟩, D3.rowF h3 fun _ _ => ⟨cc2, fun r hr => by cases hr⟩⟩).box _ _).box' _ _ (by simp)⟩
 clear h1 h2 h3
 have x0 := M.c 1 0 rfl rfl
 have x1 := M.c 1 1 rfl rfl
 have x2 := M.c 1 2 rfl rfl
 rw [hW] at x0 x1 x2
 go_enter Tryz.func19, Tryz.ntmps19
 go_wp2_with fail
 rw [← hW]
 clear hW x0 x1 x2
 refine (ag3 _ c _ (M.d 0 rfl).row).mono ?_
 rintro e w1 ⟨rfl, b1⟩
 replace M := M.call b1
 clear b1
 cases hc : e6 c
 ·have HC := show Hid (T3 c = ⟨[], [], []⟩) from by unfold Hid; rw [HT.out, hc]; simp
  have HO := show Hid _ from hc
  clear hc
  have z0 := M.c 2 0 rfl rfl
  have z1 := M.c 2 1 rfl rfl
  have z2 := M.c 2 2 rfl rfl
  have fz := M.f 2 rfl
  have M2 := ((M.set 2 rfl 0 (.slice none 0 0)).set 2 rfl 1 (.slice none 0 0)).set 2 rfl 2 (.slice none 0 0)
  have HM2 := show Hid _ from M2
  clear M M2
  go_wp2_with fail
  have M2 := HM2.out
  have r0 : World.cell? _ ⟨w.heap.size + 1, 0, none⟩ = some (.slice none 0 0) := M2.c 2 0 rfl rfl
  have r1 : World.cell? _ ⟨w.heap.size + 1, 1, none⟩ = some (.slice none 0 0) := M2.c 2 1 rfl rfl
  have r2 : World.cell? _ ⟨w.heap.size + 1, 2, none⟩ = some (.slice none 0 0) := M2.c 2 2 rfl rfl
  exact bodyPost_ret (v := .tuple #[.agg #[.slice none 0 0, .slice none 0 0, .slice none 0 0], .bool false]) (by simp [results, Tryz.results19, go_sem, r0, r1, r2]) rfl ⟨_, by rw [HO.out], by rw [HC.out]; exact bm9 _ _ _, M2.below fun _ _ => trivial⟩
 ·have HC := show Hid (T3 c = aa6 c) from by unfold Hid; rw [HT.out, hc]; simp
  have HO := show Hid _ from hc
  clear hc
  have x0 : World.cell? _ ⟨w.heap.size, 0, none⟩ = some v1 := M.c 1 0 rfl rfl
  have x1 : World.cell? _ ⟨w.heap.size, 1, none⟩ = some v2 := M.c 1 1 rfl rfl
  have x2 : World.cell? _ ⟨w.heap.size, 2, none⟩ = some v3 := M.c 1 2 rfl rfl
  go_wp2_with fail
  clear x0 x1 x2
  refine (a01 _ c _ (M.d 0 rfl).row (S8 HO.out)).mono ?_
  rintro e w2 ⟨u2, rfl, o2, b2⟩
  have hfr := M.frFresh
  have M2 := M.callD b2 (R := fun w' φ => B7 w' φ u2 c) (B7.nice _ _) (o2.codeF fun b hb _ => hfr b hb)
  obtain ⟨d1, d2, d3, rfl, -⟩ := id o2
  obtain ⟨a1, k1, a2, k2, a3, k3, rfl, rfl, rfl⟩ := Code.rowOf o2
  have M4 := M2.box [.slice a1 c.vars.length k1, .slice a2 c.arrays.length k2, .slice a3 c.list.length k3] 26
  have HM4 := show Hid _ from M4
  clear M M2 M4 o2 b2 hfr
  go_wp2_with fail
  have M4 := HM4.out
  clear HM4
  obtain ⟨X0, hX0⟩ : ∃ X0, X0 = w2.heap.size := ⟨_, rfl⟩
  rw [← hX0] at M4 ⊢
  clear hX0
  generalize w2.alloc (.cells #[.slice a1 c.vars.length k1, .slice a2 c.arrays.length k2, .slice a3 c.list.length k3] 26) = wa at *
  have M := M4.sel [3, 4, 2] [.dat fun w φ => B7 w φ (.agg #[.slice a1 c.vars.length k1, .slice a2 c.arrays.length k2, .slice a3 c.list.length k3]) c, .box X0 [.slice a1 c.vars.length k1, .slice a2 c.arrays.length k2, .slice a3 c.list.length k3], .box (w.heap.size + 1) [.slice none 0 0, .slice none 0 0, .slice none 0 0]] rfl (by decide)
  clear M4
  go_loopg [5] (ae9 c) (fun m _ wr => ∃ (c1 c2 c3 : Value) (cur : b6), ae9 cur ≤ m ∧ e6 cur = true ∧ aa6 cur = aa6 c ∧ C0 (fun _ => True) (fun _ => True) w wr [.dat fun w φ => B7 w φ (.agg #[c1, c2, c3]) cur, .box X0 [c1, c2, c3], .box (w.heap.size + 1) [.slice none 0 0, .slice none 0 0, .slice none 0 0]])
  case atStart => exact ⟨_, _, _, c, cb1 _, HO.out, rfl, M⟩
  case round =>
   clear M
   obtain ⟨c1, c2, c3, cur, hm, hok, hcur, M⟩ := hrel
   have HM := show Hid _ from hm
   have HK := show Hid _ from hok
   have HU := show Hid _ from hcur
   clear hm hok hcur
   have x0 := M.c 1 0 rfl rfl
   have x1 := M.c 1 1 rfl rfl
   have x2 := M.c 1 2 rfl rfl
   go_wp2_with fail
   refine (aG7 _ cur HK.out _ (M.d 0 rfl).row).mono ?_
   rintro e w2 ⟨u2, rfl, o2, b2⟩
   replace M := M.call b2
   clear x0 x1 x2 b2
   go_wp2_with fail
   refine (aQ3 _ (E7 cur) (ar1 HK.out) _ o2.row).mono ?_
   rintro e w3 ⟨u3, rfl, o3, b3⟩
   obtain ⟨nx, hnx⟩ : ∃ nx, nx = W6 cur := ⟨_, rfl⟩
   have HNX := show Hid _ from hnx
   rw [show H4 (E7 cur) = nx from hnx.symm] at o3
   clear hnx
   have s2 := M.size
   have hfr := M.frFresh
   replace M := M.callD b3 (R := bK1 w2.heap.size w3.heap.size u3 nx) (bK1.nice _ _ _ _) ⟨o3, cb1 _, fun b hb _ => hfr b hb⟩
   obtain ⟨y1, y2, y3, rfl, -⟩ := id o3
   obtain ⟨a1, k1, a2, k2, a3, k3, rfl, rfl, rfl⟩ := Code.rowOf o3
   clear b3 o3 o2 hfr
   have M4 := M.box [.slice a1 nx.vars.length k1, .slice a2 nx.arrays.length k2, .slice a3 nx.list.length k3] 26
   have x0 : World.cell? _ ⟨X0, 0, none⟩ = some c1 := M4.c 1 0 rfl rfl
   have x1 : World.cell? _ ⟨X0, 1, none⟩ = some c2 := M4.c 1 1 rfl rfl
   have x2 : World.cell? _ ⟨X0, 2, none⟩ = some c3 := M4.c 1 2 rfl rfl
   have HM4 := show Hid _ from M4
   clear M M4
   go_wp2_with fail
   clear x0 x1 x2
   have M := HM4.out
   clear HM4
   obtain ⟨X1, hX1⟩ : ∃ X1, X1 = w3.heap.size := ⟨_, rfl⟩
   rw [← hX1] at M ⊢
   clear hX1
   refine (ak2 _ _ nx cur _ (M.d 3 rfl).1.row (M.d 0 rfl).row).mono ?_
   rintro e w5 ⟨rfl, b5⟩
   replace M := M.call b5
   clear b5
   have y0 : World.cell? _ ⟨X1, 0, none⟩ = some (.slice a1 nx.vars.length k1) := M.c 4 0 rfl rfl
   have y1 : World.cell? _ ⟨X1, 1, none⟩ = some (.slice a2 nx.arrays.length k2) := M.c 4 1 rfl rfl
   have y2 : World.cell? _ ⟨X1, 2, none⟩ = some (.slice a3 nx.list.length k3) := M.c 4 2 rfl rfl
   have z0 : World.cell? _ ⟨w.heap.size + 1, 0, none⟩ = some (.slice none 0 0) := M.c 2 0 rfl rfl
   have z1 : World.cell? _ ⟨w.heap.size + 1, 1, none⟩ = some (.slice none 0 0) := M.c 2 1 rfl rfl
   have z2 : World.cell? _ ⟨w.heap.size + 1, 2, none⟩ = some (.slice none 0 0) := M.c 2 2 rfl rfl
   have fz := M.f 2 rfl
   have x0 : World.cell? _ ⟨X0, 0, none⟩ = some c1 := M.c 1 0 rfl rfl
   have x1 : World.cell? _ ⟨X0, 1, none⟩ = some c2 := M.c 1 1 rfl rfl
   have x2 : World.cell? _ ⟨X0, 2, none⟩ = some c3 := M.c 1 2 rfl rfl
   have fx := M.f 1 rfl
   rcases aW0 nx cur with ⟨hs, he⟩ | ⟨hs, he⟩
   ·rw [hs]
    have M2 := ((M.set 2 rfl 0 (.slice a1 nx.vars.length k1)).set 2 rfl 1 (.slice a2 nx.arrays.length k2)).set 2 rfl 2 (.slice a3 nx.list.length k3)
    have HM2 := show Hid _ from M2
    have HE := show Hid _ from he
    clear M M2 hs he
    go_wp2_with fail
    have M2 := HM2.out
    have r0 : World.cell? _ ⟨w.heap.size + 1, 0, none⟩ = some (.slice a1 nx.vars.length k1) := M2.c 2 0 rfl rfl
    have r1 : World.cell? _ ⟨w.heap.size + 1, 1, none⟩ = some (.slice a2 nx.arrays.length k2) := M2.c 2 1 rfl rfl
    have r2 : World.cell? _ ⟨w.heap.size + 1, 2, none⟩ = some (.slice a3 nx.list.length k3) := M2.c 2 2 rfl rfl
    have hres : T3 c = nx := by
     rw [HC.out, ← HU.out, ar7 HK.out (by rw [← HNX.out]; exact HE.out)]
     exact HE.out.symm
    refine bodyPost_ret (v := .tuple #[.agg #[.slice a1 nx.vars.length k1, .slice a2 nx.arrays.length k2, .slice a3 nx.list.length k3], .bool true]) (by simp [results, Tryz.results19, go_sem, r0, r1, r2]) rfl ⟨_, by rw [HO.out], ?_, M2.below fun _ _ => trivial⟩
    rw [hres]
    have ho := M2.out 3 rfl
    exact ho.1.wide s2 ho.2.1
   ·rw [hs]
    have M1 := (((M.dat (B7.nice _ nx) ((M.d 3 rfl).1.codeF (M.d 3 rfl).2.2)).set 1 rfl 0 (.slice a1 nx.vars.length k1)).set 1 rfl 1 (.slice a2 nx.arrays.length k2)).set 1 rfl 2 (.slice a3 nx.list.length k3)
    have M2 := M1.sel [5, 1, 2] [.dat fun w φ => B7 w φ (.agg #[.slice a1 nx.vars.length k1, .slice a2 nx.arrays.length k2, .slice a3 nx.list.length k3]) nx, .box X0 [.slice a1 nx.vars.length k1, .slice a2 nx.arrays.length k2, .slice a3 nx.list.length k3], .box (w.heap.size + 1) [.slice none 0 0, .slice none 0 0, .slice none 0 0]] rfl (by decide)
    have HM2 := show Hid _ from M2
    have HE := show Hid _ from he
    clear M M1 M2 hs he
    go_wp2_with fail
    have hne : W6 cur ≠ cur := by rw [← HNX.out]; exact HE.out
    go_roundg (ae9 nx)
    case measure => rw [HNX.out]; have := aO6 HK.out hne; have := HM.out; omega
    case rel => exact ⟨_, _, _, nx, cb1 _, by rw [HNX.out]; exact ao7 HK.out, by rw [HNX.out, aK5 HK.out hne]; exact HU.out, HM2.out⟩
end Go.Proofs.YtmokkddidcmglaaGreat

namespace Go.Proofs.YtmokkddidcmglaaGreat
open Go Go.RowKit Go.ChangeShapes Go.WideShapes Go.Deep
section
variable {H : Type} {enc : TypeId × Value → H} {W : World}
theorem aH2 {fuel : Nat} {t : TypeId} {v : Value} {x : DataW H × List MemPlace} (ht : Tryz.prog.underlying t = some (.slice 5))
  (h : DataW.trod enc Tryz.prog W 0 (fun _ => true) true fuel t [v] = some x) : ∃ l : List UInt8, D3 W v l.length 1 (l.map fun b => Value.int .u8 (b.toNat : Int)) := by
 obtain ⟨n, m, C, hr, hC, hx⟩ := aW7 ht (sz := 1) (by kernel_rfl) (by omega) h
 obtain ⟨g, hg⟩ := choose_lt (α := UInt8) (n := n) (p := fun i b => C i = [.int .u8 (b.toNat : Int)]) (fun i hi => by
  obtain ⟨y, hy⟩ := hx i hi
  obtain ⟨z, hz, _, hw⟩ := DataW.trod_int Tryz.underlying5 hy
  simp only [Lit.wf, cb0, decide_eq_true_eq] at hw
  have h0 : (0 : Int) ≤ z := hw.1
  have h1 : z ≤ 255 := hw.2
  refine ⟨UInt8.ofNat z.toNat, ?_⟩
  rw [hz]
  have e : (UInt8.ofNat z.toNat).toNat = z.toNat := by
   rw [UInt8.toNat_ofNat']; omega
  rw [e, cf4 h0])
 refine ⟨(cc5 n).map g, ?_⟩
 rw [List.length_map, List.length_range, ← aC1 n C (fun b => Value.int .u8 (b.toNat : Int)) g hg]
 exact hr
end
end Go.Proofs.YtmokkddidcmglaaGreat
