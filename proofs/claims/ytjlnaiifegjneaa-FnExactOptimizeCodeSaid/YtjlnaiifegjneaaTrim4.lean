/-
  Trimmed code, the reference's. Conditions: valid code.
-/
import Derived.Test.YtjlnaiifegjneaaTrim3
import Derived.Test.YtjlnaiifegjneaaReachS
import Derived.Test.YtjlnaiifegjneaaRegF
namespace Go.Proofs.Ytjlnaiifegjneaa
open Go Go.RowKit

/-- Code in blocks of a set. -/
def CodeF (w : World) (φ : Nat → Prop) (v : Value) (c : LCode) : Prop :=
  ∃ v1 v2 v3, v = .agg #[v1, v2, v3] ∧ RowF w φ v1 c.vars.length 1 (ints c.vars) ∧ RowF w φ v2 c.arrays.length 1 (ints c.arrays) ∧ RowF w φ v3 c.list.length 5 (ints (insF c.list))
theorem CodeF.nice (v : Value) (c : LCode) : Nice fun w φ => CodeF w φ v c := by
  rintro w w' φ φ' ha ⟨v1, v2, v3, rfl, h1, h2, h3⟩
  exact ⟨v1, v2, v3, rfl, RowF.nice _ _ _ _ _ _ _ _ ha h1, RowF.nice _ _ _ _ _ _ _ _ ha h2, RowF.nice _ _ _ _ _ _ _ _ ha h3⟩
theorem CodeF.row {w : World} {φ : Nat → Prop} {v : Value} {c : LCode} (h : CodeF w φ v c) : CodeRow w v c := by
  obtain ⟨v1, v2, v3, rfl, h1, h2, h3⟩ := h
  exact ⟨v1, v2, v3, rfl, h1.row, h2.row, h3.row⟩

set_option maxRecDepth 100000 in
set_option maxHeartbeats 8000000 in
theorem spec_l8Trim (v : Value) (c : LCode) (hc : codeOk c = true) (w : World) (h : CodeRow w v c) :
    Calls Try.prog 78 #[v] w fun e w' => ∃ z, e = .returned z ∧ CodeF w' (fun b => w.heap.size ≤ b) z (trimF c) ∧ Below w.heap.size w w' := by
  have hrow := h
  obtain ⟨v1, v2, v3, rfl, h1, h2, h3⟩ := h
  obtain ⟨a3, k3, rfl, -, hm3, -, hc3⟩ := h3.ins
  have hn4 := (codeOk_parts hc).2.2.1
  obtain ⟨φ, hφ⟩ : ∃ φ : Nat → Prop, φ = fun b => w.heap.size ≤ b := ⟨_, rfl⟩
  obtain ⟨W, hW, M⟩ : ∃ W, W = (w.alloc (.cells #[v1, v2, .slice a3 c.list.length k3] 36)).alloc (.cells #[.slice none 0 0, .slice none 0 0, .slice none 0 0] 36) ∧ Mem φ (fun _ => True) w W [.box w.heap.size [v1, v2, .slice a3 c.list.length k3], .box (w.heap.size + 1) [.slice none 0 0, .slice none 0 0, .slice none 0 0]] :=
    ⟨_, rfl, ((Mem.start (by rw [hφ]; exact fun _ h => h)).box _ _).box' _ _ (by simp)⟩
  have HF := show Hid _ from hφ
  clear hφ
  have x0 := M.c 0 0 rfl rfl
  have x1 := M.c 0 1 rfl rfl
  have x2 := M.c 0 2 rfl rfl
  rw [hW] at x0 x1 x2
  go_enter Try.func78, Try.ntmps78
  go_wp2_with fail
  rw [← hW]
  clear hW x0 x1 x2
  refine (spec_l8Reach _ c hc _ (hrow.below (M.below fun _ _ => trivial))).mono ?_
  rintro e w1 ⟨ud, rfl, od, b1⟩
  obtain ⟨ad, kd, rfl⟩ := od.form
  replace M := M.callR b1 od.1
  have HI := show Hid _ from hc3
  clear hc3 od b1
  go_wp2_with fail
  rw [← keepMix_zero] at M
  go_loopw [4] (fun i wr => ∃ k : Nat, k ≤ c.list.length ∧ i = .int .i64 k ∧ Mem φ (fun _ => True) w wr [.box w.heap.size [v1, v2, .slice a3 c.list.length k3], .box (w.heap.size + 1) [.slice none 0 0, .slice none 0 0, .slice none 0 0], .row 4 1 (.slice ad c.list.length kd) c.list.length (bools (keepMix c k))]) (fun i _ => c.list.length - (intOf i).toNat)
  case atStart => exact ⟨0, Nat.zero_le _, rfl, M⟩
  case round =>
    clear M
    obtain ⟨k, hk, rfl, M⟩ := hrel
    have x2 := M.c 0 2 rfl rfl
    by_cases hlt : k < c.list.length
    · have hb := M.below fun _ _ => trivial
      obtain ⟨b, off, he3, hb3, i0, i1, -⟩ := HI.out k hlt
      rw [← (bcell hb).1 _ _ hb3] at i0 i1
      have HK : Hid (hopB c k = (decide (c.list[k].op = 8) && decide (c.list[k].a = (k : Int) + 1))) := by unfold Hid hopB; rw [insAt_get hlt]
      have HKEEP := show Hid (hopB c k = false → keepMix c (k + 1) = keepMix c k) from fun h => keepMix_keep h
      have HPUT := show Hid (hopB c k = true → keepMix c (k + 1) = (keepMix c k).set k false) from fun h => keepMix_put hlt h
      obtain ⟨x, hx⟩ : ∃ x, x = c.list[k] := ⟨_, rfl⟩
      rw [← hx] at i0 i1 HK
      clear hx hb
      subst he3
      have hki : (k : Int) < c.list.length := by omega
      obtain ⟨g, cap, hv, hg1, hg2, hg3, hf, u, yk⟩ := (Own.mk' (M.r 2 rfl)).at (j := k) (by simp [bools, keepMix_len]; exact hlt)
      cases hv
      by_cases hh : x.op = 8 ∧ x.a = (k : Int) + 1
      · have q8 : (x.op == 8) = true := by simp [hh.1]
        have qa : (x.a == (k : Int) + 1) = true := by simp [hh.2]
        have HV := show Hid (keepMix c (k + 1) = (keepMix c k).set k false) from HPUT.out (by rw [HK.out]; simp [hh.1, hh.2])
        have M' := M.rowSet 2 rfl (j := k) (by simp [bools, keepMix_len]; exact hlt) (.bool false)
        rw [show (bools (keepMix c k)).set k (.bool false) = bools ((keepMix c k).set k false) by simp [bools, List.map_set], ← HV.out] at M'
        clear hh M
        go_wp2_with fail
        exact ⟨⟨k + 1, by omega, by go_num, M'⟩, by simp [intOf]; omega⟩
      · have HV := show Hid (keepMix c (k + 1) = keepMix c k) from HKEEP.out (by rw [HK.out]; cases h8 : decide (x.op = 8) <;> cases ha : decide (x.a = (k : Int) + 1) <;> simp_all)
        rw [← HV.out] at M
        by_cases h8 : x.op = 8
        · have q8 : (x.op == 8) = true := by simp [h8]
          have qa : (x.a == (k : Int) + 1) = false := by simp; exact fun h => hh ⟨h8, h⟩
          clear hh h8
          go_wp2_with fail
          exact ⟨⟨k + 1, by omega, by go_num, M⟩, by simp [intOf]; omega⟩
        · have q8 : (x.op == 8) = false := by simp [h8]
          clear hh h8
          go_wp2_with fail
          exact ⟨⟨k + 1, by omega, by go_num, M⟩, by simp [intOf]; omega⟩
    · have hkn : k = c.list.length := by omega
      subst hkn
      rw [keepMix_all] at M
      go_wp2_with fail
      clear x2
      have HKL := show Hid _ from keepL_len c
      replace M := M.add ((Below.refl _ _).alloc (Nat.le_refl _) _) (.row 3 1 (.slice (some ⟨wr.heap.size, 0, none⟩) 0 0) 0 []) (owns_base (own_built wr (g := wr.heap.size) #[] 0 1 3 rfl rfl (by omega)).1 (Nat.zero_le _)) (fun g hg => by cases hg; exact Nat.le_refl _)
      generalize wr.alloc (.cells #[] 3) = wa at *
      go_loopw [5, 6, 7] (fun q m i wr => ∃ (k : Nat) (a : Option Addr) (cq : Nat), k ≤ c.list.length ∧ i = .int .i64 k ∧ m = .int .i64 (plc (keepL c) k : Int) ∧ q = .slice a k cq ∧ Mem φ (fun _ => True) w wr [.box w.heap.size [v1, v2, .slice a3 c.list.length k3], .box (w.heap.size + 1) [.slice none 0 0, .slice none 0 0, .slice none 0 0], .row 4 1 (.slice ad c.list.length kd) c.list.length (bools (keepL c)), .row 3 1 q k (ints (plcL (keepL c) k))]) (fun _ _ i _ => c.list.length - (intOf i).toNat)
      case atStart => exact ⟨0, _, _, Nat.zero_le _, rfl, by rw [plc_zero]; rfl, rfl, M⟩
      case round =>
        clear M
        obtain ⟨k, qa, cq, hk, rfl, rfl, rfl, M⟩ := hrel
        by_cases hlt : k < c.list.length
        · obtain ⟨g, cap, hv, hg1, hg2, hg3, -, -, -, hgc⟩ := (Own.mk' (M.r 2 rfl)).open (by omega)
          cases hv
          have hkl := HKL.out
          have yk := hgc k _ (bools_get _ k (by omega))
          have hde : (keepL c)[k]'(by omega) = (keepL c).getD k false := by simp [show k < (keepL c).length by omega]
          rw [hde] at yk
          have HS := show Hid _ from plc_succ (keepL c) k (by omega)
          have HP := show Hid _ from plcL_succ (keepL c) k
          have hpl := plc_le (keepL c) k
          clear hgc hde
          have bz : Below wr.heap.size wr (wr.alloc (.cells #[.int .i64 (plc (keepL c) k : Int)] 3)) := by go_grown
          have M1 := M.call bz
          have hown := M1.r 3 rfl
          have hne : ∀ g', (Value.slice qa k cq).ownBlock = some g' → g' ≠ g := fun g' h e => M.dis 3 2 _ _ g' rfl rfl (by omega) h (by rw [e]; rfl)
          have HNE := show Hid _ from hne
          have HM := show Hid _ from M1
          clear M M1 hne
          cases hkb : (keepL c).getD k false
          all_goals
            have HB := show Hid _ from hkb
            clear hkb
            have hyk : ∀ w4 v4, Mem φ (fun _ => True) w w4 [.box w.heap.size [v1, v2, .slice a3 c.list.length k3], .box (w.heap.size + 1) [.slice none 0 0, .slice none 0 0, .slice none 0 0], .row 4 1 (.slice (some ⟨g, 0, none⟩) c.list.length kd) c.list.length (bools (keepL c)), v4] → w4.cell? ⟨g, k, none⟩ = some (.bool ((keepL c).getD k false)) := by
              intro w4 v4 M4
              obtain ⟨g', cap', hv', -, -, -, -, -, -, hgc⟩ := (Own.mk' (M4.r 2 rfl)).open (by omega)
              cases hv'
              rw [hgc k _ (bools_get _ k (by omega))]
              simp [show k < (keepL c).length by omega]
            have HYK := show Hid _ from hyk
            clear hyk
            go_wp2_with (at_builtin; refine wpList_app rfl _ _ rfl Try.underlying28 infoI rfl (by omega) rfl hown rfl (row_one' wr (.int .i64 (plc (keepL c) k : Int)) _ rfl) (one_int _) (by omega) (by omega) (Nat.zero_le _) ?_; rintro a4 q4 w4 o4 - g4 n4; have HM4 := show Hid _ from HM.out.app 3 rfl o4 g4 n4; have yk4 := HYK.out w4 _ HM4.out; rw [HB.out] at yk4)
            have M4 := HM4.out
            refine ⟨⟨k + 1, a4, q4, by omega, by go_num, by rw [HS.out, HB.out]; go_num, by simp, ?_⟩, by simp [intOf]; omega⟩
            rw [HP.out, show ints (plcL (keepL c) k ++ [(plc (keepL c) k : Int)]) = ints (plcL (keepL c) k) ++ [.int .i64 (plc (keepL c) k : Int)] by simp [ints]]
            exact M4
        · have hkn : k = c.list.length := by omega
          subst hkn
          go_wp2_with fail
          have hsz := codeOk_size hc
          unfold LCode.size at hsz
          have HM := show Hid _ from M
          have HR := show Hid (∀ W', Below wr.heap.size wr W' → (Row W' v1 c.vars.length 1 (ints c.vars) ∧ Row W' v2 c.arrays.length 1 (ints c.arrays)) ∧ W'.cell? ⟨w.heap.size, 0, none⟩ = some v1 ∧ W'.cell? ⟨w.heap.size, 1, none⟩ = some v2) from fun W' k => by
            have M' := M.call k
            have bb := M'.below fun _ _ => trivial
            exact ⟨⟨h1.below bb, h2.below bb⟩, M'.c 0 0 rfl rfl, M'.c 0 1 rfl rfl⟩
          have hfr := M.frFresh
          obtain ⟨φ', hφ'⟩ : ∃ φ', φ' = Fr φ [.box w.heap.size [v1, v2, .slice a3 c.list.length k3], .box (w.heap.size + 1) [.slice none 0 0, .slice none 0 0, .slice none 0 0], .row 4 1 (.slice ad c.list.length kd) c.list.length (bools (keepL c)), .row 3 1 (.slice qa c.list.length cq) c.list.length (ints (plcL (keepL c) c.list.length))] := ⟨_, rfl⟩
          rw [← hφ'] at hfr
          have HFR := show Hid _ from hfr
          have HPH := show Hid _ from hφ'
          clear M hφ' hfr
          refine wp_region_fp_last 10 (PS [EmpS, IsS (.pointer (some ⟨w.heap.size, 0, none⟩)), IsS v1, DatS φ' (fun v w φ => RowF w φ v c.vars.length 1 (ints c.vars)), EmpS, IsS (.pointer (some ⟨w.heap.size, 1, none⟩)), IsS v2, DatS φ' (fun v w φ => RowF w φ v c.arrays.length 1 (ints c.arrays)),
            DatS φ' (fun x w φ => ∃ y1 y2, x = .agg #[y1, y2, .slice none 0 0] ∧ RowF w φ y1 c.vars.length 1 (ints c.vars) ∧ RowF w φ y2 c.arrays.length 1 (ints c.arrays)), BoxS [.slice none 0 0, .slice none 0 0, .slice none 0 0]])
            (by kernel_rfl) (by kernel_rfl) (by kernel_rfl) (PS.stable ⟨ss_emp, ss_is _, ss_is _, ss_dat _ (fun _ => RowF.nice _ _ _ _), ss_emp, ss_is _, ss_is _, ss_dat _ (fun _ => RowF.nice _ _ _ _),
              ss_dat _ (fun _ _ _ _ _ ha ⟨y1, y2, e, g1, g2⟩ => ⟨y1, y2, e, RowF.nice _ _ _ _ _ _ _ _ ha g1, RowF.nice _ _ _ _ _ _ _ _ ha g2⟩), ss_box _, trivial⟩) ?_ ?_
          · intro i o hi ho f W' S hG hdep Q' hQ
            have hc : i = 0 ∨ i = 1 ∨ i = 2 ∨ i = 3 ∨ i = 4 ∨ i = 5 ∨ i = 6 ∨ i = 7 ∨ i = 8 ∨ i = 9 := by omega
            have HQ := show Hid _ from hQ
            have HG := show Hid _ from hG
            clear hQ hG
            rcases hc with rfl | rfl | rfl | rfl | rfl | rfl | rfl | rfl | rfl | rfl
            all_goals
              simp only [List.getElem?_cons_zero, List.getElem?_cons_succ, Option.some.injEq] at ho
              subst ho
            · clear hdep
              simp only [putAll]
              go_wp2_with fail
              exact use_act (HQ.out.1 (.slice (some ⟨W'.heap.size, 0, none⟩) 0 0) _ (by go_grown) ⟨_, rfl⟩) (by kernel_rfl)
            · clear hdep
              simp only [putAll]
              go_wp2_with fail
              exact use_act (HQ.out.1 (.pointer (some ⟨w.heap.size, 0, none⟩)) _ (Below.refl _ _) rfl) (by kernel_rfl)
            · have e1 : f 1 = .pointer (some ⟨w.heap.size, 0, none⟩) := hdep { on := 1, ground := .data } (by simp) (by kernel_rfl)
              have cc := (HR.out W' HG.out.below).2.1
              clear hdep
              obtain ⟨f', rfl⟩ := upd_self e1
              clear e1
              simp only [putAll, upd, ↓reduceIte, Nat.reduceEqDiff]
              go_wp2_with fail
              exact use_act (HQ.out.1 v1 _ (Below.refl _ _) rfl) (by kernel_rfl)
            · have e0 : EmpS (f 0) W' S := hdep { on := 0, ground := .data } (by simp) (by kernel_rfl)
              have e2 : f 2 = v1 := hdep { on := 2, ground := .data } (by simp) (by kernel_rfl)
              refine wpList_app0F rfl _ _ rfl Try.underlying28 infoI rfl (by omega) e0 (by kernel_rfl) (Eq.trans (by kernel_rfl) e2) (HR.out W' HG.out.below).1.1 (by omega) ?_
              intro x w' ox bx
              exact wpList_nil (HQ.out.1 _ _ bx (RowF.nice _ _ _ _ _ _ _ _ (Agr.mono (HG.out.fresh' bx HFR.out)) ox))
            · clear hdep
              simp only [putAll]
              go_wp2_with fail
              exact use_act (HQ.out.1 (.slice (some ⟨W'.heap.size, 0, none⟩) 0 0) _ (by go_grown) ⟨_, rfl⟩) (by kernel_rfl)
            · clear hdep
              simp only [putAll]
              go_wp2_with fail
              exact use_act (HQ.out.1 (.pointer (some ⟨w.heap.size, 1, none⟩)) _ (Below.refl _ _) rfl) (by kernel_rfl)
            · have e1 : f 5 = .pointer (some ⟨w.heap.size, 1, none⟩) := hdep { on := 5, ground := .data } (by simp) (by kernel_rfl)
              have cc := (HR.out W' HG.out.below).2.2
              clear hdep
              obtain ⟨f', rfl⟩ := upd_self e1
              clear e1
              simp only [putAll, upd, ↓reduceIte, Nat.reduceEqDiff]
              go_wp2_with fail
              exact use_act (HQ.out.1 v2 _ (Below.refl _ _) rfl) (by kernel_rfl)
            · have e0 : EmpS (f 4) W' S := hdep { on := 4, ground := .data } (by simp) (by kernel_rfl)
              have e2 : f 6 = v2 := hdep { on := 6, ground := .data } (by simp) (by kernel_rfl)
              refine wpList_app0F rfl _ _ rfl Try.underlying28 infoI rfl (by omega) e0 (by kernel_rfl) (Eq.trans (by kernel_rfl) e2) (HR.out W' HG.out.below).1.2 (by omega) ?_
              intro x w' ox bx
              exact wpList_nil (HQ.out.1 _ _ bx (RowF.nice _ _ _ _ _ _ _ _ (Agr.mono (HG.out.fresh' bx HFR.out)) ox))
            · have g3 : RowF W' (RF φ' S) (f 3) c.vars.length 1 (ints c.vars) := hdep { on := 3, ground := .data } (by simp) (by kernel_rfl)
              have g7 : RowF W' (RF φ' S) (f 7) c.arrays.length 1 (ints c.arrays) := hdep { on := 7, ground := .data } (by simp) (by kernel_rfl)
              obtain ⟨p3, k3', e3⟩ := g3.row.form
              obtain ⟨p7, k7', e7⟩ := g7.row.form
              rw [e3] at g3
              rw [e7] at g7
              clear hdep
              obtain ⟨f', rfl⟩ := upd_self e3
              clear e3
              simp only [upd, ↓reduceIte, Nat.reduceEqDiff] at e7
              obtain ⟨f'', rfl⟩ := upd_self e7
              clear e7
              simp only [putAll, upd, ↓reduceIte, Nat.reduceEqDiff]
              go_wp2_with fail
              exact use_act (HQ.out.1 (.agg #[.slice p3 c.vars.length k3', .slice p7 c.arrays.length k7', .slice none 0 0]) _ (Below.refl _ _) ⟨_, _, rfl, g3, g7⟩) (by kernel_rfl)
            · clear hdep
              simp only [putAll]
              go_wp2_with fail
              exact use_act (HQ.out.2 (.pointer (some ⟨W'.heap.size, 0, none⟩)) _ (by go_grown) (by simp) ⟨_, rfl, Blk.new W' [.slice none 0 0, .slice none 0 0, .slice none 0 0] _, .inr rfl⟩) (by kernel_rfl)
          · intro o ho f W' S hG hall
            simp only [List.getElem?_cons_zero, List.getElem?_cons_succ, Option.some.injEq] at ho
            subst ho
            obtain ⟨y1, y2, e8, g1, g2⟩ : ∃ y1 y2, f 8 = .agg #[y1, y2, .slice none 0 0] ∧ RowF W' (RF φ' S) y1 c.vars.length 1 (ints c.vars) ∧ RowF W' (RF φ' S) y2 c.arrays.length 1 (ints c.arrays) := hall 8 (by omega)
            obtain ⟨gb, e9, Lb, hgb⟩ : ∃ g, f 9 = .pointer (some ⟨g, 0, none⟩) ∧ Blk W' g [.slice none 0 0, .slice none 0 0, .slice none 0 0] ∧ S g := hall 9 (by omega)
            obtain ⟨p1, q1, rfl⟩ := g1.row.form
            obtain ⟨p2, q2, rfl⟩ := g2.row.form
            clear hall
            have M := HM.out
            rw [HPH.out] at g1 g2
            have M1 := M.region hG Lb hgb
            have M2 := Mem.rdat [_] M1 (fun r hr g h => by simp at hr; subst hr; cases h; exact hgb) (RowF.nice _ _ _ _) g1
            have M3 := Mem.rdat [_, _] M2 (fun r hr g h => by simp at hr; rcases hr with rfl | rfl <;> cases h; exact hgb) (RowF.nice _ _ _ _) g2
            have M4 := (((M3.nil 66 5).set 4 rfl 0 (.slice p1 c.vars.length q1)).set 4 rfl 1 (.slice p2 c.arrays.length q2)).set 4 rfl 2 (.slice none 0 0)
            have c0 := Lb.cell 0
            have c1 := Lb.cell 1
            have c2 := Lb.cell 2
            simp only [List.getElem?_cons_zero, List.getElem?_cons_succ] at c0 c1 c2
            have fr := Lb.free
            have HM4 := show Hid _ from M4
            clear M M1 M2 M3 M4 g1 g2 HR HM HFR HPH hG
            obtain ⟨f', rfl⟩ := upd_self e8
            clear e8
            simp only [upd, ↓reduceIte, Nat.reduceEqDiff] at e9
            obtain ⟨f'', rfl⟩ := upd_self e9
            clear e9
            simp only [putAll, upd, ↓reduceIte, Nat.reduceEqDiff]
            go_wp2_with fail
            clear c0 c1 c2 fr Lb
            have M := HM4.out
            clear HM4
            generalize ((W'.setCell ⟨gb, 0, none⟩ (.slice p1 c.vars.length q1)).setCell ⟨gb, 1, none⟩ (.slice p2 c.arrays.length q2)).setCell ⟨gb, 2, none⟩ (.slice none 0 0) = wa at *
            have HKL := show Hid _ from keepL_len c
            obtain ⟨Q5, hQ5⟩ : ∃ Q5, Q5 = Value.slice qa c.list.length cq := ⟨_, rfl⟩
            obtain ⟨g5, c5, hv5, -⟩ := (Own.mk' (M.r 3 rfl)).open (by have := (codeOk_parts hc).2.1; omega)
            obtain ⟨g2, c2, hv2, -⟩ := (Own.mk' (M.r 2 rfl)).open (by have := (codeOk_parts hc).2.1; omega)
            cases hv5
            cases hv2
            clear hQ5 Q5
            go_loopw [9, 10] (fun i _ wr => ∃ (k : Nat) (qb : Option Addr) (cb : Nat), k ≤ c.list.length ∧ i = .int .i64 k ∧ Mem φ (fun _ => True) w wr [.box w.heap.size [v1, v2, .slice a3 c.list.length k3], .box (w.heap.size + 1) [.slice none 0 0, .slice none 0 0, .slice none 0 0], .row 4 1 (.slice (some ⟨g2, 0, none⟩) c.list.length kd) c.list.length (bools (keepL c)), .row 3 1 (.slice (some ⟨g5, 0, none⟩) c.list.length cq) c.list.length (ints (plcL (keepL c) c.list.length)), .box gb [.slice p1 c.vars.length q1, .slice p2 c.arrays.length q2, .slice qb (trimL c (keepL c) k).length cb], .dat (fun w φ => RowF w φ (.slice p1 c.vars.length q1) c.vars.length 1 (ints c.vars)), .dat (fun w φ => RowF w φ (.slice p2 c.arrays.length q2) c.arrays.length 1 (ints c.arrays)), .row 66 5 (.slice qb (trimL c (keepL c) k).length cb) (trimL c (keepL c) k).length (ints (insF (trimL c (keepL c) k)))]) (fun i _ _ => c.list.length - (intOf i).toNat)
            case atStart => exact ⟨0, none, 0, Nat.zero_le _, rfl, M⟩
            case round =>
              clear M
              obtain ⟨k, qb, cb, hk, rfl, M⟩ := hrel
              by_cases hlt : k < c.list.length
              · obtain ⟨g', cap', hv', -, -, -, -, -, -, hgc⟩ := (Own.mk' (M.r 2 rfl)).open (by omega)
                cases hv'
                have hkl := HKL.out
                have yk := hgc k _ (bools_get _ k (by omega))
                have hde : (keepL c)[k]'(by omega) = (keepL c).getD k false := by simp [show k < (keepL c).length by omega]
                rw [hde] at yk
                clear hgc hde
                have hb := M.below fun _ _ => trivial
                obtain ⟨bl, ol, he3, hb3, i0, i1, i2, i3, i4⟩ := HI.out k hlt
                rw [← (bcell hb).1 _ _ hb3] at i0 i1 i2 i3 i4
                subst he3
                have hins := (codeOk_parts hc).2.2.2.1 k hlt
                have HTG := show Hid (0 ≤ tgtOf c.list[k] → placeOk c (tgtOf c.list[k])) from fun g => ⟨g, tgt_range hins g⟩
                have HTR : Hid (trI (keepL c) c.list[k] = if 0 ≤ tgtOf c.list[k] then aimF c.list[k] (plc (keepL c) (tgtOf c.list[k]).toNat : Int) else c.list[k]) := rfl
                have HPUT := show Hid ((keepL c).getD k false = true → trimL c (keepL c) (k + 1) = trimL c (keepL c) k ++ [trI (keepL c) c.list[k]]) from fun g => by rw [trimL_put g, insAt_get hlt]
                have HSKIP := show Hid ((keepL c).getD k false = false → trimL c (keepL c) (k + 1) = trimL c (keepL c) k) from fun g => trimL_skip g
                have hle := trimL_le c (keepL c) k
                obtain ⟨x, hx⟩ : ∃ x, x = c.list[k] := ⟨_, rfl⟩
                rw [← hx] at i0 i1 i2 i3 i4 HTG HTR HPUT
                have hki : (k : Int) < c.list.length := by omega
                clear hx hins hb
                have x2 := M.c 0 2 rfl rfl
                cases hkb : (keepL c).getD k false
                · rw [hkb] at yk
                  have HN := HSKIP.out hkb
                  rw [← HN] at M
                  have HM := show Hid _ from M
                  clear hkb HN M HSKIP HPUT
                  go_wp2_with fail
                  exact ⟨⟨k + 1, _, _, by omega, by go_num, HM.out⟩, by simp [intOf]; omega⟩
                · rw [hkb] at yk
                  have HN := show Hid _ from HPUT.out hkb
                  clear hkb HSKIP HPUT
                  have M1 := M.box [.int .i64 x.op, .int .i64 x.a, .int .i64 x.b, .int .i64 x.c, .int .i64 x.d] 66
                  have HM1 := show Hid _ from M1
                  clear M M1
                  go_wp2_with fail
                  clear yk i0 i1 i2 i3 i4 x2
                  have M1 := HM1.out
                  clear HM1
                  obtain ⟨X0, hX0⟩ : ∃ X0, X0 = wr.heap.size := ⟨_, rfl⟩
                  rw [← hX0] at M1 ⊢
                  clear hX0
                  refine (spec_l8Target x _).mono ?_
                  rintro e w5 ⟨rfl, b5⟩
                  have M5 := M1.call b5
                  clear M1 b5
                  by_cases ht : 0 ≤ tgtOf x
                  · have hpl := HTG.out ht
                    have htr := HTR.out
                    rw [if_pos ht] at htr
                    obtain ⟨t, htt⟩ : ∃ t : Nat, tgtOf x = t := ⟨(tgtOf x).toNat, by omega⟩
                    rw [htt] at htr hpl ht ⊢
                    rw [Int.toNat_natCast] at htr
                    obtain ⟨hp0, hp1⟩ := hpl
                    have htl : t < c.list.length := by omega
                    obtain ⟨g, cap, hv, -, -, -, -, -, -, hcc⟩ := (Own.mk' (M5.r 3 rfl)).open (by omega)
                    cases hv
                    have hpc := hcc t _ (by rw [ints_get _ _ (by rw [plcL_len]; exact htl)])
                    have hpe : (plcL (keepL c) c.list.length)[t]'(by rw [plcL_len]; exact htl) = (plc (keepL c) t : Int) := by
                      have := plcL_get (keepL c) c.list.length t htl
                      rw [List.getElem?_eq_getElem (by rw [plcL_len]; exact htl)] at this
                      exact Option.some.inj this
                    rw [hpe] at hpc
                    obtain ⟨q, hqe⟩ : ∃ q, q = aimF x (plc (keepL c) t : Int) := ⟨_, rfl⟩
                    have HQE := show Hid (trI (keepL c) x = q) from by unfold Hid; rw [htr, hqe]
                    have HC2 : Hid (∀ X, Calls Try.prog 95 #[.agg #[.int .i64 x.op, .int .i64 x.a, .int .i64 x.b, .int .i64 x.c, .int .i64 x.d]] (w5.ext X) fun e w'' => e = .returned (.int .i64 (t : Int)) ∧ ∃ Y, w'' = w5.ext Y) := fun X => Calls.ext_of' (by have := spec_l8Target x (w5.ext X); rw [htt] at this; exact this)
                    have HC3 : Hid (∀ X, Calls Try.prog 96 #[.agg #[.int .i64 x.op, .int .i64 x.a, .int .i64 x.b, .int .i64 x.c, .int .i64 x.d], .int .i64 (plc (keepL c) t : Int)] (w5.ext X) fun e w'' => e = .returned (.agg #[.int .i64 q.op, .int .i64 q.a, .int .i64 q.b, .int .i64 q.c, .int .i64 q.d]) ∧ ∃ Y, w'' = w5.ext Y) := fun X => Calls.ext_of' ((spec_l8Aim x _ _).mono fun e w' h => by rw [← hqe] at h; exact h)
                    have LX5 := M5.blk 8 rfl
                    have hX3 := LX5.lt
                    have i0 := LX5.cell 0
                    have i1 := LX5.cell 1
                    have i2 := LX5.cell 2
                    have i3 := LX5.cell 3
                    have i4 := LX5.cell 4
                    simp only [List.getElem?_cons_zero, List.getElem?_cons_succ] at i0 i1 i2 i3 i4
                    have j0 := fun X => ext_cell i0 X
                    have j1 := fun X => ext_cell i1 X
                    have j2 := fun X => ext_cell i2 X
                    have j3 := fun X => ext_cell i3 X
                    have j4 := fun X => ext_cell i4 X
                    have jp := fun X => ext_cell hpc X
                    have ff := fun (X : World) (j : Nat) => ext_frozen (o := j) hX3 (LX5.free j) X
                    have HM5 := show Hid _ from M5
                    clear i0 i1 i2 i3 i4 hpc hcc hpe hqe htr htt LX5 M5
                    go_wp2_with fail
                    refine wp_region_qext 7 _ rfl (by kernel_rfl) (by kernel_rfl) ?_
                    simp only [List.set_cons_succ, List.set_cons_zero, idle]
                    repeat (any_goals (first | go_big_quiet_step ((first | (go_at_call 95; exact HC2.out _) | (go_at_call 96; exact HC3.out _))) | quiet_step ((first | (go_at_call 95; exact HC2.out _) | (go_at_call 96; exact HC3.out _)))))
                    refine wpQuiet_nil ?_
                    rintro _ ⟨X, rfl⟩
                    have M6 := (((((HM5.out.call (ext_below w5 X)).set 8 rfl 0 (.int .i64 q.op)).set 8 rfl 1 (.int .i64 q.a)).set 8 rfl 2 (.int .i64 q.b)).set 8 rfl 3 (.int .i64 q.c)).set 8 rfl 4 (.int .i64 q.d)
                    clear HM5 jp
                    have k0 : World.cell? _ ⟨X0, 0, none⟩ = some (.int .i64 q.op) := M6.c 8 0 rfl rfl
                    have k1 : World.cell? _ ⟨X0, 1, none⟩ = some (.int .i64 q.a) := M6.c 8 1 rfl rfl
                    have k2 : World.cell? _ ⟨X0, 2, none⟩ = some (.int .i64 q.b) := M6.c 8 2 rfl rfl
                    have k3' : World.cell? _ ⟨X0, 3, none⟩ = some (.int .i64 q.c) := M6.c 8 3 rfl rfl
                    have k4 : World.cell? _ ⟨X0, 4, none⟩ = some (.int .i64 q.d) := M6.c 8 4 rfl rfl
                    have kg : World.cell? _ ⟨gb, 2, none⟩ = some (.slice qb (trimL c (keepL c) k).length cb) := M6.c 4 2 rfl rfl
                    have hrow6 := (own_built ((((((w5.ext X).setCell ⟨X0, 0, none⟩ (.int .i64 q.op)).setCell ⟨X0, 1, none⟩ (.int .i64 q.a)).setCell ⟨X0, 2, none⟩ (.int .i64 q.b)).setCell ⟨X0, 3, none⟩ (.int .i64 q.c)).setCell ⟨X0, 4, none⟩ (.int .i64 q.d)) (g := (w5.ext X).heap.size) #[.int .i64 q.op, .int .i64 q.a, .int .i64 q.b, .int .i64 q.c, .int .i64 q.d] 1 5 66 (by simp) rfl (by omega)).row
                    have M6a := M6.call ((Below.refl _ _).alloc (Nat.le_refl _) (.cells #[.int .i64 q.op, .int .i64 q.a, .int .i64 q.b, .int .i64 q.c, .int .i64 q.d] 66))
                    have hqa := M6a.r 7 rfl
                    have HM6a := show Hid _ from M6a
                    clear M6a M6 HTG HTR
                    go_wp2_with (at_builtin; refine wpList_app rfl _ _ rfl Try.underlying34 infoN rfl (by omega) rfl hqa rfl hrow6 (ints_one (l := (q).l)) (by omega) (by omega) (Nat.zero_le _) ?_; rintro a4 q4 w7 o4 - g4 n4; have M7 := HM6a.out.app 7 rfl o4 g4 n4; have f7 := M7.f 4 rfl; have c7 := M7.c 4 2 rfl rfl; have HM7 := show Hid _ from M7; clear M7)
                    have M8 := (HM7.out.set 4 rfl 2 (.slice a4 ((trimL c (keepL c) k).length + 1) q4)).take 8
                    have hll : (trimL c (keepL c) (k + 1)).length = (trimL c (keepL c) k).length + 1 := by rw [HN.out]; simp
                    have hcells : ints (insF (trimL c (keepL c) (k + 1))) = ints (insF (trimL c (keepL c) k)) ++ (#[.int .i64 q.op, .int .i64 q.a, .int .i64 q.b, .int .i64 q.c, .int .i64 q.d] : Array Value).toList := by
                      rw [HN.out, HQE.out, insF_append]; simp [ints, insF]
                    refine ⟨⟨k + 1, a4, q4, by omega, by go_num, ?_⟩, by simp [intOf]; omega⟩
                    rw [hll, hcells]
                    exact M8
                  · have htr := HTR.out
                    rw [if_neg ht] at htr
                    have HQE := show Hid (trI (keepL c) x = x) from htr
                    have ht' : tgtOf x < 0 := by omega
                    clear htr ht
                    have M6 := M5
                    clear M5
                    have k0 : World.cell? _ ⟨X0, 0, none⟩ = some (.int .i64 x.op) := M6.c 8 0 rfl rfl
                    have k1 : World.cell? _ ⟨X0, 1, none⟩ = some (.int .i64 x.a) := M6.c 8 1 rfl rfl
                    have k2 : World.cell? _ ⟨X0, 2, none⟩ = some (.int .i64 x.b) := M6.c 8 2 rfl rfl
                    have k3' : World.cell? _ ⟨X0, 3, none⟩ = some (.int .i64 x.c) := M6.c 8 3 rfl rfl
                    have k4 : World.cell? _ ⟨X0, 4, none⟩ = some (.int .i64 x.d) := M6.c 8 4 rfl rfl
                    have kg : World.cell? _ ⟨gb, 2, none⟩ = some (.slice qb (trimL c (keepL c) k).length cb) := M6.c 4 2 rfl rfl
                    have hrow6 := (own_built w5 (g := w5.heap.size) #[.int .i64 x.op, .int .i64 x.a, .int .i64 x.b, .int .i64 x.c, .int .i64 x.d] 1 5 66 rfl rfl (by omega)).row
                    have M6a := M6.call ((Below.refl _ _).alloc (Nat.le_refl _) (.cells #[.int .i64 x.op, .int .i64 x.a, .int .i64 x.b, .int .i64 x.c, .int .i64 x.d] 66))
                    have hqa := M6a.r 7 rfl
                    have HM6a := show Hid _ from M6a
                    clear M6a M6 HTG HTR
                    go_wp2_with (at_builtin; refine wpList_app rfl _ _ rfl Try.underlying34 infoN rfl (by omega) rfl hqa rfl hrow6 (ints_one (l := (x).l)) (by omega) (by omega) (Nat.zero_le _) ?_; rintro a4 q4 w7 o4 - g4 n4; have M7 := HM6a.out.app 7 rfl o4 g4 n4; have f7 := M7.f 4 rfl; have c7 := M7.c 4 2 rfl rfl; have HM7 := show Hid _ from M7; clear M7)
                    have M8 := (HM7.out.set 4 rfl 2 (.slice a4 ((trimL c (keepL c) k).length + 1) q4)).take 8
                    have hll : (trimL c (keepL c) (k + 1)).length = (trimL c (keepL c) k).length + 1 := by rw [HN.out]; simp
                    have hcells : ints (insF (trimL c (keepL c) (k + 1))) = ints (insF (trimL c (keepL c) k)) ++ (#[.int .i64 x.op, .int .i64 x.a, .int .i64 x.b, .int .i64 x.c, .int .i64 x.d] : Array Value).toList := by
                      rw [HN.out, HQE.out, insF_append]; simp [ints, insF]
                    refine ⟨⟨k + 1, a4, q4, by omega, by go_num, ?_⟩, by simp [intOf]; omega⟩
                    rw [hll, hcells]
                    exact M8
              · have hkn : k = c.list.length := by omega
                subst hkn
                have y0 := M.c 4 0 rfl rfl
                have y1 := M.c 4 1 rfl rfl
                have y2 := M.c 4 2 rfl rfl
                have z0 := M.c 1 0 rfl rfl
                have z1 := M.c 1 1 rfl rfl
                have z2 := M.c 1 2 rfl rfl
                have fz := M.f 1 rfl
                have M2 := (((M.freeze 7 rfl (fun g hg => by rw [HF.out]; exact (M.ge _ g (List.mem_of_getElem? (i := 7) rfl) hg).elim (fun h => h) (fun h => absurd trivial h))).set 1 rfl 0 (.slice p1 c.vars.length q1)).set 1 rfl 1 (.slice p2 c.arrays.length q2)).set 1 rfl 2 (.slice qb (trimL c (keepL c) c.list.length).length cb)
                have HM2 := show Hid _ from M2
                clear M M2
                go_wp2_with fail
                have M2 := HM2.out
                have r0 : World.cell? _ ⟨w.heap.size + 1, 0, none⟩ = some (.slice p1 c.vars.length q1) := M2.c 1 0 rfl rfl
                have r1 : World.cell? _ ⟨w.heap.size + 1, 1, none⟩ = some (.slice p2 c.arrays.length q2) := M2.c 1 1 rfl rfl
                have r2 : World.cell? _ ⟨w.heap.size + 1, 2, none⟩ = some (.slice qb (trimL c (keepL c) c.list.length).length cb) := M2.c 1 2 rfl rfl
                refine bodyPost_ret (v := .agg #[.slice p1 c.vars.length q1, .slice p2 c.arrays.length q2, .slice qb (trimL c (keepL c) c.list.length).length cb]) (by simp [results, Try.results78, go_sem, r0, r1, r2]) rfl ⟨_, rfl, ⟨_, _, _, rfl, ?_, ?_, ?_⟩, M2.below fun _ _ => trivial⟩
                · rw [← HF.out]; exact M2.out 5 rfl
                · rw [← HF.out]; exact M2.out 6 rfl
                · rw [← HF.out]; exact M2.out 7 rfl

end Go.Proofs.Ytjlnaiifegjneaa
