/-
  FoldExpr: the program's function returns what the reference's returns, whatever the arguments. Conditions: none beyond the statement's own.
-/
import Derived.Test.YtgpkdfefgcpbiaaFold7
import Derived.Test.YtgpkdfefgcpbiaaMemP
import Derived.Test.YtgpkdfefgcpbiaaHeldS
import Derived.Test.YtgpkdfefgcpbiaaTreeEq
namespace Go.Proofs.Ytgpkdfefgcpbiaa.exFoldExpr
set_option linter.unusedVariables false
set_option linter.unusedSimpArgs false
open Go Go.RowKit Go.ChangeShapes Go.WideShapes Go.ChangeAt Go.Proofs.Ytgpkdfefgcpbiaa

set_option maxRecDepth 100000 in
set_option maxHeartbeats 16000000 in
theorem walk (u : Value) (p : LProg) (v : Value) (e : LExpr) (w : World) (hp : ProgV w (fun _ => True) u p) (h : ExprV w (fun _ => True) v e) :
    Calls Try.prog 4 #[u, v] w fun e w' => e = .returned (.bool true) ∧ Below w.heap.size w w' := by
  obtain ⟨v1, v2, v3, rfl, g1, g2, g3⟩ := hp
  obtain ⟨kv, rfl, hk⟩ := h
  have HA : Hid (∀ W', Below w.heap.size w W' → ProgV W' (fun _ => True) (.agg #[v1, v2, v3]) p ∧ ExprV W' (fun _ => True) (.agg #[.int .i64 e.kind, .int .i64 e.value, kv]) e) := fun W' k =>
    ⟨ProgV.nice _ _ _ _ _ _ (Agr.below k) ⟨v1, v2, v3, rfl, g1, g2, g3⟩, ⟨kv, rfl, KidsV.nice _ _ _ _ _ _ (Agr.below k) hk⟩⟩
  clear g1 g2 g3 hk
  obtain ⟨W, hW, M⟩ : ∃ W, W = (w.alloc (.cells #[v1, v2, v3] 25)).alloc (.cells #[.int .i64 e.kind, .int .i64 e.value, kv] 37) ∧ Mem (fun _ => True) (fun _ => True) w W [.box w.heap.size [v1, v2, v3], .box (w.heap.size + 1) [.int .i64 e.kind, .int .i64 e.value, kv]] :=
    ⟨_, rfl, ((Mem.start fun _ _ => trivial).box _ _).box' _ _ (by simp)⟩
  have x0 := M.c 0 0 rfl rfl
  have x1 := M.c 0 1 rfl rfl
  have x2 := M.c 0 2 rfl rfl
  have HM := show Hid _ from M
  rw [hW] at x0 x1 x2
  clear M
  go_enter Try.func4, Try.ntmps4
  go_wp2_with fail
  rw [← hW]
  clear hW x0 x1 x2
  refine (szProgram_any _ _ p 1048576 _ (HA.out _ (HM.out.below fun _ _ => trivial)).1 (by omega) (by omega)).mono ?_
  rintro x w1 ⟨rfl, b1⟩
  replace HM := show Hid _ from HM.out.call b1
  clear b1
  by_cases hs : (1048576 : Int) < (p.size : Int)
  · rw [szRes_neg hs]
    clear hs
    go_wp2_with fail
    go_ret
    exact ⟨rfl, HM.out.below fun _ _ => trivial⟩
  rw [szRes_pos hs]
  obtain ⟨z, hz⟩ : ∃ z : Int, z = 1048576 - (p.size : Int) := ⟨_, rfl⟩
  rw [← hz]
  have hz0 : ¬ z < 0 := by omega
  have hz1 : 0 ≤ z := by omega
  have hz2 : z ≤ 1048576 := by omega
  have HZ := show Hid _ from And.intro hs hz
  clear hs hz
  have y0 := HM.out.c 1 0 rfl rfl
  have y1 := HM.out.c 1 1 rfl rfl
  have y2 := HM.out.c 1 2 rfl rfl
  go_wp2_with fail
  clear y0 y1 y2
  refine (szExpr_all e _ _ z _ (HA.out _ (HM.out.below fun _ _ => trivial)).2 hz1 hz2).mono ?_
  rintro x w2 ⟨rfl, b1⟩
  replace HM := show Hid _ from HM.out.call b1
  clear b1
  by_cases hs : z < (szE e : Int)
  · rw [szRes_neg hs]
    clear hs
    go_wp2_with fail
    go_ret
    exact ⟨rfl, HM.out.below fun _ _ => trivial⟩
  rw [szRes_pos hs]
  have HSZ := show Hid (p.size ≤ 1048576 ∧ szE e ≤ 1048576) from ⟨by have := HZ.out.1; omega, by omega⟩
  have hs0 : ¬ (z - (szE e : Int) < 0) := by omega
  clear hs HZ
  obtain ⟨X, hX⟩ : ∃ X, X = foldX p e := ⟨_, rfl⟩
  obtain ⟨ok, hok⟩ : ∃ ok, ok = exprOk p e := ⟨_, rfl⟩
  have HXX := show Hid _ from hX
  have HOK := show Hid _ from hok
  have HXS := show Hid (szEs X.kids ≤ 1048576) from by rw [hX]; exact Nat.le_trans (foldX_sz p e) HSZ.out.2
  have HPN := show Hid (0 ≤ mkPN p ∧ mkPN p ≤ 7340032) from by
    have h1 := mkN_nonneg p.body
    have h2 : p.vars.length + p.arrays.length + szSs p.body ≤ 1048576 := HSZ.out.1
    unfold mkPN Hid; omega
  have HES := show Hid (szEs e.kids ≤ 1048576) from by rw [← szE_kids]; exact HSZ.out.2
  clear hX hok
  go_wp2_with fail
  refine wp_region_flags 10 [1, 3, 4, 5, 6, 7, 8, 9] (fun i => [.agg #[v1, v2, v3], undef, .agg #[.int .i64 e.kind, .int .i64 e.value, kv]].getD i undef) (fun (b : Nat → Bool) (gg : Nat → Value) (w' : World) => ∃ LB LC, Mem (fun _ => True) (fun _ => True) w w' ([.box w.heap.size [v1, v2, v3], .box (w.heap.size + 1) [.int .i64 e.kind, .int .i64 e.value, kv]] ++ (LB ++ LC)) ∧
    ((b 6 = false ∧ b 7 = false ∧ LB = []) ∨ (b 6 = true ∧ b 7 = false ∧ ∃ g8w, gg 6 = .pointer (some ⟨g8w, 0, none⟩) ∧ LB = [.box g8w [.int .i64 0, .int .i64 0, .slice none 0 0]]) ∨ (b 6 = true ∧ b 7 = true ∧ b 4 = true ∧ ∃ g8w a5w k5w, gg 6 = .pointer (some ⟨g8w, 0, none⟩) ∧ gg 4 = .agg #[.int .i64 X.kind, .int .i64 X.value, .slice a5w X.kids.length k5w] ∧ LB = [.box g8w [.int .i64 X.kind, .int .i64 X.value, .slice a5w X.kids.length k5w]])) ∧
    ((b 0 = false ∧ b 1 = false ∧ b 2 = false ∧ LC = []) ∨ (b 0 = true ∧ b 1 = false ∧ b 2 = false ∧ ∃ a1w k1w a2w k2w a3w k3w S1w, gg 0 = .agg #[.slice a1w p.vars.length k1w, .slice a2w p.arrays.length k2w, .slice a3w p.body.length k3w] ∧ LC = [.own S1w (fun w => ProgO w (.agg #[.slice a1w p.vars.length k1w, .slice a2w p.arrays.length k2w, .slice a3w p.body.length k3w]) p S1w)]) ∨
     (b 0 = true ∧ b 1 = true ∧ b 2 = false ∧ ∃ a1w k1w a2w k2w a3w k3w S1w a4w k4w S2w, gg 0 = .agg #[.slice a1w p.vars.length k1w, .slice a2w p.arrays.length k2w, .slice a3w p.body.length k3w] ∧ gg 1 = .agg #[.int .i64 e.kind, .int .i64 e.value, .slice a4w e.kids.length k4w] ∧ LC = [.own S1w (fun w => ProgO w (.agg #[.slice a1w p.vars.length k1w, .slice a2w p.arrays.length k2w, .slice a3w p.body.length k3w]) p S1w), .own S2w (fun w => KidsO w (.slice a4w e.kids.length k4w) e.kids S2w)]) ∨
     (b 0 = true ∧ b 1 = true ∧ b 2 = true ∧ ∃ a5w k5w S3w, gg 2 = .tuple #[.agg #[.int .i64 X.kind, .int .i64 X.value, .slice a5w X.kids.length k5w], .bool ok] ∧ (b 3 = true → gg 3 = .tuple #[.agg #[.int .i64 X.kind, .int .i64 X.value, .slice a5w X.kids.length k5w], .bool ok]) ∧ (b 4 = true → gg 4 = .agg #[.int .i64 X.kind, .int .i64 X.value, .slice a5w X.kids.length k5w]) ∧ (b 5 = true → gg 5 = .bool ok) ∧ LC = [.own S3w (fun w => KidsO w (.slice a5w X.kids.length k5w) X.kids S3w)])) ∧ (b 2 = false → b 3 = false ∧ b 4 = false ∧ b 5 = false)) (by kernel_rfl) (by kernel_rfl) (by kernel_rfl) (by decide) (by decide) ?_ ?_ ?_ ?_ ?_
  · intro b b' gg gg' w' hb hg h
    obtain ⟨LB, LC, M, hB, hC, hD⟩ := h
    have e0 := hb 0 (by decide)
    have e1 := hb 1 (by decide)
    have e2 := hb 2 (by decide)
    have e3 := hb 3 (by decide)
    have e4 := hb 4 (by decide)
    have e5 := hb 5 (by decide)
    have e6 := hb 6 (by decide)
    have e7 := hb 7 (by decide)
    refine ⟨LB, LC, M, ?_, ?_, by rw [← e2, ← e3, ← e4, ← e5]; exact hD⟩
    · rw [← e6, ← e7, ← e4]
      rcases hB with h | ⟨h1, h2, g8w, h3, h4⟩ | ⟨h1, h2, h3, g8w, a5w, k5w, h4, h5, h6⟩
      · exact .inl h
      · exact .inr (.inl ⟨h1, h2, g8w, (hg 6 (by decide) h1).symm.trans h3, h4⟩)
      · exact .inr (.inr ⟨h1, h2, h3, g8w, a5w, k5w, (hg 6 (by decide) h1).symm.trans h4, (hg 4 (by decide) h3).symm.trans h5, h6⟩)
    · rw [← e0, ← e1, ← e2, ← e3, ← e4, ← e5]
      rcases hC with h | ⟨h1, h2, h3, a1w, k1w, a2w, k2w, a3w, k3w, S1w, h4, h5⟩ | ⟨h1, h2, h3, a1w, k1w, a2w, k2w, a3w, k3w, S1w, a4w, k4w, S2w, h4, h5, h6⟩ | ⟨h1, h2, h3, a5w, k5w, S3w, h4, h5, h6, h7, h8⟩
      · exact .inl h
      · exact .inr (.inl ⟨h1, h2, h3, a1w, k1w, a2w, k2w, a3w, k3w, S1w, (hg 0 (by decide) h1).symm.trans h4, h5⟩)
      · exact .inr (.inr (.inl ⟨h1, h2, h3, a1w, k1w, a2w, k2w, a3w, k3w, S1w, a4w, k4w, S2w, (hg 0 (by decide) h1).symm.trans h4, (hg 1 (by decide) h2).symm.trans h5, h6⟩))
      · exact .inr (.inr (.inr ⟨h1, h2, h3, a5w, k5w, S3w, (hg 2 (by decide) h3).symm.trans h4, fun h => (hg 3 (by decide) h).symm.trans (h5 h), fun h => (hg 4 (by decide) h).symm.trans (h6 h), fun h => (hg 5 (by decide) h).symm.trans (h7 h), h8⟩))
  · intro gg
    exact ⟨[], [], by simpa using HM.out.drew, .inl ⟨rfl, rfl, rfl⟩, .inl ⟨rfl, rfl, rfl, rfl⟩, fun _ => ⟨rfl, rfl, rfl⟩⟩
  · intro i o hi hn ho b f w' hst hdep Q' hQ
    have HQ := show Hid _ from hQ
    obtain ⟨LB, LC, M, -, -, -⟩ := hst
    have hc : i = 0 ∨ i = 2 := by simp at hn; omega
    have x0 := M.c 0 0 rfl rfl
    have x1 := M.c 0 1 rfl rfl
    have x2 := M.c 0 2 rfl rfl
    have y0 := M.c 1 0 rfl rfl
    have y1 := M.c 1 1 rfl rfl
    have y2 := M.c 1 2 rfl rfl
    clear hn hQ hdep M
    rcases hc with rfl | rfl
    all_goals
      simp only [List.getElem?_cons_zero, List.getElem?_cons_succ, Option.some.injEq] at ho
      subst ho
      simp only [putAll]
      go_wp2_with fail
      exact use_act HQ.out (by kernel_rfl)
  · intro j i o hj ho b f w' hbj hst hdep hdj Q' hQ
    have HQ := show Hid _ from hQ
    clear hQ
    obtain ⟨LB, LC, M, hB, hC, hD⟩ := hst
    have HD := show Hid _ from hD
    clear hD
    match j, hj, hbj, HQ with
    | 0, hj, hbj, HQ =>
      simp only [List.getElem?_cons_zero, List.getElem?_cons_succ, Option.some.injEq] at hj
      subst hj
      simp only [List.getElem?_cons_zero, List.getElem?_cons_succ, Option.some.injEq] at ho
      subst ho
      rcases hC with ⟨h1, h2, h3, rfl⟩ | ⟨h1, _⟩ | ⟨h1, _⟩ | ⟨h1, _⟩
      · have e0 : f 0 = .agg #[v1, v2, v3] := hdep { on := 0, ground := .data } (by simp) (by kernel_rfl) (by simp)
        have HM7 := show Hid _ from M
        have HX := show Hid _ from And.intro hB (And.intro h2 h3)
        clear hdep hdj M hB hbj h1 h2 h3
        obtain ⟨f', rfl⟩ := upd_self e0
        clear e0
        simp only [putAll, upd, ↓reduceIte, Nat.reduceEqDiff]
        go_wp2_with fail
        refine (toProgram_any _ _ p _ (HA.out _ (HM7.out.below fun _ _ => trivial)).1 HSZ.out.1).mono ?_
        rintro x w7 ⟨a1w, k1w, a2w, k2w, a3w, k3w, S1w, rfl, hO, hS, b7⟩
        have HM8 := show Hid _ from (HM7.out.callO b7 (S := S1w) (R := fun w => ProgO w (.agg #[.slice a1w p.vars.length k1w, .slice a2w p.arrays.length k2w, .slice a3w p.body.length k3w]) p S1w) (fun _ _ h hs => ProgO.same h hs) hO hS).assoc3
        clear hO hS b7
        go_wp2_with fail
        obtain ⟨hB, h2, h3⟩ := HX.out
        refine use_act (HQ.out (.agg #[.slice a1w p.vars.length k1w, .slice a2w p.arrays.length k2w, .slice a3w p.body.length k3w]) _ ⟨LB, _, HM8.out, ?_, .inr (.inl ⟨rfl, h2, h3, a1w, k1w, a2w, k2w, a3w, k3w, S1w, rfl, rfl⟩), HD.out⟩) (by kernel_rfl)
        exact hB
      all_goals (rw [h1] at hbj; cases hbj)
    | 1, hj, hbj, HQ =>
      simp only [List.getElem?_cons_zero, List.getElem?_cons_succ, Option.some.injEq] at hj
      subst hj
      simp only [List.getElem?_cons_zero, List.getElem?_cons_succ, Option.some.injEq] at ho
      subst ho
      have hb0 : b 0 = true := hdj { on := 1, ground := .chain } (by simp) (by kernel_rfl) 0 rfl
      rcases hC with ⟨h1, _⟩ | ⟨h1, h2, h3, a1w, k1w, a2w, k2w, a3w, k3w, S1w, h4, rfl⟩ | ⟨_, h1, _⟩ | ⟨_, h1, _⟩
      · rw [h1] at hb0; cases hb0
      · have e2 : f 2 = .agg #[.int .i64 e.kind, .int .i64 e.value, kv] := hdep { on := 2, ground := .data } (by simp) (by kernel_rfl) (by simp)
        have HM7 := show Hid _ from M
        have HX := show Hid _ from And.intro hB (And.intro h1 (And.intro h3 h4))
        clear hdep hdj M hB hbj h1 h2 h3 h4 hb0
        obtain ⟨f', rfl⟩ := upd_self e2
        clear e2
        simp only [putAll, upd, ↓reduceIte, Nat.reduceEqDiff]
        go_wp2_with fail
        refine (toExpr_all e _ _ _ (HA.out _ (HM7.out.below fun _ _ => trivial)).2 HSZ.out.2).mono ?_
        rintro x w7 ⟨a4w, k4w, S2w, rfl, hO, hS, b7⟩
        have HM8 := show Hid _ from (HM7.out.callO b7 (S := S2w) (R := fun w => KidsO w (.slice a4w e.kids.length k4w) e.kids S2w) (fun _ _ h hs => KidsO.same h hs) hO hS).assoc3
        clear hO hS b7
        go_wp2_with fail
        obtain ⟨hB, h1, h3, h4⟩ := HX.out
        exact use_act (HQ.out (.agg #[.int .i64 e.kind, .int .i64 e.value, .slice a4w e.kids.length k4w]) _ ⟨LB, _, HM8.out, hB, .inr (.inr (.inl ⟨h1, rfl, h3, a1w, k1w, a2w, k2w, a3w, k3w, S1w, a4w, k4w, S2w, h4, rfl, rfl⟩)), HD.out⟩) (by kernel_rfl)
      all_goals (rw [h1] at hbj; cases hbj)
    | 2, hj, hbj, HQ =>
      simp only [List.getElem?_cons_zero, List.getElem?_cons_succ, Option.some.injEq] at hj
      subst hj
      simp only [List.getElem?_cons_zero, List.getElem?_cons_succ, Option.some.injEq] at ho
      subst ho
      have hb1 : b 1 = true := hdj { on := 3, ground := .chain } (by simp) (by kernel_rfl) 1 rfl
      rcases hC with ⟨_, h1, _⟩ | ⟨_, h1, _⟩ | ⟨h1, h2, h3, a1w, k1w, a2w, k2w, a3w, k3w, S1w, a4w, k4w, S2w, h4, h5, rfl⟩ | ⟨_, _, h1, _⟩
      · rw [h1] at hb1; cases hb1
      · rw [h1] at hb1; cases hb1
      · have e1 : f 1 = .agg #[.slice a1w p.vars.length k1w, .slice a2w p.arrays.length k2w, .slice a3w p.body.length k3w] := h4
        have e3 : f 3 = .agg #[.int .i64 e.kind, .int .i64 e.value, .slice a4w e.kids.length k4w] := h5
        have HM7 := show Hid _ from M
        have HX := show Hid _ from And.intro hB (And.intro h1 (And.intro h2 (HD.out hbj)))
        clear hdep hdj M hB hbj h1 h2 h3 h4 h5 hb1
        obtain ⟨f', rfl⟩ := upd_self e1
        clear e1
        simp only [upd, ↓reduceIte, Nat.reduceEqDiff] at e3
        obtain ⟨f'', rfl⟩ := upd_self e3
        clear e3
        simp only [putAll, upd, ↓reduceIte, Nat.reduceEqDiff]
        go_wp2_with fail
        refine (spec_FoldExpr p e S1w S2w _ _ _ (ProgO.read (HM7.out.own' (S := S1w) (R := fun w => ProgO w (.agg #[.slice a1w p.vars.length k1w, .slice a2w p.arrays.length k2w, .slice a3w p.body.length k3w]) p S1w) (by simp)) fun _ h => h) ⟨_, rfl, KidsO.read (HM7.out.own' (S := S2w) (R := fun w => KidsO w (.slice a4w e.kids.length k4w) e.kids S2w) (by simp)) fun _ h => h⟩).mono ?_
        rintro x w7 ⟨a5w, k5w, S3w, rfl, hO, hS, b7⟩
        rw [← HXX.out] at hO ⊢
        rw [← HOK.out]
        have HM8 := show Hid _ from (HM7.out.callO b7 (S := S3w) (R := fun w => KidsO w (.slice a5w X.kids.length k5w) X.kids S3w) (fun _ _ h hs => KidsO.same h hs) hO hS).sub (L' := [.box w.heap.size [v1, v2, v3], .box (w.heap.size + 1) [.int .i64 e.kind, .int .i64 e.value, kv]] ++ (LB ++ [.own S3w (fun w => KidsO w (.slice a5w X.kids.length k5w) X.kids S3w)])) (by
          rw [List.append_assoc, List.append_assoc]
          refine List.Sublist.append_left (List.Sublist.append_left ?_ _) _
          simp)
        clear hO hS b7
        go_wp2_with fail
        obtain ⟨hB, h1, h2, q3, q4, q5⟩ := HX.out
        refine use_act (HQ.out (.tuple #[.agg #[.int .i64 X.kind, .int .i64 X.value, .slice a5w X.kids.length k5w], .bool ok]) _ ⟨LB, _, HM8.out, hB, .inr (.inr (.inr ⟨h1, h2, rfl, a5w, k5w, S3w, rfl, fun h => ?_, fun h => ?_, fun h => ?_, rfl⟩)), fun h => ?_⟩) (by kernel_rfl)
        · exact absurd (q3.symm.trans h) (by simp)
        · exact absurd (q4.symm.trans h) (by simp)
        · exact absurd (q5.symm.trans h) (by simp)
        · cases h
      · rw [h1] at hbj; cases hbj
    | 3, hj, hbj, HQ =>
      simp only [List.getElem?_cons_zero, List.getElem?_cons_succ, Option.some.injEq] at hj
      subst hj
      simp only [List.getElem?_cons_zero, List.getElem?_cons_succ, Option.some.injEq] at ho
      subst ho
      have hb2 : b 2 = true := hdj { on := 4, ground := .data } (by simp) (by kernel_rfl) 2 rfl
      rcases hC with ⟨_, _, h1, _⟩ | ⟨_, _, h1, _⟩ | ⟨_, _, h1, _⟩ | ⟨h1, h2, h3, a5w, k5w, S3w, h4, h5, h6, h7, rfl⟩
      · rw [h1] at hb2; cases hb2
      · rw [h1] at hb2; cases hb2
      · rw [h1] at hb2; cases hb2
      · have e4 : f 4 = .tuple #[.agg #[.int .i64 X.kind, .int .i64 X.value, .slice a5w X.kids.length k5w], .bool ok] := h4
        have HX := show Hid _ from And.intro M (And.intro hB (And.intro h1 (And.intro h2 (And.intro h3 (And.intro h4 (And.intro h6 h7))))))
        clear hdep hdj M hB hbj h1 h2 h3 h4 h5 h6 h7 hb2
        obtain ⟨f', rfl⟩ := upd_self e4
        clear e4
        simp only [putAll, upd, ↓reduceIte, Nat.reduceEqDiff]
        go_wp2_with fail
        obtain ⟨M, hB, h1, h2, h3, h4, h6, h7⟩ := HX.out
        exact use_act (HQ.out (.tuple #[.agg #[.int .i64 X.kind, .int .i64 X.value, .slice a5w X.kids.length k5w], .bool ok]) _ ⟨LB, _, M, hB, .inr (.inr (.inr ⟨h1, h2, h3, a5w, k5w, S3w, h4, fun _ => rfl, h6, h7, rfl⟩)), fun h => absurd (h3.symm.trans h) (by simp)⟩) (by kernel_rfl)
    | 4, hj, hbj, HQ =>
      simp only [List.getElem?_cons_zero, List.getElem?_cons_succ, Option.some.injEq] at hj
      subst hj
      simp only [List.getElem?_cons_zero, List.getElem?_cons_succ, Option.some.injEq] at ho
      subst ho
      have hb3 : b 3 = true := hdj { on := 5, ground := .data } (by simp) (by kernel_rfl) 3 rfl
      have hb2 : b 2 = true := by
        cases h : b 2
        · have := (HD.out h).1; rw [hb3] at this; cases this
        · rfl
      rcases hC with ⟨_, _, h1, _⟩ | ⟨_, _, h1, _⟩ | ⟨_, _, h1, _⟩ | ⟨h1, h2, h3, a5w, k5w, S3w, h4, h5, h6, h7, rfl⟩
      · rw [h1] at hb2; cases hb2
      · rw [h1] at hb2; cases hb2
      · rw [h1] at hb2; cases hb2
      · have e5 : f 5 = .tuple #[.agg #[.int .i64 X.kind, .int .i64 X.value, .slice a5w X.kids.length k5w], .bool ok] := h5 hb3
        have hB' : (b 6 = false ∧ b 7 = false ∧ LB = []) ∨ (b 6 = true ∧ b 7 = false ∧ ∃ g8w, JV [1, 3, 4, 5, 6, 7, 8, 9] f 6 = .pointer (some ⟨g8w, 0, none⟩) ∧ LB = [.box g8w [.int .i64 0, .int .i64 0, .slice none 0 0]]) := by
          rcases hB with h | h | ⟨_, _, h, _⟩
          · exact .inl h
          · exact .inr h
          · rw [h] at hbj; cases hbj
        have HX := show Hid _ from And.intro M (And.intro hB' (And.intro h1 (And.intro h2 (And.intro h3 (And.intro h4 (And.intro h5 h7))))))
        clear hdep hdj M hB hB' hbj h1 h2 h3 h4 h5 h6 h7 hb2 hb3
        obtain ⟨f', rfl⟩ := upd_self e5
        clear e5
        simp only [putAll, upd, ↓reduceIte, Nat.reduceEqDiff]
        go_wp2_with fail
        obtain ⟨M, hB, h1, h2, h3, h4, h5, h7⟩ := HX.out
        exact use_act (HQ.out (.agg #[.int .i64 X.kind, .int .i64 X.value, .slice a5w X.kids.length k5w]) _ ⟨LB, _, M, hB.elim .inl fun h => .inr (.inl h), .inr (.inr (.inr ⟨h1, h2, h3, a5w, k5w, S3w, h4, h5, fun _ => rfl, h7, rfl⟩)), fun h => absurd (h3.symm.trans h) (by simp)⟩) (by kernel_rfl)
    | 5, hj, hbj, HQ =>
      simp only [List.getElem?_cons_zero, List.getElem?_cons_succ, Option.some.injEq] at hj
      subst hj
      simp only [List.getElem?_cons_zero, List.getElem?_cons_succ, Option.some.injEq] at ho
      subst ho
      have hb3 : b 3 = true := hdj { on := 5, ground := .data } (by simp) (by kernel_rfl) 3 rfl
      have hb2 : b 2 = true := by
        cases h : b 2
        · have := (HD.out h).1; rw [hb3] at this; cases this
        · rfl
      rcases hC with ⟨_, _, h1, _⟩ | ⟨_, _, h1, _⟩ | ⟨_, _, h1, _⟩ | ⟨h1, h2, h3, a5w, k5w, S3w, h4, h5, h6, h7, rfl⟩
      · rw [h1] at hb2; cases hb2
      · rw [h1] at hb2; cases hb2
      · rw [h1] at hb2; cases hb2
      · have e5 : f 5 = .tuple #[.agg #[.int .i64 X.kind, .int .i64 X.value, .slice a5w X.kids.length k5w], .bool ok] := h5 hb3
        have HX := show Hid _ from And.intro M (And.intro hB (And.intro h1 (And.intro h2 (And.intro h3 (And.intro h4 (And.intro h5 h6))))))
        clear hdep hdj M hB hbj h1 h2 h3 h4 h5 h6 h7 hb2 hb3
        obtain ⟨f', rfl⟩ := upd_self e5
        clear e5
        simp only [putAll, upd, ↓reduceIte, Nat.reduceEqDiff]
        go_wp2_with fail
        obtain ⟨M, hB, h1, h2, h3, h4, h5, h6⟩ := HX.out
        exact use_act (HQ.out (.bool ok) _ ⟨LB, _, M, hB, .inr (.inr (.inr ⟨h1, h2, h3, a5w, k5w, S3w, h4, h5, h6, fun _ => rfl, rfl⟩)), fun h => absurd (h3.symm.trans h) (by simp)⟩) (by kernel_rfl)
    | 6, hj, hbj, HQ =>
      simp only [List.getElem?_cons_zero, List.getElem?_cons_succ, Option.some.injEq] at hj
      subst hj
      simp only [List.getElem?_cons_zero, List.getElem?_cons_succ, Option.some.injEq] at ho
      subst ho
      clear hdep hdj
      rcases hB with ⟨_, hb7, rfl⟩ | ⟨h1, _⟩ | ⟨h1, _⟩
      · have HM7 := show Hid _ from (M.box [.int .i64 0, .int .i64 0, .slice none 0 0] 41).mid
        have HX := show Hid _ from And.intro hb7 hC
        clear M hC hb7 hbj
        simp only [putAll]
        go_wp2_with fail
        obtain ⟨hb7, hC⟩ := HX.out
        exact use_act (HQ.out (.pointer (some ⟨w'.heap.size, 0, none⟩)) _ ⟨_, _, HM7.out, .inr (.inl ⟨rfl, hb7, w'.heap.size, rfl, rfl⟩), hC, HD.out⟩) (by kernel_rfl)
      · rw [h1] at hbj; cases hbj
      · rw [h1] at hbj; cases hbj
    | 7, hj, hbj, HQ =>
      simp only [List.getElem?_cons_zero, List.getElem?_cons_succ, Option.some.injEq] at hj
      subst hj
      simp only [List.getElem?_cons_zero, List.getElem?_cons_succ, Option.some.injEq] at ho
      subst ho
      have hb6 : b 6 = true := hdj { on := 8, ground := .data } (by simp) (by kernel_rfl) 6 rfl
      have hb4 : b 4 = true := hdj { on := 6, ground := .data } (by simp) (by kernel_rfl) 4 rfl
      have hb2 : b 2 = true := by
        cases h : b 2
        · have := (HD.out h).2.1; rw [hb4] at this; cases this
        · rfl
      rcases hC with ⟨_, _, h1, _⟩ | ⟨_, _, h1, _⟩ | ⟨_, _, h1, _⟩ | ⟨h1, h2, h3, a5w, k5w, S3w, h4, h5, h6, h7, rfl⟩
      · rw [h1] at hb2; cases hb2
      · rw [h1] at hb2; cases hb2
      · rw [h1] at hb2; cases hb2
      · rcases hB with ⟨h, _⟩ | ⟨_, _, g8w, k8, rfl⟩ | ⟨_, h, _⟩
        · rw [hb6] at h; cases h
        · have e6 : f 6 = .agg #[.int .i64 X.kind, .int .i64 X.value, .slice a5w X.kids.length k5w] := h6 hb4
          have e8 : f 8 = .pointer (some ⟨g8w, 0, none⟩) := k8
          have z0 := M.c 2 0 rfl rfl
          have z1 := M.c 2 1 rfl rfl
          have z2 := M.c 2 2 rfl rfl
          have zf := M.f 2 rfl
          have HM7 := show Hid _ from ((M.set 2 rfl 0 (.int .i64 X.kind)).set 2 rfl 1 (.int .i64 X.value)).set 2 rfl 2 (.slice a5w X.kids.length k5w)
          have HX := show Hid _ from And.intro h1 (And.intro h2 (And.intro h3 (And.intro h4 (And.intro h5 (And.intro h6 (And.intro h7 (And.intro hb6 (And.intro hb4 k8))))))))
          clear hdep hdj M hbj h1 h2 h3 h4 h5 h6 h7 hb2 hb4 hb6 k8
          obtain ⟨f', rfl⟩ := upd_self e6
          clear e6
          simp only [upd, ↓reduceIte, Nat.reduceEqDiff] at e8
          obtain ⟨f'', rfl⟩ := upd_self e8
          clear e8
          simp only [putAll, upd, ↓reduceIte, Nat.reduceEqDiff]
          go_wp2_with fail
          obtain ⟨h1, h2, h3, h4, h5, h6, h7, hb6, hb4, k8⟩ := HX.out
          exact use_act (HQ.out undef _ ⟨[.box g8w [.int .i64 X.kind, .int .i64 X.value, .slice a5w X.kids.length k5w]], [.own S3w (fun w => KidsO w (.slice a5w X.kids.length k5w) X.kids S3w)], HM7.out, .inr (.inr ⟨hb6, rfl, hb4, g8w, a5w, k5w, k8, h6 hb4, rfl⟩), .inr (.inr (.inr ⟨h1, h2, h3, a5w, k5w, S3w, h4, h5, h6, h7, rfl⟩)), fun h => absurd (h3.symm.trans h) (by simp)⟩) (by kernel_rfl)
        · rw [hbj] at h; cases h
    | j + 8, hj, hbj, HQ => simp at hj
  · intro o ho f w' hst hu
    simp only [List.getElem?_cons_zero, List.getElem?_cons_succ, Option.some.injEq] at ho
    subst ho
    obtain ⟨LB, LC, M, hB, hC, -⟩ := hst
    rcases hB with ⟨h, _⟩ | ⟨_, h, _⟩ | ⟨_, _, _, g8w, a6w, k6w, k8, k4w, rfl⟩
    · cases h
    · cases h
    rcases hC with ⟨h, _⟩ | ⟨_, h, _⟩ | ⟨_, _, h, _⟩ | ⟨_, _, _, a5w, k5w, S3w, h4, h5, h6, h7, rfl⟩
    · cases h
    · cases h
    · cases h
    have hee := k4w.symm.trans (h6 rfl)
    have h9 : Value.slice a6w X.kids.length k6w = .slice a5w X.kids.length k5w := congrArg (fun v => match v with | Value.agg cs => cs.getD 2 undef | _ => undef) hee
    clear hee
    cases h9
    have e7 : f 7 = .bool ok := h7 rfl
    have e8 : f 8 = .pointer (some ⟨g8w, 0, none⟩) := k8
    have HM7 := show Hid _ from M
    clear M k4w k8 h4 h5 h6 h7 hu HM
    obtain ⟨f', rfl⟩ := upd_self e7
    clear e7
    simp only [upd, ↓reduceIte, Nat.reduceEqDiff] at e8
    obtain ⟨f'', rfl⟩ := upd_self e8
    clear e8
    simp only [putAll, upd, ↓reduceIte, Nat.reduceEqDiff]
    replace HM7 : Hid (Mem (fun _ => True) (fun _ => True) w w' [.box w.heap.size [v1, v2, v3], .box (w.heap.size + 1) [.int .i64 e.kind, .int .i64 e.value, kv], .box g8w [.int .i64 X.kind, .int .i64 X.value, .slice a6w X.kids.length k6w], .own S3w (fun w => KidsO w (.slice a6w X.kids.length k6w) X.kids S3w)]) := HM7
    have M := HM7.out
    clear HM7
    have HM := show Hid _ from M
    clear M
    have x0 := HM.out.c 0 0 rfl rfl
    have x1 := HM.out.c 0 1 rfl rfl
    have x2 := HM.out.c 0 2 rfl rfl
    go_wp2_with fail
    clear x0 x1 x2
    refine (toProgram_any _ _ p _ (HA.out _ (HM.out.below fun _ _ => trivial)).1 HSZ.out.1).mono ?_
    rintro x w3 ⟨ax1, kx1, ax2, kx2, ax3, kx3, Sx, rfl, hO, hS, b1⟩
    replace HM : Hid (Mem (fun _ => True) (fun _ => True) w w3 [.box w.heap.size [v1, v2, v3], .box (w.heap.size + 1) [.int .i64 e.kind, .int .i64 e.value, kv], .box g8w [.int .i64 X.kind, .int .i64 X.value, .slice a6w X.kids.length k6w], .own S3w (fun w => KidsO w (.slice a6w X.kids.length k6w) X.kids S3w), .own Sx (fun w => ProgO w (.agg #[.slice ax1 p.vars.length kx1, .slice ax2 p.arrays.length kx2, .slice ax3 p.body.length kx3]) p Sx)]) := HM.out.callO b1 (S := Sx) (R := fun w => ProgO w (.agg #[.slice ax1 p.vars.length kx1, .slice ax2 p.arrays.length kx2, .slice ax3 p.body.length kx3]) p Sx) (fun _ _ h hs => ProgO.same h hs) hO hS
    clear hO hS b1
    have y0 := HM.out.c 1 0 rfl rfl
    have y1 := HM.out.c 1 1 rfl rfl
    have y2 := HM.out.c 1 2 rfl rfl
    have hsz : w.heap.size + 1 < w3.heap.size := HM.out.lt (r := .box (w.heap.size + 1) [.int .i64 e.kind, .int .i64 e.value, kv]) (List.mem_cons_of_mem _ List.mem_cons_self) rfl
    have HMb := show Hid _ from HM.out.box [.slice ax1 p.vars.length kx1, .slice ax2 p.arrays.length kx2, .slice ax3 p.body.length kx3] 31
    clear HM
    go_wp2_with fail
    clear y0 y1 y2 hsz
    obtain ⟨gx, hg⟩ : ∃ g, g = w3.heap.size := ⟨_, rfl⟩
    have HM : Hid (Mem (fun _ => True) (fun _ => True) w (w3.alloc (.cells #[.slice ax1 p.vars.length kx1, .slice ax2 p.arrays.length kx2, .slice ax3 p.body.length kx3] 31)) [.box w.heap.size [v1, v2, v3], .box (w.heap.size + 1) [.int .i64 e.kind, .int .i64 e.value, kv], .box g8w [.int .i64 X.kind, .int .i64 X.value, .slice a6w X.kids.length k6w], .own S3w (fun w => KidsO w (.slice a6w X.kids.length k6w) X.kids S3w), .own Sx (fun w => ProgO w (.agg #[.slice ax1 p.vars.length kx1, .slice ax2 p.arrays.length kx2, .slice ax3 p.body.length kx3]) p Sx), .box gx [.slice ax1 p.vars.length kx1, .slice ax2 p.arrays.length kx2, .slice ax3 p.body.length kx3]]) := by rw [hg]; exact HMb
    rw [← hg]
    clear hg HMb
    generalize w3.alloc (.cells #[.slice ax1 p.vars.length kx1, .slice ax2 p.arrays.length kx2, .slice ax3 p.body.length kx3] 31) = w3a at *
    refine (toExpr_all e _ _ _ (HA.out _ (HM.out.below fun _ _ => trivial)).2 HSZ.out.2).mono ?_
    rintro x w4 ⟨ay, ky, Sy, rfl, hO, hS, b1⟩
    replace HM : Hid (Mem (fun _ => True) (fun _ => True) w w4 [.box w.heap.size [v1, v2, v3], .box (w.heap.size + 1) [.int .i64 e.kind, .int .i64 e.value, kv], .box g8w [.int .i64 X.kind, .int .i64 X.value, .slice a6w X.kids.length k6w], .own S3w (fun w => KidsO w (.slice a6w X.kids.length k6w) X.kids S3w), .own Sx (fun w => ProgO w (.agg #[.slice ax1 p.vars.length kx1, .slice ax2 p.arrays.length kx2, .slice ax3 p.body.length kx3]) p Sx), .box gx [.slice ax1 p.vars.length kx1, .slice ax2 p.arrays.length kx2, .slice ax3 p.body.length kx3], .own Sy (fun w => KidsO w (.slice ay e.kids.length ky) e.kids Sy)]) := HM.out.callO b1 (S := Sy) (R := fun w => KidsO w (.slice ay e.kids.length ky) e.kids Sy) (fun _ _ h hs => KidsO.same h hs) hO hS
    clear hO hS b1
    have hgx : gx < w4.heap.size := HM.out.lt (r := .box gx [.slice ax1 p.vars.length kx1, .slice ax2 p.arrays.length kx2, .slice ax3 p.body.length kx3]) (by simp) rfl
    have x0 := HM.out.c 5 0 rfl rfl
    have x1 := HM.out.c 5 1 rfl rfl
    have x2 := HM.out.c 5 2 rfl rfl
    have hsz : w.heap.size + 1 < w4.heap.size := HM.out.lt (r := .box (w.heap.size + 1) [.int .i64 e.kind, .int .i64 e.value, kv]) (List.mem_cons_of_mem _ List.mem_cons_self) rfl
    have HMb := show Hid _ from HM.out.box [.int .i64 e.kind, .int .i64 e.value, .slice ay e.kids.length ky] 41
    clear HM
    go_wp2_with fail
    clear x0 x1 x2 hsz
    obtain ⟨gy, hg⟩ : ∃ g, g = w4.heap.size := ⟨_, rfl⟩
    have HM : Hid (Mem (fun _ => True) (fun _ => True) w (w4.alloc (.cells #[.int .i64 e.kind, .int .i64 e.value, .slice ay e.kids.length ky] 41)) [.box w.heap.size [v1, v2, v3], .box (w.heap.size + 1) [.int .i64 e.kind, .int .i64 e.value, kv], .box g8w [.int .i64 X.kind, .int .i64 X.value, .slice a6w X.kids.length k6w], .own S3w (fun w => KidsO w (.slice a6w X.kids.length k6w) X.kids S3w), .own Sx (fun w => ProgO w (.agg #[.slice ax1 p.vars.length kx1, .slice ax2 p.arrays.length kx2, .slice ax3 p.body.length kx3]) p Sx), .box gx [.slice ax1 p.vars.length kx1, .slice ax2 p.arrays.length kx2, .slice ax3 p.body.length kx3], .own Sy (fun w => KidsO w (.slice ay e.kids.length ky) e.kids Sy), .box gy [.int .i64 e.kind, .int .i64 e.value, .slice ay e.kids.length ky]]) := by rw [hg]; exact HMb
    rw [← hg]
    clear hg HMb
    generalize w4.alloc (.cells #[.int .i64 e.kind, .int .i64 e.value, .slice ay e.kids.length ky] 41) = w4a at *
    clear hgx
    refine (impl_FoldExpr p e Sx Sy _ _ _ (ProgO.read (HM.out.o 4 rfl) fun _ h => h) ⟨_, rfl, KidsO.read (HM.out.o 6 rfl) fun _ h => h⟩).mono ?_
    rintro x w5 ⟨az, kz, Sz, rfl, hO, hS, b1⟩
    rw [← HXX.out] at hO ⊢
    rw [← HOK.out]
    replace HM : Hid (Mem (fun _ => True) (fun _ => True) w w5 [.box w.heap.size [v1, v2, v3], .box (w.heap.size + 1) [.int .i64 e.kind, .int .i64 e.value, kv], .box g8w [.int .i64 X.kind, .int .i64 X.value, .slice a6w X.kids.length k6w], .own S3w (fun w => KidsO w (.slice a6w X.kids.length k6w) X.kids S3w), .own Sx (fun w => ProgO w (.agg #[.slice ax1 p.vars.length kx1, .slice ax2 p.arrays.length kx2, .slice ax3 p.body.length kx3]) p Sx), .box gx [.slice ax1 p.vars.length kx1, .slice ax2 p.arrays.length kx2, .slice ax3 p.body.length kx3], .own Sy (fun w => KidsO w (.slice ay e.kids.length ky) e.kids Sy), .box gy [.int .i64 e.kind, .int .i64 e.value, .slice ay e.kids.length ky], .own Sz (fun w => KidsO w (.slice az X.kids.length kz) X.kids Sz)]) := HM.out.callO b1 (S := Sz) (R := fun w => KidsO w (.slice az X.kids.length kz) X.kids Sz) (fun _ _ h hs => KidsO.same h hs) hO hS
    clear hO hS b1
    have hgw : g8w < w5.heap.size := HM.out.lt (r := .box g8w [.int .i64 X.kind, .int .i64 X.value, .slice a6w X.kids.length k6w]) (by simp) rfl
    have x0 := HM.out.c 2 0 rfl rfl
    have x1 := HM.out.c 2 1 rfl rfl
    have x2 := HM.out.c 2 2 rfl rfl
    have hsz : w.heap.size + 1 < w5.heap.size := HM.out.lt (r := .box (w.heap.size + 1) [.int .i64 e.kind, .int .i64 e.value, kv]) (List.mem_cons_of_mem _ List.mem_cons_self) rfl
    have HMb := show Hid _ from HM.out.box [.int .i64 X.kind, .int .i64 X.value, .slice az X.kids.length kz] 41
    clear HM
    go_wp2_with fail
    clear x0 x1 x2 hsz
    obtain ⟨gz, hg⟩ : ∃ g, g = w5.heap.size := ⟨_, rfl⟩
    have HM : Hid (Mem (fun _ => True) (fun _ => True) w (w5.alloc (.cells #[.int .i64 X.kind, .int .i64 X.value, .slice az X.kids.length kz] 41)) [.box w.heap.size [v1, v2, v3], .box (w.heap.size + 1) [.int .i64 e.kind, .int .i64 e.value, kv], .box g8w [.int .i64 X.kind, .int .i64 X.value, .slice a6w X.kids.length k6w], .own S3w (fun w => KidsO w (.slice a6w X.kids.length k6w) X.kids S3w), .own Sx (fun w => ProgO w (.agg #[.slice ax1 p.vars.length kx1, .slice ax2 p.arrays.length kx2, .slice ax3 p.body.length kx3]) p Sx), .box gx [.slice ax1 p.vars.length kx1, .slice ax2 p.arrays.length kx2, .slice ax3 p.body.length kx3], .own Sy (fun w => KidsO w (.slice ay e.kids.length ky) e.kids Sy), .box gy [.int .i64 e.kind, .int .i64 e.value, .slice ay e.kids.length ky], .own Sz (fun w => KidsO w (.slice az X.kids.length kz) X.kids Sz), .box gz [.int .i64 X.kind, .int .i64 X.value, .slice az X.kids.length kz]]) := by rw [hg]; exact HMb
    rw [← hg]
    clear hg HMb
    generalize w5.alloc (.cells #[.int .i64 X.kind, .int .i64 X.value, .slice az X.kids.length kz] 41) = w5a at *
    clear hgw
    refine (eqExpr_all X Sz S3w _ _ X _ ⟨_, rfl, KidsO.read (HM.out.o 8 rfl) fun _ h => h⟩ ⟨_, rfl, KidsO.read (HM.out.o 3 rfl) fun _ h => h⟩).mono ?_
    rintro x w6 ⟨rfl, b1⟩
    rw [(sameE_eq X X).2 rfl]
    replace HM := show Hid _ from HM.out.call b1
    clear b1
    go_wp2_with fail
    refine wp_region_chain 4 [2, 3] (fun i => [.agg #[.slice ax1 p.vars.length kx1, .slice ax2 p.arrays.length kx2, .slice ax3 p.body.length kx3], .agg #[v1, v2, v3]].getD i undef) (fun (s : Nat) (g : Nat → Value) (w' : World) => match s with
      | 0 => Mem (fun _ => True) (fun _ => True) w w' [.box w.heap.size [v1, v2, v3], .box (w.heap.size + 1) [.int .i64 e.kind, .int .i64 e.value, kv], .box g8w [.int .i64 X.kind, .int .i64 X.value, .slice a6w X.kids.length k6w], .own S3w (fun w => KidsO w (.slice a6w X.kids.length k6w) X.kids S3w), .own Sx (fun w => ProgO w (.agg #[.slice ax1 p.vars.length kx1, .slice ax2 p.arrays.length kx2, .slice ax3 p.body.length kx3]) p Sx), .box gx [.slice ax1 p.vars.length kx1, .slice ax2 p.arrays.length kx2, .slice ax3 p.body.length kx3], .own Sy (fun w => KidsO w (.slice ay e.kids.length ky) e.kids Sy), .box gy [.int .i64 e.kind, .int .i64 e.value, .slice ay e.kids.length ky], .own Sz (fun w => KidsO w (.slice az X.kids.length kz) X.kids Sz), .box gz [.int .i64 X.kind, .int .i64 X.value, .slice az X.kids.length kz]]
      | 1 => ∃ a1 k1 a2 k2 a3 k3 T, g 0 = .agg #[.slice a1 p.vars.length k1, .slice a2 p.arrays.length k2, .slice a3 p.body.length k3] ∧ Mem (fun _ => True) (fun _ => True) w w' [.box w.heap.size [v1, v2, v3], .box (w.heap.size + 1) [.int .i64 e.kind, .int .i64 e.value, kv], .box g8w [.int .i64 X.kind, .int .i64 X.value, .slice a6w X.kids.length k6w], .own S3w (fun w => KidsO w (.slice a6w X.kids.length k6w) X.kids S3w), .own Sx (fun w => ProgO w (.agg #[.slice ax1 p.vars.length kx1, .slice ax2 p.arrays.length kx2, .slice ax3 p.body.length kx3]) p Sx), .box gx [.slice ax1 p.vars.length kx1, .slice ax2 p.arrays.length kx2, .slice ax3 p.body.length kx3], .own Sy (fun w => KidsO w (.slice ay e.kids.length ky) e.kids Sy), .box gy [.int .i64 e.kind, .int .i64 e.value, .slice ay e.kids.length ky], .own Sz (fun w => KidsO w (.slice az X.kids.length kz) X.kids Sz), .box gz [.int .i64 X.kind, .int .i64 X.value, .slice az X.kids.length kz], .own T (fun w => ProgO w (.agg #[.slice a1 p.vars.length k1, .slice a2 p.arrays.length k2, .slice a3 p.body.length k3]) p T)]
      | 2 => g 1 = .bool true ∧ Mem (fun _ => True) (fun _ => True) w w' [.box w.heap.size [v1, v2, v3], .box (w.heap.size + 1) [.int .i64 e.kind, .int .i64 e.value, kv], .box g8w [.int .i64 X.kind, .int .i64 X.value, .slice a6w X.kids.length k6w], .own S3w (fun w => KidsO w (.slice a6w X.kids.length k6w) X.kids S3w), .own Sx (fun w => ProgO w (.agg #[.slice ax1 p.vars.length kx1, .slice ax2 p.arrays.length kx2, .slice ax3 p.body.length kx3]) p Sx), .box gx [.slice ax1 p.vars.length kx1, .slice ax2 p.arrays.length kx2, .slice ax3 p.body.length kx3], .own Sy (fun w => KidsO w (.slice ay e.kids.length ky) e.kids Sy), .box gy [.int .i64 e.kind, .int .i64 e.value, .slice ay e.kids.length ky], .own Sz (fun w => KidsO w (.slice az X.kids.length kz) X.kids Sz), .box gz [.int .i64 X.kind, .int .i64 X.value, .slice az X.kids.length kz]]
      | _ => False) (by kernel_rfl) (by kernel_rfl) (by kernel_rfl) (by kernel_rfl) (by decide) (by decide) ?_ ?_ ?_ ?_ ?_
    · intro s g g' w' hg h
      match s, h with
      | 0, h => exact h
      | 1, ⟨a1, k1, a2, k2, a3, k3, T, h1, h2⟩ => exact ⟨a1, k1, a2, k2, a3, k3, T, (hg 0 (by omega)).symm.trans h1, h2⟩
      | 2, ⟨h1, h2⟩ => exact ⟨(hg 1 (by omega)).symm.trans h1, h2⟩
    · intro g
      exact HM.out.drew
    · intro i o hi hn ho s f w' hst hdep Q' hQ
      have HQ := show Hid _ from hQ
      have hM : ∃ LL, Mem (fun _ => True) (fun _ => True) w w' ([.box w.heap.size [v1, v2, v3], .box (w.heap.size + 1) [.int .i64 e.kind, .int .i64 e.value, kv], .box g8w [.int .i64 X.kind, .int .i64 X.value, .slice a6w X.kids.length k6w], .own S3w (fun w => KidsO w (.slice a6w X.kids.length k6w) X.kids S3w), .own Sx (fun w => ProgO w (.agg #[.slice ax1 p.vars.length kx1, .slice ax2 p.arrays.length kx2, .slice ax3 p.body.length kx3]) p Sx), .box gx [.slice ax1 p.vars.length kx1, .slice ax2 p.arrays.length kx2, .slice ax3 p.body.length kx3], .own Sy (fun w => KidsO w (.slice ay e.kids.length ky) e.kids Sy), .box gy [.int .i64 e.kind, .int .i64 e.value, .slice ay e.kids.length ky], .own Sz (fun w => KidsO w (.slice az X.kids.length kz) X.kids Sz), .box gz [.int .i64 X.kind, .int .i64 X.value, .slice az X.kids.length kz]] ++ LL) := by
        match s, hst with
        | 0, h => exact ⟨[], by simpa using h⟩
        | 1, ⟨_, _, _, _, _, _, _, _, h⟩ => exact ⟨_, h⟩
        | 2, ⟨_, h⟩ => exact ⟨[], by simpa using h⟩
      obtain ⟨LL, M⟩ := hM
      have hc : i = 0 ∨ i = 1 := by simp at hn; omega
      have x0 := M.c 5 0 rfl rfl
      have x1 := M.c 5 1 rfl rfl
      have x2 := M.c 5 2 rfl rfl
      have y0 := M.c 0 0 rfl rfl
      have y1 := M.c 0 1 rfl rfl
      have y2 := M.c 0 2 rfl rfl
      clear hn hQ hdep M hst HM
      rcases hc with rfl | rfl
      all_goals
        simp only [List.getElem?_cons_zero, List.getElem?_cons_succ, Option.some.injEq] at ho
        subst ho
        simp only [putAll]
        go_wp2_with fail
        exact use_act HQ.out (by kernel_rfl)
    · intro s j o hs ho f w' hst hdep Q' hQ
      have HQ := show Hid _ from hQ
      clear hQ HM
      match s, hs, hst, HQ with
      | 0, hs, hst, HQ =>
        simp only [List.getElem?_cons_zero, Option.some.injEq] at hs
        subst hs
        simp only [List.getElem?_cons_zero, List.getElem?_cons_succ, Option.some.injEq] at ho
        subst ho
        have M : Mem (fun _ => True) (fun _ => True) w w' [.box w.heap.size [v1, v2, v3], .box (w.heap.size + 1) [.int .i64 e.kind, .int .i64 e.value, kv], .box g8w [.int .i64 X.kind, .int .i64 X.value, .slice a6w X.kids.length k6w], .own S3w (fun w => KidsO w (.slice a6w X.kids.length k6w) X.kids S3w), .own Sx (fun w => ProgO w (.agg #[.slice ax1 p.vars.length kx1, .slice ax2 p.arrays.length kx2, .slice ax3 p.body.length kx3]) p Sx), .box gx [.slice ax1 p.vars.length kx1, .slice ax2 p.arrays.length kx2, .slice ax3 p.body.length kx3], .own Sy (fun w => KidsO w (.slice ay e.kids.length ky) e.kids Sy), .box gy [.int .i64 e.kind, .int .i64 e.value, .slice ay e.kids.length ky], .own Sz (fun w => KidsO w (.slice az X.kids.length kz) X.kids Sz), .box gz [.int .i64 X.kind, .int .i64 X.value, .slice az X.kids.length kz]] := hst
        have HM7 := show Hid _ from M
        have e1 : f 1 = .agg #[v1, v2, v3] := hdep { on := 1, ground := .data } (by simp) (by kernel_rfl) (by simp)
        clear hdep hst M
        obtain ⟨f', rfl⟩ := upd_self e1
        clear e1
        simp only [putAll, upd, ↓reduceIte, Nat.reduceEqDiff]
        go_wp2_with fail
        refine (toProgram_any _ _ p _ (HA.out _ (HM7.out.below fun _ _ => trivial)).1 HSZ.out.1).mono ?_
        rintro x w7 ⟨a1, k1, a2, k2, a3, k3, T, rfl, hO, hS, b7⟩
        have HM8 := show Hid _ from HM7.out.callO b7 (S := T) (R := fun w => ProgO w (.agg #[.slice a1 p.vars.length k1, .slice a2 p.arrays.length k2, .slice a3 p.body.length k3]) p T) (fun _ _ h hs => ProgO.same h hs) hO hS
        clear hO hS b7
        go_wp2_with fail
        exact use_act (HQ.out (.agg #[.slice a1 p.vars.length k1, .slice a2 p.arrays.length k2, .slice a3 p.body.length k3]) _ ⟨a1, k1, a2, k2, a3, k3, T, rfl, HM8.out⟩) (by kernel_rfl)
      | 1, hs, hst, HQ =>
        simp only [List.getElem?_cons_zero, List.getElem?_cons_succ, Option.some.injEq] at hs
        subst hs
        simp only [List.getElem?_cons_zero, List.getElem?_cons_succ, Option.some.injEq] at ho
        subst ho
        obtain ⟨a1, k1, a2, k2, a3, k3, T, e2, M⟩ := hst
        replace e2 : f 2 = .agg #[.slice a1 p.vars.length k1, .slice a2 p.arrays.length k2, .slice a3 p.body.length k3] := e2
        have e0 : f 0 = .agg #[.slice ax1 p.vars.length kx1, .slice ax2 p.arrays.length kx2, .slice ax3 p.body.length kx3] := hdep { on := 0, ground := .data } (by simp) (by kernel_rfl) (by simp)
        have HM7 := show Hid _ from M
        clear hdep M
        obtain ⟨f', rfl⟩ := upd_self e2
        clear e2
        simp only [upd, ↓reduceIte, Nat.reduceEqDiff] at e0
        obtain ⟨f'', rfl⟩ := upd_self e0
        clear e0
        simp only [putAll, upd, ↓reduceIte, Nat.reduceEqDiff]
        go_wp2_with fail
        refine (eqProgram_any Sx T _ _ p p _ (ProgO.read (HM7.out.o 4 rfl) fun _ h => h) (ProgO.read (HM7.out.o 10 rfl) fun _ h => h)).mono ?_
        rintro x w7 ⟨rfl, b7⟩
        have HM8 := show Hid _ from (HM7.out.call b7).take 10
        clear b7
        rw [LProg.same_eq.2 rfl]
        go_wp2_with fail
        exact use_act (HQ.out (.bool true) _ ⟨rfl, HM8.out⟩) (by kernel_rfl)
      | s + 2, hs, _, _ => simp at hs
    · intro o ho f w' hst hall
      simp only [List.getElem?_cons_zero, List.getElem?_cons_succ, Option.some.injEq] at ho
      subst ho
      obtain ⟨e3, M⟩ := hst
      replace e3 : f 3 = .bool true := e3
      clear hall HM
      obtain ⟨f', rfl⟩ := upd_self e3
      clear e3
      simp only [putAll, upd, ↓reduceIte, Nat.reduceEqDiff]
      have HM := show Hid _ from M
      clear M
      go_wp2_with fail
      refine wp_region_chain 4 [2, 3] (fun i => [.agg #[.int .i64 e.kind, .int .i64 e.value, .slice ay e.kids.length ky], .agg #[.int .i64 e.kind, .int .i64 e.value, kv]].getD i undef) (fun (s : Nat) (g : Nat → Value) (w' : World) => match s with
        | 0 => Mem (fun _ => True) (fun _ => True) w w' [.box w.heap.size [v1, v2, v3], .box (w.heap.size + 1) [.int .i64 e.kind, .int .i64 e.value, kv], .box g8w [.int .i64 X.kind, .int .i64 X.value, .slice a6w X.kids.length k6w], .own S3w (fun w => KidsO w (.slice a6w X.kids.length k6w) X.kids S3w), .own Sx (fun w => ProgO w (.agg #[.slice ax1 p.vars.length kx1, .slice ax2 p.arrays.length kx2, .slice ax3 p.body.length kx3]) p Sx), .box gx [.slice ax1 p.vars.length kx1, .slice ax2 p.arrays.length kx2, .slice ax3 p.body.length kx3], .own Sy (fun w => KidsO w (.slice ay e.kids.length ky) e.kids Sy), .box gy [.int .i64 e.kind, .int .i64 e.value, .slice ay e.kids.length ky], .own Sz (fun w => KidsO w (.slice az X.kids.length kz) X.kids Sz), .box gz [.int .i64 X.kind, .int .i64 X.value, .slice az X.kids.length kz]]
        | 1 => ∃ a4 k4 T, g 0 = .agg #[.int .i64 e.kind, .int .i64 e.value, .slice a4 e.kids.length k4] ∧ Mem (fun _ => True) (fun _ => True) w w' [.box w.heap.size [v1, v2, v3], .box (w.heap.size + 1) [.int .i64 e.kind, .int .i64 e.value, kv], .box g8w [.int .i64 X.kind, .int .i64 X.value, .slice a6w X.kids.length k6w], .own S3w (fun w => KidsO w (.slice a6w X.kids.length k6w) X.kids S3w), .own Sx (fun w => ProgO w (.agg #[.slice ax1 p.vars.length kx1, .slice ax2 p.arrays.length kx2, .slice ax3 p.body.length kx3]) p Sx), .box gx [.slice ax1 p.vars.length kx1, .slice ax2 p.arrays.length kx2, .slice ax3 p.body.length kx3], .own Sy (fun w => KidsO w (.slice ay e.kids.length ky) e.kids Sy), .box gy [.int .i64 e.kind, .int .i64 e.value, .slice ay e.kids.length ky], .own Sz (fun w => KidsO w (.slice az X.kids.length kz) X.kids Sz), .box gz [.int .i64 X.kind, .int .i64 X.value, .slice az X.kids.length kz], .own T (fun w => KidsO w (.slice a4 e.kids.length k4) e.kids T)]
        | 2 => g 1 = .bool true ∧ Mem (fun _ => True) (fun _ => True) w w' [.box w.heap.size [v1, v2, v3], .box (w.heap.size + 1) [.int .i64 e.kind, .int .i64 e.value, kv], .box g8w [.int .i64 X.kind, .int .i64 X.value, .slice a6w X.kids.length k6w], .own S3w (fun w => KidsO w (.slice a6w X.kids.length k6w) X.kids S3w), .own Sx (fun w => ProgO w (.agg #[.slice ax1 p.vars.length kx1, .slice ax2 p.arrays.length kx2, .slice ax3 p.body.length kx3]) p Sx), .box gx [.slice ax1 p.vars.length kx1, .slice ax2 p.arrays.length kx2, .slice ax3 p.body.length kx3], .own Sy (fun w => KidsO w (.slice ay e.kids.length ky) e.kids Sy), .box gy [.int .i64 e.kind, .int .i64 e.value, .slice ay e.kids.length ky], .own Sz (fun w => KidsO w (.slice az X.kids.length kz) X.kids Sz), .box gz [.int .i64 X.kind, .int .i64 X.value, .slice az X.kids.length kz]]
        | _ => False) (by kernel_rfl) (by kernel_rfl) (by kernel_rfl) (by kernel_rfl) (by decide) (by decide) ?_ ?_ ?_ ?_ ?_
      · intro s g g' w' hg h
        match s, h with
        | 0, h => exact h
        | 1, ⟨a4, k4, T, h1, h2⟩ => exact ⟨a4, k4, T, (hg 0 (by omega)).symm.trans h1, h2⟩
        | 2, ⟨h1, h2⟩ => exact ⟨(hg 1 (by omega)).symm.trans h1, h2⟩
      · intro g
        exact HM.out.drew
      · intro i o hi hn ho s f w' hst hdep Q' hQ
        have HQ := show Hid _ from hQ
        have hM : ∃ LL, Mem (fun _ => True) (fun _ => True) w w' ([.box w.heap.size [v1, v2, v3], .box (w.heap.size + 1) [.int .i64 e.kind, .int .i64 e.value, kv], .box g8w [.int .i64 X.kind, .int .i64 X.value, .slice a6w X.kids.length k6w], .own S3w (fun w => KidsO w (.slice a6w X.kids.length k6w) X.kids S3w), .own Sx (fun w => ProgO w (.agg #[.slice ax1 p.vars.length kx1, .slice ax2 p.arrays.length kx2, .slice ax3 p.body.length kx3]) p Sx), .box gx [.slice ax1 p.vars.length kx1, .slice ax2 p.arrays.length kx2, .slice ax3 p.body.length kx3], .own Sy (fun w => KidsO w (.slice ay e.kids.length ky) e.kids Sy), .box gy [.int .i64 e.kind, .int .i64 e.value, .slice ay e.kids.length ky], .own Sz (fun w => KidsO w (.slice az X.kids.length kz) X.kids Sz), .box gz [.int .i64 X.kind, .int .i64 X.value, .slice az X.kids.length kz]] ++ LL) := by
          match s, hst with
          | 0, h => exact ⟨[], by simpa using h⟩
          | 1, ⟨_, _, _, _, h⟩ => exact ⟨_, h⟩
          | 2, ⟨_, h⟩ => exact ⟨[], by simpa using h⟩
        obtain ⟨LL, M⟩ := hM
        have hc : i = 0 ∨ i = 1 := by simp at hn; omega
        have x0 := M.c 7 0 rfl rfl
        have x1 := M.c 7 1 rfl rfl
        have x2 := M.c 7 2 rfl rfl
        have y0 := M.c 1 0 rfl rfl
        have y1 := M.c 1 1 rfl rfl
        have y2 := M.c 1 2 rfl rfl
        clear hn hQ hdep M hst HM
        rcases hc with rfl | rfl
        all_goals
          simp only [List.getElem?_cons_zero, List.getElem?_cons_succ, Option.some.injEq] at ho
          subst ho
          simp only [putAll]
          go_wp2_with fail
          exact use_act HQ.out (by kernel_rfl)
      · intro s j o hs ho f w' hst hdep Q' hQ
        have HQ := show Hid _ from hQ
        clear hQ HM
        match s, hs, hst, HQ with
        | 0, hs, hst, HQ =>
          simp only [List.getElem?_cons_zero, Option.some.injEq] at hs
          subst hs
          simp only [List.getElem?_cons_zero, List.getElem?_cons_succ, Option.some.injEq] at ho
          subst ho
          have M : Mem (fun _ => True) (fun _ => True) w w' [.box w.heap.size [v1, v2, v3], .box (w.heap.size + 1) [.int .i64 e.kind, .int .i64 e.value, kv], .box g8w [.int .i64 X.kind, .int .i64 X.value, .slice a6w X.kids.length k6w], .own S3w (fun w => KidsO w (.slice a6w X.kids.length k6w) X.kids S3w), .own Sx (fun w => ProgO w (.agg #[.slice ax1 p.vars.length kx1, .slice ax2 p.arrays.length kx2, .slice ax3 p.body.length kx3]) p Sx), .box gx [.slice ax1 p.vars.length kx1, .slice ax2 p.arrays.length kx2, .slice ax3 p.body.length kx3], .own Sy (fun w => KidsO w (.slice ay e.kids.length ky) e.kids Sy), .box gy [.int .i64 e.kind, .int .i64 e.value, .slice ay e.kids.length ky], .own Sz (fun w => KidsO w (.slice az X.kids.length kz) X.kids Sz), .box gz [.int .i64 X.kind, .int .i64 X.value, .slice az X.kids.length kz]] := hst
          have HM7 := show Hid _ from M
          have e1 : f 1 = .agg #[.int .i64 e.kind, .int .i64 e.value, kv] := hdep { on := 1, ground := .data } (by simp) (by kernel_rfl) (by simp)
          clear hdep hst M
          obtain ⟨f', rfl⟩ := upd_self e1
          clear e1
          simp only [putAll, upd, ↓reduceIte, Nat.reduceEqDiff]
          go_wp2_with fail
          refine (toExpr_all e _ _ _ (HA.out _ (HM7.out.below fun _ _ => trivial)).2 HSZ.out.2).mono ?_
          rintro x w7 ⟨a4, k4, T, rfl, hO, hS, b7⟩
          have HM8 := show Hid _ from HM7.out.callO b7 (S := T) (R := fun w => KidsO w (.slice a4 e.kids.length k4) e.kids T) (fun _ _ h hs => KidsO.same h hs) hO hS
          clear hO hS b7
          go_wp2_with fail
          exact use_act (HQ.out (.agg #[.int .i64 e.kind, .int .i64 e.value, .slice a4 e.kids.length k4]) _ ⟨a4, k4, T, rfl, HM8.out⟩) (by kernel_rfl)
        | 1, hs, hst, HQ =>
          simp only [List.getElem?_cons_zero, List.getElem?_cons_succ, Option.some.injEq] at hs
          subst hs
          simp only [List.getElem?_cons_zero, List.getElem?_cons_succ, Option.some.injEq] at ho
          subst ho
          obtain ⟨a4, k4, T, e2, M⟩ := hst
          replace e2 : f 2 = .agg #[.int .i64 e.kind, .int .i64 e.value, .slice a4 e.kids.length k4] := e2
          have e0 : f 0 = .agg #[.int .i64 e.kind, .int .i64 e.value, .slice ay e.kids.length ky] := hdep { on := 0, ground := .data } (by simp) (by kernel_rfl) (by simp)
          have HM7 := show Hid _ from M
          clear hdep M
          obtain ⟨f', rfl⟩ := upd_self e2
          clear e2
          simp only [upd, ↓reduceIte, Nat.reduceEqDiff] at e0
          obtain ⟨f'', rfl⟩ := upd_self e0
          clear e0
          simp only [putAll, upd, ↓reduceIte, Nat.reduceEqDiff]
          go_wp2_with fail
          refine (eqExpr_all e Sy T _ _ e _ ⟨_, rfl, KidsO.read (HM7.out.o 6 rfl) fun _ h => h⟩ ⟨_, rfl, KidsO.read (HM7.out.o 10 rfl) fun _ h => h⟩).mono ?_
          rintro x w7 ⟨rfl, b7⟩
          have HM8 := show Hid _ from (HM7.out.call b7).take 10
          clear b7
          rw [(sameE_eq e e).2 rfl]
          go_wp2_with fail
          exact use_act (HQ.out (.bool true) _ ⟨rfl, HM8.out⟩) (by kernel_rfl)
        | s + 2, hs, _, _ => simp at hs
      · intro o ho f w' hst hall
        simp only [List.getElem?_cons_zero, List.getElem?_cons_succ, Option.some.injEq] at ho
        subst ho
        obtain ⟨e3, M⟩ := hst
        replace e3 : f 3 = .bool true := e3
        clear hall HM
        obtain ⟨f', rfl⟩ := upd_self e3
        clear e3
        simp only [putAll, upd, ↓reduceIte, Nat.reduceEqDiff]
        have HM := show Hid _ from M
        clear M
        have x0 := HM.out.c 5 0 rfl rfl
        have x1 := HM.out.c 5 1 rfl rfl
        have x2 := HM.out.c 5 2 rfl rfl
        go_wp2_with fail
        clear x0 x1 x2
        refine (markProgram_any (.agg #[.slice ax1 p.vars.length kx1, .slice ax2 p.arrays.length kx2, .slice ax3 p.body.length kx3]) p 1 _ Sx (HM.out.o 4 rfl) (by have := HPN.out; omega)).mono ?_
        rintro x w8 ⟨rfl, hO, kp⟩
        replace HM : Hid (Mem (fun _ => True) (fun _ => True) w w8 [.box w.heap.size [v1, v2, v3], .box (w.heap.size + 1) [.int .i64 e.kind, .int .i64 e.value, kv], .box g8w [.int .i64 X.kind, .int .i64 X.value, .slice a6w X.kids.length k6w], .own S3w (fun w => KidsO w (.slice a6w X.kids.length k6w) X.kids S3w), .own Sx (fun w => ProgO w (.agg #[.slice ax1 p.vars.length kx1, .slice ax2 p.arrays.length kx2, .slice ax3 p.body.length kx3]) (mkP p 1) Sx), .box gx [.slice ax1 p.vars.length kx1, .slice ax2 p.arrays.length kx2, .slice ax3 p.body.length kx3], .own Sy (fun w => KidsO w (.slice ay e.kids.length ky) e.kids Sy), .box gy [.int .i64 e.kind, .int .i64 e.value, .slice ay e.kids.length ky], .own Sz (fun w => KidsO w (.slice az X.kids.length kz) X.kids Sz), .box gz [.int .i64 X.kind, .int .i64 X.value, .slice az X.kids.length kz]]) := HM.out.turn 4 rfl kp (R' := fun w => ProgO w (.agg #[.slice ax1 p.vars.length kx1, .slice ax2 p.arrays.length kx2, .slice ax3 p.body.length kx3]) (mkP p 1) Sx) (fun _ _ h hs => ProgO.same h hs) hO
        clear hO kp
        obtain ⟨kk, hkk⟩ : ∃ kk : Int, kk = ((1 : Nat) : Int) + mkPN p := ⟨_, rfl⟩
        rw [← hkk]
        have hkk0 : 0 ≤ kk := by have := HPN.out; omega
        have hkk1 : kk ≤ 8000000 := by have := HPN.out; omega
        clear hkk
        have x0 := HM.out.c 7 0 rfl rfl
        have x1 := HM.out.c 7 1 rfl rfl
        have x2 := HM.out.c 7 2 rfl rfl
        go_wp2_with fail
        clear x0 x1 x2
        refine (markExpr_any e.kind e.value e.kids (.slice ay e.kids.length ky) kk _ Sy (HM.out.o 6 rfl) hkk0 (by have := HES.out; omega)).mono ?_
        rintro x w9 ⟨rfl, hO, kp⟩
        replace HM : Hid (Mem (fun _ => True) (fun _ => True) w w9 [.box w.heap.size [v1, v2, v3], .box (w.heap.size + 1) [.int .i64 e.kind, .int .i64 e.value, kv], .box g8w [.int .i64 X.kind, .int .i64 X.value, .slice a6w X.kids.length k6w], .own S3w (fun w => KidsO w (.slice a6w X.kids.length k6w) X.kids S3w), .own Sx (fun w => ProgO w (.agg #[.slice ax1 p.vars.length kx1, .slice ax2 p.arrays.length kx2, .slice ax3 p.body.length kx3]) (mkP p 1) Sx), .box gx [.slice ax1 p.vars.length kx1, .slice ax2 p.arrays.length kx2, .slice ax3 p.body.length kx3], .own Sy (fun w => KidsO w (.slice ay e.kids.length ky) (mkEs e.kids kk) Sy), .box gy [.int .i64 e.kind, .int .i64 e.value, .slice ay e.kids.length ky], .own Sz (fun w => KidsO w (.slice az X.kids.length kz) X.kids Sz), .box gz [.int .i64 X.kind, .int .i64 X.value, .slice az X.kids.length kz]]) := HM.out.turn 6 rfl kp (R' := fun w => KidsO w (.slice ay e.kids.length ky) (mkEs e.kids kk) Sy) (fun _ _ h hs => KidsO.same h hs) hO
        clear hO kp
        obtain ⟨kq, hkq⟩ : ∃ kq : Int, kq = kk + 2 * (szEs e.kids : Int) := ⟨_, rfl⟩
        rw [← hkq]
        have hkq0 : ¬ kq < 0 := by omega
        clear hkq hkk0 hkk1
        have x0 := HM.out.c 9 0 rfl rfl
        have x1 := HM.out.c 9 1 rfl rfl
        have x2 := HM.out.c 9 2 rfl rfl
        have y0 := HM.out.c 2 0 rfl rfl
        have y1 := HM.out.c 2 1 rfl rfl
        have y2 := HM.out.c 2 2 rfl rfl
        go_wp2_with fail
        clear x0 x1 x2 y0 y1 y2
        refine (eqExpr_all X Sz S3w _ _ X _ ⟨_, rfl, KidsO.read (HM.out.o 8 rfl) fun _ h => h⟩ ⟨_, rfl, KidsO.read (HM.out.o 3 rfl) fun _ h => h⟩).mono ?_
        rintro x w10 ⟨rfl, b1⟩
        rw [(sameE_eq X X).2 rfl]
        replace HM := show Hid _ from HM.out.call b1
        clear b1
        have x0 := HM.out.c 9 0 rfl rfl
        have x1 := HM.out.c 9 1 rfl rfl
        have x2 := HM.out.c 9 2 rfl rfl
        go_wp2_with fail
        clear x0 x1 x2
        clear hkq0
        refine (markExpr_any X.kind X.value X.kids (.slice az X.kids.length kz) 1 _ Sz (HM.out.o 8 rfl) (by omega) (by have := HXS.out; omega)).mono ?_
        rintro x w11 ⟨rfl, hO, kp⟩
        replace HM : Hid (Mem (fun _ => True) (fun _ => True) w w11 [.box w.heap.size [v1, v2, v3], .box (w.heap.size + 1) [.int .i64 e.kind, .int .i64 e.value, kv], .box g8w [.int .i64 X.kind, .int .i64 X.value, .slice a6w X.kids.length k6w], .own S3w (fun w => KidsO w (.slice a6w X.kids.length k6w) X.kids S3w), .own Sx (fun w => ProgO w (.agg #[.slice ax1 p.vars.length kx1, .slice ax2 p.arrays.length kx2, .slice ax3 p.body.length kx3]) (mkP p 1) Sx), .box gx [.slice ax1 p.vars.length kx1, .slice ax2 p.arrays.length kx2, .slice ax3 p.body.length kx3], .own Sy (fun w => KidsO w (.slice ay e.kids.length ky) (mkEs e.kids kk) Sy), .box gy [.int .i64 e.kind, .int .i64 e.value, .slice ay e.kids.length ky], .own Sz (fun w => KidsO w (.slice az X.kids.length kz) (mkEs X.kids 1) Sz), .box gz [.int .i64 X.kind, .int .i64 X.value, .slice az X.kids.length kz]]) := HM.out.turn 8 rfl kp (R' := fun w => KidsO w (.slice az X.kids.length kz) (mkEs X.kids 1) Sz) (fun _ _ h hs => KidsO.same h hs) hO
        clear hO kp
        obtain ⟨km, hkm⟩ : ∃ km : Int, km = 1 + 2 * (szEs X.kids : Int) := ⟨_, rfl⟩
        rw [← hkm]
        have HKM := show Hid _ from hkm
        have hkm0 : ¬ km < 0 := by omega
        clear hkm
        have x0 := HM.out.c 9 0 rfl rfl
        have x1 := HM.out.c 9 1 rfl rfl
        have x2 := HM.out.c 9 2 rfl rfl
        go_wp2_with fail
        clear x0 x1 x2
        refine (heldExpr_any Sz X.kind X.value X.kids _ 1 _ (by have h9 := KidsO.read (HM.out.o 8 rfl) (φ := Sz) fun _ h => h; exact h9) (by omega) (by have := HXS.out; omega)).mono ?_
        rintro x w12 ⟨rfl, b1⟩
        rw [← HKM.out]
        replace HM := show Hid _ from HM.out.call b1
        clear b1
        go_wp2_with fail
        refine wp_region_flags 10 [1, 3, 4, 5, 6, 7, 8, 9] (fun i => [.agg #[v1, v2, v3], undef, .agg #[.int .i64 e.kind, .int .i64 e.value, kv]].getD i undef) (fun (b : Nat → Bool) (gg : Nat → Value) (w' : World) => ∃ LB LC, Mem (fun _ => True) (fun _ => True) w w' ([.box w.heap.size [v1, v2, v3], .box (w.heap.size + 1) [.int .i64 e.kind, .int .i64 e.value, kv], .box g8w [.int .i64 X.kind, .int .i64 X.value, .slice a6w X.kids.length k6w], .own S3w (fun w => KidsO w (.slice a6w X.kids.length k6w) X.kids S3w), .own Sx (fun w => ProgO w (.agg #[.slice ax1 p.vars.length kx1, .slice ax2 p.arrays.length kx2, .slice ax3 p.body.length kx3]) (mkP p 1) Sx), .box gx [.slice ax1 p.vars.length kx1, .slice ax2 p.arrays.length kx2, .slice ax3 p.body.length kx3], .own Sy (fun w => KidsO w (.slice ay e.kids.length ky) (mkEs e.kids kk) Sy), .box gy [.int .i64 e.kind, .int .i64 e.value, .slice ay e.kids.length ky], .own Sz (fun w => KidsO w (.slice az X.kids.length kz) (mkEs X.kids 1) Sz), .box gz [.int .i64 X.kind, .int .i64 X.value, .slice az X.kids.length kz]] ++ (LB ++ LC)) ∧
          ((b 6 = false ∧ b 7 = false ∧ LB = []) ∨ (b 6 = true ∧ b 7 = false ∧ ∃ g8h, gg 6 = .pointer (some ⟨g8h, 0, none⟩) ∧ LB = [.box g8h [.int .i64 0, .int .i64 0, .slice none 0 0]]) ∨ (b 6 = true ∧ b 7 = true ∧ b 4 = true ∧ ∃ g8h a5h k5h, gg 6 = .pointer (some ⟨g8h, 0, none⟩) ∧ gg 4 = .agg #[.int .i64 X.kind, .int .i64 X.value, .slice a5h X.kids.length k5h] ∧ LB = [.box g8h [.int .i64 X.kind, .int .i64 X.value, .slice a5h X.kids.length k5h]])) ∧
          ((b 0 = false ∧ b 1 = false ∧ b 2 = false ∧ LC = []) ∨ (b 0 = true ∧ b 1 = false ∧ b 2 = false ∧ ∃ a1h k1h a2h k2h a3h k3h S1h, gg 0 = .agg #[.slice a1h p.vars.length k1h, .slice a2h p.arrays.length k2h, .slice a3h p.body.length k3h] ∧ LC = [.own S1h (fun w => ProgO w (.agg #[.slice a1h p.vars.length k1h, .slice a2h p.arrays.length k2h, .slice a3h p.body.length k3h]) p S1h)]) ∨
           (b 0 = true ∧ b 1 = true ∧ b 2 = false ∧ ∃ a1h k1h a2h k2h a3h k3h S1h a4h k4h S2h, gg 0 = .agg #[.slice a1h p.vars.length k1h, .slice a2h p.arrays.length k2h, .slice a3h p.body.length k3h] ∧ gg 1 = .agg #[.int .i64 e.kind, .int .i64 e.value, .slice a4h e.kids.length k4h] ∧ LC = [.own S1h (fun w => ProgO w (.agg #[.slice a1h p.vars.length k1h, .slice a2h p.arrays.length k2h, .slice a3h p.body.length k3h]) p S1h), .own S2h (fun w => KidsO w (.slice a4h e.kids.length k4h) e.kids S2h)]) ∨
           (b 0 = true ∧ b 1 = true ∧ b 2 = true ∧ ∃ a5h k5h S3h, gg 2 = .tuple #[.agg #[.int .i64 X.kind, .int .i64 X.value, .slice a5h X.kids.length k5h], .bool ok] ∧ (b 3 = true → gg 3 = .tuple #[.agg #[.int .i64 X.kind, .int .i64 X.value, .slice a5h X.kids.length k5h], .bool ok]) ∧ (b 4 = true → gg 4 = .agg #[.int .i64 X.kind, .int .i64 X.value, .slice a5h X.kids.length k5h]) ∧ (b 5 = true → gg 5 = .bool ok) ∧ LC = [.own S3h (fun w => KidsO w (.slice a5h X.kids.length k5h) X.kids S3h)])) ∧ (b 2 = false → b 3 = false ∧ b 4 = false ∧ b 5 = false)) (by kernel_rfl) (by kernel_rfl) (by kernel_rfl) (by decide) (by decide) ?_ ?_ ?_ ?_ ?_
        · intro b b' gg gg' w' hb hg h
          obtain ⟨LB, LC, M, hB, hC, hD⟩ := h
          have e0 := hb 0 (by decide)
          have e1 := hb 1 (by decide)
          have e2 := hb 2 (by decide)
          have e3 := hb 3 (by decide)
          have e4 := hb 4 (by decide)
          have e5 := hb 5 (by decide)
          have e6 := hb 6 (by decide)
          have e7 := hb 7 (by decide)
          refine ⟨LB, LC, M, ?_, ?_, by rw [← e2, ← e3, ← e4, ← e5]; exact hD⟩
          · rw [← e6, ← e7, ← e4]
            rcases hB with h | ⟨h1, h2, g8h, h3, h4⟩ | ⟨h1, h2, h3, g8h, a5h, k5h, h4, h5, h6⟩
            · exact .inl h
            · exact .inr (.inl ⟨h1, h2, g8h, (hg 6 (by decide) h1).symm.trans h3, h4⟩)
            · exact .inr (.inr ⟨h1, h2, h3, g8h, a5h, k5h, (hg 6 (by decide) h1).symm.trans h4, (hg 4 (by decide) h3).symm.trans h5, h6⟩)
          · rw [← e0, ← e1, ← e2, ← e3, ← e4, ← e5]
            rcases hC with h | ⟨h1, h2, h3, a1h, k1h, a2h, k2h, a3h, k3h, S1h, h4, h5⟩ | ⟨h1, h2, h3, a1h, k1h, a2h, k2h, a3h, k3h, S1h, a4h, k4h, S2h, h4, h5, h6⟩ | ⟨h1, h2, h3, a5h, k5h, S3h, h4, h5, h6, h7, h8⟩
            · exact .inl h
            · exact .inr (.inl ⟨h1, h2, h3, a1h, k1h, a2h, k2h, a3h, k3h, S1h, (hg 0 (by decide) h1).symm.trans h4, h5⟩)
            · exact .inr (.inr (.inl ⟨h1, h2, h3, a1h, k1h, a2h, k2h, a3h, k3h, S1h, a4h, k4h, S2h, (hg 0 (by decide) h1).symm.trans h4, (hg 1 (by decide) h2).symm.trans h5, h6⟩))
            · exact .inr (.inr (.inr ⟨h1, h2, h3, a5h, k5h, S3h, (hg 2 (by decide) h3).symm.trans h4, fun h => (hg 3 (by decide) h).symm.trans (h5 h), fun h => (hg 4 (by decide) h).symm.trans (h6 h), fun h => (hg 5 (by decide) h).symm.trans (h7 h), h8⟩))
        · intro gg
          exact ⟨[], [], by simpa using HM.out.drew, .inl ⟨rfl, rfl, rfl⟩, .inl ⟨rfl, rfl, rfl, rfl⟩, fun _ => ⟨rfl, rfl, rfl⟩⟩
        · intro i o hi hn ho b f w' hst hdep Q' hQ
          have HQ := show Hid _ from hQ
          obtain ⟨LB, LC, M, -, -, -⟩ := hst
          have hc : i = 0 ∨ i = 2 := by simp at hn; omega
          have x0 := M.c 0 0 rfl rfl
          have x1 := M.c 0 1 rfl rfl
          have x2 := M.c 0 2 rfl rfl
          have y0 := M.c 1 0 rfl rfl
          have y1 := M.c 1 1 rfl rfl
          have y2 := M.c 1 2 rfl rfl
          clear hn hQ hdep M
          rcases hc with rfl | rfl
          all_goals
            simp only [List.getElem?_cons_zero, List.getElem?_cons_succ, Option.some.injEq] at ho
            subst ho
            simp only [putAll]
            go_wp2_with fail
            exact use_act HQ.out (by kernel_rfl)
        · intro j i o hj ho b f w' hbj hst hdep hdj Q' hQ
          have HQ := show Hid _ from hQ
          clear hQ
          obtain ⟨LB, LC, M, hB, hC, hD⟩ := hst
          have HD := show Hid _ from hD
          clear hD
          match j, hj, hbj, HQ with
          | 0, hj, hbj, HQ =>
            simp only [List.getElem?_cons_zero, List.getElem?_cons_succ, Option.some.injEq] at hj
            subst hj
            simp only [List.getElem?_cons_zero, List.getElem?_cons_succ, Option.some.injEq] at ho
            subst ho
            rcases hC with ⟨h1, h2, h3, rfl⟩ | ⟨h1, _⟩ | ⟨h1, _⟩ | ⟨h1, _⟩
            · have e0 : f 0 = .agg #[v1, v2, v3] := hdep { on := 0, ground := .data } (by simp) (by kernel_rfl) (by simp)
              have HM7 := show Hid _ from M
              have HX := show Hid _ from And.intro hB (And.intro h2 h3)
              clear hdep hdj M hB hbj h1 h2 h3
              obtain ⟨f', rfl⟩ := upd_self e0
              clear e0
              simp only [putAll, upd, ↓reduceIte, Nat.reduceEqDiff]
              go_wp2_with fail
              refine (toProgram_any _ _ p _ (HA.out _ (HM7.out.below fun _ _ => trivial)).1 HSZ.out.1).mono ?_
              rintro x w7 ⟨a1h, k1h, a2h, k2h, a3h, k3h, S1h, rfl, hO, hS, b7⟩
              have HM8 := show Hid _ from (HM7.out.callO b7 (S := S1h) (R := fun w => ProgO w (.agg #[.slice a1h p.vars.length k1h, .slice a2h p.arrays.length k2h, .slice a3h p.body.length k3h]) p S1h) (fun _ _ h hs => ProgO.same h hs) hO hS).assoc3
              clear hO hS b7
              go_wp2_with fail
              obtain ⟨hB, h2, h3⟩ := HX.out
              refine use_act (HQ.out (.agg #[.slice a1h p.vars.length k1h, .slice a2h p.arrays.length k2h, .slice a3h p.body.length k3h]) _ ⟨LB, _, HM8.out, ?_, .inr (.inl ⟨rfl, h2, h3, a1h, k1h, a2h, k2h, a3h, k3h, S1h, rfl, rfl⟩), HD.out⟩) (by kernel_rfl)
              exact hB
            all_goals (rw [h1] at hbj; cases hbj)
          | 1, hj, hbj, HQ =>
            simp only [List.getElem?_cons_zero, List.getElem?_cons_succ, Option.some.injEq] at hj
            subst hj
            simp only [List.getElem?_cons_zero, List.getElem?_cons_succ, Option.some.injEq] at ho
            subst ho
            have hb0 : b 0 = true := hdj { on := 1, ground := .chain } (by simp) (by kernel_rfl) 0 rfl
            rcases hC with ⟨h1, _⟩ | ⟨h1, h2, h3, a1h, k1h, a2h, k2h, a3h, k3h, S1h, h4, rfl⟩ | ⟨_, h1, _⟩ | ⟨_, h1, _⟩
            · rw [h1] at hb0; cases hb0
            · have e2 : f 2 = .agg #[.int .i64 e.kind, .int .i64 e.value, kv] := hdep { on := 2, ground := .data } (by simp) (by kernel_rfl) (by simp)
              have HM7 := show Hid _ from M
              have HX := show Hid _ from And.intro hB (And.intro h1 (And.intro h3 h4))
              clear hdep hdj M hB hbj h1 h2 h3 h4 hb0
              obtain ⟨f', rfl⟩ := upd_self e2
              clear e2
              simp only [putAll, upd, ↓reduceIte, Nat.reduceEqDiff]
              go_wp2_with fail
              refine (toExpr_all e _ _ _ (HA.out _ (HM7.out.below fun _ _ => trivial)).2 HSZ.out.2).mono ?_
              rintro x w7 ⟨a4h, k4h, S2h, rfl, hO, hS, b7⟩
              have HM8 := show Hid _ from (HM7.out.callO b7 (S := S2h) (R := fun w => KidsO w (.slice a4h e.kids.length k4h) e.kids S2h) (fun _ _ h hs => KidsO.same h hs) hO hS).assoc3
              clear hO hS b7
              go_wp2_with fail
              obtain ⟨hB, h1, h3, h4⟩ := HX.out
              exact use_act (HQ.out (.agg #[.int .i64 e.kind, .int .i64 e.value, .slice a4h e.kids.length k4h]) _ ⟨LB, _, HM8.out, hB, .inr (.inr (.inl ⟨h1, rfl, h3, a1h, k1h, a2h, k2h, a3h, k3h, S1h, a4h, k4h, S2h, h4, rfl, rfl⟩)), HD.out⟩) (by kernel_rfl)
            all_goals (rw [h1] at hbj; cases hbj)
          | 2, hj, hbj, HQ =>
            simp only [List.getElem?_cons_zero, List.getElem?_cons_succ, Option.some.injEq] at hj
            subst hj
            simp only [List.getElem?_cons_zero, List.getElem?_cons_succ, Option.some.injEq] at ho
            subst ho
            have hb1 : b 1 = true := hdj { on := 3, ground := .chain } (by simp) (by kernel_rfl) 1 rfl
            rcases hC with ⟨_, h1, _⟩ | ⟨_, h1, _⟩ | ⟨h1, h2, h3, a1h, k1h, a2h, k2h, a3h, k3h, S1h, a4h, k4h, S2h, h4, h5, rfl⟩ | ⟨_, _, h1, _⟩
            · rw [h1] at hb1; cases hb1
            · rw [h1] at hb1; cases hb1
            · have e1 : f 1 = .agg #[.slice a1h p.vars.length k1h, .slice a2h p.arrays.length k2h, .slice a3h p.body.length k3h] := h4
              have e3 : f 3 = .agg #[.int .i64 e.kind, .int .i64 e.value, .slice a4h e.kids.length k4h] := h5
              have HM7 := show Hid _ from M
              have HX := show Hid _ from And.intro hB (And.intro h1 (And.intro h2 (HD.out hbj)))
              clear hdep hdj M hB hbj h1 h2 h3 h4 h5 hb1
              obtain ⟨f', rfl⟩ := upd_self e1
              clear e1
              simp only [upd, ↓reduceIte, Nat.reduceEqDiff] at e3
              obtain ⟨f'', rfl⟩ := upd_self e3
              clear e3
              simp only [putAll, upd, ↓reduceIte, Nat.reduceEqDiff]
              go_wp2_with fail
              refine (impl_FoldExpr p e S1h S2h _ _ _ (ProgO.read (HM7.out.own' (S := S1h) (R := fun w => ProgO w (.agg #[.slice a1h p.vars.length k1h, .slice a2h p.arrays.length k2h, .slice a3h p.body.length k3h]) p S1h) (by simp)) fun _ h => h) ⟨_, rfl, KidsO.read (HM7.out.own' (S := S2h) (R := fun w => KidsO w (.slice a4h e.kids.length k4h) e.kids S2h) (by simp)) fun _ h => h⟩).mono ?_
              rintro x w7 ⟨a5h, k5h, S3h, rfl, hO, hS, b7⟩
              rw [← HXX.out] at hO ⊢
              rw [← HOK.out]
              have HM8 := show Hid _ from (HM7.out.callO b7 (S := S3h) (R := fun w => KidsO w (.slice a5h X.kids.length k5h) X.kids S3h) (fun _ _ h hs => KidsO.same h hs) hO hS).sub (L' := [.box w.heap.size [v1, v2, v3], .box (w.heap.size + 1) [.int .i64 e.kind, .int .i64 e.value, kv], .box g8w [.int .i64 X.kind, .int .i64 X.value, .slice a6w X.kids.length k6w], .own S3w (fun w => KidsO w (.slice a6w X.kids.length k6w) X.kids S3w), .own Sx (fun w => ProgO w (.agg #[.slice ax1 p.vars.length kx1, .slice ax2 p.arrays.length kx2, .slice ax3 p.body.length kx3]) (mkP p 1) Sx), .box gx [.slice ax1 p.vars.length kx1, .slice ax2 p.arrays.length kx2, .slice ax3 p.body.length kx3], .own Sy (fun w => KidsO w (.slice ay e.kids.length ky) (mkEs e.kids kk) Sy), .box gy [.int .i64 e.kind, .int .i64 e.value, .slice ay e.kids.length ky], .own Sz (fun w => KidsO w (.slice az X.kids.length kz) (mkEs X.kids 1) Sz), .box gz [.int .i64 X.kind, .int .i64 X.value, .slice az X.kids.length kz]] ++ (LB ++ [.own S3h (fun w => KidsO w (.slice a5h X.kids.length k5h) X.kids S3h)])) (by
                rw [List.append_assoc, List.append_assoc]
                refine List.Sublist.append_left (List.Sublist.append_left ?_ _) _
                simp)
              clear hO hS b7
              go_wp2_with fail
              obtain ⟨hB, h1, h2, q3, q4, q5⟩ := HX.out
              refine use_act (HQ.out (.tuple #[.agg #[.int .i64 X.kind, .int .i64 X.value, .slice a5h X.kids.length k5h], .bool ok]) _ ⟨LB, _, HM8.out, hB, .inr (.inr (.inr ⟨h1, h2, rfl, a5h, k5h, S3h, rfl, fun h => ?_, fun h => ?_, fun h => ?_, rfl⟩)), fun h => ?_⟩) (by kernel_rfl)
              · exact absurd (q3.symm.trans h) (by simp)
              · exact absurd (q4.symm.trans h) (by simp)
              · exact absurd (q5.symm.trans h) (by simp)
              · cases h
            · rw [h1] at hbj; cases hbj
          | 3, hj, hbj, HQ =>
            simp only [List.getElem?_cons_zero, List.getElem?_cons_succ, Option.some.injEq] at hj
            subst hj
            simp only [List.getElem?_cons_zero, List.getElem?_cons_succ, Option.some.injEq] at ho
            subst ho
            have hb2 : b 2 = true := hdj { on := 4, ground := .data } (by simp) (by kernel_rfl) 2 rfl
            rcases hC with ⟨_, _, h1, _⟩ | ⟨_, _, h1, _⟩ | ⟨_, _, h1, _⟩ | ⟨h1, h2, h3, a5h, k5h, S3h, h4, h5, h6, h7, rfl⟩
            · rw [h1] at hb2; cases hb2
            · rw [h1] at hb2; cases hb2
            · rw [h1] at hb2; cases hb2
            · have e4 : f 4 = .tuple #[.agg #[.int .i64 X.kind, .int .i64 X.value, .slice a5h X.kids.length k5h], .bool ok] := h4
              have HX := show Hid _ from And.intro M (And.intro hB (And.intro h1 (And.intro h2 (And.intro h3 (And.intro h4 (And.intro h6 h7))))))
              clear hdep hdj M hB hbj h1 h2 h3 h4 h5 h6 h7 hb2
              obtain ⟨f', rfl⟩ := upd_self e4
              clear e4
              simp only [putAll, upd, ↓reduceIte, Nat.reduceEqDiff]
              go_wp2_with fail
              obtain ⟨M, hB, h1, h2, h3, h4, h6, h7⟩ := HX.out
              exact use_act (HQ.out (.tuple #[.agg #[.int .i64 X.kind, .int .i64 X.value, .slice a5h X.kids.length k5h], .bool ok]) _ ⟨LB, _, M, hB, .inr (.inr (.inr ⟨h1, h2, h3, a5h, k5h, S3h, h4, fun _ => rfl, h6, h7, rfl⟩)), fun h => absurd (h3.symm.trans h) (by simp)⟩) (by kernel_rfl)
          | 4, hj, hbj, HQ =>
            simp only [List.getElem?_cons_zero, List.getElem?_cons_succ, Option.some.injEq] at hj
            subst hj
            simp only [List.getElem?_cons_zero, List.getElem?_cons_succ, Option.some.injEq] at ho
            subst ho
            have hb3 : b 3 = true := hdj { on := 5, ground := .data } (by simp) (by kernel_rfl) 3 rfl
            have hb2 : b 2 = true := by
              cases h : b 2
              · have := (HD.out h).1; rw [hb3] at this; cases this
              · rfl
            rcases hC with ⟨_, _, h1, _⟩ | ⟨_, _, h1, _⟩ | ⟨_, _, h1, _⟩ | ⟨h1, h2, h3, a5h, k5h, S3h, h4, h5, h6, h7, rfl⟩
            · rw [h1] at hb2; cases hb2
            · rw [h1] at hb2; cases hb2
            · rw [h1] at hb2; cases hb2
            · have e5 : f 5 = .tuple #[.agg #[.int .i64 X.kind, .int .i64 X.value, .slice a5h X.kids.length k5h], .bool ok] := h5 hb3
              have hB' : (b 6 = false ∧ b 7 = false ∧ LB = []) ∨ (b 6 = true ∧ b 7 = false ∧ ∃ g8h, JV [1, 3, 4, 5, 6, 7, 8, 9] f 6 = .pointer (some ⟨g8h, 0, none⟩) ∧ LB = [.box g8h [.int .i64 0, .int .i64 0, .slice none 0 0]]) := by
                rcases hB with h | h | ⟨_, _, h, _⟩
                · exact .inl h
                · exact .inr h
                · rw [h] at hbj; cases hbj
              have HX := show Hid _ from And.intro M (And.intro hB' (And.intro h1 (And.intro h2 (And.intro h3 (And.intro h4 (And.intro h5 h7))))))
              clear hdep hdj M hB hB' hbj h1 h2 h3 h4 h5 h6 h7 hb2 hb3
              obtain ⟨f', rfl⟩ := upd_self e5
              clear e5
              simp only [putAll, upd, ↓reduceIte, Nat.reduceEqDiff]
              go_wp2_with fail
              obtain ⟨M, hB, h1, h2, h3, h4, h5, h7⟩ := HX.out
              exact use_act (HQ.out (.agg #[.int .i64 X.kind, .int .i64 X.value, .slice a5h X.kids.length k5h]) _ ⟨LB, _, M, hB.elim .inl fun h => .inr (.inl h), .inr (.inr (.inr ⟨h1, h2, h3, a5h, k5h, S3h, h4, h5, fun _ => rfl, h7, rfl⟩)), fun h => absurd (h3.symm.trans h) (by simp)⟩) (by kernel_rfl)
          | 5, hj, hbj, HQ =>
            simp only [List.getElem?_cons_zero, List.getElem?_cons_succ, Option.some.injEq] at hj
            subst hj
            simp only [List.getElem?_cons_zero, List.getElem?_cons_succ, Option.some.injEq] at ho
            subst ho
            have hb3 : b 3 = true := hdj { on := 5, ground := .data } (by simp) (by kernel_rfl) 3 rfl
            have hb2 : b 2 = true := by
              cases h : b 2
              · have := (HD.out h).1; rw [hb3] at this; cases this
              · rfl
            rcases hC with ⟨_, _, h1, _⟩ | ⟨_, _, h1, _⟩ | ⟨_, _, h1, _⟩ | ⟨h1, h2, h3, a5h, k5h, S3h, h4, h5, h6, h7, rfl⟩
            · rw [h1] at hb2; cases hb2
            · rw [h1] at hb2; cases hb2
            · rw [h1] at hb2; cases hb2
            · have e5 : f 5 = .tuple #[.agg #[.int .i64 X.kind, .int .i64 X.value, .slice a5h X.kids.length k5h], .bool ok] := h5 hb3
              have HX := show Hid _ from And.intro M (And.intro hB (And.intro h1 (And.intro h2 (And.intro h3 (And.intro h4 (And.intro h5 h6))))))
              clear hdep hdj M hB hbj h1 h2 h3 h4 h5 h6 h7 hb2 hb3
              obtain ⟨f', rfl⟩ := upd_self e5
              clear e5
              simp only [putAll, upd, ↓reduceIte, Nat.reduceEqDiff]
              go_wp2_with fail
              obtain ⟨M, hB, h1, h2, h3, h4, h5, h6⟩ := HX.out
              exact use_act (HQ.out (.bool ok) _ ⟨LB, _, M, hB, .inr (.inr (.inr ⟨h1, h2, h3, a5h, k5h, S3h, h4, h5, h6, fun _ => rfl, rfl⟩)), fun h => absurd (h3.symm.trans h) (by simp)⟩) (by kernel_rfl)
          | 6, hj, hbj, HQ =>
            simp only [List.getElem?_cons_zero, List.getElem?_cons_succ, Option.some.injEq] at hj
            subst hj
            simp only [List.getElem?_cons_zero, List.getElem?_cons_succ, Option.some.injEq] at ho
            subst ho
            clear hdep hdj
            rcases hB with ⟨_, hb7, rfl⟩ | ⟨h1, _⟩ | ⟨h1, _⟩
            · have HM7 := show Hid _ from (M.box [.int .i64 0, .int .i64 0, .slice none 0 0] 41).mid
              have HX := show Hid _ from And.intro hb7 hC
              clear M hC hb7 hbj
              simp only [putAll]
              go_wp2_with fail
              obtain ⟨hb7, hC⟩ := HX.out
              exact use_act (HQ.out (.pointer (some ⟨w'.heap.size, 0, none⟩)) _ ⟨_, _, HM7.out, .inr (.inl ⟨rfl, hb7, w'.heap.size, rfl, rfl⟩), hC, HD.out⟩) (by kernel_rfl)
            · rw [h1] at hbj; cases hbj
            · rw [h1] at hbj; cases hbj
          | 7, hj, hbj, HQ =>
            simp only [List.getElem?_cons_zero, List.getElem?_cons_succ, Option.some.injEq] at hj
            subst hj
            simp only [List.getElem?_cons_zero, List.getElem?_cons_succ, Option.some.injEq] at ho
            subst ho
            have hb6 : b 6 = true := hdj { on := 8, ground := .data } (by simp) (by kernel_rfl) 6 rfl
            have hb4 : b 4 = true := hdj { on := 6, ground := .data } (by simp) (by kernel_rfl) 4 rfl
            have hb2 : b 2 = true := by
              cases h : b 2
              · have := (HD.out h).2.1; rw [hb4] at this; cases this
              · rfl
            rcases hC with ⟨_, _, h1, _⟩ | ⟨_, _, h1, _⟩ | ⟨_, _, h1, _⟩ | ⟨h1, h2, h3, a5h, k5h, S3h, h4, h5, h6, h7, rfl⟩
            · rw [h1] at hb2; cases hb2
            · rw [h1] at hb2; cases hb2
            · rw [h1] at hb2; cases hb2
            · rcases hB with ⟨h, _⟩ | ⟨_, _, g8h, k8, rfl⟩ | ⟨_, h, _⟩
              · rw [hb6] at h; cases h
              · have e6 : f 6 = .agg #[.int .i64 X.kind, .int .i64 X.value, .slice a5h X.kids.length k5h] := h6 hb4
                have e8 : f 8 = .pointer (some ⟨g8h, 0, none⟩) := k8
                have z0 := M.c 10 0 rfl rfl
                have z1 := M.c 10 1 rfl rfl
                have z2 := M.c 10 2 rfl rfl
                have zf := M.f 10 rfl
                have HM7 := show Hid _ from ((M.set 10 rfl 0 (.int .i64 X.kind)).set 10 rfl 1 (.int .i64 X.value)).set 10 rfl 2 (.slice a5h X.kids.length k5h)
                have HX := show Hid _ from And.intro h1 (And.intro h2 (And.intro h3 (And.intro h4 (And.intro h5 (And.intro h6 (And.intro h7 (And.intro hb6 (And.intro hb4 k8))))))))
                clear hdep hdj M hbj h1 h2 h3 h4 h5 h6 h7 hb2 hb4 hb6 k8
                obtain ⟨f', rfl⟩ := upd_self e6
                clear e6
                simp only [upd, ↓reduceIte, Nat.reduceEqDiff] at e8
                obtain ⟨f'', rfl⟩ := upd_self e8
                clear e8
                simp only [putAll, upd, ↓reduceIte, Nat.reduceEqDiff]
                go_wp2_with fail
                obtain ⟨h1, h2, h3, h4, h5, h6, h7, hb6, hb4, k8⟩ := HX.out
                exact use_act (HQ.out undef _ ⟨[.box g8h [.int .i64 X.kind, .int .i64 X.value, .slice a5h X.kids.length k5h]], [.own S3h (fun w => KidsO w (.slice a5h X.kids.length k5h) X.kids S3h)], HM7.out, .inr (.inr ⟨hb6, rfl, hb4, g8h, a5h, k5h, k8, h6 hb4, rfl⟩), .inr (.inr (.inr ⟨h1, h2, h3, a5h, k5h, S3h, h4, h5, h6, h7, rfl⟩)), fun h => absurd (h3.symm.trans h) (by simp)⟩) (by kernel_rfl)
              · rw [hbj] at h; cases h
          | j + 8, hj, hbj, HQ => simp at hj
        · intro o ho f w' hst hu
          simp only [List.getElem?_cons_zero, List.getElem?_cons_succ, Option.some.injEq] at ho
          subst ho
          obtain ⟨LB, LC, M, hB, hC, -⟩ := hst
          rcases hB with ⟨h, _⟩ | ⟨_, h, _⟩ | ⟨_, _, _, g8h, a6h, k6h, k8, k4h, rfl⟩
          · cases h
          · cases h
          rcases hC with ⟨h, _⟩ | ⟨_, h, _⟩ | ⟨_, _, h, _⟩ | ⟨_, _, _, a5h, k5h, S3h, h4, h5, h6, h7, rfl⟩
          · cases h
          · cases h
          · cases h
          have hee := k4h.symm.trans (h6 rfl)
          have h9 : Value.slice a6h X.kids.length k6h = .slice a5h X.kids.length k5h := congrArg (fun v => match v with | Value.agg cs => cs.getD 2 undef | _ => undef) hee
          clear hee
          cases h9
          have e7 : f 7 = .bool ok := h7 rfl
          have e8 : f 8 = .pointer (some ⟨g8h, 0, none⟩) := k8
          have HM7 := show Hid _ from M
          clear M k4h k8 h4 h5 h6 h7 hu HM
          obtain ⟨f', rfl⟩ := upd_self e7
          clear e7
          simp only [upd, ↓reduceIte, Nat.reduceEqDiff] at e8
          obtain ⟨f'', rfl⟩ := upd_self e8
          clear e8
          simp only [putAll, upd, ↓reduceIte, Nat.reduceEqDiff]
          replace HM7 : Hid (Mem (fun _ => True) (fun _ => True) w w' [.box w.heap.size [v1, v2, v3], .box (w.heap.size + 1) [.int .i64 e.kind, .int .i64 e.value, kv], .box g8w [.int .i64 X.kind, .int .i64 X.value, .slice a6w X.kids.length k6w], .own S3w (fun w => KidsO w (.slice a6w X.kids.length k6w) X.kids S3w), .own Sx (fun w => ProgO w (.agg #[.slice ax1 p.vars.length kx1, .slice ax2 p.arrays.length kx2, .slice ax3 p.body.length kx3]) (mkP p 1) Sx), .box gx [.slice ax1 p.vars.length kx1, .slice ax2 p.arrays.length kx2, .slice ax3 p.body.length kx3], .own Sy (fun w => KidsO w (.slice ay e.kids.length ky) (mkEs e.kids kk) Sy), .box gy [.int .i64 e.kind, .int .i64 e.value, .slice ay e.kids.length ky], .own Sz (fun w => KidsO w (.slice az X.kids.length kz) (mkEs X.kids 1) Sz), .box gz [.int .i64 X.kind, .int .i64 X.value, .slice az X.kids.length kz], .box g8h [.int .i64 X.kind, .int .i64 X.value, .slice a6h X.kids.length k6h], .own S3h (fun w => KidsO w (.slice a6h X.kids.length k6h) X.kids S3h)]) := HM7
          have M := HM7.out
          clear HM7
          have HM := show Hid _ from M
          clear M
          have x0 := HM.out.c 10 0 rfl rfl
          have x1 := HM.out.c 10 1 rfl rfl
          have x2 := HM.out.c 10 2 rfl rfl
          have y0 := HM.out.c 2 0 rfl rfl
          have y1 := HM.out.c 2 1 rfl rfl
          have y2 := HM.out.c 2 2 rfl rfl
          go_wp2_with fail
          clear x0 x1 x2 y0 y1 y2
          refine (eqExpr_all X S3h S3w _ _ X _ ⟨_, rfl, KidsO.read (HM.out.o 11 rfl) fun _ h => h⟩ ⟨_, rfl, KidsO.read (HM.out.o 3 rfl) fun _ h => h⟩).mono ?_
          rintro x w13 ⟨rfl, b1⟩
          rw [(sameE_eq X X).2 rfl]
          replace HM := show Hid _ from HM.out.call b1
          clear b1
          have x0 := HM.out.c 9 0 rfl rfl
          have x1 := HM.out.c 9 1 rfl rfl
          have x2 := HM.out.c 9 2 rfl rfl
          go_wp2_with fail
          clear x0 x1 x2
          refine (heldExpr_any Sz X.kind X.value X.kids _ 1 _ (by have h9 := KidsO.read (HM.out.o 8 rfl) (φ := Sz) fun _ h => h; exact h9) (by omega) (by have := HXS.out; omega)).mono ?_
          rintro x w14 ⟨rfl, b1⟩
          rw [← HKM.out]
          replace HM := show Hid _ from HM.out.call b1
          clear b1
          go_wp2_with fail
          go_ret
          exact ⟨rfl, HM.out.below fun _ _ => trivial⟩

end Go.Proofs.Ytgpkdfefgcpbiaa.exFoldExpr
