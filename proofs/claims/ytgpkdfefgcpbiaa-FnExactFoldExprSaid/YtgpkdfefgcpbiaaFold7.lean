/-
  FoldExpr, the reference's and the program's. Conditions: the arguments read as trees.
-/
import Derived.Test.YtgpkdfefgcpbiaaValidI3
import Derived.Test.YtgpkdfefgcpbiaaFold6
namespace Go.Proofs.Ytgpkdfefgcpbiaa
set_option linter.unusedVariables false
set_option linter.unusedSimpArgs false
open Go Go.RowKit

/-- What FoldExpr gives. -/
def foldX (p : LProg) (e : LExpr) : LExpr := if exprOk p e then foldE e else ⟨0, 0, []⟩
theorem foldX_sz (p : LProg) (e : LExpr) : szEs (foldX p e).kids ≤ szE e := by
  unfold foldX
  split
  · rw [← szE_kids]; exact foldE_sz e
  · exact Nat.zero_le _
def FoldQ (w : World) (p : LProg) (e : LExpr) (x : Ending) (w' : World) : Prop :=
  ∃ a c S, x = .returned (.tuple #[.agg #[.int .i64 (foldX p e).kind, .int .i64 (foldX p e).value, .slice a (foldX p e).kids.length c], .bool (exprOk p e)]) ∧ KidsO w' (.slice a (foldX p e).kids.length c) (foldX p e).kids S ∧ (∀ b, S b → w.heap.size ≤ b ∧ b < w'.heap.size) ∧ Below w.heap.size w w'

set_option maxHeartbeats 2000000 in
theorem spec_FoldExpr (p : LProg) (e : LExpr) (φ φ' : Nat → Prop) (u v : Value) (w : World) (hp : ProgV w φ u p) (h : ExprV w φ' v e) :
    Calls Try.prog 21 #[u, v] w fun x w' => FoldQ w p e x w' := by
  obtain ⟨v1, v2, v3, rfl, g1, g2, g3⟩ := hp
  obtain ⟨kv, rfl, hk⟩ := h
  have HF : Hid (foldX p e = if exprOk p e then foldE e else ⟨0, 0, []⟩) := rfl
  obtain ⟨W, hW, M⟩ : ∃ W, W = ((w.alloc (.cells #[v1, v2, v3] 31)).alloc (.cells #[.int .i64 e.kind, .int .i64 e.value, kv] 41)).alloc (.cells #[.int .i64 0, .int .i64 0, .slice none 0 0] 41) ∧
      Mem (fun _ => True) (fun _ => True) w W [.box w.heap.size [v1, v2, v3], .box (w.heap.size + 1) [.int .i64 e.kind, .int .i64 e.value, kv], .box (w.heap.size + 1 + 1) [.int .i64 0, .int .i64 0, .slice none 0 0]] :=
    ⟨_, rfl, (((Mem.start fun _ _ => trivial).box _ _).box' _ _ (by simp)).box' _ _ (by simp)⟩
  have HE := show Hid (∀ W', Below w.heap.size w W' → ExprV W' φ' (.agg #[.int .i64 e.kind, .int .i64 e.value, kv]) e ∧ ProgV W' φ (.agg #[v1, v2, v3]) p) from fun W' k =>
    ⟨⟨kv, rfl, KidsV.nice _ _ _ _ _ _ (Agr.below k) hk⟩, ProgV.nice _ _ _ _ _ _ (Agr.below k) ⟨v1, v2, v3, rfl, g1, g2, g3⟩⟩
  clear hk g1 g2 g3
  have x0 := M.c 0 0 rfl rfl
  have x1 := M.c 0 1 rfl rfl
  have x2 := M.c 0 2 rfl rfl
  have y0 := M.c 1 0 rfl rfl
  have y1 := M.c 1 1 rfl rfl
  have y2 := M.c 1 2 rfl rfl
  have HM := show Hid _ from M
  rw [hW] at x0 x1 x2 y0 y1 y2
  clear M
  go_enter Try.func21, Try.ntmps21
  go_wp2_with fail
  rw [← hW]
  clear hW x0 x1 x2 y0 y1 y2
  have M := HM.out
  clear HM
  refine (spec_ExprValid p e φ φ' _ _ _ (HE.out _ (M.below fun _ _ => trivial)).2 (HE.out _ (M.below fun _ _ => trivial)).1).mono ?_
  rintro x w1 ⟨rfl, b1⟩
  replace M := M.call b1
  clear b1
  cases hv : exprOk p e
  · have HV := show Hid _ from hv
    have HN : Hid (foldX p e = ⟨0, 0, []⟩) := by rw [Hid, HF.out, hv]; rfl
    have d0 := M.c 2 0 rfl rfl
    have d1 := M.c 2 1 rfl rfl
    have d2 := M.c 2 2 rfl rfl
    have ff := M.f 2 rfl
    have HM := show Hid _ from ((M.set 2 rfl 0 (.int .i64 0)).set 2 rfl 1 (.int .i64 0)).set 2 rfl 2 (.slice none 0 0)
    clear M hv
    go_wp2_with fail
    have M2 := HM.out
    have r0 : World.cell? _ ⟨w.heap.size + 1 + 1, 0, none⟩ = some (.int .i64 0) := M2.c 2 0 rfl rfl
    have r1 : World.cell? _ ⟨w.heap.size + 1 + 1, 1, none⟩ = some (.int .i64 0) := M2.c 2 1 rfl rfl
    have r2 : World.cell? _ ⟨w.heap.size + 1 + 1, 2, none⟩ = some (.slice none 0 0) := M2.c 2 2 rfl rfl
    refine bodyPost_ret (v := .tuple #[.agg #[.int .i64 0, .int .i64 0, .slice none 0 0], .bool false]) (by simp [results, Try.results21, go_sem, r0, r1, r2]) rfl ?_
    show FoldQ w p e _ _
    unfold FoldQ
    rw [HN.out, HV.out]
    exact ⟨none, 0, fun _ => False, rfl, KidsO.nil _ _, fun _ h => h.elim, M2.below fun _ _ => trivial⟩
  · have HV := show Hid _ from hv
    have HN : Hid (foldX p e = foldE e) := by rw [Hid, HF.out, hv]; rfl
    have HG := show Hid (goodE e = true) from by
      unfold exprOk rightB at hv
      simp only [Bool.and_eq_true] at hv
      exact good_shape _ _ _ _ hv.2.1
    have y0 := M.c 1 0 rfl rfl
    have y1 := M.c 1 1 rfl rfl
    have y2 := M.c 1 2 rfl rfl
    have HM := show Hid _ from M
    clear M hv
    go_wp2_with fail
    have M := HM.out
    clear HM y0 y1 y2
    refine (spec_l8Fold e HG.out φ' _ _ (HE.out _ (M.below fun _ _ => trivial)).1).mono ?_
    rintro x w2 ⟨a7, c7, T, rfl, hO, hT, b2⟩
    replace M := M.callO b2 (S := T) (R := fun w => KidsO w (.slice a7 (foldE e).kids.length c7) (foldE e).kids T) (fun _ _ h hs => KidsO.same h hs) hO hT
    clear b2 hO hT
    have d0 := M.c 2 0 rfl rfl
    have d1 := M.c 2 1 rfl rfl
    have d2 := M.c 2 2 rfl rfl
    have ff := M.f 2 rfl
    have HM := show Hid _ from ((M.set 2 rfl 0 (.int .i64 (foldE e).kind)).set 2 rfl 1 (.int .i64 (foldE e).value)).set 2 rfl 2 (.slice a7 (foldE e).kids.length c7)
    clear M
    go_wp2_with fail
    have M2 := HM.out
    have r0 : World.cell? _ ⟨w.heap.size + 1 + 1, 0, none⟩ = some (.int .i64 (foldE e).kind) := M2.c 2 0 rfl rfl
    have r1 : World.cell? _ ⟨w.heap.size + 1 + 1, 1, none⟩ = some (.int .i64 (foldE e).value) := M2.c 2 1 rfl rfl
    have r2 : World.cell? _ ⟨w.heap.size + 1 + 1, 2, none⟩ = some (.slice a7 (foldE e).kids.length c7) := M2.c 2 2 rfl rfl
    refine bodyPost_ret (v := .tuple #[.agg #[.int .i64 (foldE e).kind, .int .i64 (foldE e).value, .slice a7 (foldE e).kids.length c7], .bool true]) (by simp [results, Try.results21, go_sem, r0, r1, r2]) rfl ?_
    show FoldQ w p e _ _
    unfold FoldQ
    rw [HN.out, HV.out]
    exact ⟨a7, c7, T, rfl, M2.o 3 rfl, fun b hb => ⟨(M2.ge _ b (List.mem_of_getElem? (i := 3) rfl) hb).elim (fun h => h) fun h => absurd trivial h, M2.lt (List.mem_of_getElem? (i := 3) rfl) hb⟩, M2.below fun _ _ => trivial⟩

set_option maxHeartbeats 2000000 in
theorem impl_FoldExpr (p : LProg) (e : LExpr) (φ φ' : Nat → Prop) (u v : Value) (w : World) (hp : ProgV w φ u p) (h : ExprV w φ' v e) :
    Calls Try.prog 23 #[u, v] w fun x w' => FoldQ w p e x w' := by
  obtain ⟨v1, v2, v3, rfl, g1, g2, g3⟩ := hp
  obtain ⟨kv, rfl, hk⟩ := h
  have HF : Hid (foldX p e = if exprOk p e then foldE e else ⟨0, 0, []⟩) := rfl
  obtain ⟨W, hW, M⟩ : ∃ W, W = ((w.alloc (.cells #[v1, v2, v3] 31)).alloc (.cells #[.int .i64 e.kind, .int .i64 e.value, kv] 41)).alloc (.cells #[.int .i64 0, .int .i64 0, .slice none 0 0] 41) ∧
      Mem (fun _ => True) (fun _ => True) w W [.box w.heap.size [v1, v2, v3], .box (w.heap.size + 1) [.int .i64 e.kind, .int .i64 e.value, kv], .box (w.heap.size + 1 + 1) [.int .i64 0, .int .i64 0, .slice none 0 0]] :=
    ⟨_, rfl, (((Mem.start fun _ _ => trivial).box _ _).box' _ _ (by simp)).box' _ _ (by simp)⟩
  have HE := show Hid (∀ W', Below w.heap.size w W' → ExprV W' φ' (.agg #[.int .i64 e.kind, .int .i64 e.value, kv]) e ∧ ProgV W' φ (.agg #[v1, v2, v3]) p) from fun W' k =>
    ⟨⟨kv, rfl, KidsV.nice _ _ _ _ _ _ (Agr.below k) hk⟩, ProgV.nice _ _ _ _ _ _ (Agr.below k) ⟨v1, v2, v3, rfl, g1, g2, g3⟩⟩
  clear hk g1 g2 g3
  have x0 := M.c 0 0 rfl rfl
  have x1 := M.c 0 1 rfl rfl
  have x2 := M.c 0 2 rfl rfl
  have y0 := M.c 1 0 rfl rfl
  have y1 := M.c 1 1 rfl rfl
  have y2 := M.c 1 2 rfl rfl
  have HM := show Hid _ from M
  rw [hW] at x0 x1 x2 y0 y1 y2
  clear M
  go_enter Try.func23, Try.ntmps23
  go_wp2_with fail
  rw [← hW]
  clear hW x0 x1 x2 y0 y1 y2
  have M := HM.out
  clear HM
  refine (impl_ExprValid p e φ φ' _ _ _ (HE.out _ (M.below fun _ _ => trivial)).2 (HE.out _ (M.below fun _ _ => trivial)).1).mono ?_
  rintro x w1 ⟨rfl, b1⟩
  replace M := M.call b1
  clear b1
  cases hv : exprOk p e
  · have HV := show Hid _ from hv
    have HN : Hid (foldX p e = ⟨0, 0, []⟩) := by rw [Hid, HF.out, hv]; rfl
    have d0 := M.c 2 0 rfl rfl
    have d1 := M.c 2 1 rfl rfl
    have d2 := M.c 2 2 rfl rfl
    have ff := M.f 2 rfl
    have HM := show Hid _ from ((M.set 2 rfl 0 (.int .i64 0)).set 2 rfl 1 (.int .i64 0)).set 2 rfl 2 (.slice none 0 0)
    clear M hv
    go_wp2_with fail
    have M2 := HM.out
    have r0 : World.cell? _ ⟨w.heap.size + 1 + 1, 0, none⟩ = some (.int .i64 0) := M2.c 2 0 rfl rfl
    have r1 : World.cell? _ ⟨w.heap.size + 1 + 1, 1, none⟩ = some (.int .i64 0) := M2.c 2 1 rfl rfl
    have r2 : World.cell? _ ⟨w.heap.size + 1 + 1, 2, none⟩ = some (.slice none 0 0) := M2.c 2 2 rfl rfl
    refine bodyPost_ret (v := .tuple #[.agg #[.int .i64 0, .int .i64 0, .slice none 0 0], .bool false]) (by simp [results, Try.results23, go_sem, r0, r1, r2]) rfl ?_
    show FoldQ w p e _ _
    unfold FoldQ
    rw [HN.out, HV.out]
    exact ⟨none, 0, fun _ => False, rfl, KidsO.nil _ _, fun _ h => h.elim, M2.below fun _ _ => trivial⟩
  · have HV := show Hid _ from hv
    have HN : Hid (foldX p e = foldE e) := by rw [Hid, HF.out, hv]; rfl
    have HG := show Hid (goodE e = true) from by
      unfold exprOk rightB at hv
      simp only [Bool.and_eq_true] at hv
      exact good_shape _ _ _ _ hv.2.1
    have y0 := M.c 1 0 rfl rfl
    have y1 := M.c 1 1 rfl rfl
    have y2 := M.c 1 2 rfl rfl
    have HM := show Hid _ from M
    clear M hv
    go_wp2_with fail
    have M := HM.out
    clear HM y0 y1 y2
    refine (impl_fold e HG.out φ' _ _ (HE.out _ (M.below fun _ _ => trivial)).1).mono ?_
    rintro x w2 ⟨a7, c7, T, rfl, hO, hT, b2⟩
    replace M := M.callO b2 (S := T) (R := fun w => KidsO w (.slice a7 (foldE e).kids.length c7) (foldE e).kids T) (fun _ _ h hs => KidsO.same h hs) hO hT
    clear b2 hO hT
    have d0 := M.c 2 0 rfl rfl
    have d1 := M.c 2 1 rfl rfl
    have d2 := M.c 2 2 rfl rfl
    have ff := M.f 2 rfl
    have HM := show Hid _ from ((M.set 2 rfl 0 (.int .i64 (foldE e).kind)).set 2 rfl 1 (.int .i64 (foldE e).value)).set 2 rfl 2 (.slice a7 (foldE e).kids.length c7)
    clear M
    go_wp2_with fail
    have M2 := HM.out
    have r0 : World.cell? _ ⟨w.heap.size + 1 + 1, 0, none⟩ = some (.int .i64 (foldE e).kind) := M2.c 2 0 rfl rfl
    have r1 : World.cell? _ ⟨w.heap.size + 1 + 1, 1, none⟩ = some (.int .i64 (foldE e).value) := M2.c 2 1 rfl rfl
    have r2 : World.cell? _ ⟨w.heap.size + 1 + 1, 2, none⟩ = some (.slice a7 (foldE e).kids.length c7) := M2.c 2 2 rfl rfl
    refine bodyPost_ret (v := .tuple #[.agg #[.int .i64 (foldE e).kind, .int .i64 (foldE e).value, .slice a7 (foldE e).kids.length c7], .bool true]) (by simp [results, Try.results23, go_sem, r0, r1, r2]) rfl ?_
    show FoldQ w p e _ _
    unfold FoldQ
    rw [HN.out, HV.out]
    exact ⟨a7, c7, T, rfl, M2.o 3 rfl, fun b hb => ⟨(M2.ge _ b (List.mem_of_getElem? (i := 3) rfl) hb).elim (fun h => h) fun h => absurd trivial h, M2.lt (List.mem_of_getElem? (i := 3) rfl) hb⟩, M2.below fun _ _ => trivial⟩

end Go.Proofs.Ytgpkdfefgcpbiaa
