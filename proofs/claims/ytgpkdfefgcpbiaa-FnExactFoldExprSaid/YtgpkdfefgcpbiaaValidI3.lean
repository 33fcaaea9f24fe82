/-
  Validity of expressions, the program's: expr, ExprValid. Conditions: the arguments read as trees.
-/
import Derived.Test.YtgpkdfefgcpbiaaValidI2
namespace Go.Proofs.Ytgpkdfefgcpbiaa
set_option linter.unusedVariables false
set_option linter.unusedSimpArgs false
open Go Go.RowKit

theorem scan_right (nv na : Nat) (e : LExpr) : scanB nv na 5 0 e = rightB nv na e := by
  have h : (0 + 1 + szE e ≤ 15) = (1 + szE e ≤ 15) := by rw [Nat.zero_add]
  unfold scanB rightB
  simp only [h]

set_option maxHeartbeats 1000000 in
theorem impl_expr (a1 a2 : Option Addr) (nv c1 na c2 : Nat) (v3 : Value) (h1 : nv ≤ 9223372036854775807) (h2 : na ≤ 9223372036854775807) (e : LExpr) (φ : Nat → Prop) (v : Value) (w : World) (h : ExprV w φ v e) :
    Calls Try.prog 112 #[.agg #[.slice a1 nv c1, .slice a2 na c2, v3], v] w fun x w' => x = .returned (.bool (rightB nv na e)) ∧ Below w.heap.size w w' := by
  obtain ⟨kv, rfl, hk⟩ := h
  obtain ⟨W, hW, M⟩ : ∃ W, W = ((w.alloc (.cells #[.slice a1 nv c1, .slice a2 na c2, v3] 31)).alloc (.cells #[.int .i64 e.kind, .int .i64 e.value, kv] 41)).alloc (.cells #[.int .i64 0] 3) ∧ Mem (fun _ => True) (fun _ => True) w W [.box w.heap.size [.slice a1 nv c1, .slice a2 na c2, v3], .box (w.heap.size + 1) [.int .i64 e.kind, .int .i64 e.value, kv], .box (w.heap.size + 1 + 1) [.int .i64 0]] :=
    ⟨_, rfl, (((Mem.start fun _ _ => trivial).box _ _).box' _ _ (by simp)).box' _ _ (by simp)⟩
  have hb := M.below fun _ _ => trivial
  have HK := show Hid _ from KidsV.nice _ _ _ _ φ (fun b => φ b ∧ b < w.heap.size) ⟨hb.size, fun b hl hf => ⟨⟨hf, hl⟩, hb.block b hl⟩⟩ hk
  clear hb hk
  have x0 := M.c 0 0 rfl rfl
  have x1 := M.c 0 1 rfl rfl
  have x2 := M.c 0 2 rfl rfl
  have y0 := M.c 1 0 rfl rfl
  have y1 := M.c 1 1 rfl rfl
  have y2 := M.c 1 2 rfl rfl
  have HM := show Hid _ from M
  rw [hW] at x0 x1 x2 y0 y1 y2
  clear M
  go_enter Try.func112, Try.ntmps112
  go_wp2_with fail
  rw [← hW]
  clear hW x0 x1 x2 y0 y1 y2
  refine (impl_scan a1 a2 nv c1 na c2 v3 h1 h2 5 1 (by omega) (by omega) e _ _ 0 _ _ ⟨kv, rfl, HK.out⟩ (fun h => by have := h.2; omega) (HM.out.blk 2 rfl) (by omega)).mono ?_
  rintro x w1 ⟨rfl, -, ⟨u, r2⟩, kp⟩
  rw [scan_right]
  have M := HM.out.callB 2 rfl kp r2
  have HB := show Hid _ from M.below fun _ _ => trivial
  clear kp r2 M
  go_wp2_with fail
  go_ret
  exact ⟨rfl, HB.out⟩

set_option maxHeartbeats 1000000 in
theorem impl_ExprValid (p : LProg) (e : LExpr) (φ φ' : Nat → Prop) (u v : Value) (w : World) (hp : ProgV w φ u p) (h : ExprV w φ' v e) :
    Calls Try.prog 76 #[u, v] w fun x w' => x = .returned (.bool (exprOk p e)) ∧ Below w.heap.size w w' := by
  obtain ⟨v1, v2, v3, rfl, g1, g2, -⟩ := hp
  obtain ⟨kv, rfl, hk⟩ := h
  obtain ⟨a1, c1, rfl, -, hm1, -⟩ := g1.row.open1
  obtain ⟨a2, c2, rfl, -, hm2, -⟩ := g2.row.open1
  have HR : Hid (exprOk p e = (headsB p.vars p.arrays && rightB p.vars.length p.arrays.length e)) := rfl
  obtain ⟨W, hW, M⟩ : ∃ W, W = (w.alloc (.cells #[.slice a1 p.vars.length c1, .slice a2 p.arrays.length c2, v3] 31)).alloc (.cells #[.int .i64 e.kind, .int .i64 e.value, kv] 41) ∧ Mem (fun _ => True) (fun _ => True) w W [.box w.heap.size [.slice a1 p.vars.length c1, .slice a2 p.arrays.length c2, v3], .box (w.heap.size + 1) [.int .i64 e.kind, .int .i64 e.value, kv]] :=
    ⟨_, rfl, ((Mem.start fun _ _ => trivial).box _ _).box' _ _ (by simp)⟩
  have HE := show Hid (∀ W', Below w.heap.size w W' → ExprV W' φ' (.agg #[.int .i64 e.kind, .int .i64 e.value, kv]) e ∧ Row W' (.slice a1 p.vars.length c1) p.vars.length 1 (ints p.vars) ∧ Row W' (.slice a2 p.arrays.length c2) p.arrays.length 1 (ints p.arrays)) from fun W' k => ⟨⟨kv, rfl, KidsV.nice _ _ _ _ _ _ (Agr.below k) hk⟩, g1.row.below k, g2.row.below k⟩
  clear hk g1 g2
  have x0 := M.c 0 0 rfl rfl
  have x1 := M.c 0 1 rfl rfl
  have x2 := M.c 0 2 rfl rfl
  have y0 := M.c 1 0 rfl rfl
  have y1 := M.c 1 1 rfl rfl
  have y2 := M.c 1 2 rfl rfl
  rw [hW] at x0 x1
  go_enter Try.func76, Try.ntmps76
  go_wp2_with fail
  rw [← hW]
  clear hW x0 x1
  refine (impl_declared _ _ p.vars p.arrays _ (HE.out _ (M.below fun _ _ => trivial)).2.1 (HE.out _ (M.below fun _ _ => trivial)).2.2).mono ?_
  rintro x w1 ⟨rfl, rfl⟩
  cases hs : headsB p.vars p.arrays
  · have HB := show Hid _ from M.below fun _ _ => trivial
    have HS := show Hid _ from hs
    clear hs M
    go_wp2_with fail
    go_ret
    exact ⟨ret_bool (by rw [HR.out, HS.out]; rfl), HB.out⟩
  · have HS := show Hid _ from hs
    have x0 := M.c 0 0 rfl rfl
    have x1 := M.c 0 1 rfl rfl
    have HM := show Hid _ from M
    clear hs M
    go_wp2_with fail
    refine (impl_expr a1 a2 _ c1 _ c2 v3 hm1 hm2 e φ' _ _ (HE.out _ (HM.out.below fun _ _ => trivial)).1).mono ?_
    rintro x w2 ⟨rfl, b1⟩
    have HB := show Hid _ from (HM.out.call b1).below fun _ _ => trivial
    clear b1 x0 x1 x2 y0 y1 y2
    go_wp2_with fail
    go_ret
    exact ⟨ret_bool (by rw [HR.out, HS.out]; rfl), HB.out⟩

end Go.Proofs.Ytgpkdfefgcpbiaa
