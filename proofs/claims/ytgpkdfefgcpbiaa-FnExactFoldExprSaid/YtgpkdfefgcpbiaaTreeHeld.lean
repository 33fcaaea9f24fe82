/-
  Marks found on trees again: the laws' helpers heldExpr. Conditions: the argument reads as a marked tree.
-/
import Derived.Test.YtgpkdfefgcpbiaaTreeMark
namespace Go.Proofs.Ytgpkdfefgcpbiaa
set_option linter.unusedVariables false
set_option linter.unusedSimpArgs false
open Go Go.RowKit

theorem markExprS_all (ks : List LExpr) (v : Value) (k0 : Int) (w : World) (S : Nat → Prop) (h : KidsO w v ks S) (hk0 : 0 ≤ k0) (hkb : k0 + 2 * szEs ks ≤ 9000000000000000000) :
    Calls Try.prog 80 #[v, .int .i64 k0] w fun x w' => x = .returned (.int .i64 (k0 + 2 * szEs ks)) ∧ KidsO w' v (mkEs ks k0) S ∧ Kept (fun b => ¬ S b) w w' :=
  markExprS_of ks (fun e _ => LExpr.ind (P := MkE') (fun _ _ ks ih v k w S h h0 hb => markExprS_of ks ih v k w S h h0 hb) e) v k0 w S h hk0 hkb

def HeldE (e : LExpr) : Prop := ∀ (φ : Nat → Prop) (v : Value) (k : Int) (w : World), KidsV w φ v (mkEs e.kids k) → 0 ≤ k → k + 2 * szEs e.kids ≤ 9000000000000000000 →
  Calls Try.prog 81 #[v, .int .i64 k] w fun x w' => x = .returned (.int .i64 (k + 2 * szEs e.kids)) ∧ Below w.heap.size w w'

set_option maxHeartbeats 2000000 in
theorem heldExprS_of (ks : List LExpr) (ih : ∀ e ∈ ks, HeldE e) (φ : Nat → Prop) (v : Value) (k0 : Int) (w : World) (h : KidsV w φ v (mkEs ks k0)) (hk0 : 0 ≤ k0) (hkb : k0 + 2 * szEs ks ≤ 9000000000000000000) :
    Calls Try.prog 81 #[v, .int .i64 k0] w fun x w' => x = .returned (.int .i64 (k0 + 2 * szEs ks)) ∧ Below w.heap.size w w' := by
  obtain ⟨a, cap, rfl, -, hn, -, hc⟩ := h.open
  rw [mkEs_len] at hn ⊢
  have HC := show Hid _ from hc
  clear hc h
  go_enter Try.func81, Try.ntmps81
  go_wp2_with fail
  go_loopw [1, 5] (fun q i wr => ∃ (j : Nat) (y : Int), j ≤ ks.length ∧ i = .int .i64 j ∧ q = .int .i64 y ∧ y = k0 + 2 * szEs (ks.take j) ∧ Below w.heap.size w wr) (fun _ i _ => ks.length - (intOf i).toNat)
  case atStart => exact ⟨0, k0, Nat.zero_le _, rfl, rfl, by simp [szEs], Below.refl _ _⟩
  case round =>
    obtain ⟨j, y, hj, rfl, rfl, hy, hb⟩ := hrel
    have HY := show Hid _ from hy
    have HB := show Hid _ from hb
    clear hy hb
    by_cases hlt : j < ks.length
    · have h1 := szEs_take1 hlt
      have h2 := szEs_drop ks (j + 1)
      have hy0 : 0 ≤ y := by have := HY.out; omega
      have hy1 : y + 2 + 2 * szE ks[j] ≤ 9000000000000000000 := by have := HY.out; omega
      have hge := mkEs_get ks k0 j hlt
      rw [← HY.out, List.getElem?_eq_getElem (by rw [mkEs_len]; exact hlt)] at hge
      have hge' := Option.some.inj hge
      obtain ⟨b, off, kv, rfl, hbk, hf, c0, c1, c2, hkv⟩ := HC.out j (by rw [mkEs_len]; exact hlt)
      rw [hge'] at c0 c1 hkv
      rw [← (bcell HB.out).1 _ _ hbk] at c0 c1 c2
      have hkids : szEs ks[j].kids = szE ks[j] := (by cases ks[j]; rfl)
      have d0 : (mkE ks[j] y).kind = y := by cases ks[j]; rfl
      have d1 : (mkE ks[j] y).value = y + 1 := by cases ks[j]; rfl
      have d2 : (mkE ks[j] y).kids = mkEs ks[j].kids (y + 2) := by cases ks[j]; rfl
      rw [d0] at c0
      rw [d1] at c1
      rw [d2] at hkv
      have HK := show Hid (KidsV wr φ kv (mkEs ks[j].kids (y + 1 + 1))) from by rw [show y + 1 + 1 = y + 2 by omega]; exact KidsV.nice _ _ _ _ _ _ (Agr.below HB.out) hkv
      have HH := show Hid _ from And.intro h1 h2
      have HKS := show Hid _ from hkids
      clear hkv hge hge' d0 d1 d2 h1 h2 hkids
      go_wp2_with fail
      refine (ih _ (List.getElem_mem hlt) φ kv (y + 1 + 1) _ HK.out (by omega) (by rw [HKS.out]; omega)).mono ?_
      rintro x w2 ⟨rfl, b2⟩
      rw [HKS.out]
      have B2 := show Hid _ from HB.out.trans (b2.mono HB.out.size)
      obtain ⟨z, hz⟩ : ∃ z : Nat, z = szE ks[j] := ⟨_, rfl⟩
      have HZ := show Hid _ from hz
      have hsz0 : (0 : Int) ≤ (z : Int) := by omega
      rw [← hz] at hy1 ⊢
      clear hz b2
      go_wp2_with fail
      exact ⟨⟨j + 1, _, by omega, by go_num, rfl, by rw [HH.out.1, HY.out, ← HZ.out]; omega, B2.out⟩, by simp [intOf]; omega⟩
    · have hjn : j = ks.length := by omega
      subst hjn
      go_wp2_with fail
      go_ret
      exact ⟨ret_int (by have := HY.out; rw [List.take_of_length_le (Nat.le_refl _)] at this; exact this), HB.out⟩
theorem heldExprS_all (ks : List LExpr) (φ : Nat → Prop) (v : Value) (k0 : Int) (w : World) (h : KidsV w φ v (mkEs ks k0)) (hk0 : 0 ≤ k0) (hkb : k0 + 2 * szEs ks ≤ 9000000000000000000) :
    Calls Try.prog 81 #[v, .int .i64 k0] w fun x w' => x = .returned (.int .i64 (k0 + 2 * szEs ks)) ∧ Below w.heap.size w w' :=
  heldExprS_of ks (fun e _ => LExpr.ind (P := HeldE) (fun _ _ ks ih φ v k w h h0 hb => heldExprS_of ks ih φ v k w h h0 hb) e) φ v k0 w h hk0 hkb

set_option maxHeartbeats 1000000 in
theorem markExpr_any (k n : Int) (ks : List LExpr) (kv : Value) (k0 : Int) (w : World) (S : Nat → Prop) (h : KidsO w kv ks S) (hk0 : 0 ≤ k0) (hkb : k0 + 2 * szEs ks ≤ 9000000000000000000) :
    Calls Try.prog 26 #[.agg #[.int .i64 k, .int .i64 n, kv], .int .i64 k0] w fun x w' => x = .returned (.int .i64 (k0 + 2 * szEs ks)) ∧ KidsO w' kv (mkEs ks k0) S ∧ Kept (fun b => ¬ S b) w w' := by
  have bx : Below w.heap.size w (w.alloc (.cells #[.int .i64 k, .int .i64 n, kv] 41)) := by go_grown
  have HK := show Hid _ from KidsO.same h fun b _ hl => bx.block b hl
  have HB := show Hid (Kept (fun b => ¬ S b) w (w.alloc (.cells #[.int .i64 k, .int .i64 n, kv] 41))) from Kept.of_below bx fun _ hb _ => hb
  clear h bx
  go_enter Try.func26, Try.ntmps26
  go_wp2_with fail
  refine (markExprS_all ks kv k0 _ S HK.out hk0 hkb).mono ?_
  rintro x w1 ⟨rfl, h1, h2⟩
  go_wp2_with fail
  go_ret
  exact ⟨rfl, h1, HB.out.trans h2⟩

set_option maxHeartbeats 1000000 in
theorem heldExpr_any (φ : Nat → Prop) (k n : Int) (ks : List LExpr) (kv : Value) (k0 : Int) (w : World) (h : KidsV w φ kv (mkEs ks k0)) (hk0 : 0 ≤ k0) (hkb : k0 + 2 * szEs ks ≤ 9000000000000000000) :
    Calls Try.prog 27 #[.agg #[.int .i64 k, .int .i64 n, kv], .int .i64 k0] w fun x w' => x = .returned (.int .i64 (k0 + 2 * szEs ks)) ∧ Below w.heap.size w w' := by
  have bx : Below w.heap.size w (w.alloc (.cells #[.int .i64 k, .int .i64 n, kv] 41)) := by go_grown
  have HK := show Hid _ from KidsV.nice _ _ _ _ _ _ (Agr.below bx) h
  have HB := show Hid _ from bx
  clear h bx
  go_enter Try.func27, Try.ntmps27
  go_wp2_with fail
  refine (heldExprS_all ks φ kv k0 _ HK.out hk0 hkb).mono ?_
  rintro x w1 ⟨rfl, b1⟩
  have hnn : ¬ (k0 + 2 * (szEs ks : Int) < 0) := by omega
  have B1 := show Hid _ from HB.out.trans (b1.mono HB.out.size)
  go_wp2_with fail
  go_ret
  exact ⟨rfl, B1.out⟩

end Go.Proofs.Ytgpkdfefgcpbiaa
