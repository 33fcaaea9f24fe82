/-
  LThreadTwice: the statement, whatever the argument. Conditions: none beyond the statement's own.
-/
import Derived.Test.YthikdkjjdeehoaaK5
import Derived.Test.YthikdkjjdeehoaaEnter1M
import Derived.Test.YthikdkjjdeehoaaEnter2M
import Derived.Test.YthikdkjjdeehoaaEnter3M
set_option maxRecDepth 100000
set_option maxHeartbeats 16000000
namespace Go.Proofs.Ythikdkjjdeehoaa.exLThreadTwice
set_option linter.unusedVariables false
set_option linter.unusedSimpArgs false
open Go Go.RowKit Go.Proofs.Ythikdkjjdeehoaa
theorem aY2 (c : f7) (h : n9 c = true) : (B3 c).list.length = c.list.length := by
 unfold B3; rw [if_pos h]; unfold s4; simp
theorem a77 {c : f7} (h : n9 c = true) : n9 (B3 c) = true := by
 unfold B3; rw [if_pos h]; exact aY1 h
theorem aS8 (c : f7) : B3 (B3 c) = B3 c := by
 cases h : n9 c with
 | true =>
  have h2 : n9 (s4 c) = true := aY1 h
  have e : B3 c = s4 c := by unfold B3; rw [if_pos h]
  rw [e]; unfold B3; rw [if_pos h2]; exact a76 h
 | false =>
  have e : B3 c = ⟨[], [], []⟩ := by unfold B3; rw [if_neg (by rw [h]; decide)]
  rw [e]; unfold B3; split <;> rfl
abbrev thQ (f : FuncId) (c d : f7) (b : Bool) : p7 := ⟨f, [.agg [.ref 0, .ref 1, .ref 2]], [.dat (.ints c.vars), .dat (.ints c.arrays), .dat (.instrs c.list)], [.dat (.ints c.vars), .dat (.ints c.arrays), .dat (.instrs c.list), .row 3 (.ints d.vars), .row 3 (.ints d.arrays), .row 38 (.instrs d.list)], .tup [.agg [.ref 3, .ref 4, .ref 5], bA b]⟩
theorem aY5 {c : f7} {b : Bool} (h : n9 c = b) : p7.ok Try.prog (thQ 5 c (B3 c) b) := h ▸ aR9 fun v w h => aj2 v c w h
theorem bc7 {c : f7} {b : Bool} (h : n9 (B3 c) = b) : p7.ok Try.prog (thQ 5 (B3 c) (B3 c) b) := by
 have h := aY5 h
 rwa [aS8] at h
theorem aY4 {c : f7} {b : Bool} (h : n9 c = b) : p7.ok Try.prog (thQ 6 c (B3 c) b) := h ▸ aR9 fun v w h => ai7 v c w h
abbrev A3 (c : List UInt8) (r0 : List It) : List It := .row 3 (D.ints (B3 (Q7 c)).vars) :: .row 3 (D.ints (B3 (Q7 c)).arrays) :: .row 38 (D.instrs (B3 (Q7 c)).list) :: r0
abbrev G0 (c : List UInt8) (r0 : List It) : List It := dY c :: .row 3 (D.ints (Q7 c).vars) :: .row 3 (D.ints (Q7 c).arrays) :: .row 38 (D.instrs (Q7 c).list) :: .box (pL 1) :: r0
theorem be1 (c : List UInt8) (hc : n9 (Q7 c) = true) : p7.ok Try.prog ⟨3, [.ref 0], [dY c], [dY c], bA true⟩ := by
 have t1 := aY5 hc; have t2 := aY4 hc; have t3 := bc7 (a77 hc); have t5 := aY2 (Q7 c) hc; refine m8 59 Try.func3 (by rfl) (by kernel_rfl) (by kernel_rfl) ?_; intro ι φ ψ w0 w F ρ0 ρ a G; replace G := p6.at G [dY c] [(0, .ref 0)]; refine wp_seq ?_; refine l0 G [(0, .ref 0), (2, bA false)] fun ρ a w G => b9 (wp_seq (wp_seq ?_)); refine l0 G [(0, .ref 0), (2, bA false), (12, bA (decide ((↑c.length : Int) > 1048576)))] fun ρ a w G => b9 ?_; cases h0 : (decide ((↑c.length : Int) > (1048576 : Int)))
 ·have q0 := Y9 h0; refine rF G _ h0 ?_; refine wp_skip (b9 (wp_seq ?_)); refine v5 (dk := p5) G ⟨[(1, _, [0])], [], []⟩ (b6 (ag8 (c)) b0) trivial [0, 9, 10, 11, 17] (G0 c []) [(2, bA false), (3, .ptr 4 0)] [] trivial fun ρ a w G => b9 (wp_seq ?_); refine v5 (dk := p5) G ⟨[(1, _, [1, 2, 3])], [], []⟩ (b6 (p7.lend (t1) [.row 3, .row 3, .row 38]) b0) trivial [0, 1, 2, 3, 4, 13, 14, 15, 45] (G0 c (A3 c [.box (pL 5)])) [(2, bA false), (3, .ptr 4 0), (4, .ptr 8 0), (5, bA true)] [] trivial fun ρ a w G => b9 (wp_seq ?_); refine v5 (dk := p5) G ⟨[(1, _, [1, 2, 3])], [], []⟩ (b6 (p7.lend (t2) [.row 3, .row 3, .row 38]) b0) trivial [0, 1, 2, 3, 4, 5, 6, 7, 8, 17, 18, 19, 49] (G0 c (A3 c (.box (pL 5) :: (A3 c [.box (pL 9)])))) [(2, bA false), (3, .ptr 4 0), (4, .ptr 8 0), (5, bA true), (6, .ptr 12 0), (7, bA true)] [] trivial fun ρ a w G => b9 (wp_seq ?_); refine v5 (dk := p5) G ⟨[(1, _, [5, 6, 7])], [], []⟩ (b6 (p7.lend (t3) [.row 3, .row 3, .row 38]) b0) trivial [0, 1, 2, 3, 4, 5, 6, 7, 8, 9, 10, 11, 12, 21, 22, 23, 53] (G0 c (A3 c (.box (pL 5) :: (A3 c (.box (pL 9) :: (A3 c [.box (pL 13)])))))) [(2, bA false), (3, .ptr 4 0), (4, .ptr 8 0), (5, bA true), (6, .ptr 12 0), (7, bA true), (8, .ptr 16 0), (9, bA true)] [] trivial fun ρ a w G => b9 (wp_seq ?_); refine v5 (dk := p5) G ⟨[(6, _, [5, 6, 7, 9, 10, 11]), (16, _, [13, 14, 15, 5, 6, 7])], [(true, true), (false, false)], us [(4, 6, 0), (1007, 1007, 0), (9, 11, 0), (12, 13, 1), (14, 16, 0), (17, 17, 1), (1017, 1017, 0), (18, 18, 1), (19, 25, 0), (26, 26, 1), (1026, 1026, 0), (27, 27, 0), (1027, 1027, 1), (1028, 1028, 0)]⟩ (b6 (p7.lend (Z4 ((B3 (Q7 c)).vars) ((B3 (Q7 c)).arrays) ((B3 (Q7 c)).list)) [.row 3, .row 3, .row 38, .row 3, .row 3, .row 38]) (b6 (p7.lend (Z4 ((B3 (Q7 c)).vars) ((B3 (Q7 c)).arrays) ((B3 (Q7 c)).list)) [.row 3, .row 3, .row 38, .row 3, .row 3, .row 38]) b0)) ⟨(by kernel_rfl), (by kernel_rfl), trivial⟩ [0] [dY c] [(2, bA ((↑(B3 (Q7 c)).list.length : Int) == (↑(Q7 c).list.length : Int)))] [] trivial fun ρ a w G => b9 (wp_ret ?_); exact i7 (v := bA ((↑(B3 (Q7 c)).list.length : Int) == (↑(Q7 c).list.length : Int))) G [0] (by kernel_rfl) (by kernel_rfl) (by kernel_rfl) (by have e1 : (true : Bool) = ((↑(B3 (Q7 c)).list.length : Int) == (↑(Q7 c).list.length : Int)) := (by simp; omega); (first | rw [e1] | simp only [e1]) <;> rfl)
 ·have q0 := Y8 h0; refine rT G _ h0 ?_; refine wp_seq ?_; refine l0 G [(0, .ref 0), (2, bA true)] fun ρ a w G => b9 (wp_ret (H5 ?_)); exact i7 (v := bA true) G [0] (by kernel_rfl) (by kernel_rfl) (by kernel_rfl) (by kernel_rfl)
abbrev A2 (c : List UInt8) (r0 : List It) : List It := .row 3 (D.ints (B3 (Q7 c)).vars) :: .row 3 (D.ints (B3 (Q7 c)).arrays) :: .row 38 (D.instrs (B3 (Q7 c)).list) :: r0
abbrev F9 (c : List UInt8) (r0 : List It) : List It := dY c :: .row 3 (D.ints (Q7 c).vars) :: .row 3 (D.ints (Q7 c).arrays) :: .row 38 (D.instrs (Q7 c).list) :: .box (pL 1) :: r0
theorem be2 (c : List UInt8) (hc : n9 (Q7 c) = false) : p7.ok Try.prog ⟨3, [.ref 0], [dY c], [dY c], bA true⟩ := by
 have t1 := aY5 hc; have t2 := aY4 hc; have t3 := bc7 (c := Q7 c) rfl; refine m8 59 Try.func3 (by rfl) (by kernel_rfl) (by kernel_rfl) ?_; intro ι φ ψ w0 w F ρ0 ρ a G; replace G := p6.at G [dY c] [(0, .ref 0)]; refine wp_seq ?_; refine l0 G [(0, .ref 0), (2, bA false)] fun ρ a w G => b9 (wp_seq (wp_seq ?_)); refine l0 G [(0, .ref 0), (2, bA false), (12, bA (decide ((↑c.length : Int) > 1048576)))] fun ρ a w G => b9 ?_; cases h0 : (decide ((↑c.length : Int) > (1048576 : Int)))
 ·have q0 := Y9 h0; refine rF G _ h0 ?_; refine wp_skip (b9 (wp_seq ?_)); refine v5 (dk := p5) G ⟨[(1, _, [0])], [], []⟩ (b6 (ag8 (c)) b0) trivial [0, 9, 10, 11, 17] (F9 c []) [(2, bA false), (3, .ptr 4 0)] [] trivial fun ρ a w G => b9 (wp_seq ?_); refine v5 (dk := p5) G ⟨[(1, _, [1, 2, 3])], [], []⟩ (b6 (p7.lend (t1) [.row 3, .row 3, .row 38]) b0) trivial [0, 1, 2, 3, 4, 13, 14, 15, 45] (F9 c (A2 c [.box (pL 5)])) [(2, bA false), (3, .ptr 4 0), (4, .ptr 8 0), (5, bA false)] [] trivial fun ρ a w G => b9 (wp_seq ?_); refine v5 (dk := p5) G ⟨[(1, _, [1, 2, 3])], [], []⟩ (b6 (p7.lend (t2) [.row 3, .row 3, .row 38]) b0) trivial [0, 1, 2, 3, 4, 5, 6, 7, 8, 17, 18, 19, 49] (F9 c (A2 c (.box (pL 5) :: (A2 c [.box (pL 9)])))) [(2, bA false), (3, .ptr 4 0), (4, .ptr 8 0), (5, bA false), (6, .ptr 12 0), (7, bA false)] [] trivial fun ρ a w G => b9 (wp_seq ?_); refine v5 (dk := p5) G ⟨[(1, _, [5, 6, 7])], [], []⟩ (b6 (p7.lend (t3) [.row 3, .row 3, .row 38]) b0) trivial [0, 1, 2, 3, 4, 5, 6, 7, 8, 9, 10, 11, 12, 21, 22, 23, 53] (F9 c (A2 c (.box (pL 5) :: (A2 c (.box (pL 9) :: (A2 c [.box (pL 13)])))))) [(2, bA false), (3, .ptr 4 0), (4, .ptr 8 0), (5, bA false), (6, .ptr 12 0), (7, bA false), (8, .ptr 16 0), (9, bA (n9 (B3 (Q7 c))))] [] trivial fun ρ a w G => b9 (wp_seq ?_); refine v5 (dk := p5) G ⟨[(6, _, [5, 6, 7, 9, 10, 11])], [(true, true)], us [(4, 6, 0), (1007, 1007, 0), (9, 13, 0), (17, 18, 0), (26, 27, 0), (1027, 1028, 0)]⟩ (b6 (p7.lend (Z4 ((B3 (Q7 c)).vars) ((B3 (Q7 c)).arrays) ((B3 (Q7 c)).list)) [.row 3, .row 3, .row 38, .row 3, .row 3, .row 38]) b0) ⟨(by kernel_rfl), trivial⟩ [0] [dY c] [(2, bA true)] [] trivial fun ρ a w G => b9 (wp_ret ?_); exact i7 (v := bA true) G [0] (by kernel_rfl) (by kernel_rfl) (by kernel_rfl) (by kernel_rfl)
 ·have q0 := Y8 h0; refine rT G _ h0 ?_; refine wp_seq ?_; refine l0 G [(0, .ref 0), (2, bA true)] fun ρ a w G => b9 (wp_ret (H5 ?_)); exact i7 (v := bA true) G [0] (by kernel_rfl) (by kernel_rfl) (by kernel_rfl) (by kernel_rfl)
theorem bm5 (c : List UInt8) : p7.ok Try.prog ⟨3, [.ref 0], [dY c], [dY c], bA true⟩ := by
 cases h : n9 (Q7 c) with
 | true => exact be1 c h
 | false => exact be2 c h
theorem bn4 (u : Value) (c : List UInt8) (w : World) (hp : H8 w u c.length 1 (u8s c)) : Calls Try.prog 3 #[u] w fun e w' => e = .returned (.bool true) ∧ Below w.heap.size w w' :=
 aV9 (bm5 c) u w (hp.rowF fun _ _ => trivial)
end Go.Proofs.Ythikdkjjdeehoaa.exLThreadTwice

namespace Go.Proofs.Ythikdkjjdeehoaa.exLThreadTwice
set_option linter.unusedVariables false
set_option linter.unusedSimpArgs false
open Go Go.RowKit Go.ChangeShapes Go.WideShapes Go.ChangeAt Go.Proofs.Ythikdkjjdeehoaa
theorem lifted (os : Os) (started : os.Started) (H : Type) (enc : TypeId × Value → H) :
  ReturnsInHanded {} Try.checked os 3 .any (Rows.fnThreadTwiceSpec.pre6 enc Try.prog Try.f3 Rows.fnThreadTwiceRow.domain false) (Rows.fnThreadTwiceSpec.post enc Try.prog Try.f3 false true false false) := by
 refine returnsInHanded_of_change (C := Try.checked) own started (by kernel_rfl) Try.func3
  (ChangeSpec.witness6 (enc := enc) (C := Try.checked) false ⟨#[], #[.slice none 0 0], []⟩ 8 (by kernel_rfl) (by kernel_rfl) (by kernel_rfl) (by kernel_rfl)) ?_
 intro W base args ds gs before hval0 hW hcnd _
 have hval : ∀ (j : Nat) t v, Try.f3.params[j]? = some t → args[j]? = some v → Value.okWide Try.prog W .any base t v := hval0
 have hW' := hW
 obtain ⟨p, q, hA0, hV, rfl, hfz, hnd⟩ := hW
 have hA : DataW.TrodAll enc Try.prog W 0 (fun _ => true) true Try.f3.params.toList args.toList ds p := hA0
 rw [Try.params3] at hA hval
 obtain ⟨v0, vs0, d0, ds0, p0, q0, hargs, rfl, rfl, h0, r0⟩ := trodAll_cons hA
 obtain ⟨rfl, rfl, rfl⟩ := trodAll_nil r0
 obtain rfl : args = #[v0] := by cases args; simp_all
 obtain ⟨rfl, rfl⟩ := trodVars_none hV
 have k0 := h0
 have lt0 : ∀ x ∈ p0, x.block < W.heap.size := by obtain ⟨m, hm⟩ := k0; exact DataW.trod_lt m _ _ _ hm
 obtain ⟨a0, len0, cap0, rfl⟩ := okWide_slice Try.underlying22 (hval 0 22 v0 rfl rfl)
 obtain ⟨x0, hx0⟩ : ∃ l : List UInt8, H8 W (.slice a0 len0 cap0) l.length 1 (u8s l) := by
  obtain ⟨fuel, hf⟩ := h0
  exact av7 Try.underlying22 hf
 clear hA0 hval0
 refine (bn4 _ x0 W hx0).mono fun e W' ⟨he, bel⟩ => ?_
 subst he
 exact ⟨_, rfl, _, _, _, [], _, [], hW', trodAll_mk1 (shut_bool Try.underlying4 _), (trodAll_cons_mk (Below.trod ba6 (by kernel_rfl) (of_decide_eq_true (by kernel_rfl)) k0 bel lt0) trodAll_mk0), rfl, bel.frame _, fun h => by cases h⟩
theorem facts : joinedFacts Try.pinned.checked.prog 3 Try.f3 Rows.fnThreadTwiceSpec Rows.fnThreadTwiceRow = true := by
 unfold joinedFacts
 rw [may_enter, lifts_final, make_is]
 kernel_rfl
theorem over : Rows.fnThreadTwiceRow.holds Try.pinned (OpenSpec.ofChange Rows.fnThreadTwiceSpec) :=
 OpenClaim.holds_of_wide 3 Try.f3 rfl rfl rfl rfl rfl rfl rfl ⟨rfl, rfl, rfl, rfl, rfl⟩ rfl rfl rfl rfl rfl (by kernel_rfl) Try.func3 facts
  (of_decide_eq_true (by kernel_rfl)) (by unfold Func.isWrapper; first | (rw [if_pos (by decide +kernel)]; kernel_rfl) | (rw [if_neg (by decide +kernel)]; exact ⟨rfl, rfl⟩))
  (fun os started H enc _ => lifted os started H enc)
theorem proved : Rows.FnThreadTwiceSaid := over
end Go.Proofs.Ythikdkjjdeehoaa.exLThreadTwice
