/-
  LFlowPublic: the statement, whatever the argument. Conditions: none beyond the statement's own.
-/
import Derived.Test.YtimmlkmpbmbgdaaK6
import Derived.Test.YtimmlkmpbmbgdaaEnter1M
import Derived.Test.YtimmlkmpbmbgdaaEnter2M
import Derived.Test.YtimmlkmpbmbgdaaEnter3M
namespace Go.Proofs.Ytimmlkmpbmbgdaa.exLFlowPublic
set_option linter.unusedVariables false
set_option linter.unusedSimpArgs false
open Go Go.RowKit Go.Proofs.Ytimmlkmpbmbgdaa

theorem pub_law (vs ars : List Int) (b : List LStmt) : ((ctR ⟨List.replicate vs.length 0, List.replicate ars.length 0, b⟩).1 == 0) = progB ⟨List.replicate vs.length 0, List.replicate ars.length 0, b⟩ := by
  have e : ∀ l : List Int, List.replicate l.length 0 = zrL l := fun l => by unfold zrL; rw [List.map_const']
  rw [e, e]; exact public_law vs ars b
abbrev yWkLFlowPublic0 (c : List UInt8) := LProg.mk (List.replicate (drF c).vars.length 0) (List.replicate (drF c).arrays.length 0) (drF c).body
set_option maxRecDepth 100000 in
theorem c_law (c : List UInt8) : Ctr.ok Try.prog ⟨9, [.ref 0], [dY c], [dY c], bA true⟩ := by
  refine rx_enter 59 Try.func9 (by rfl) (by kernel_rfl) (by kernel_rfl) ?_; intro ι φ ψ w0 w F ρ0 ρ a G; replace G := Gam.at G [dY c] [(0, .ref 0)]; have hsz := drF_sz c
  have hb : szSs (drF c).body ≤ 1048576 := by unfold LProg.size at hsz; omega
  have hv : (drF c).vars.length ≤ 200000 := by unfold LProg.size at hsz; omega
  have ha : (drF c).arrays.length ≤ 200000 := by unfold LProg.size at hsz; omega
  have hP := pub_law (drF c).vars (drF c).arrays (drF c).body; refine wp_seq ?_; refine rs0s G [(0, .ref 0), (2, bA false)] fun ρ a w G => th_n (wp_seq (wp_seq ?_)); refine rs0s G [(0, .ref 0), (2, bA false), (12, bA (decide ((↑c.length : Int) > 1048576)))] fun ρ a w G => th_n ?_; cases h0 : (decide ((↑c.length : Int) > (1048576 : Int)))
  ·
   have q0 : ¬ ((↑c.length : Int) > 1048576) := of_decide_eq_false h0; refine rF G (decide ((↑c.length : Int) > (1048576 : Int))) (by assumption) ?_; refine wp_skip (th_n (wp_seq ?_)); refine rs1 (dk := dkP) G ⟨[(1, _, [0])], [], []⟩ (calls_cons (c_DrawCT (c)) calls_nil) trivial [0, 9, 10, 11, 17] [dY c, .row 3 (D.ints (drF c).vars), .row 3 (D.ints (drF c).arrays), .tree (D.stmts (drF c).body), .box [.ref 1, .ref 2, .tref 3]] [(2, bA false), (3, .ptr 4 0)] [] trivial fun ρ a w G => th_n (wp_seq ?_); refine rd1 (dk := dkP) G ⟨[], [], []⟩ calls_nil trivial [0, 1, 3, 7, 0, 16, 48, 112, 0, 256, 1023, 0, 4095] [0, 3, 29, 61, 93] [dY c, .tree (D.stmts (drF c).body), .row 3 (D.ints (List.replicate (drF c).vars.length 0)), .row 3 (D.ints (List.replicate (drF c).arrays.length 0)), .box [.ref 2, .ref 3, .tref 1]] [(2, bA false), (4, .ptr 4 0)] [(↑(drF c).vars.length : Int) = (↑(drF c).vars.length : Int), (0 : Int) ≤ (↑(drF c).vars.length : Int), (↑(8 : Nat) : Int) * (↑(drF c).vars.length : Int) ≤ (281474976710656 : Int), (↑(drF c).vars.length : Int) ≤ (9223372036854775807 : Int), ((.int .i64 (0 : Int)) : Value) = (.int .i64 (0 : Int)), (↑(drF c).arrays.length : Int) = (↑(drF c).arrays.length : Int), (0 : Int) ≤ (↑(drF c).arrays.length : Int), (↑(8 : Nat) : Int) * (↑(drF c).arrays.length : Int) ≤ (281474976710656 : Int), (↑(drF c).arrays.length : Int) ≤ (9223372036854775807 : Int), ((.int .i64 (0 : Int)) : Value) = (.int .i64 (0 : Int))] ⟨(by kernel_rfl), (by simp [hP, h0]), (by omega), (by omega), (by kernel_rfl), (by kernel_rfl), (by simp [hP, h0]), (by omega), (by omega), (by kernel_rfl), trivial⟩ fun ρ a w G => th_n (wp_seq ?_); refine rs1s G ⟨[(1, _, [2, 3, 1])], [], []⟩ (calls_cons (Ctr.lend (c_iTimeV (List.replicate (drF c).vars.length 0) (List.replicate (drF c).arrays.length 0) ((drF c).body) (by assumption)) [.row 3, .row 3, .tree]) calls_nil) trivial [(2, bA false), (4, .ptr 4 0), (5, iA (ctR (yWkLFlowPublic0 c)).fst), (6, iA (ctR (yWkLFlowPublic0 c)).snd)] [] trivial fun ρ a w G => th_n (wp_seq ?_); refine rs1s G ⟨[(1, _, [2, 3, 1])], [], []⟩ (calls_cons (Ctr.lend (c_TimeV (List.replicate (drF c).vars.length 0) (List.replicate (drF c).arrays.length 0) ((drF c).body) (by assumption)) [.row 3, .row 3, .tree]) calls_nil) trivial [(2, bA false), (4, .ptr 4 0), (5, iA (ctR (yWkLFlowPublic0 c)).fst), (6, iA (ctR (yWkLFlowPublic0 c)).snd), (7, iA (ctR (yWkLFlowPublic0 c)).fst), (8, iA (ctR (yWkLFlowPublic0 c)).snd)] [] trivial fun ρ a w G => th_n (wp_seq ?_); refine rs1s G ⟨[(1, _, [2, 3, 1])], [], []⟩ (calls_cons (Ctr.lend (c_iFreeV (List.replicate (drF c).vars.length 0) (List.replicate (drF c).arrays.length 0) ((drF c).body) (by assumption)) [.row 3, .row 3, .tree]) calls_nil) trivial [(2, bA false), (4, .ptr 4 0), (5, iA (ctR (yWkLFlowPublic0 c)).fst), (6, iA (ctR (yWkLFlowPublic0 c)).snd), (7, iA (ctR (yWkLFlowPublic0 c)).fst), (8, iA (ctR (yWkLFlowPublic0 c)).snd), (9, bA (freeB (yWkLFlowPublic0 c)))] [] trivial fun ρ a w G => th_n (wp_seq ?_); refine rs1 (dk := dkP) G ⟨[(11, _, [2, 3, 1]), (18, _, [2, 3, 1])], [((ctR (LProg.mk (List.replicate (drF c).vars.length (0 : Int)) (List.replicate (drF c).arrays.length (0 : Int)) (drF c).body)).fst == (ctR (LProg.mk (List.replicate (drF c).vars.length (0 : Int)) (List.replicate (drF c).arrays.length (0 : Int)) (drF c).body)).fst, true), ((ctR (LProg.mk (List.replicate (drF c).vars.length (0 : Int)) (List.replicate (drF c).arrays.length (0 : Int)) (drF c).body)).snd == (ctR (LProg.mk (List.replicate (drF c).vars.length (0 : Int)) (List.replicate (drF c).arrays.length (0 : Int)) (drF c).body)).snd, true), (freeB (LProg.mk (List.replicate (drF c).vars.length (0 : Int)) (List.replicate (drF c).arrays.length (0 : Int)) (drF c).body) == freeB (LProg.mk (List.replicate (drF c).vars.length (0 : Int)) (List.replicate (drF c).arrays.length (0 : Int)) (drF c).body), true)], us [(4, 6, 0), (1007, 1007, 0), (9, 12, 1), (1013, 1013, 1), (15, 19, 2), (1020, 1020, 2)]⟩ (calls_cons (Ctr.lend (c_FreeV (List.replicate (drF c).vars.length 0) (List.replicate (drF c).arrays.length 0) ((drF c).body) (by assumption)) [.row 3, .row 3, .tree]) (calls_cons (Ctr.lend (c_iValidV (List.replicate (drF c).vars.length 0) (List.replicate (drF c).arrays.length 0) ((drF c).body)) [.row 3, .row 3, .tree]) calls_nil)) ⟨(by simp [hP, h0]), (by simp [hP, h0]), (by simp [hP, h0]), trivial⟩ [0] [dY c] [(2, bA (((ctR (yWkLFlowPublic0 c)).fst == 0) == progB (yWkLFlowPublic0 c)))] [] trivial ?_
   clear G; intro ρ a w G; refine th_n (wp_ret ?_); exact rx_ret (v := bA (((ctR (LProg.mk (List.replicate (drF c).vars.length 0) (List.replicate (drF c).arrays.length 0) (drF c).body)).fst == 0) == progB (LProg.mk (List.replicate (drF c).vars.length 0) (List.replicate (drF c).arrays.length 0) (drF c).body))) G [0] (by kernel_rfl) (by kernel_rfl) (by kernel_rfl) (by have e1 : (true : Bool) = (((ctR (LProg.mk (List.replicate (drF c).vars.length 0) (List.replicate (drF c).arrays.length 0) (drF c).body)).fst == 0) == progB (LProg.mk (List.replicate (drF c).vars.length 0) (List.replicate (drF c).arrays.length 0) (drF c).body)) := (by simp [hP, h0]); (first | rw [e1] | simp only [e1]) <;> rfl)
  · have q0 : (↑c.length : Int) > 1048576 := of_decide_eq_true h0; refine rT G (decide ((↑c.length : Int) > (1048576 : Int))) (by assumption) ?_; refine wp_seq ?_; refine rs0s G [(0, .ref 0), (2, bA true)] fun ρ a w G => th_n (wp_ret (th_r ?_)); exact rx_ret (v := bA true) G [0] (by kernel_rfl) (by kernel_rfl) (by kernel_rfl) (by kernel_rfl)

theorem walk (u : Value) (c : List UInt8) (w : World) (hp : Row w u c.length 1 (u8s c)) : Calls Try.prog 9 #[u] w fun e w' => e = .returned (.bool true) ∧ Below w.heap.size w w' :=
  bytes_law (c_law c) u w (hp.rowF fun _ _ => trivial)

end Go.Proofs.Ytimmlkmpbmbgdaa.exLFlowPublic

namespace Go.Proofs.Ytimmlkmpbmbgdaa.exLFlowPublic
set_option linter.unusedVariables false
set_option linter.unusedSimpArgs false
open Go Go.RowKit Go.ChangeShapes Go.WideShapes Go.ChangeAt Go.Proofs.Ytimmlkmpbmbgdaa

set_option maxRecDepth 100000 in
theorem lifted (os : Os) (started : os.Started) (H : Type) (enc : TypeId × Value → H) :
    ReturnsInHanded {} Try.checked os 9 .any (Rows.fnFlowPublicSpec.pre6 enc Try.prog Try.f9 Rows.fnFlowPublicRow.domain false) (Rows.fnFlowPublicSpec.post enc Try.prog Try.f9 false true false false) := by
  refine returnsInHanded_of_change (C := Try.checked) own started (by kernel_rfl) Try.func9
    (ChangeSpec.witness6 (enc := enc) (C := Try.checked) false ⟨#[], #[.slice none 0 0], []⟩ 8 (by kernel_rfl) (by kernel_rfl) (by kernel_rfl) (by kernel_rfl)) ?_
  intro W base args ds gs before hval0 hW hcnd _
  have hval : ∀ (j : Nat) t v, Try.f9.params[j]? = some t → args[j]? = some v → Value.okWide Try.prog W .any base t v := hval0
  have hW' := hW
  obtain ⟨p, q, hA0, hV, rfl, hfz, hnd⟩ := hW
  have hA : DataW.TrodAll enc Try.prog W 0 (fun _ => true) true Try.f9.params.toList args.toList ds p := hA0
  rw [Try.params9] at hA hval
  obtain ⟨v0, vs0, d0, ds0, p0, q0, hargs, rfl, rfl, h0, r0⟩ := trodAll_cons hA
  obtain ⟨rfl, rfl, rfl⟩ := trodAll_nil r0
  obtain rfl : args = #[v0] := by cases args; simp_all
  obtain ⟨rfl, rfl⟩ := trodVars_none hV
  have k0 := h0
  have lt0 : ∀ x ∈ p0, x.block < W.heap.size := by obtain ⟨m, hm⟩ := k0; exact DataW.trod_lt m _ _ _ hm
  obtain ⟨a0, len0, cap0, rfl⟩ := okWide_slice Try.underlying45 (hval 0 45 v0 rfl rfl)
  obtain ⟨x0, hx0⟩ : ∃ l : List UInt8, Row W (.slice a0 len0 cap0) l.length 1 (u8s l) := by
    obtain ⟨fuel, hf⟩ := h0
    exact bytes_of_trod Try.underlying45 hf
  clear hA0 hval0
  refine (walk _ x0 W hx0).mono fun e W' ⟨he, bel⟩ => ?_
  subst he
  exact ⟨_, rfl, _, _, _, [], _, [], hW', trodAll_mk1 (shut_bool Try.underlying4 _), (trodAll_cons_mk (Below.trod laidOut (by kernel_rfl) (of_decide_eq_true (by kernel_rfl)) k0 bel lt0) trodAll_mk0), rfl, bel.frame _, fun h => by cases h⟩

theorem facts : joinedFacts Try.pinned.checked.prog 9 Try.f9 Rows.fnFlowPublicSpec Rows.fnFlowPublicRow = true := by
  unfold joinedFacts
  rw [may_enter, lifts_final, make_is]
  kernel_rfl

theorem over : Rows.fnFlowPublicRow.holds Try.pinned (OpenSpec.ofChange Rows.fnFlowPublicSpec) :=
  OpenClaim.holds_of_wide 9 Try.f9 rfl rfl rfl rfl rfl rfl rfl ⟨rfl, rfl, rfl, rfl, rfl⟩ rfl rfl rfl rfl rfl (by kernel_rfl) Try.func9 facts
    (of_decide_eq_true (by kernel_rfl)) (by unfold Func.isWrapper; first | (rw [if_pos (by decide +kernel)]; kernel_rfl) | (rw [if_neg (by decide +kernel)]; exact ⟨rfl, rfl⟩))
    (fun os started H enc _ => lifted os started H enc)

theorem proved : Rows.FnFlowPublicSaid := over
end Go.Proofs.Ytimmlkmpbmbgdaa.exLFlowPublic
