/-
  ParseProgram: the statement, whatever the argument. Conditions: none beyond the statement's own.
-/
import Derived.Test.YtompcdbfongedaaGreatDoorCards
import Derived.Test.YtompcdbfongedaaGreatDoorTie
import Derived.ProofKit
import Derived.OpenShut
import Derived.LaidMore
import Derived.Lay
import Derived.SevenTiedAt
import Derived.Stop.Joined
import Derived.ChangeMaps5
import Derived.Test.YtompcdbfongedaaGreatDoorK1
import Derived.Test.YtompcdbfongedaaGreatDoorK2
import Derived.Test.YtompcdbfongedaaGreatDoorK3
import Derived.Test.YtompcdbfongedaaGreatDoorK4
import Derived.Test.YtompcdbfongedaaGreatDoorK5
import Derived.Test.YtompcdbfongedaaGreatDoorK6
import Derived.Test.YtompcdbfongedaaGreatDoorEnter1M
import Derived.Test.YtompcdbfongedaaGreatDoorEnter2M
import Derived.Test.YtompcdbfongedaaGreatDoorEnter3M
set_option maxRecDepth 100000
set_option maxHeartbeats 16000000
set_option linter.unusedVariables false
set_option linter.unusedSimpArgs false
open Bool renaming not_eq_false' → bQ2, not_eq_true' → bQ1
open List renaming all_eq_true → bQ0
open Nat renaming le_refl → bP9
open True renaming intro → bP7
namespace Go.Proofs.YtompcdbfongedaaGreatDoor.exParseProgram
open Go Go.RowKit Go.Proofs.YtompcdbfongedaaGreatDoor
theorem aE5 (p : o6) : p.same p = true := o6.same_eq.2 rfl
theorem ao5 {p : o6} {n : Nat} (h : p.size <= n) (hn : n <= 1200000000000000000) : ((1 : Nat) : Int) + J3 p <= 9000000000000000000 := by
 unfold J3
 unfold o6.size at h
 have := (A4 p.body).2
 omega
theorem bo2 (q : o6) : ¬ ((!q.same q) = true) := by rw [aE5]; decide
theorem bB2 (p : o6) : ¬ (decide ((1 : Int) + J3 p < (0 : Int)) = true) := by
 have := (A4 p.body).1
 unfold J3
 simp only [decide_eq_true_eq]; omega
theorem bu7 (t : List UInt8) (q : o6) (v : Bool) (hz : q.size <= 1200000000000000000) (hsp : t.length <= 1048576 -> r7.ok Tryz.prog ⟨5, [tA t], [], pS q, .tup [pA 0, bA v]⟩) (him : t.length <= 1048576 -> r7.ok Tryz.prog ⟨6, [tA t], [], oP q, .tup [oA 0, bA v]⟩) : r7.ok Tryz.prog ⟨3, [tA t], [], [], bA true⟩ := by
  have hz9 : (b5 t).size = t.length := rfl; refine M7 66 Tryz.func3 [] [(0, .v (.string (b5 t)))] fun G => ?_; have hself : ∀ q : o6, q.same q = true := aE5; refine wp_seq (o0 G m0 [(2, bA false)] fun G => b0 (wp_seq (wp_seq (o0 G m0 [(13, bA (decide (((b5 t).size : Int) > 1048576)))] fun G => b0 (rcD G (fun h0 q0 => ?_) fun h0 q0 => ?_)))))
  ·
   refine wp_skip (b0 (wp_seq (r8 G (x8 1 [] (hsp (by omega))) [8, 9, 10, 40] [dI q.vars, dI q.arrays, dT q.body, .box (pL 0)] [(0, .v (.string (b5 t))), (2, bA false), (3, .ptr 3 0), (4, bA v)] fun G => b0 (wp_seq (r8 G (x8 1 [] (him (by omega))) [0, 1, 2, 3, 12, 13, 14, 44] [dI q.vars, dI q.arrays, dT q.body, .box (pL 0), .row 3 (D.ints q.vars), .row 3 (D.ints q.arrays), .tree (D.stmts q.body), .box [.ref 4, .ref 5, .tref 6]] [(0, .v (.string (b5 t))), (2, bA false), (3, .ptr 3 0), (4, bA v), (5, .ptr 7 0), (6, bA v)] fun G => b0 (wp_seq (wp_seq ?_))))))); cases h1 : (!q.same q)
   ·
    have q1 : (q.same q) = true := (Eq.mp (bQ2 _) h1); refine o0 G (E3 (v6 2 [4, 5, 6, 0, 1, 2] (r7.lend (ae1 q q) [.row 3, .row 3, .tree]) E2) (fc h1 fz) [(5, 0), (6, 0), (7, 0), (1008, 0)]) [(32, .v (.bool !v == v))] fun G => b0 (rF G (!v == v) (by simp [h0, h1, q1]) (wp_skip (b0 (wp_seq (o0 G m0 [(7, iA 1)] fun G => b0 (wp_seq (r8 G (x8 2 [4, 5, 6] (aC6 q 1 (ao5 hz (bP9 _)))) (rg 8) [dI q.vars, dI q.arrays, dT q.body, .box (pL 0), .row 3 (D.ints (mkP q 1).vars), .row 3 (D.ints (mkP q 1).arrays), .tree (D.stmts (mkP q 1).body), .box [.ref 4, .ref 5, .tref 6]] [(0, .v (.string (b5 t))), (2, bA false), (3, .ptr 3 0), (4, bA v), (5, .ptr 7 0), (7, iA ((1 : Int) + J3 q))] fun G => b0 (wp_seq (o0 G m0 [(7, iA (1 + J3 q)), (8, iA 1)] fun G => b0 (wp_seq (o0 G (x8 2 [4, 5, 6] (r7.lend (ah0 q 1 (ao5 hz (bP9 _))) [.row 3, .row 3, .tree])) [(8, iA ((1 : Int) + J3 q))] fun G => b0 (wp_seq (wp_seq (o0 G m0 [(8, iA (1 + J3 q)), (40, bA (decide (1 + J3 q < 0)))] fun G => b0 (rcD G (fun h2 q2 => ?_) fun h2 q2 => ?_)))))))))))))))
    · refine wp_skip (b0 (wp_seq (wp_seq (o0 G m0 [(43, bA (1 + J3 q != 1 + J3 q))] fun G => b0 (rF G ((1 : Int) + J3 q != 1 + J3 q) (by simp [h0, h1, q1, h2]) (wp_skip (b0 (wp_seq (r8 G (x8 1 [] (him (by omega))) [0, 1, 2, 3, 4, 5, 6, 7, 16, 17, 18, 48] [dI q.vars, dI q.arrays, dT q.body, .box (pL 0), .row 3 (D.ints (mkP q 1).vars), .row 3 (D.ints (mkP q 1).arrays), .tree (D.stmts (mkP q 1).body), .box [.ref 4, .ref 5, .tref 6], .row 3 (D.ints q.vars), .row 3 (D.ints q.arrays), .tree (D.stmts q.body), .box [.ref 8, .ref 9, .tref 10]] [(2, bA false), (3, .ptr 3 0), (4, bA v), (5, .ptr 7 0), (7, iA (1 + J3 q)), (8, iA (1 + J3 q)), (9, .ptr 11 0), (10, bA v)] fun G => b0 (wp_seq (wp_seq (r8 G (E3 (v6 2 [8, 9, 10, 0, 1, 2] (r7.lend (ae1 q q) [.row 3, .row 3, .tree]) E2) (fc h1 fz) [(5, 0), (6, 0), (7, 0), (1008, 0)]) [4, 5, 6, 7] [.row 3 (D.ints (mkP q 1).vars), .row 3 (D.ints (mkP q 1).arrays), .tree (D.stmts (mkP q 1).body), .box [.ref 0, .ref 1, .tref 2]] [(2, bA false), (5, .ptr 3 0), (7, iA (1 + J3 q)), (8, iA (1 + J3 q)), (57, .v (.bool !v == v))] fun G => b0 (rF G (!v == v) (by simp [h0, h1, q1, h2]) (wp_skip (b0 (wp_seq (o0 G m0 [(8, iA 1)] fun G => b0 (wp_seq (r8 G (x8 2 [0, 1, 2] (r7.lend (ah0 q 1 (ao5 hz (bP9 _))) [.row 3, .row 3, .tree])) [] [] [(2, bA false), (7, iA (1 + J3 q)), (8, iA ((1 : Int) + J3 q))] fun G => b0 (wp_seq (wp_seq (o0 G m0 [(8, iA (1 + J3 q)), (62, bA (decide (1 + J3 q < 0)))] fun G => b0 (rF G _ h2 (wp_skip (b0 (wp_seq (wp_seq (o0 G m0 [(65, bA (1 + J3 q != 1 + J3 q))] fun G => b0 (rF G ((1 : Int) + J3 q != 1 + J3 q) (by simp [h0, h1, q1, h2]) (wp_skip (b0 (wp_seq (o0 G m0 [(2, bA true)] fun G => b0 (wp_ret ?_)))))))))))))))))))))))))))))))))); exact Z0 G []
    refine wp_seq (o0 G m0 [] fun G => b0 (wp_ret (n8 ?_))); exact E1 false G [] (by exact absurd (by with_reducible assumption) (bB2 q))
   have q1 : (q.same q) = false := (Eq.mp (bQ1 _) h1); refine o0 G (E3 (v6 2 [4, 5, 6, 0, 1, 2] (r7.lend (ae1 q q) [.row 3, .row 3, .tree]) E2) (fc h1 fz) [(5, 0), (6, 0), (7, 0), (1008, 0)]) [(32, bA true)] fun G => b0 (rT G true (by kernel_rfl) (wp_seq (o0 G m0 [] fun G => b0 (wp_ret (n8 ?_))))); exact E1 false G [] (by exact absurd (by with_reducible assumption) (bo2 q))
  refine wp_seq (o0 G m0 [(2, bA true)] fun G => b0 (wp_ret (n8 ?_))); exact Z0 G []
theorem bx5 (t : List UInt8) (h : t.length <= 1048576) : (R3 t).1.size <= 1200000000000000000 := by
 unfold R3
 split
 ·rename_i a b c e
  have hl := bd6 e
  split
  ·have l1 : (K7 a).1.length <= a.length := by unfold K7; split <;> simp
   have l2 : (K7 b).1.length <= b.length := by unfold K7; split <;> simp
   have l3 := bf9 c 0
   show (K7 a).1.length + (K7 b).1.length + B7 (E4 c 5 0).1 <= _
   omega
  simp [o6.size, zP, B7]
 simp [o6.size, zP, B7]
theorem bK2 (t : List UInt8) (w : World) (he : bm6 (fun _ => True) w) : Calls Tryz.prog 3 #[.string (b5 t)] w fun e w' => e = .returned (.bool true) /\ Below w.heap.size w w' := by
 by_cases hz : t.length <= 1048576
 ·exact aT9 [] [] (bu7 t (R3 t).1 (R3 t).2 (bx5 t hz) (fun _ => bI8 t (by omega)) (fun _ => by rw [<- bf6]; exact bJ2 t (by omega))) (fun id h => by cases h) w bP7 he
 exact aT9 [] [] (bu7 t zP false (by simp [o6.size, zP, B7]) (fun h => absurd h hz) (fun h => absurd h hz)) (fun id h => by cases h) w bP7 he
end Go.Proofs.YtompcdbfongedaaGreatDoor.exParseProgram

namespace Go.Proofs.YtompcdbfongedaaGreatDoor.exParseProgram
open Go Go.RowKit Go.ChangeShapes Go.WideShapes Go.ChangeAt Go.Proofs.YtompcdbfongedaaGreatDoor
open Go.ChangeMaps (open_string)
theorem ownk : ownKnob Tryz.prog.godebug = none := by kernel_rfl
theorem lifted (os : Os) (started : os.Started) (H : Type) (enc : TypeId × Value -> H) :
  ReturnsInHanded {} Tryz.checked os 3 .any (fun w args => (Rows.fnExactParseProgramSpec.pre enc Tryz.prog Tryz.f3 Rows.fnExactParseProgramRow.domain false w args /\ laidMetH Tryz.prog Rows.fnExactParseProgramRow.laid w) /\ sizedMet enc Tryz.prog Tryz.f3 (OpenSpec.ofChange Rows.fnExactParseProgramSpec) false w args)
   (Rows.fnExactParseProgramSpec.post enc Tryz.prog Tryz.f3 false true false false) := by
 refine returnsInHanded_of_change_and (C := Tryz.checked) (X := fun w _ => laidMetH Tryz.prog Rows.fnExactParseProgramRow.laid w) (fun _ _ _ hh h => h.of_heap hh) ownk started (by kernel_rfl) Tryz.func3
  (ChangeSpec.witness_shaped (enc := enc) (C := Tryz.checked) (os := os) (X := fun w _ => laidMetH Tryz.prog Rows.fnExactParseProgramRow.laid w) false (World.laidAll Tryz.prog os Rows.fnExactParseProgramRow.laid) #[.string ByteArray.empty] 8 (World.laidAll_os _ _ _)
   (World.shaped_of_ZipB (by kernel_rfl) (by kernel_rfl)) (by kernel_rfl) (by kernel_rfl) (by kernel_rfl)
   (by rw [MakeChecks.laidMetH_plain _ _ _ (by kernel_rfl)]; exact laidMet_laidAll _ (by kernel_rfl) (by kernel_rfl))) ?_
 intro W base args ds gs before hval0 hW hcnd _ hL _
 have hval : ∀ (j : Nat) t v, Tryz.f3.params[j]? = some t -> args[j]? = some v -> Value.okWide Tryz.prog W .any base t v := hval0
 have hW' := hW
 obtain ⟨p, q, hA0, hV, rfl, hfz, hnd⟩ := hW
 have hA : DataW.TrodAll enc Tryz.prog W 0 (fun _ => true) true Tryz.f3.params.toList args.toList ds p := hA0
 rw [Tryz.params3] at hA hval
 obtain ⟨v0, vs0, d0, ds0, p0, q0, hargs, rfl, rfl, h0, r0⟩ := trodAll_cons hA
 obtain ⟨rfl, rfl, rfl⟩ := trodAll_nil r0
 obtain rfl : args = #[v0] := by cases args; simp_all
 obtain ⟨rfl, rfl⟩ := trodVars_none hV
 have k0 := h0
 have lt0 : ∀ x ∈ p0, x.block < W.heap.size := by obtain ⟨m, hm⟩ := k0; exact DataW.trod_lt m _ _ _ hm
 obtain ⟨s0, rfl, rfl, rfl, hs0⟩ := open_string Tryz.underlying9 (hval 0 9 v0 rfl rfl) h0
 obtain ⟨x0, rfl⟩ : ∃ t : List UInt8, s0 = b5 t := ⟨s0.data.toList, rfl⟩
 clear hA0 hval0
 refine (bK2 x0 W  (bk1 hL)).mono fun e W' ⟨he, bel⟩ => ?_
 subst he
 exact ⟨_, rfl, _, _, _, [], _, [], hW', trodAll_mk1 (shut_bool Tryz.underlying4 _), (trodAll_cons_mk (Below.trod bq9 (by kernel_rfl) (of_decide_eq_true (by kernel_rfl)) k0 bel lt0) trodAll_mk0), rfl, bel.frame _, fun h => by cases h⟩
theorem facts : joinedFacts Tryz.pinned.checked.prog 3 Tryz.f3 Rows.fnExactParseProgramSpec Rows.fnExactParseProgramRow = true := by
 unfold joinedFacts
 rw [may_enter, lifts_final, make_is]
 kernel_rfl
theorem over : Rows.fnExactParseProgramRow.holds Tryz.pinned (OpenSpec.ofChange Rows.fnExactParseProgramSpec) :=
 OpenClaim.holds_of_wide 3 Tryz.f3 rfl rfl rfl rfl rfl rfl rfl ⟨rfl, rfl, rfl, rfl, rfl⟩ rfl rfl rfl rfl rfl (by kernel_rfl) Tryz.func3 facts
  (of_decide_eq_true (by kernel_rfl)) (by unfold Func.isWrapper; first | (rw [if_pos (by decide +kernel)]; kernel_rfl) | (rw [if_neg (by decide +kernel)]; exact ⟨rfl, rfl⟩))
  (fun os started H enc _ => lifted os started H enc)
theorem proved : Rows.FnExactParseProgramCardSaid :=
 Claim7.holds_tied_plain_at .later [] [.data, .data, .data, .data, .sentinel, .sentinel, .pinned] true (true, "918cd2ae6651640d65df1d587bc5ec1063cc14ef41ecabdc24b0f22ebd98dee6") true over (fun _ h => by cases h) (by kernel_rfl) (fun _ h => by cases h) fnExactParseProgram_row_tie rfl ⟨rfl, rfl⟩ (by kernel_rfl) rfl
  (fun f fn hf hfn => by
   obtain rfl : f = 3 := Option.some.inj ((show Tryz.prog.funcNamed "loop.example/constanttime/laws.FnExactParseProgram" = some 3 by kernel_rfl).symm.trans hf) |>.symm
   obtain rfl : fn = Tryz.f3 := (Option.some.inj (Tryz.func3.symm.trans hfn)).symm
   exact ⟨by kernel_rfl, fun j t ht => by
    rw [Tryz.params3] at ht
    have hm : t ∈ [9] := by simpa using Array.mem_of_getElem? ht
    have hall : ([9].all fun u => !Tryz.prog.wantsStandIn u) = true := by kernel_rfl
    exact (show Tryz.prog.wantsStandIn t = false by simpa using bQ0.1 hall t hm)⟩)
  (by kernel_rfl)
end Go.Proofs.YtompcdbfongedaaGreatDoor.exParseProgram
