/-
  LExprText: the statement, whatever the argument. Conditions: none beyond the statement's own.
-/
import Derived.Test.YtcahndjigkledaaDoorCards
import Derived.Test.YtcahndjigkledaaDoorTie
import Derived.ProofKit
import Derived.OpenShut
import Derived.LaidMore
import Derived.Lay
import Derived.SevenTiedAt
import Derived.Stop.Joined
import Derived.ChangeMaps5
import Derived.Test.YtcahndjigkledaaDoorK1
import Derived.Test.YtcahndjigkledaaDoorK2
import Derived.Test.YtcahndjigkledaaDoorK3
import Derived.Test.YtcahndjigkledaaDoorK4
import Derived.Test.YtcahndjigkledaaDoorK5
import Derived.Test.YtcahndjigkledaaDoorEnter1M
import Derived.Test.YtcahndjigkledaaDoorEnter2M
import Derived.Test.YtcahndjigkledaaDoorEnter3M
set_option maxRecDepth 100000
set_option maxHeartbeats 16000000
set_option linter.unusedVariables false
set_option linter.unusedSimpArgs false
open Bool renaming not_eq_false' → bh6, not_eq_true' → bg8
open List renaming all_eq_true → bg6, length_cons → bg0, length_nil → bg4, size_toArray → bg5
open True renaming intro → bh8
namespace Go.Proofs.YtcahndjigkledaaDoor.exLExprText
open Go Go.RowKit Go.Proofs.YtcahndjigkledaaDoor
abbrev fdC (c : List UInt8) (p : d8) (e : b6) : i8 := ⟨11, [.ref 0], [dY c], [dY c] ++ pS p ++ eS e, .tup [pA 1, eA e 4]⟩
theorem at2 (c : List UInt8) (p : d8) (e : b6) (h1 : i8.ok Tryd.prog (evC c p e)) : i8.ok Tryd.prog (fdC c p e) := by
 have hev := h1; refine H7 8 Tryd.func11 [dY c] [(0, .ref 0)] fun G => ?_; refine wp_seq (l7 G e5 [0, 1, 9] [dY c, .box [.v (.slice none 0 0), .v (.slice none 0 0), .v (.slice none 0 0)], .box [iA 0, iA 0, .v (.slice none 0 0)]] [(0, .ref 0), (2, .ptr 1 0), (3, .ptr 2 0)] fun G => b0 (wp_seq (l7 G (w7 1 [0] hev) [0, 1, 2, 11, 12, 13, 14] [dY c, .box (pL 3), .box (eL e 6), dI p.vars, dI p.arrays, dT p.body, dE e.kids] [(2, .ptr 1 0), (3, .ptr 2 0)] fun G => b0 (wp_ret ?_)))); exact O1 G [0, 3, 4, 5, 6]
abbrev sfC (p : d8) (e : b6) (t : List UInt8) : i8 := I3 13 [pA 0, eA e 3] (pS p ++ eS e) (tA t)
abbrev ifC (p : d8) (e : b6) (t : List UInt8) : i8 := I3 12 [pA 0, eA e 3] (pS p ++ eS e) (tA t)
abbrev svC (p : d8) (e : b6) (b : Bool) : i8 := I3 15 [pA 0, eA e 3] (pS p ++ eS e) (bA b)
abbrev ivC (p : d8) (e : b6) (b : Bool) : i8 := I3 14 [pA 0, eA e 3] (pS p ++ eS e) (bA b)
theorem a84 {x : Bool} (h : x = false) (h2 : ((!x) == true) = false) : False := by subst h; cases h2
theorem a22 (c : List UInt8) (p : d8) (e : b6) (h : s8 p e = true) (r0 : i8.ok Tryd.prog (fdC c p e)) (r1 : i8.ok Tryd.prog (sfC p e (c6 e))) (r2 : i8.ok Tryd.prog (ifC p e (c6 e))) (r3 : i8.ok Tryd.prog (svC p e true)) (r4 : i8.ok Tryd.prog (ivC p e true))
    (r5 : i8.ok Tryd.prog (I3 9 [pA 0] [dI p.vars, dI p.arrays, dT ([⟨1, 0, ⟨0, 0, []⟩, ⟨e.kind, e.value, e.kids⟩, 0, [], []⟩] ++ [])] (tA (Z2 (au3 p e))))) : i8.ok Tryd.prog ⟨4, [.ref 0], [dY c], [dY c], bA true⟩ := by
  have hA0 := r0; have hA1 := r1; have hA2 := r2; have hA3 := r3; have hA4 := r4; have hA5 := r5; have ht := ar7 (s := j6 (c6 e)) rfl; have hn := aX2 (aU4 (af3 (ai7 h).2)); obtain ⟨g1, g2, g3, g4, g5⟩ := A9 (ai7 h).1; have z1 := W7 p.vars; have z2 := W7 p.arrays; have z3 := C8 (ai7 h).2; refine H7 65 Tryd.func4 [dY c] [(0, .ref 0)] fun G => ?_; refine wp_seq (l6 G e5 [(2, bA false)] fun G => b0 (wp_seq (wp_seq (l6 G e5 [(9, bA (decide ((c.length : Int) > 1048576)))] fun G => b0 (rcD G (fun h0 q0 => ?_) fun h0 q0 => ?_)))))
  ·
   refine wp_skip (b0 (wp_seq (l7 G (w7 1 [0] hA0) [0, 9, 10, 11, 12, 41, 49] [dY c, dI p.vars, dI p.arrays, dT p.body, dE e.kids, .box (pL 1), .box (eL e 4)] [(2, bA false), (3, .ptr 5 0), (4, .ptr 6 0)] fun G => b0 (wp_seq (J4 G (w7 2 [1, 2, 3, 4] hA2) [(2, bA false), (3, .ptr 5 0), (4, .ptr 6 0), (5, .v (.string (j6 (c6 e))))] fun G => b0 (wp_seq (wp_seq ?_))))))); cases h1 : (!(!(j6 (c6 e)).toList == (ByteArray.mk #[]).toList) == true)
   · have q1 : ((!(j6 (c6 e)).toList == (ByteArray.mk #[]).toList) == true) = true := (Eq.mp (bh6 _) h1); refine aI0 G (x6 (n4 3 [1, 2, 3, 4] hA1 (n4 10 [1, 2, 3, 4] hA4 (n4 16 [1, 2, 3, 4] hA4 (n4 19 [1, 2, 3, 4] hA3 x5)))) (fc (a := !(j6 (c6 e)).toList == (j6 (c6 e)).toList) (b := false) (by rw [ht]; rfl) (fc h1 fz)) (us [(6, 11, 0), (1012, 1012, 0), (14, 20, 1), (1021, 1021, 1)])) [0, 0, 0, 6, 15, 31, 63, 127, 63, 63, 831, 2047, 4095, 8191, 16383, 16383, 65535, 16383, 16383, 524287, 1048575, 2097151] [(39, bA false)] fun G => b0 (rF G false (by kernel_rfl) (wp_skip (b0 (wp_seq (wp_seq (l6 G e5 [(41, bA ((j6 (c6 e)).toList == (ByteArray.mk #[]).toList))] fun G => b0 (rF G ((j6 (c6 e)).toList == (ByteArray.mk #[]).toList) (by assumption) (wp_skip (b0 (wp_seq (l7 G e5 [0, 1, 2, 3, 5, 55, 71] [dY c, dI p.vars, dI p.arrays, dT p.body, .box (pL 1), .row 43 (D.stmts ([b7.mk 1 0 (b6.mk 0 0 []) (qzE e) 0 [] []] ++ [])), .box [.ref 1, .ref 2, .ref 5]] [(2, bA false), (3, .ptr 4 0), (5, .v (.string (j6 (c6 e)))), (6, .ptr 6 0)] fun G => b0 (wp_seq ?_)))))))))))); obtain ⟨ρ, G⟩ := G.frz [.no, .no, .no, .no, .no, .row 43] [dY c, dI p.vars, dI p.arrays, dT p.body, .box (pL 1), dT ([b7.mk 1 0 (b6.mk 0 0 []) (qzE e) 0 [] []] ++ []), .box [.ref 1, .ref 2, .ref 5]] [(2, bA false), (3, .ptr 4 0), (5, .v (.string (j6 (c6 e)))), (6, .ptr 6 0)]; refine K8 G (x6 (n4 1 [1, 2, 5] hA5 (n4 4 [1] (C2 p.vars (by assumption) (by omega)) (n4 8 [2] (C2 p.arrays (by assumption) (by omega)) x5))) fz []) [0, 1, 0, 4, 15, 31, 0, 64, 223, 511, 1023, 0, 4095, 8191, 16383, 32767] [0] [dY c] [(2, bA ((j6 (Z2 (au3 p e))).toList == (j6 (o7 p.vars) ++ ByteArray.mk #[47] ++ j6 (o7 p.arrays) ++ ByteArray.mk #[47, 97, 58, 61] ++ j6 (c6 e) ++ ByteArray.mk #[59]).toList))] [(↑((j6 (o7 p.vars)).size + (ByteArray.mk #[(47 : UInt8)]).size) : Int) <= 9223372036854775807, (↑((j6 (o7 p.vars) ++ ByteArray.mk #[(47 : UInt8)]).size + (j6 (o7 p.arrays)).size) : Int) <= 9223372036854775807, (↑((j6 (o7 p.vars) ++ ByteArray.mk #[(47 : UInt8)] ++ j6 (o7 p.arrays)).size + (ByteArray.mk #[(47 : UInt8), (97 : UInt8), (58 : UInt8), (61 : UInt8)]).size) : Int) <= 9223372036854775807, (↑((j6 (o7 p.vars) ++ ByteArray.mk #[(47 : UInt8)] ++ j6 (o7 p.arrays) ++ ByteArray.mk #[(47 : UInt8), (97 : UInt8), (58 : UInt8), (61 : UInt8)]).size + (j6 (c6 e)).size) : Int) <= 9223372036854775807, (↑((j6 (o7 p.vars) ++ ByteArray.mk #[(47 : UInt8)] ++ j6 (o7 p.arrays) ++ ByteArray.mk #[(47 : UInt8), (97 : UInt8), (58 : UInt8), (61 : UInt8)] ++ j6 (c6 e)).size + (ByteArray.mk #[(59 : UInt8)]).size) : Int) <= 9223372036854775807] ⟨(by simp only [ByteArray.size_append, j4, j5, bg5, bg0, bg4]; omega), (by simp only [ByteArray.size_append, j4, j5, bg5, bg0, bg4]; omega), (by simp only [ByteArray.size_append, j4, j5, bg5, bg0, bg4]; omega), (by simp only [ByteArray.size_append, j4, j5, bg5, bg0, bg4]; omega), (by simp only [ByteArray.size_append, j4, j5, bg5, bg0, bg4]; omega), bh8⟩ fun G => b0 (wp_ret ?_); exact t6 ((j6 (Z2 (au3 p e))).toList == (j6 (o7 p.vars) ++ ByteArray.mk #[47] ++ j6 (o7 p.arrays) ++ ByteArray.mk #[47, 97, 58, 61] ++ j6 (c6 e) ++ ByteArray.mk #[59]).toList) G [0] ((ar7 (aO6 h)).symm)
   have q1 : ((!(j6 (c6 e)).toList == (ByteArray.mk #[]).toList) == true) = false := (Eq.mp (bg8 _) h1); exact False.elim (a84 hn (by with_reducible assumption))
  refine wp_seq (l6 G e5 [(2, bA true)] fun G => b0 (wp_ret (k8 ?_))); exact O1 G [0]
theorem a23 (c : List UInt8) (p : d8) (e : b6) (r0 : i8.ok Tryd.prog (fdC c p e)) (r1 : i8.ok Tryd.prog (sfC p e [])) (r2 : i8.ok Tryd.prog (ifC p e [])) (r3 : i8.ok Tryd.prog (svC p e false)) (r4 : i8.ok Tryd.prog (ivC p e false)) : i8.ok Tryd.prog ⟨4, [.ref 0], [dY c], [dY c], bA true⟩ := by
 have hA0 := r0; have hA1 := r1; have hA2 := r2; have hA3 := r3; have hA4 := r4; refine H7 65 Tryd.func4 [dY c] [(0, .ref 0)] fun G => ?_; refine wp_seq (l6 G e5 [(2, bA false)] fun G => b0 (wp_seq (wp_seq (l6 G e5 [(9, bA (decide ((c.length : Int) > 1048576)))] fun G => b0 (rcD G (fun h0 q0 => ?_) fun h0 q0 => ?_)))))
 ·refine wp_skip (b0 (wp_seq (l7 G (w7 1 [0] hA0) [0, 9, 10, 11, 12, 41, 49] [dY c, dI p.vars, dI p.arrays, dT p.body, dE e.kids, .box (pL 1), .box (eL e 4)] [(2, bA false), (3, .ptr 5 0), (4, .ptr 6 0)] fun G => b0 (wp_seq (l6 G (w7 2 [1, 2, 3, 4] hA2) [(5, .v (.string (j6 [])))] fun G => b0 (wp_seq (wp_seq (aI0 G (x6 (n4 3 [1, 2, 3, 4] hA1 (n4 10 [1, 2, 3, 4] hA4 (n4 16 [1, 2, 3, 4] hA4 (n4 19 [1, 2, 3, 4] hA3 x5)))) (fc (b := false) rfl fz) (us [(6, 11, 0), (1012, 1012, 0), (14, 20, 0), (1021, 1021, 0)])) [0, 0, 0, 6, 15, 31, 63, 127, 63, 63, 831, 2047, 4095, 8191, 16383, 16383, 65535, 16383, 16383, 524287, 1048575, 2097151] [(39, bA false)] fun G => b0 (rF G false (by kernel_rfl) (wp_skip (b0 (wp_seq (wp_seq (l6 G e5 [(41, bA true)] fun G => b0 (rT G true (by kernel_rfl) (wp_seq (l6 G e5 [(2, bA true)] fun G => b0 (wp_ret (k8 ?_))))))))))))))))))); exact O1 G [0]
 refine wp_seq (l6 G e5 [(2, bA true)] fun G => b0 (wp_ret (k8 ?_))); exact O1 G [0]
theorem ba1 (c : List UInt8) : i8.ok Tryd.prog ⟨4, [.ref 0], [dY c], [dY c], bA true⟩ := by
 obtain ⟨p, e, he⟩ := aS6 c
 cases h : s8 p e with
 | true =>
  refine a22 c p e h (at2 c p e he) ?_ ?_ ?_ ?_ ?_
  ·have := X8 p e; rwa [aX8 h] at this
  ·have := T2 p e; rwa [aX8 h] at this
  ·have := aS9 p e; rwa [h] at this
  ·have := aT0 p e; rwa [h] at this
  rw [b6.eta]; exact aa1 (au3 p e)
 | false =>
  refine a23 c p e (at2 c p e he) ?_ ?_ ?_ ?_
  ·have := X8 p e; rwa [aX9 h] at this
  ·have := T2 p e; rwa [aX9 h] at this
  ·have := aS9 p e; rwa [h] at this
  have := aT0 p e; rwa [h] at this
theorem bb2 (u : Value) (c : List UInt8) (w : World) (hp : J2 w u c.length 1 (u8s c)) (he : aK9 (fun _ => True) w) : Calls Tryd.prog 4 #[u] w fun e w' => e = .returned (.bool true) /\ Below w.heap.size w w' :=
 aK1 (ba1 c) u w (hp.rowF fun _ _ => trivial) he
end Go.Proofs.YtcahndjigkledaaDoor.exLExprText

namespace Go.Proofs.YtcahndjigkledaaDoor.exLExprText
open Go Go.RowKit Go.ChangeShapes Go.WideShapes Go.ChangeAt Go.Proofs.YtcahndjigkledaaDoor
theorem ownk : ownKnob Tryd.prog.godebug = none := by kernel_rfl
theorem lifted (os : Os) (started : os.Started) (H : Type) (enc : TypeId × Value -> H) :
  ReturnsInHanded {} Tryd.checked os 4 .any (fun w args => (Rows.fnExprTextSpec.pre enc Tryd.prog Tryd.f4 Rows.fnExprTextRow.domain false w args /\ laidMetH Tryd.prog Rows.fnExprTextRow.laid w) /\ sizedMet enc Tryd.prog Tryd.f4 (OpenSpec.ofChange Rows.fnExprTextSpec) false w args)
   (Rows.fnExprTextSpec.post enc Tryd.prog Tryd.f4 false true false false) := by
 refine returnsInHanded_of_change_and (C := Tryd.checked) (X := fun w _ => laidMetH Tryd.prog Rows.fnExprTextRow.laid w) (fun _ _ _ hh h => h.of_heap hh) ownk started (by kernel_rfl) Tryd.func4
  (ChangeSpec.witness_shaped (enc := enc) (C := Tryd.checked) (os := os) (X := fun w _ => laidMetH Tryd.prog Rows.fnExprTextRow.laid w) false (World.laidAll Tryd.prog os Rows.fnExprTextRow.laid) #[.slice none 0 0] 8 (World.laidAll_os _ _ _)
   (World.shaped_of_ZipB (by kernel_rfl) (by kernel_rfl)) (by kernel_rfl) (by kernel_rfl) (by kernel_rfl)
   (by rw [MakeChecks.laidMetH_plain _ _ _ (by kernel_rfl)]; exact laidMet_laidAll _ (by kernel_rfl) (by kernel_rfl))) ?_
 intro W base args ds gs before hval0 hW hcnd _ hL _
 have hval : ∀ (j : Nat) t v, Tryd.f4.params[j]? = some t -> args[j]? = some v -> Value.okWide Tryd.prog W .any base t v := hval0
 have hW' := hW
 obtain ⟨p, q, hA0, hV, rfl, hfz, hnd⟩ := hW
 have hA : DataW.TrodAll enc Tryd.prog W 0 (fun _ => true) true Tryd.f4.params.toList args.toList ds p := hA0
 rw [Tryd.params4] at hA hval
 obtain ⟨v0, vs0, d0, ds0, p0, q0, hargs, rfl, rfl, h0, r0⟩ := trodAll_cons hA
 obtain ⟨rfl, rfl, rfl⟩ := trodAll_nil r0
 obtain rfl : args = #[v0] := by cases args; simp_all
 obtain ⟨rfl, rfl⟩ := trodVars_none hV
 have k0 := h0
 have lt0 : ∀ x ∈ p0, x.block < W.heap.size := by obtain ⟨m, hm⟩ := k0; exact DataW.trod_lt m _ _ _ hm
 obtain ⟨a0, len0, cap0, rfl⟩ := okWide_slice Tryd.underlying34 (hval 0 34 v0 rfl rfl)
 obtain ⟨x0, hx0⟩ : ∃ l : List UInt8, J2 W (.slice a0 len0 cap0) l.length 1 (u8s l) := by
  obtain ⟨fuel, hf⟩ := h0
  exact aj3 Tryd.underlying34 hf
 clear hA0 hval0
 refine (bb2 _ x0 W hx0 (aR7 hL)).mono fun e W' ⟨he, bel⟩ => ?_
 subst he
 exact ⟨_, rfl, _, _, _, [], _, [], hW', trodAll_mk1 (shut_bool Tryd.underlying4 _), (trodAll_cons_mk (Below.trod aX6 (by kernel_rfl) (of_decide_eq_true (by kernel_rfl)) k0 bel lt0) trodAll_mk0), rfl, bel.frame _, fun h => by cases h⟩
theorem facts : joinedFacts Tryd.pinned.checked.prog 4 Tryd.f4 Rows.fnExprTextSpec Rows.fnExprTextRow = true := by
 unfold joinedFacts
 rw [may_enter, lifts_final, make_is]
 kernel_rfl
theorem over : Rows.fnExprTextRow.holds Tryd.pinned (OpenSpec.ofChange Rows.fnExprTextSpec) :=
 OpenClaim.holds_of_wide 4 Tryd.f4 rfl rfl rfl rfl rfl rfl rfl ⟨rfl, rfl, rfl, rfl, rfl⟩ rfl rfl rfl rfl rfl (by kernel_rfl) Tryd.func4 facts
  (of_decide_eq_true (by kernel_rfl)) (by unfold Func.isWrapper; first | (rw [if_pos (by decide +kernel)]; kernel_rfl) | (rw [if_neg (by decide +kernel)]; exact ⟨rfl, rfl⟩))
  (fun os started H enc _ => lifted os started H enc)
theorem proved : Rows.FnExprTextCardSaid :=
 Claim7.holds_tied_plain_at .later [] [.data, .data, .data] true (true, "29c6cfba1d915074d8b16d7b64f223592a1f45a26570abc5ee25fe8821f5d638") false over (fun _ h => by cases h) (by kernel_rfl) (fun _ h => by cases h) fnExprText_row_tie rfl ⟨rfl, rfl⟩ (by kernel_rfl) rfl
  (fun f fn hf hfn => by
   obtain rfl : f = 4 := Option.some.inj ((show Tryd.prog.funcNamed "loop.example/constanttime/laws.FnExprText" = some 4 by kernel_rfl).symm.trans hf) |>.symm
   obtain rfl : fn = Tryd.f4 := (Option.some.inj (Tryd.func4.symm.trans hfn)).symm
   exact ⟨by kernel_rfl, fun j t ht => by
    rw [Tryd.params4] at ht
    have hm : t ∈ [34] := by simpa using Array.mem_of_getElem? ht
    have hall : ([34].all fun u => !Tryd.prog.wantsStandIn u) = true := by kernel_rfl
    exact (show Tryd.prog.wantsStandIn t = false by simpa using bg6.1 hall t hm)⟩)
  (by kernel_rfl)
end Go.Proofs.YtcahndjigkledaaDoor.exLExprText
