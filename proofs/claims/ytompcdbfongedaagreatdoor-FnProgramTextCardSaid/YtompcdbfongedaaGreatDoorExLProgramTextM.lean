/-
  LProgramText: the statement, whatever the argument. Conditions: none beyond the statement's own.
-/
import Derived.Test.YtompcdbfongedaaGreatDoorCards
import Derived.Test.YtompcdbfongedaaGreatDoorTie
import Derived.ProofKit
import Derived.OpenShut
import Derived.LaidMore
import Derived.Lay
import Derived.SevenTiedAt
import Derived.Stop.Joined
import Derived.ChangeMaps5
import Derived.Test.YtompcdbfongedaaGreatDoorK1
import Derived.Test.YtompcdbfongedaaGreatDoorK2
import Derived.Test.YtompcdbfongedaaGreatDoorK3
import Derived.Test.YtompcdbfongedaaGreatDoorK4
import Derived.Test.YtompcdbfongedaaGreatDoorK5
import Derived.Test.YtompcdbfongedaaGreatDoorK6
import Derived.Test.YtompcdbfongedaaGreatDoorK7
import Derived.Test.YtompcdbfongedaaGreatDoorEnter1M
import Derived.Test.YtompcdbfongedaaGreatDoorEnter2M
import Derived.Test.YtompcdbfongedaaGreatDoorEnter3M
set_option maxRecDepth 100000
set_option maxHeartbeats 16000000
set_option linter.unusedVariables false
set_option linter.unusedSimpArgs false
open Bool renaming not_eq_false' → b67, not_eq_true' → b65
open List renaming all_eq_true → b68, length_append → b69, length_cons → b58, length_nil → b60
namespace Go.Proofs.YtompcdbfongedaaGreatDoor.exLProgramText
open Go Go.RowKit Go.Proofs.YtompcdbfongedaaGreatDoor
theorem aR1 (p : j0) : F0 p ≠ [] := by unfold F0; simp
theorem bJ0 (p : j0) : N1 (I9 p) = if o6 p then (p, true) else (zP, false) := by
 unfold I9
 split
 ·rename_i h; exact aP5 h
 refine bj7 ?_
 cases h : (N1 []).2 with
 | false => rfl
 | true => exact absurd (aY1 h).2 (aR1 _)
theorem bq7 (p : j0) : (I9 p).length <= 1300000 := by
 unfold I9
 split
 ·rename_i h
  obtain ⟨h1, h2, h3⟩ := ah4 h
  obtain ⟨g1, g2, g3, g4, g5⟩ := ac8 h1
  have hz := C4 p.vars.length p.arrays.length 5 p.body h2
  have z1 := W8 p.vars
  have z2 := W8 p.arrays
  unfold F0
  simp only [b69, b58, b60]
  omega
 simp
theorem bx6 (t : List UInt8) : ((N1 t).2 && !((b6 (I9 (N1 t).1)).toList == (b6 t).toList)) = false := by
 cases h : (N1 t).2 with
 | false => rfl
 | true =>
  have h1 := aY1 h
  rw [bq6 h1.1, h1.2]; simp
theorem bH3 {a b : Bool} (h : (a && !b) = false) (h1 : a = true) (h2 : b = false) : False := by subst h1 h2; cases h
theorem b51 {x : Bool} (h : (!x == x) = true) : False := by cases x <;> simp at h
theorem bP0 {s : ByteArray} (h : (s.toList == s.toList) = false) : False := by simp at h
theorem bO8 {a b : Bool} (h : (a && !b) = false) (h1 : a = true) : true = b := by subst h1; cases b <;> simp_all
abbrev J4 (q : j0) (r0 : List It) : List It := .row 3 (D.ints q.vars) :: .row 3 (D.ints q.arrays) :: .tree (D.stmts q.body) :: .box [.ref 2, .ref 3, .tref 4] :: r0
theorem bR3 (c d x t y : List UInt8) (p p1 q : j0) (v m v2 : Bool) (hm : (v && !m) = false) (hy : (v2 && !((b6 y).toList == (b6 t).toList)) = false)
    (r0 : j1.ok Tryz.prog (⟨10, [.ref 0], [dY c], [dY c] ++ pS p, pA 1⟩)) (r1 : j1.ok Tryz.prog (⟨16, [.ref 0], [dY d], [dY d], tA t⟩))
    (r2 : j1.ok Tryz.prog (F9 11 [pA 0] (pS p) (tA x))) (r3 : j1.ok Tryz.prog (F9 12 [pA 0] (pS p) (tA x)))
    (r4 : j1.ok Tryz.prog (F9 13 [pA 0] (pS p) (bA v))) (r5 : j1.ok Tryz.prog (F9 14 [pA 0] (pS p) (bA v)))
    (r6 : j1.ok Tryz.prog ⟨6, [tA x], [], oP p1, .tup [oA 0, bA v]⟩)
    (r7 : j1.ok Tryz.prog (F9 15 [pA 0, pA 3] (pS p1 ++ pS p) (bA m)))
    (r8 : j1.ok Tryz.prog ⟨6, [tA t], [], oP q, .tup [oA 0, bA v2]⟩) (r9 : j1.ok Tryz.prog ⟨5, [tA t], [], pS q, .tup [pA 0, bA v2]⟩)
    (ra : j1.ok Tryz.prog (F9 15 [pA 0, pA 3] (pS q ++ pS q) (bA true))) (rb : j1.ok Tryz.prog (F9 11 [pA 0] (pS q) (tA y))) :
    j1.ok Tryz.prog ⟨4, [.ref 0, .ref 1], [dY c, dY d], [dY c, dY d], bA true⟩ := by
  have hA0 := r0; have hA1 := r1; have hA2 := r2; have hA3 := r3; have hA4 := r4; have hA5 := r5; have hA6 := r6; have hA7 := r7; have hA8 := r8; have hA9 := r9; have hAa := ra; have hAb := rb; refine D2 87 Tryz.func4 [dY c, dY d] [(0, .ref 0), (1, .ref 1)] fun G => ?_; refine wp_seq (j3 G d7 [(4, bA false)] fun G => b0 (wp_seq (wp_seq ?_))); cases h0 : (decide ((c.length : Int) > 1048576))
  ·
   have q0 := L3 h0; refine j3 G (y7 (fc h0 fz) [(4, 0), (5, 0), (6, 0), (1007, 0)]) [(21, bA (decide ((d.length : Int) > 1048576)))] fun G => b0 (S9 G (fun h1 q1 => ?_) fun h1 q1 => ?_)
   ·
    refine wp_skip (b0 (wp_seq (j5 G (n4 1 [0] hA0) [0, 1, 10, 11, 12, 18] [dY c, dY d, dI p.vars, dI p.arrays, dT p.body, .box (pL 2)] [(1, .ref 1), (4, bA false), (5, .ptr 5 0)] fun G => b0 (wp_seq (j3 G (n4 1 [2, 3, 4] hA2) [(6, .v (.string (b6 x)))] fun G => b0 (wp_seq (j5 G (n4 1 [] hA6) [0, 1, 2, 3, 4, 5, 14, 15, 16, 46] [dY c, dY d, dI p.vars, dI p.arrays, dT p.body, .box (pL 2), .row 3 (D.ints p1.vars), .row 3 (D.ints p1.arrays), .tree (D.stmts p1.body), .box [.ref 6, .ref 7, .tref 8]] [(1, .ref 1), (4, bA false), (5, .ptr 5 0), (6, .v (.string (b6 x))), (7, .ptr 9 0), (8, bA v)] fun G => b0 (wp_seq (wp_seq ?_))))))))); cases h2 : (!(b6 x).toList == (b6 x).toList)
    ·
     have q2 : ((b6 x).toList == (b6 x).toList) = true := (Eq.mp (b67 _) h2); cases h3 : (v)
     ·
      refine ab6 G (x8 (m8 2 [2, 3, 4] hA3 (m8 6 [2, 3, 4] hA4 (m8 8 [2, 3, 4] hA5 (m8 14 [2, 3, 4] hA5 x7)))) (fc h2 (fc (a := !v == v) (b := false) (by rw [h3]; rfl) (fc h3 fz))) (us [(5, 9, 0), (1010, 1010, 0), (12, 15, 1), (1016, 1016, 1), (18, 19, 1), (20, 23, 2), (24, 24, 1), (1024, 1024, 2), (1025, 1025, 1)])) [0, 0, 2, 7, 15, 31, 63, 31, 255, 511, 1023, 2047, 4095, 4095, 12287, 32767, 65535, 131071, 262143, 524287, 1048575, 1048575, 4194303, 8388607, 16777215, 33554431] [0, 1] [dY c, dY d] [(1, .ref 1), (4, bA false), (56, bA false)] fun G => b0 (rF G false (by kernel_rfl) (wp_skip (b0 (wp_seq (j3 G (n4 1 [1] hA1) [(9, .v (.string (b6 t)))] fun G => b0 (wp_seq (j5 G (n4 1 [] hA8) [0, 1, 10, 11, 12, 42] (dY c :: dY d :: (J4 q [])) [(4, bA false), (9, .v (.string (b6 t))), (10, .ptr 5 0), (11, bA v2)] fun G => b0 (wp_seq (j5 G (n4 1 [] hA9) [0, 1, 2, 3, 4, 5, 14, 15, 16, 46] (dY c :: dY d :: (J4 q [dI q.vars, dI q.arrays, dT q.body, .box (pL 6)])) [(4, bA false), (9, .v (.string (b6 t))), (10, .ptr 5 0), (11, bA v2), (12, .ptr 9 0), (13, bA v2)] fun G => b0 (wp_seq ?_)))))))))); cases h4 : (!v2)
      · have q4 : (v2) = true := (Eq.mp (b67 _) h4); refine j5 G (x8 (m8 6 [2, 3, 4, 6, 7, 8] (j1.lend hAa [.row 3, .row 3, .tree]) (m8 13 [2, 3, 4] (j1.lend hAb [.row 3, .row 3, .tree]) x7)) (fc (a := v2 == v2) (b := true) (by rw [q4]; rfl) (fc (b := true) rfl (fc h4 fz))) (us [(4, 6, 0), (1007, 1007, 0), (9, 11, 1), (12, 15, 2), (16, 16, 1), (1016, 1016, 2), (1017, 1017, 1)])) [0, 1] [dY c, dY d] [(4, bA ((b6 y).toList == (b6 t).toList))] fun G => b0 (wp_ret ?_); exact y9 ((b6 y).toList == (b6 t).toList) G [0, 1] (bO8 hy (by with_reducible assumption))
      have q4 : (v2) = false := (Eq.mp (b65 _) h4); refine j5 G (x8 (m8 6 [2, 3, 4, 6, 7, 8] (j1.lend hAa [.row 3, .row 3, .tree]) x7) (fc (a := v2 == v2) (b := true) (by rw [q4]; rfl) (fc (b := true) rfl (fc h4 fz))) (us [(4, 6, 0), (1007, 1007, 0), (9, 11, 1), (12, 15, 2), (16, 16, 1), (1016, 1016, 2), (1017, 1017, 1)])) [0, 1] [dY c, dY d] [(4, bA true)] fun G => b0 (wp_ret ?_); exact H9 G [0, 1]
     refine ab6 G (x8 (m8 2 [2, 3, 4] hA3 (m8 6 [2, 3, 4] hA4 (m8 8 [2, 3, 4] hA5 (m8 14 [2, 3, 4] hA5 (m8 22 [6, 7, 8, 2, 3, 4] (j1.lend hA7 [.row 3, .row 3, .tree]) x7))))) (fc h2 (fc (a := !v == v) (b := false) (by rw [h3]; rfl) (fc h3 fz))) (us [(5, 9, 0), (1010, 1010, 0), (12, 15, 1), (1016, 1016, 1), (18, 19, 1), (20, 23, 2), (24, 24, 1), (1024, 1024, 2), (1025, 1025, 1)])) [0, 0, 2, 7, 15, 31, 63, 31, 255, 511, 1023, 2047, 4095, 4095, 12287, 32767, 65535, 131071, 262143, 524287, 1048575, 1048575, 4194303, 8388607, 16777215, 33554431] [0, 1] [dY c, dY d] [(1, .ref 1), (4, bA false), (56, bA !m)] fun G => b0 ?_; cases h5 : (!m)
     ·
      have q5 : (m) = true := (Eq.mp (b67 _) h5); refine rF G _ h5 (wp_skip (b0 (wp_seq (j3 G (n4 1 [1] hA1) [(9, .v (.string (b6 t)))] fun G => b0 (wp_seq (j5 G (n4 1 [] hA8) [0, 1, 10, 11, 12, 42] (dY c :: dY d :: (J4 q [])) [(4, bA false), (9, .v (.string (b6 t))), (10, .ptr 5 0), (11, bA v2)] fun G => b0 (wp_seq (j5 G (n4 1 [] hA9) [0, 1, 2, 3, 4, 5, 14, 15, 16, 46] (dY c :: dY d :: (J4 q [dI q.vars, dI q.arrays, dT q.body, .box (pL 6)])) [(4, bA false), (9, .v (.string (b6 t))), (10, .ptr 5 0), (11, bA v2), (12, .ptr 9 0), (13, bA v2)] fun G => b0 (wp_seq ?_))))))))); cases h6 : (!v2)
      · have q6 : (v2) = true := (Eq.mp (b67 _) h6); refine j5 G (x8 (m8 6 [2, 3, 4, 6, 7, 8] (j1.lend hAa [.row 3, .row 3, .tree]) (m8 13 [2, 3, 4] (j1.lend hAb [.row 3, .row 3, .tree]) x7)) (fc (a := v2 == v2) (b := true) (by rw [q6]; rfl) (fc (b := true) rfl (fc h6 fz))) (us [(4, 6, 0), (1007, 1007, 0), (9, 11, 1), (12, 15, 2), (16, 16, 1), (1016, 1016, 2), (1017, 1017, 1)])) [0, 1] [dY c, dY d] [(4, bA ((b6 y).toList == (b6 t).toList))] fun G => b0 (wp_ret ?_); exact y9 ((b6 y).toList == (b6 t).toList) G [0, 1] (bO8 hy (by with_reducible assumption))
      have q6 : (v2) = false := (Eq.mp (b65 _) h6); refine j5 G (x8 (m8 6 [2, 3, 4, 6, 7, 8] (j1.lend hAa [.row 3, .row 3, .tree]) x7) (fc (a := v2 == v2) (b := true) (by rw [q6]; rfl) (fc (b := true) rfl (fc h6 fz))) (us [(4, 6, 0), (1007, 1007, 0), (9, 11, 1), (12, 15, 2), (16, 16, 1), (1016, 1016, 2), (1017, 1017, 1)])) [0, 1] [dY c, dY d] [(4, bA true)] fun G => b0 (wp_ret ?_); exact H9 G [0, 1]
     have q5 : (m) = false := (Eq.mp (b65 _) h5); exact False.elim (bH3 hm (by with_reducible assumption) (by with_reducible assumption))
    have q2 : ((b6 x).toList == (b6 x).toList) = false := (Eq.mp (b65 _) h2); exact False.elim (bP0 (by with_reducible assumption))
   refine wp_seq (j3 G d7 [(4, bA true)] fun G => b0 (wp_ret (j2 ?_))); exact H9 G [0, 1]
  have q0 := L2 h0; refine j3 G (y7 (fc h0 fz) [(4, 0), (5, 0), (6, 0), (1007, 0)]) [(21, bA true)] fun G => b0 (rT G true (by kernel_rfl) (wp_seq (j3 G d7 [(4, bA true)] fun G => b0 (wp_ret (j2 ?_))))); exact H9 G [0, 1]
theorem bs3 (c : List UInt8) : ∃ p : j0, p.size <= 200000 /\ j1.ok Tryz.prog (fpC c p) := ⟨_, bN0 c, bZ5 c _ (ai7 c)⟩
theorem bs2 (c : List UInt8) : ∃ t : List UInt8, t.length <= 1400000 /\ j1.ok Tryz.prog (ppC c t) := by
 have hb := bd0 (bsD c)
 have hp : (pgD (bsD c) 0).size <= 160000 := aZ2 (bsD c) (by omega) (by omega)
 have h1 := ac9 (bsD c) 0 (by omega) (by omega)
 unfold pgC at h1
 have hsz : p9 (pgD (bsD c) 0).body <= 1048576 := by unfold j0.size at hp; omega
 have h2 := aa5 (pgD (bsD c) 0) hsz
 have hx := bq7 (pgD (bsD c) 0)
 generalize I9 (pgD (bsD c) 0) = x at h2 hx
 obtain ⟨k, t, hk0, hk1, ht, h3⟩ := bN7 (bsD c) (bdD (bsD c) 0).2 [[], [97], [58], [59], [123], [125], [40], [48], [47], [105, 102], [80], [109]] (by decide) (by decide) x (by omega) (by omega) (by omega)
 exact ⟨t, by omega, bZ2 c _ x t _ _ k (bf1 c) h1 h2 h3⟩
theorem bX1 (c d : List UInt8) : j1.ok Tryz.prog ⟨4, [.ref 0, .ref 1], [dY c, dY d], [dY c, dY d], bA true⟩ := by
 obtain ⟨p, hp, r0⟩ := bs3 c
 obtain ⟨t, ht, r1⟩ := bs2 d
 have hx := bq7 p
 have r6 := bG5 (I9 p) (by omega)
 unfold ipC at r6
 rw [aR4, bJ0] at r6
 have r8 := bG5 t (by omega)
 unfold ipC at r8
 rw [aR4] at r8
 have r9 := bW7 t (by omega)
 have r4 := Q3 p
 have r2 := X0 p
 have hz : p9 p.body <= 1048576 := by unfold j0.size at hp; omega
 have r5 := ad2 p hz
 have r3 := aa5 p hz
 have r7 := bG4 (if o6 p then p else zP) p
 have ra := bG4 (N1 t).1 (N1 t).1
 rw [aE9] at ra
 have hy := bx6 t
 have rb := X0 (N1 t).1
 refine bR3 c d (I9 p) t _ p (if o6 p then p else zP) (N1 t).1 (o6 p) _ (N1 t).2 ?_ hy r0 r1 r2 r3 r4 r5 ?_ r7 r8 r9 ra rb
 ·cases h : o6 p with
  | false => rfl
  | true => rw [if_pos rfl, aE9]; rfl
 cases h : o6 p with
 | false => rw [h] at r6; exact r6
 | true => rw [h] at r6; exact r6
theorem bY7 (u : Value) (c : List UInt8) (v : Value) (d : List UInt8) (w : World) (hp : V0 w u c.length 1 (u8s c)) (hq : V0 w v d.length 1 (u8s d)) (he : bf8 (fun _ => True) w) : Calls Tryz.prog 4 #[u, v] w fun e w' => e = .returned (.bool true) /\ Below w.heap.size w w' :=
 a29 (bX1 c d) u v w (hp.rowF fun _ _ => trivial) (hq.rowF fun _ _ => trivial) he
end Go.Proofs.YtompcdbfongedaaGreatDoor.exLProgramText

namespace Go.Proofs.YtompcdbfongedaaGreatDoor.exLProgramText
open Go Go.RowKit Go.ChangeShapes Go.WideShapes Go.ChangeAt Go.Proofs.YtompcdbfongedaaGreatDoor
theorem ownk : ownKnob Tryz.prog.godebug = none := by kernel_rfl
theorem lifted (os : Os) (started : os.Started) (H : Type) (enc : TypeId × Value -> H) :
  ReturnsInHanded {} Tryz.checked os 4 .any (fun w args => (Rows.fnProgramTextSpec.pre enc Tryz.prog Tryz.f4 Rows.fnProgramTextRow.domain false w args /\ laidMetH Tryz.prog Rows.fnProgramTextRow.laid w) /\ sizedMet enc Tryz.prog Tryz.f4 (OpenSpec.ofChange Rows.fnProgramTextSpec) false w args)
   (Rows.fnProgramTextSpec.post enc Tryz.prog Tryz.f4 false true false false) := by
 refine returnsInHanded_of_change_and (C := Tryz.checked) (X := fun w _ => laidMetH Tryz.prog Rows.fnProgramTextRow.laid w) (fun _ _ _ hh h => h.of_heap hh) ownk started (by kernel_rfl) Tryz.func4
  (ChangeSpec.witness_shaped (enc := enc) (C := Tryz.checked) (os := os) (X := fun w _ => laidMetH Tryz.prog Rows.fnProgramTextRow.laid w) false (World.laidAll Tryz.prog os Rows.fnProgramTextRow.laid) #[.slice none 0 0, .slice none 0 0] 8 (World.laidAll_os _ _ _)
   (World.shaped_of_ZipB (by kernel_rfl) (by kernel_rfl)) (by kernel_rfl) (by kernel_rfl) (by kernel_rfl)
   (by rw [MakeChecks.laidMetH_plain _ _ _ (by kernel_rfl)]; exact laidMet_laidAll _ (by kernel_rfl) (by kernel_rfl))) ?_
 intro W base args ds gs before hval0 hW hcnd _ hL _
 have hval : ∀ (j : Nat) t v, Tryz.f4.params[j]? = some t -> args[j]? = some v -> Value.okWide Tryz.prog W .any base t v := hval0
 have hW' := hW
 obtain ⟨p, q, hA0, hV, rfl, hfz, hnd⟩ := hW
 have hA : DataW.TrodAll enc Tryz.prog W 0 (fun _ => true) true Tryz.f4.params.toList args.toList ds p := hA0
 rw [Tryz.params4] at hA hval
 obtain ⟨v0, vs0, d0, ds0, p0, q0, hargs, rfl, rfl, h0, r0⟩ := trodAll_cons hA
 obtain ⟨v1, vs1, d1, ds1, p1, q1, rfl, rfl, rfl, h1, r1⟩ := trodAll_cons r0
 obtain ⟨rfl, rfl, rfl⟩ := trodAll_nil r1
 obtain rfl : args = #[v0, v1] := by cases args; simp_all
 obtain ⟨rfl, rfl⟩ := trodVars_none hV
 have k0 := h0
 have lt0 : ∀ x ∈ p0, x.block < W.heap.size := by obtain ⟨m, hm⟩ := k0; exact DataW.trod_lt m _ _ _ hm
 obtain ⟨a0, len0, cap0, rfl⟩ := okWide_slice Tryz.underlying31 (hval 0 31 v0 rfl rfl)
 obtain ⟨x0, hx0⟩ : ∃ l : List UInt8, V0 W (.slice a0 len0 cap0) l.length 1 (u8s l) := by
  obtain ⟨fuel, hf⟩ := h0
  exact ag8 Tryz.underlying31 hf
 have k1 := h1
 have lt1 : ∀ x ∈ p1, x.block < W.heap.size := by obtain ⟨m, hm⟩ := k1; exact DataW.trod_lt m _ _ _ hm
 obtain ⟨a1, bd5, cap1, rfl⟩ := okWide_slice Tryz.underlying31 (hval 1 31 v1 rfl rfl)
 obtain ⟨x1, hx1⟩ : ∃ l : List UInt8, V0 W (.slice a1 bd5 cap1) l.length 1 (u8s l) := by
  obtain ⟨fuel, hf⟩ := h1
  exact ag8 Tryz.underlying31 hf
 clear hA0 hval0
 refine (bY7 _ x0 _ x1 W hx0 hx1 (br0 hL)).mono fun e W' ⟨he, bel⟩ => ?_
 subst he
 exact ⟨_, rfl, _, _, _, [], _, [], hW', trodAll_mk1 (shut_bool Tryz.underlying4 _), (trodAll_cons_mk (Below.trod a92 (by kernel_rfl) (of_decide_eq_true (by kernel_rfl)) k0 bel lt0) (trodAll_cons_mk (Below.trod a92 (by kernel_rfl) (of_decide_eq_true (by kernel_rfl)) k1 bel lt1) trodAll_mk0)), rfl, bel.frame _, fun h => by cases h⟩
theorem facts : joinedFacts Tryz.pinned.checked.prog 4 Tryz.f4 Rows.fnProgramTextSpec Rows.fnProgramTextRow = true := by
 unfold joinedFacts
 rw [may_enter, lifts_final, make_is]
 kernel_rfl
theorem over : Rows.fnProgramTextRow.holds Tryz.pinned (OpenSpec.ofChange Rows.fnProgramTextSpec) :=
 OpenClaim.holds_of_wide 4 Tryz.f4 rfl rfl rfl rfl rfl rfl rfl ⟨rfl, rfl, rfl, rfl, rfl⟩ rfl rfl rfl rfl rfl (by kernel_rfl) Tryz.func4 facts
  (of_decide_eq_true (by kernel_rfl)) (by unfold Func.isWrapper; first | (rw [if_pos (by decide +kernel)]; kernel_rfl) | (rw [if_neg (by decide +kernel)]; exact ⟨rfl, rfl⟩))
  (fun os started H enc _ => lifted os started H enc)
theorem proved : Rows.FnProgramTextCardSaid :=
 Claim7.holds_tied_plain_at .later [] [.data, .data, .data, .data, .sentinel, .sentinel, .pinned] true (true, "918cd2ae6651640d65df1d587bc5ec1063cc14ef41ecabdc24b0f22ebd98dee6") true over (fun _ h => by cases h) (by kernel_rfl) (fun _ h => by cases h) fnProgramText_row_tie rfl ⟨rfl, rfl⟩ (by kernel_rfl) rfl
  (fun f fn hf hfn => by
   obtain rfl : f = 4 := Option.some.inj ((show Tryz.prog.funcNamed "loop.example/constanttime/laws.FnProgramText" = some 4 by kernel_rfl).symm.trans hf) |>.symm
   obtain rfl : fn = Tryz.f4 := (Option.some.inj (Tryz.func4.symm.trans hfn)).symm
   exact ⟨by kernel_rfl, fun j t ht => by
    rw [Tryz.params4] at ht
    have hm : t ∈ [31, 31] := by simpa using Array.mem_of_getElem? ht
    have hall : ([31, 31].all fun u => !Tryz.prog.wantsStandIn u) = true := by kernel_rfl
    exact (show Tryz.prog.wantsStandIn t = false by simpa using b68.1 hall t hm)⟩)
  (by kernel_rfl)
end Go.Proofs.YtompcdbfongedaaGreatDoor.exLProgramText
