/-
  LThreadJumps: the statement, whatever the argument. Conditions: none beyond the statement's own.
-/
import Derived.Test.YtmokkddidcmglaaGreatK1
import Derived.Test.YtmokkddidcmglaaGreatK2
import Derived.Test.YtmokkddidcmglaaGreatK3
import Derived.Test.YtmokkddidcmglaaGreatK4
import Derived.Test.YtmokkddidcmglaaGreatK5
import Derived.Test.YtmokkddidcmglaaGreatK6
import Derived.Test.YtmokkddidcmglaaGreatEnter1M
import Derived.Test.YtmokkddidcmglaaGreatEnter2M
import Derived.Test.YtmokkddidcmglaaGreatEnter3M
set_option maxRecDepth 100000
set_option maxHeartbeats 16000000
set_option linter.unusedVariables false
set_option linter.unusedSimpArgs false
open Bool renaming not_eq_true' → b03
open List renaming all_eq_true → bX9
open Nat renaming le_trans → bZ6
namespace Go.Proofs.YtmokkddidcmglaaGreat.exLThreadJumps
open Go Go.RowKit Go.Proofs.YtmokkddidcmglaaGreat
abbrev thQ (f : FuncId) (c d : b6) (b : Bool) : j8 := ⟨f, [pA 0], kcS c, kcS c ++ [.row 3 (.ints d.vars), .row 3 (.ints d.arrays), .row 60 (.instrs d.list)], .tup [.agg [.ref 3, .ref 4, .ref 5], bA b]⟩
theorem bO4 {x y : t2} (h : y = x) : j8.ok Tryz.prog (V1 13 [mA 0, mA 2] (mS x ++ mS y) (bA true)) := by
 subst h
 have := az5 y.vals y.vals y.arrs y.arrs
 rw [decide_eq_true rfl, decide_eq_true rfl] at this
 exact this
theorem bO3 {l m : List (Int × Int)} (h : m = l) : j8.ok Tryz.prog (V1 14 [.ref 0, .ref 1] [.dat (.events l), .dat (.events m)] (bA true)) := by
 subst h
 have := bO8 m m
 rw [decide_eq_true rfl] at this
 exact this
theorem bo2 {b : Bool} (h : b = true) (h2 : b = false) : False := by rw [h] at h2; cases h2
abbrev N4 (k : b6) (d : b6) (m : t2) (r0 : List It) : List It := dI k.vars :: dI k.arrays :: dN k.list :: dI m.vals :: dR m.arrs :: .box (pL 1) :: .box [.ref 4, .ref 5] :: .row 3 (D.ints d.vars) :: .row 3 (D.ints d.arrays) :: .row 60 (D.instrs d.list) :: .box (pL 8) :: r0
theorem bJ1 (c : List UInt8) (k d : b6) (m m2 x y : t2) (v u : List (Int × Int)) (b e g : Bool) (hv : v.length ≤ 1000000) (hu : u.length ≤ 1000000)
    (hd : j8.ok Tryz.prog (crC 7 c k m m2))
    (hi : j8.ok Tryz.prog (thQ 8 k d b)) (hs : j8.ok Tryz.prog (thQ 9 k d b))
    (hcs : j8.ok Tryz.prog (V1 10 [pA 0, pA 3] (kcS d ++ kcS d) (bA true)))
    (hcv : b = true → j8.ok Tryz.prog (V1 12 [pA 0] (kcS d) (bA true)))
    (hrc : j8.ok Tryz.prog (rcC k m x v e)) (hrd : j8.ok Tryz.prog (rcC d m y u g))
    (hA : b = true → e = true → g = true ∧ y = x ∧ x7 u = x7 v ∧ u.length ≤ v.length) : j8.ok Tryz.prog ⟨3, [.ref 0], [dY c], [dY c], bA true⟩ := by
  have hdr := hd; have hti := hi; have hts := hs; have hsm := hcs; have hva := hcv; have hr1 := hrc; have hr2 := hrd
  have hms := fun hb he => bO4 (hA hb he).2.1
  have htr := fun hb he => bO3 (hA hb he).2.2.1
  refine I1 98 Tryz.func3 [dY c] [(0, .ref 0)] fun G => ?_; refine wp_seq (l0 G d9 [(2, bA false)] fun G => b0 (wp_seq (wp_seq (l0 G d9 [(18, bA (decide ((c.length : Int) > 1048576)))] fun G => b0 (rcD G (fun h0 q0 => ?_) fun h0 q0 => ?_)))))
  ·
   refine wp_skip (b0 (wp_seq (i9 G (t0 1 [0] hdr) [0, 9, 10, 11, 12, 13, 49, 57] [dY c, dI k.vars, dI k.arrays, dN k.list, dI m.vals, dR m.arrs, .box (pL 1), .box [.ref 4, .ref 5]] [(2, bA false), (3, .ptr 6 0), (4, .ptr 7 0)] fun G => b0 (wp_seq (i9 G (t0 1 [1, 2, 3] hti) [0, 1, 2, 3, 4, 5, 6, 7, 16, 17, 18, 48] (dY c :: (N4 k d m [])) [(2, bA false), (3, .ptr 6 0), (4, .ptr 7 0), (6, .ptr 11 0), (7, bA b)] fun G => b0 (wp_seq (i9 G (t0 1 [1, 2, 3] hts) [0, 1, 2, 3, 4, 5, 6, 7, 8, 9, 10, 11, 20, 21, 22, 52] (dY c :: (N4 k d m [.row 3 (D.ints d.vars), .row 3 (D.ints d.arrays), .row 60 (D.instrs d.list), .box (pL 12)])) [(2, bA false), (3, .ptr 6 0), (4, .ptr 7 0), (6, .ptr 11 0), (7, bA b), (8, .ptr 15 0), (9, bA b)] fun G => b0 (wp_seq (wp_seq (l0 G (Q8 (E2 6 [8, 9, 10, 12, 13, 14] (j8.lend hsm [.row 3, .row 3, .row 60, .row 3, .row 3, .row 60]) Q7) (fc (a := !b == b) (b := false) (by simp [h0]) (fc (b := false) rfl fz)) (us [(4, 7, 0), (1008, 1008, 0), (10, 11, 1), (1012, 1012, 1)])) [(47, bA !b)] fun G => b0 ?_)))))))))); cases h1 : (!b)
   ·
    have q1 : (b) = true := (Eq.mp (Bool.not_eq_false' _) h1); refine rF G _ h1 (wp_skip (b0 (wp_seq (i9 G (t0 2 [1, 2, 3, 4, 5] hr1) [0, 4, 5, 7, 8, 9, 10, 11, 32, 33, 34, 72] [dY c, dI m.vals, dR m.arrs, .box [.ref 1, .ref 2], .row 3 (D.ints d.vars), .row 3 (D.ints d.arrays), .row 60 (D.instrs d.list), .box (pL 4), .row 3 (D.ints x.vals), .tree (D.rows x.arrs), .row 71 (D.events v), .box [.ref 8, .tref 9]] [(2, bA false), (4, .ptr 3 0), (6, .ptr 7 0), (10, .ptr 11 0), (11, .ref 10), (12, bA e)] fun G => b0 (wp_seq (i9 G (t0 2 [4, 5, 6, 1, 2] (j8.lend hr2 [.row 3, .row 3, .row 60])) [0, 4, 5, 6, 7, 8, 9, 10, 11, 28, 29, 30, 68] [dY c, .row 3 (D.ints d.vars), .row 3 (D.ints d.arrays), .row 60 (D.instrs d.list), .box (pL 1), .row 3 (D.ints x.vals), .tree (D.rows x.arrs), .row 71 (D.events v), .box [.ref 5, .tref 6], .row 3 (D.ints y.vals), .tree (D.rows y.arrs), .row 71 (D.events u), .box [.ref 9, .tref 10]] [(2, bA false), (6, .ptr 4 0), (10, .ptr 8 0), (11, .ref 7), (12, bA e), (13, .ptr 12 0), (14, .ref 11), (15, bA g)] fun G => b0 (wp_seq ?_))))))); cases h2 : (!e)
    ·
     have q2 : (e) = true := (Eq.mp (Bool.not_eq_false' _) h2); have hA2 := hA (by with_reducible assumption) (by with_reducible assumption); cases h3 : (g)
     · exact False.elim (bo2 (hA (by with_reducible assumption) (by with_reducible assumption)).1 (by with_reducible assumption))
     · refine i9 G (Q8 (E2 1 [1, 2, 3] (j8.lend (hva (by assumption)) [.row 3, .row 3, .row 60]) (E2 10 [5, 6, 9, 10] (j8.lend (hms (by assumption) (by assumption)) [.row 3, .tree, .row 3, .tree]) (E2 14 [7] (j8.lend (bA2 v (by assumption)) [.row 71]) (E2 16 [11] (j8.lend (bA2 u (by assumption)) [.row 71]) (E2 17 [125, 141] (j8.lend (htr (by assumption) (by assumption)) [.row 71, .row 71]) Q7))))) (fc (b := true) rfl (fc h2 (fc h3 fz))) (us [(3, 5, 0), (6, 7, 1), (8, 10, 2), (11, 11, 1), (1011, 1011, 2), (12, 12, 1), (13, 17, 0), (18, 18, 1), (1018, 1018, 0), (19, 19, 1), (20, 24, 0), (25, 25, 1), (1025, 1025, 0), (26, 26, 0), (1026, 1026, 1), (1027, 1027, 0)])) [0] [dY c] [(2, bA (decide ((u.length : Int) ≤ v.length)))] fun G => b0 (wp_ret ?_); exact J6 (decide ((u.length : Int) ≤ v.length)) G [0] ((decide_eq_true (by omega)).symm)
    · have q2 : (e) = false := (Eq.mp (b03 _) h2); refine i9 G (Q8 (E2 1 [1, 2, 3] (j8.lend (hva (by assumption)) [.row 3, .row 3, .row 60]) Q7) (fc (b := true) rfl (fc h2 fz)) [(3, 0), (4, 0), (5, 0), (6, 1), (7, 1), (11, 1), (12, 1), (18, 1), (19, 1), (25, 1), (26, 0), (1026, 1), (1027, 0)]) [0] [dY c] [(2, bA true)] fun G => b0 (wp_ret ?_); exact I9 G [0]
   · have q1 : (b) = false := (Eq.mp (b03 _) h1); refine rT G _ h1 (wp_seq (i9 G (Q8 (E2 6 [8, 9, 10, 12, 13, 14] (j8.lend hsm [.row 3, .row 3, .row 60, .row 3, .row 3, .row 60]) Q7) (fc (a := b == b) (b := true) (by rw [q1]; rfl) fz) [(4, 0), (5, 0), (6, 0), (1007, 0)]) (rg 12) (dY c :: (N4 k d m [])) [(2, bA true), (3, .ptr 6 0), (4, .ptr 7 0), (6, .ptr 11 0)] fun G => b0 (wp_ret (n7 ?_)))); exact I9 G [0]
  · refine wp_seq (l0 G d9 [(2, bA true)] fun G => b0 (wp_ret (n7 ?_))); exact I9 G [0]
theorem bO5 (c : List UInt8) : j8.ok Tryz.prog ⟨3, [.ref 0], [dY c], [dY c], bA true⟩ := by
 obtain ⟨k, m, m2, h1, h2, h3, h4⟩ := bm4 c
 obtain ⟨f1, f2, f3, f4⟩ := aw3 h2
 have hi : ∀ r ∈ m.arrs, r.length ≤ 1048576 := fun r hr => by
  have := (bo6 (bX9.1 f4 r hr)).1
  omega
 obtain ⟨x, v, e, h5, h6⟩ := aE1 k m (by omega) (by omega) hi
 obtain ⟨y, u, g, h7, h8⟩ := aE1 (af0 k) m (by omega) (by omega) hi
 refine bJ1 c k (af0 k) m m2 x y v u (f8 k) e g (bZ6 (bh1 h5) (by decide)) (bZ6 (bh1 h7) (by decide)) h4 (a66 fun v w h => al1 v k w h) (a66 fun v w h => ak5 v k w h) (aS4 _ _ _) (fun hb => ?_) h6 h8 (fun hb he => ?_)
 ·have := bA3 (af0 k)
  rw [show f8 (af0 k) = true by unfold af0; rw [if_pos hb]; exact aU2 hb] at this
  exact this
 ·have e1 : af0 k = t9 k := by unfold af0; rw [if_pos hb]
  rw [e1] at h7
  exact bs5 (aU2 hb) (fun h => be2 h) (fun hc hm => a77 hc hm) h5 h7 he
theorem bQ9 (u : Value) (c : List UInt8) (w : World) (hp : F2 w u c.length 1 (u8s c)) : Calls Tryz.prog 3 #[u] w fun e w' => e = .returned (.bool true) ∧ Below w.heap.size w w' :=
 bb8 (bO5 c) u w (hp.rowF fun _ _ => trivial)
end Go.Proofs.YtmokkddidcmglaaGreat.exLThreadJumps

namespace Go.Proofs.YtmokkddidcmglaaGreat.exLThreadJumps
open Go Go.RowKit Go.ChangeShapes Go.WideShapes Go.ChangeAt Go.Proofs.YtmokkddidcmglaaGreat
theorem lifted (os : Os) (started : os.Started) (H : Type) (enc : TypeId × Value → H) :
  ReturnsInHanded {} Tryz.checked os 3 .any (Rows.fnThreadJumpsSpec.pre6 enc Tryz.prog Tryz.f3 Rows.fnThreadJumpsRow.domain false) (Rows.fnThreadJumpsSpec.post enc Tryz.prog Tryz.f3 false true false false) := by
 refine returnsInHanded_of_change (C := Tryz.checked) own started (by kernel_rfl) Tryz.func3
  (ChangeSpec.witness6 (enc := enc) (C := Tryz.checked) false ⟨#[], #[.slice none 0 0], []⟩ 8 (by kernel_rfl) (by kernel_rfl) (by kernel_rfl) (by kernel_rfl)) ?_
 intro W base args ds gs before hval0 hW hcnd _
 have hval : ∀ (j : Nat) t v, Tryz.f3.params[j]? = some t → args[j]? = some v → Value.okWide Tryz.prog W .any base t v := hval0
 have hW' := hW
 obtain ⟨p, q, hA0, hV, rfl, hfz, hnd⟩ := hW
 have hA : DataW.TrodAll enc Tryz.prog W 0 (fun _ => true) true Tryz.f3.params.toList args.toList ds p := hA0
 rw [Tryz.params3] at hA hval
 obtain ⟨v0, vs0, d0, ds0, p0, q0, hargs, rfl, rfl, h0, r0⟩ := trodAll_cons hA
 obtain ⟨rfl, rfl, rfl⟩ := trodAll_nil r0
 obtain rfl : args = #[v0] := by cases args; simp_all
 obtain ⟨rfl, rfl⟩ := trodVars_none hV
 have k0 := h0
 have lt0 : ∀ x ∈ p0, x.block < W.heap.size := by obtain ⟨m, hm⟩ := k0; exact DataW.trod_lt m _ _ _ hm
 obtain ⟨a0, len0, cap0, rfl⟩ := okWide_slice Tryz.underlying22 (hval 0 22 v0 rfl rfl)
 obtain ⟨x0, hx0⟩ : ∃ l : List UInt8, F2 W (.slice a0 len0 cap0) l.length 1 (u8s l) := by
  obtain ⟨fuel, hf⟩ := h0
  exact az6 Tryz.underlying22 hf
 clear hA0 hval0
 refine (bQ9 _ x0 W hx0).mono fun e W' ⟨he, bel⟩ => ?_
 subst he
 exact ⟨_, rfl, _, _, _, [], _, [], hW', trodAll_mk1 (shut_bool Tryz.underlying4 _), (trodAll_cons_mk (Below.trod bv0 (by kernel_rfl) (of_decide_eq_true (by kernel_rfl)) k0 bel lt0) trodAll_mk0), rfl, bel.frame _, fun h => by cases h⟩
theorem facts : joinedFacts Tryz.pinned.checked.prog 3 Tryz.f3 Rows.fnThreadJumpsSpec Rows.fnThreadJumpsRow = true := by
 unfold joinedFacts
 rw [may_enter, lifts_final, make_is]
 kernel_rfl
theorem over : Rows.fnThreadJumpsRow.holds Tryz.pinned (OpenSpec.ofChange Rows.fnThreadJumpsSpec) :=
 OpenClaim.holds_of_wide 3 Tryz.f3 rfl rfl rfl rfl rfl rfl rfl ⟨rfl, rfl, rfl, rfl, rfl⟩ rfl rfl rfl rfl rfl (by kernel_rfl) Tryz.func3 facts
  (of_decide_eq_true (by kernel_rfl)) (by unfold Func.isWrapper; first | (rw [if_pos (by decide +kernel)]; kernel_rfl) | (rw [if_neg (by decide +kernel)]; exact ⟨rfl, rfl⟩))
  (fun os started H enc _ => lifted os started H enc)
theorem proved : Rows.FnThreadJumpsSaid := over
end Go.Proofs.YtmokkddidcmglaaGreat.exLThreadJumps
