/-
  LOptimizeCode: the statement, whatever the argument. Conditions: none beyond the statement's own.
-/
import Derived.Test.YtmokkddidcmglaaGreatK1
import Derived.Test.YtmokkddidcmglaaGreatK2
import Derived.Test.YtmokkddidcmglaaGreatK3
import Derived.Test.YtmokkddidcmglaaGreatK4
import Derived.Test.YtmokkddidcmglaaGreatK5
import Derived.Test.YtmokkddidcmglaaGreatK6
import Derived.Test.YtmokkddidcmglaaGreatK7
import Derived.Test.YtmokkddidcmglaaGreatEnter1M
import Derived.Test.YtmokkddidcmglaaGreatEnter2M
import Derived.Test.YtmokkddidcmglaaGreatEnter3M
set_option maxRecDepth 100000
set_option maxHeartbeats 16000000
set_option linter.unusedVariables false
set_option linter.unusedSimpArgs false
open Bool renaming not_eq_true' → cf0
open List renaming all_eq_true → cb9
open Nat renaming le_trans → cd3, zero_le → cc7
namespace Go.Proofs.YtmokkddidcmglaaGreat.exLOptimizeCode
open Go Go.RowKit Go.Proofs.YtmokkddidcmglaaGreat
noncomputable section
abbrev thQ (f : FuncId) (c d : b6) (b : Bool) : j9 := ⟨f, [pA 0], kcS c, kcS c ++ [.row 3 (.ints d.vars), .row 3 (.ints d.arrays), .row 60 (.instrs d.list)], .tup [.agg [.ref 3, .ref 4, .ref 5], bA b]⟩
theorem b20 {x y : t9} (h : y = x) : j9.ok Tryz.prog (fnC 13 [mA 0, mA 2] (mS x ++ mS y) (bA true)) := by
 subst h
 have := aH1 y.vals y.vals y.arrs y.arrs
 rw [decide_eq_true rfl, decide_eq_true rfl] at this
 exact this
theorem b19 {l m : List (Int × Int)} (h : m = l) : j9.ok Tryz.prog (fnC 14 [.ref 0, .ref 1] [.dat (.events l), .dat (.events m)] (bA true)) := by
 subst h
 have := b24 m m
 rw [decide_eq_true rfl] at this
 exact this
theorem bo2 {b : Bool} (h : b = true) (h2 : b = false) : False := by rw [h] at h2; cases h2
abbrev thI (f : FuncId) (c d : b6) (b : Bool) : j9 := ⟨f, [pA 0], kcS c, kcS c ++ kcS d, .tup [.agg [.ref 3, .ref 4, .ref 5], bA b]⟩
theorem bG7 (k : b6) : (T3 k).list.length ≤ k.list.length := by
 unfold T3
 split
 ·rename_i hc; exact (aX9 (I3 hc).1).2
 ·exact cc7 _
theorem bv4 {k : b6} (hb : e6 k = true) : e6 (T3 k) = true ∧ T3 (T3 k) = T3 k := by
 have e : T3 k = aa6 k := by unfold T3; rw [if_pos hb]
 have hc := (I3 hb).2
 rw [e]
 refine ⟨hc, ?_⟩
 unfold T3
 rw [if_pos hc]; exact a81 hb
abbrev J1 (k : b6) (d : b6) (m : t9) (r0 : List It) : List It := dI k.vars :: dI k.arrays :: dN k.list :: dI m.vals :: dR m.arrs :: .box (pL 1) :: .box [.ref 4, .ref 5] :: .row 3 (D.ints d.vars) :: .row 3 (D.ints d.arrays) :: .row 60 (D.instrs d.list) :: .box (pL 8) :: r0
theorem bV9 (c : List UInt8) (k d : b6) (m m2 x y : t9) (v u : List (Int × Int)) (b e g : Bool) (hv : v.length ≤ 1000000) (hu : u.length ≤ 1000000) (hl : d.list.length ≤ k.list.length) (hk : k.list.length ≤ 400)
    (hd : j9.ok Tryz.prog (crC 7 c k m m2))
    (hi : j9.ok Tryz.prog (thQ 19 k d b)) (hs : j9.ok Tryz.prog (thI 20 k d b))
    (hi2 : b = true → j9.ok Tryz.prog (thQ 19 d d true))
    (hcs : j9.ok Tryz.prog (fnC 10 [pA 0, pA 3] (kcS d ++ kcS d) (bA true)))
    (hrc : j9.ok Tryz.prog (rcC k m x v e)) (hrd : j9.ok Tryz.prog (rcC d m y u g))
    (hA : b = true → e = true → g = true ∧ y = x ∧ z6 u = z6 v ∧ u.length ≤ v.length) : j9.ok Tryz.prog ⟨5, [.ref 0], [dY c], [dY c], bA true⟩ := by
  have hdr := hd; have hti := hi; have hts := hs; have hsm := hcs; have hr1 := hrc; have hr2 := hrd
  have hms := fun hb he => b20 (hA hb he).2.1
  have htr := fun hb he => b19 (hA hb he).2.2.1
  have hi3 := hi2; refine K9 111 Tryz.func5 [dY c] [(0, .ref 0)] fun G => ?_; refine wp_seq (m7 G f8 [(2, bA false)] fun G => b0 (wp_seq (wp_seq (m7 G f8 [(20, bA (decide ((c.length : Int) > 1048576)))] fun G => b0 (rcD G (fun h0 q0 => ?_) fun h0 q0 => ?_)))))
  ·
   refine wp_skip (b0 (wp_seq (l0 G (A4 1 [0] hdr) [0, 9, 10, 11, 12, 13, 49, 57] [dY c, dI k.vars, dI k.arrays, dN k.list, dI m.vals, dR m.arrs, .box (pL 1), .box [.ref 4, .ref 5]] [(2, bA false), (3, .ptr 6 0), (4, .ptr 7 0)] fun G => b0 (wp_seq (l0 G (A4 1 [1, 2, 3] hti) [0, 1, 2, 3, 4, 5, 6, 7, 16, 17, 18, 48] (dY c :: (J1 k d m [])) [(2, bA false), (3, .ptr 6 0), (4, .ptr 7 0), (6, .ptr 11 0), (7, bA b)] fun G => b0 (wp_seq (l0 G (A4 1 [1, 2, 3] hts) [0, 1, 2, 3, 4, 5, 6, 7, 8, 9, 10, 11, 20, 21, 22, 52] (dY c :: (J1 k d m [dI d.vars, dI d.arrays, dN d.list, .box (pL 12)])) [(2, bA false), (3, .ptr 6 0), (4, .ptr 7 0), (6, .ptr 11 0), (7, bA b), (8, .ptr 15 0), (9, bA b)] fun G => b0 (wp_seq (wp_seq (m7 G (X7 (H7 6 [8, 9, 10, 12, 13, 14] (j9.lend hsm [.row 3, .row 3, .row 60]) X6) (fc (a := !b == b) (b := false) (by simp [h0]) (fc (b := false) rfl fz)) (us [(4, 7, 0), (1008, 1008, 0), (10, 11, 1), (1012, 1012, 1)])) [(49, bA !b)] fun G => b0 ?_)))))))))); cases h1 : (!b)
   ·
    have q1 : (b) = true := (Eq.mp (Bool.not_eq_false' _) h1); refine rF G _ h1 (wp_skip (b0 (wp_seq (l0 G (A4 2 [1, 2, 3, 4, 5] hr1) [0, 1, 2, 3, 4, 5, 6, 7, 8, 9, 10, 11, 32, 33, 34, 72] (dY c :: (J1 k d m [.row 3 (D.ints x.vals), .tree (D.rows x.arrs), .row 71 (D.events v), .box [.ref 12, .tref 13]])) [(2, bA false), (3, .ptr 6 0), (4, .ptr 7 0), (6, .ptr 11 0), (10, .ptr 15 0), (11, .ref 14), (12, bA e)] fun G => b0 (wp_seq (l0 G (A4 2 [8, 9, 10, 4, 5] (j9.lend hr2 [.row 3, .row 3, .row 60])) [0, 1, 2, 3, 6, 8, 9, 10, 11, 12, 13, 14, 15, 32, 33, 34, 72] [dY c, dI k.vars, dI k.arrays, dN k.list, .box (pL 1), .row 3 (D.ints d.vars), .row 3 (D.ints d.arrays), .row 60 (D.instrs d.list), .box (pL 5), .row 3 (D.ints x.vals), .tree (D.rows x.arrs), .row 71 (D.events v), .box [.ref 9, .tref 10], .row 3 (D.ints y.vals), .tree (D.rows y.arrs), .row 71 (D.events u), .box [.ref 13, .tref 14]] [(2, bA false), (3, .ptr 4 0), (6, .ptr 8 0), (10, .ptr 12 0), (11, .ref 11), (12, bA e), (13, .ptr 16 0), (14, .ref 15), (15, bA g)] fun G => b0 (wp_seq (l0 G (A4 1 [5, 6, 7] (j9.lend (hi3 (by assumption)) [.row 3, .row 3, .row 60])) [0, 1, 2, 3, 4, 5, 6, 7, 8, 9, 10, 11, 12, 13, 14, 15, 16, 25, 26, 27, 57] [dY c, dI k.vars, dI k.arrays, dN k.list, .box (pL 1), .row 3 (D.ints d.vars), .row 3 (D.ints d.arrays), .row 60 (D.instrs d.list), .box (pL 5), .row 3 (D.ints x.vals), .tree (D.rows x.arrs), .row 71 (D.events v), .box [.ref 9, .tref 10], .row 3 (D.ints y.vals), .tree (D.rows y.arrs), .row 71 (D.events u), .box [.ref 13, .tref 14], .row 3 (D.ints d.vars), .row 3 (D.ints d.arrays), .row 60 (D.instrs d.list), .box (pL 17)] [(2, bA false), (3, .ptr 4 0), (6, .ptr 8 0), (10, .ptr 12 0), (11, .ref 11), (12, bA e), (13, .ptr 16 0), (14, .ref 15), (15, bA g), (16, .ptr 20 0), (17, bA true)] fun G => b0 (wp_seq ?_))))))))); cases h2 : (decide ((d.list.length : Int) ≤ k.list.length))
    · have q2 := dFf h2; exact False.elim (by omega)
    ·
     have q2 := dTt h2; cases h3 : (!e)
     ·
      have q3 : (e) = true := (Eq.mp (Bool.not_eq_false' _) h3); have hA2 := hA (by with_reducible assumption) (by with_reducible assumption); cases h4 : (g)
      · exact False.elim (bo2 (hA (by with_reducible assumption) (by with_reducible assumption)).1 (by with_reducible assumption))
      · refine l0 G (X7 (H7 13 [17, 18, 19, 5, 6, 7] (j9.lend hsm [.row 3, .row 3, .row 60, .row 3, .row 3, .row 60]) (H7 23 [9, 10, 13, 14] (j9.lend (hms (by assumption) (by assumption)) [.row 3, .tree, .row 3, .tree]) (H7 27 [11] (j9.lend (bM9 v (by assumption)) [.row 71]) (H7 29 [15] (j9.lend (bM9 u (by assumption)) [.row 71]) (H7 30 [237, 253] (j9.lend (htr (by assumption) (by assumption)) [.row 71, .row 71]) X6))))) (fc h2 (fc (b := true) rfl (fc h3 (fc h4 fz)))) (us [(8, 8, 0), (1009, 1009, 0), (11, 13, 1), (1014, 1014, 1), (16, 18, 1), (19, 20, 2), (21, 23, 3), (24, 24, 2), (1024, 1024, 3), (25, 25, 2), (26, 30, 1), (31, 31, 2), (1031, 1031, 1), (32, 32, 1), (1032, 1032, 2), (1033, 1033, 1)])) [0] [dY c] [(2, bA true)] fun G => b0 (wp_ret ?_); exact L6 G [0]
     · have q3 : (e) = false := (Eq.mp (cf0 _) h3); refine l0 G (X7 (H7 13 [17, 18, 19, 5, 6, 7] (j9.lend hsm [.row 3, .row 3, .row 60, .row 3, .row 3, .row 60]) X6) (fc h2 (fc (b := true) rfl (fc h3 fz))) [(8, 0), (1009, 0), (11, 1), (12, 1), (13, 1), (1014, 1), (16, 1), (17, 1), (18, 1), (19, 2), (20, 2), (24, 2), (25, 2), (31, 2), (32, 1), (1032, 2), (1033, 1)]) [0] [dY c] [(2, bA true)] fun G => b0 (wp_ret ?_); exact L6 G [0]
   · have q1 : (b) = false := (Eq.mp (cf0 _) h1); refine rT G _ h1 (wp_seq (l0 G (X7 (H7 6 [8, 9, 10, 12, 13, 14] (j9.lend hsm [.row 3, .row 3, .row 60]) X6) (fc (a := b == b) (b := true) (by rw [q1]; rfl) fz) [(4, 0), (5, 0), (6, 0), (1007, 0)]) (rg 12) (dY c :: (J1 k d m [])) [(2, bA true), (3, .ptr 6 0), (4, .ptr 7 0), (6, .ptr 11 0)] fun G => b0 (wp_ret (o5 ?_)))); exact L6 G [0]
  · refine wp_seq (m7 G f8 [(2, bA true)] fun G => b0 (wp_ret (o5 ?_))); exact L6 G [0]
theorem b21 (c : List UInt8) : j9.ok Tryz.prog ⟨5, [.ref 0], [dY c], [dY c], bA true⟩ := by
 obtain ⟨k, m, m2, h1, h2, h3, h4⟩ := bz4 c
 obtain ⟨f1, f2, f3, f4⟩ := aD6 h2
 have hi : ∀ r ∈ m.arrs, r.length ≤ 1048576 := fun r hr => by
  have := (bB7 (cb9.1 f4 r hr)).1
  omega
 obtain ⟨x, v, e, h5, h6⟩ := aL6 k m (by omega) (by omega) hi
 obtain ⟨y, u, g, h7, h8⟩ := aL6 (T3 k) m (by omega) (by omega) hi
 refine bV9 c k (T3 k) m m2 x y v u (e6 k) e g (cd3 (bt8 h5) (by decide)) (cd3 (bt8 h7) (by decide)) (bG7 k) h1.2.2 h4 (bi4 fun v w h => Z7 v k w h) (ba2 fun v w h => an8 v k w h) (fun hb => ?_) (a33 _ _ _) h6 h8 (fun hb he => ?_)
 ·have := bi4 (c := T3 k) fun v w h => Z7 v (T3 k) w h
  rw [(bv4 hb).1, (bv4 hb).2] at this
  exact this
 ·have e1 : T3 k = aa6 k := by unfold T3; rw [if_pos hb]
  rw [e1] at h7
  exact bF8 (I3 hb).2 (fun h => bP7 (I3 hb).1 h) (fun hc hm => bl0 (I3 hb).1 hc hm) h5 h7 he
theorem b45 (u : Value) (c : List UInt8) (w : World) (hp : D3 w u c.length 1 (u8s c)) : Calls Tryz.prog 5 #[u] w fun e w' => e = .returned (.bool true) ∧ Below w.heap.size w w' :=
 bo6 (b21 c) u w (hp.rowF fun _ _ => trivial)
end
end Go.Proofs.YtmokkddidcmglaaGreat.exLOptimizeCode

namespace Go.Proofs.YtmokkddidcmglaaGreat.exLOptimizeCode
open Go Go.RowKit Go.ChangeShapes Go.WideShapes Go.ChangeAt Go.Proofs.YtmokkddidcmglaaGreat
theorem lifted (os : Os) (started : os.Started) (H : Type) (enc : TypeId × Value → H) :
  ReturnsInHanded {} Tryz.checked os 5 .any (Rows.fnOptimizeCodeSpec.pre6 enc Tryz.prog Tryz.f5 Rows.fnOptimizeCodeRow.domain false) (Rows.fnOptimizeCodeSpec.post enc Tryz.prog Tryz.f5 false true false false) := by
 refine returnsInHanded_of_change (C := Tryz.checked) own started (by kernel_rfl) Tryz.func5
  (ChangeSpec.witness6 (enc := enc) (C := Tryz.checked) false ⟨#[], #[.slice none 0 0], []⟩ 8 (by kernel_rfl) (by kernel_rfl) (by kernel_rfl) (by kernel_rfl)) ?_
 intro W base args ds gs before hval0 hW hcnd _
 have hval : ∀ (j : Nat) t v, Tryz.f5.params[j]? = some t → args[j]? = some v → Value.okWide Tryz.prog W .any base t v := hval0
 have hW' := hW
 obtain ⟨p, q, hA0, hV, rfl, hfz, hnd⟩ := hW
 have hA : DataW.TrodAll enc Tryz.prog W 0 (fun _ => true) true Tryz.f5.params.toList args.toList ds p := hA0
 rw [Tryz.params5] at hA hval
 obtain ⟨v0, vs0, d0, ds0, p0, q0, hargs, rfl, rfl, h0, r0⟩ := trodAll_cons hA
 obtain ⟨rfl, rfl, rfl⟩ := trodAll_nil r0
 obtain rfl : args = #[v0] := by cases args; simp_all
 obtain ⟨rfl, rfl⟩ := trodVars_none hV
 have k0 := h0
 have lt0 : ∀ x ∈ p0, x.block < W.heap.size := by obtain ⟨m, hm⟩ := k0; exact DataW.trod_lt m _ _ _ hm
 obtain ⟨a0, len0, cap0, rfl⟩ := okWide_slice Tryz.underlying22 (hval 0 22 v0 rfl rfl)
 obtain ⟨x0, hx0⟩ : ∃ l : List UInt8, D3 W (.slice a0 len0 cap0) l.length 1 (u8s l) := by
  obtain ⟨fuel, hf⟩ := h0
  exact aH2 Tryz.underlying22 hf
 clear hA0 hval0
 refine (b45 _ x0 W hx0).mono fun e W' ⟨he, bel⟩ => ?_
 subst he
 exact ⟨_, rfl, _, _, _, [], _, [], hW', trodAll_mk1 (shut_bool Tryz.underlying4 _), (trodAll_cons_mk (Below.trod bH9 (by kernel_rfl) (of_decide_eq_true (by kernel_rfl)) k0 bel lt0) trodAll_mk0), rfl, bel.frame _, fun h => by cases h⟩
theorem facts : joinedFacts Tryz.pinned.checked.prog 5 Tryz.f5 Rows.fnOptimizeCodeSpec Rows.fnOptimizeCodeRow = true := by
 unfold joinedFacts
 rw [may_enter, lifts_final, make_is]
 kernel_rfl
theorem over : Rows.fnOptimizeCodeRow.holds Tryz.pinned (OpenSpec.ofChange Rows.fnOptimizeCodeSpec) :=
 OpenClaim.holds_of_wide 5 Tryz.f5 rfl rfl rfl rfl rfl rfl rfl ⟨rfl, rfl, rfl, rfl, rfl⟩ rfl rfl rfl rfl rfl (by kernel_rfl) Tryz.func5 facts
  (of_decide_eq_true (by kernel_rfl)) (by unfold Func.isWrapper; first | (rw [if_pos (by decide +kernel)]; kernel_rfl) | (rw [if_neg (by decide +kernel)]; exact ⟨rfl, rfl⟩))
  (fun os started H enc _ => lifted os started H enc)
theorem proved : Rows.FnOptimizeCodeSaid := over
end Go.Proofs.YtmokkddidcmglaaGreat.exLOptimizeCode
