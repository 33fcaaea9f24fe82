/-
  LTrimCode: the statement, whatever the argument. Conditions: none beyond the statement's own.
-/
import Derived.Test.YtmokkddidcmglaaGreatK1
import Derived.Test.YtmokkddidcmglaaGreatK2
import Derived.Test.YtmokkddidcmglaaGreatK3
import Derived.Test.YtmokkddidcmglaaGreatK4
import Derived.Test.YtmokkddidcmglaaGreatK5
import Derived.Test.YtmokkddidcmglaaGreatK6
import Derived.Test.YtmokkddidcmglaaGreatEnter1M
import Derived.Test.YtmokkddidcmglaaGreatEnter2M
import Derived.Test.YtmokkddidcmglaaGreatEnter3M
set_option maxRecDepth 100000
set_option maxHeartbeats 16000000
set_option linter.unusedVariables false
set_option linter.unusedSimpArgs false
open Bool renaming not_eq_false' → cb4, not_eq_true' → ca5
open List renaming all_eq_true → b80
open Nat renaming le_trans → b97, zero_le → b92
open True renaming intro → b84
namespace Go.Proofs.YtmokkddidcmglaaGreat.exLTrimCode
open Go Go.RowKit Go.Proofs.YtmokkddidcmglaaGreat
noncomputable section
abbrev thQ (f : FuncId) (c d : b6) (b : Bool) : l0 := ⟨f, [pA 0], kcS c, kcS c ++ [.row 3 (.ints d.vars), .row 3 (.ints d.arrays), .row 60 (.instrs d.list)], .tup [.agg [.ref 3, .ref 4, .ref 5], bA b]⟩
theorem bY7 {x y : v7} (h : y = x) : l0.ok Tryz.prog (Z1 13 [mA 0, mA 2] (mS x ++ mS y) (bA true)) := by
 subst h
 have := aF0 y.vals y.vals y.arrs y.arrs
 rw [decide_eq_true rfl, decide_eq_true rfl] at this
 exact this
theorem bY6 {l m : List (Int × Int)} (h : m = l) : l0.ok Tryz.prog (Z1 14 [.ref 0, .ref 1] [.dat (.events l), .dat (.events m)] (bA true)) := by
 subst h
 have := bZ1 m m
 rw [decide_eq_true rfl] at this
 exact this
theorem bo2 {b : Bool} (h : b = true) (h2 : b = false) : False := by rw [h] at h2; cases h2
abbrev thI (f : FuncId) (c d : b6) (b : Bool) : l0 := ⟨f, [pA 0], kcS c, kcS c ++ kcS d, .tup [.agg [.ref 3, .ref 4, .ref 5], bA b]⟩
theorem bx3 (k : b6) : l0.ok Tryz.prog ⟨18, [pA 0], kcS k, kcS k ++ [.dat (.bools (B6 k))], .ref 3⟩ := bx7 fun u w h => ak0 u _ w h
theorem bz2 (k : b6) : (K9 k).list.length ≤ k.list.length := by
 unfold K9
 split
 ·exact al9 k (A0 k) k.list.length
 ·exact b92 _
theorem bK8 {k : b6} (hb : i5 k = true) {i : Nat} (hi : i < (B6 (K9 k)).length) : (B6 (K9 k)).getD i false = true := by
 have e : K9 k = n5 k := by unfold K9; rw [if_pos hb]
 rw [e] at hi ⊢
 have hc := av3 hb
 rw [bM1 hc] at hi
 exact (bT6 hc (i := i) (Int.natCast_nonneg _) (by omega)).2 (bm7 hb hi)
abbrev C6 (c : List UInt8) (k : b6) (m : v7) (r0 : List It) : List It := dY c :: dI k.vars :: dI k.arrays :: dN k.list :: dI m.vals :: dR m.arrs :: .box (pL 1) :: .box [.ref 4, .ref 5] :: r0
abbrev B8 (r0 : List (Nat × AV)) : List (Nat × AV) := (2, bA false) :: (3, .ptr 6 0) :: (4, .ptr 7 0) :: (6, .ptr 11 0) :: r0
theorem bT3 (c : List UInt8) (k d : b6) (m m2 x y : v7) (v u : List (Int × Int)) (b e g : Bool) (hv : v.length ≤ 1000000) (hu : u.length ≤ 1000000) (hl : d.list.length ≤ k.list.length) (hk : k.list.length ≤ 400) (hrr : b = true → ∀ i : Nat, i < (B6 d).length → (B6 d).getD i false = true)
    (hd : l0.ok Tryz.prog (crC 7 c k m m2))
    (hi : l0.ok Tryz.prog (thQ 16 k d b)) (hs : l0.ok Tryz.prog (thI 17 k d b))
    (hcs : l0.ok Tryz.prog (Z1 10 [pA 0, pA 3] (kcS d ++ kcS d) (bA true)))
    (hcv : b = true → l0.ok Tryz.prog (Z1 12 [pA 0] (kcS d) (bA true)))
    (hrc : l0.ok Tryz.prog (rcC k m x v e)) (hrd : l0.ok Tryz.prog (rcC d m y u g))
    (hA : b = true → e = true → g = true ∧ y = x ∧ z5 u = z5 v ∧ u.length ≤ v.length) : l0.ok Tryz.prog ⟨4, [.ref 0], [dY c], [dY c], bA true⟩ := by
  have hdr := hd; have hti := hi; have hts := hs; have hsm := hcs; have hr1 := hrc; have hr2 := hrd
  have hms := fun hb he => bY7 (hA hb he).2.1
  have htr := fun hb he => bY6 (hA hb he).2.2.1
  have hva := hcv; have hre := bx3 d; refine J8 115 Tryz.func4 [dY c] [(0, .ref 0)] fun G => ?_; have hrs := bT5 (k := d); refine wp_seq (l6 G e6 [(2, bA false)] fun G => b0 (wp_seq (wp_seq (l6 G e6 [(20, bA (decide ((c.length : Int) > 1048576)))] fun G => b0 (rcD G (fun h0 q0 => ?_) fun h0 q0 => ?_)))))
  ·
   refine wp_skip (b0 (wp_seq (i9 G (v5 1 [0] hdr) [0, 9, 10, 11, 12, 13, 49, 57] (C6 c k m []) [(2, bA false), (3, .ptr 6 0), (4, .ptr 7 0)] fun G => b0 (wp_seq (i9 G (v5 1 [1, 2, 3] hti) [0, 1, 2, 3, 4, 5, 6, 7, 16, 17, 18, 48] (C6 c k m [.row 3 (D.ints d.vars), .row 3 (D.ints d.arrays), .row 60 (D.instrs d.list), .box (pL 8)]) (B8 [(7, bA b)]) fun G => b0 (wp_seq (i9 G (v5 1 [1, 2, 3] hts) [0, 1, 2, 3, 4, 5, 6, 7, 8, 9, 10, 11, 20, 21, 22, 52] (C6 c k m [.row 3 (D.ints d.vars), .row 3 (D.ints d.arrays), .row 60 (D.instrs d.list), .box (pL 8), dI d.vars, dI d.arrays, dN d.list, .box (pL 12)]) (B8 [(7, bA b), (8, .ptr 15 0), (9, bA b)]) fun G => b0 (wp_seq (wp_seq (G9 G (T4 (F9 6 [8, 9, 10, 12, 13, 14] (l0.lend hsm [.row 3, .row 3, .row 60]) T3) (fc (a := !b == b) (b := false) (by simp [h0]) (fc (b := false) rfl fz)) (us [(4, 7, 0), (1008, 1008, 0), (10, 11, 1), (1012, 1012, 1)])) (B8 [(7, bA b), (8, .ptr 15 0), (9, bA b), (49, bA !b)]) fun G => b0 ?_)))))))))); cases h1 : (!b)
   ·
    have q1 : (b) = true := (Eq.mp (cb4 _) h1); refine rF G _ h1 (wp_skip (b0 (wp_seq ?_))); obtain ⟨ρ, G⟩ := G.frz [.no, .no, .no, .no, .no, .no, .no, .no, .row 3, .row 3, .row 60] (C6 c k m [dI d.vars, dI d.arrays, dN d.list, .box (pL 8), dI d.vars, dI d.arrays, dN d.list, .box (pL 12)]) (B8 [(7, bA b), (8, .ptr 15 0), (9, bA b), (49, bA !b)]); refine i9 G (v5 1 [8, 9, 10] hre) [0, 1, 2, 3, 4, 5, 6, 7, 8, 9, 10, 11, 24] (C6 c k m [dI d.vars, dI d.arrays, dN d.list, .box (pL 8), dB (B6 d)]) (B8 [(10, .ref 12)]) fun G => b0 (wp_seq (wp_seq (G9 G e6 (B8 [(10, .ref 12), (11, iA 0)]) fun G => b0 (wp_block ?_)))); refine x6 (κ := Nat) (fun i => i ≤ (B6 d).length) (fun i => (B6 d).length - i) (fun i => (C6 c k m [dI d.vars, dI d.arrays, dN d.list, .box (pL 8), dB (B6 d)])) (fun i => (B8 [(10, .ref 12), (11, iA i)])) 0 (by omega) (t7.at G _ _) ?_; clear G; intro i ρ a w hp G; refine wp_seq (wp_seq (l6 G e6 [(63, bA (decide ((i : Int) < ((B6 d).length : Int))))] fun G => b0 (rcD G (fun h2 q2 => ?_) fun h2 q2 => ?_)))
    ·
     refine wp_exit (v9 (v9 (v6 (b0 (wp_seq (i9 G (v5 2 [1, 2, 3, 4, 5] hr1) [0, 1, 2, 3, 4, 5, 6, 7, 8, 9, 10, 11, 29, 30, 31, 69] (C6 c k m [dI d.vars, dI d.arrays, dN d.list, .box (pL 8), .row 3 (D.ints x.vals), .tree (D.rows x.arrs), .row 71 (D.events v), .box [.ref 12, .tref 13]]) (B8 [(12, .ptr 15 0), (13, .ref 14), (14, bA e)]) fun G => b0 (wp_seq (i9 G (v5 2 [8, 9, 10, 4, 5] hr2) [0, 1, 2, 3, 6, 8, 9, 10, 11, 12, 13, 14, 15, 32, 33, 34, 72] [dY c, dI k.vars, dI k.arrays, dN k.list, .box (pL 1), dI d.vars, dI d.arrays, dN d.list, .box (pL 5), .row 3 (D.ints x.vals), .tree (D.rows x.arrs), .row 71 (D.events v), .box [.ref 9, .tref 10], .row 3 (D.ints y.vals), .tree (D.rows y.arrs), .row 71 (D.events u), .box [.ref 13, .tref 14]] [(2, bA false), (3, .ptr 4 0), (6, .ptr 8 0), (12, .ptr 12 0), (13, .ref 11), (14, bA e), (15, .ptr 16 0), (16, .ref 15), (17, bA g)] fun G => b0 (wp_seq ?_))))))))); cases h3 : (decide ((d.list.length : Int) ≤ k.list.length))
     · have q3 := Z3 h3; exact False.elim (by omega)
     ·
      have q3 := Z2 h3; cases h4 : (!e)
      ·
       have q4 : (e) = true := (Eq.mp (cb4 _) h4); have hA2 := hA (by with_reducible assumption) (by with_reducible assumption); cases h5 : (g)
       · exact False.elim (bo2 (hA (by with_reducible assumption) (by with_reducible assumption)).1 (by with_reducible assumption))
       · refine i9 G (T4 (F9 1 [5, 6, 7] (hva (by assumption)) (F9 19 [9, 10, 13, 14] (l0.lend (hms (by assumption) (by assumption)) [.row 3, .tree, .row 3, .tree]) (F9 23 [11] (l0.lend (bK0 v (by assumption)) [.row 71]) (F9 25 [15] (l0.lend (bK0 u (by assumption)) [.row 71]) (F9 26 [201, 217] (l0.lend (htr (by assumption) (by assumption)) [.row 71, .row 71]) T3))))) (fc (b := true) rfl (fc h3 (fc h4 (fc h5 fz)))) (us [(3, 9, 0), (1010, 1010, 0), (12, 14, 1), (15, 16, 2), (17, 19, 3), (20, 20, 2), (1020, 1020, 3), (21, 21, 2), (22, 26, 0), (27, 27, 2), (1027, 1027, 0), (28, 28, 1), (1028, 1028, 2), (1029, 1029, 1)])) [0] [dY c] [(2, bA true)] fun G => b0 (wp_ret ?_); exact J9 G [0]
      · have q4 : (e) = false := (Eq.mp (ca5 _) h4); refine i9 G (T4 (F9 1 [5, 6, 7] (hva (by assumption)) T3) (fc (b := true) rfl (fc h3 (fc h4 fz))) (us [(3, 9, 0), (1010, 1010, 0), (12, 14, 1), (15, 16, 2), (20, 21, 2), (27, 27, 2), (28, 28, 1), (1028, 1028, 2), (1029, 1029, 1)])) [0] [dY c] [(2, bA true)] fun G => b0 (wp_ret ?_); exact J9 G [0]
    ·
     refine wp_skip (b0 (wp_seq (wp_block (wp_seq (rB1 G e6 (B8 [(10, .ref 12), (11, iA i), (70, .v (.bool !(B6 d).getD i false))]) (iX i i ((B6 d).length) []) (iK (by omega) b84) fun G => b0 ?_))))); cases h6 : (!(B6 d).getD i false)
     · have q6 : ((B6 d).getD i false) = true := (Eq.mp (cb4 _) h6); refine rF G _ h6 (wp_skip (i8 (b0 (D0 G e6 [(11, iA ((i : Int) + 1))] [wO ((i : Int) + 1)] (o1 (by omega)) fun G => b0 ?_)))); exact L0 G (i + 1) (by omega) (by omega) (rg 13)
     · have q6 : ((B6 d).getD i false) = false := (Eq.mp (ca5 _) h6); exact False.elim (bo2 (hrr (by with_reducible assumption) i (by omega)) (by with_reducible assumption))
   · have q1 : (b) = false := (Eq.mp (ca5 _) h1); refine rT G _ h1 (wp_seq (i9 G (T4 (F9 6 [8, 9, 10, 12, 13, 14] (l0.lend hsm [.row 3, .row 3, .row 60]) T3) (fc (a := b == b) (b := true) (by rw [q1]; rfl) fz) [(4, 0), (5, 0), (6, 0), (1007, 0)]) (rg 12) (C6 c k m [.row 3 (D.ints d.vars), .row 3 (D.ints d.arrays), .row 60 (D.instrs d.list), .box (pL 8)]) [(2, bA true), (3, .ptr 6 0), (4, .ptr 7 0), (6, .ptr 11 0)] fun G => b0 (wp_ret (o8 ?_)))); exact J9 G [0]
  · refine wp_seq (l6 G e6 [(2, bA true)] fun G => b0 (wp_ret (o8 ?_))); exact J9 G [0]
theorem bY8 (c : List UInt8) : l0.ok Tryz.prog ⟨4, [.ref 0], [dY c], [dY c], bA true⟩ := by
 obtain ⟨k, m, m2, h1, h2, h3, h4⟩ := bv8 c
 obtain ⟨f1, f2, f3, f4⟩ := aB6 h2
 have hi : ∀ r ∈ m.arrs, r.length ≤ 1048576 := fun r hr => by
  have := (by3 (b80.1 f4 r hr)).1
  omega
 obtain ⟨x, v, e, h5, h6⟩ := aJ6 k m (by omega) (by omega) hi
 obtain ⟨y, u, g, h7, h8⟩ := aJ6 (K9 k) m (by omega) (by omega) hi
 refine bT3 c k (K9 k) m m2 x y v u (i5 k) e g (b97 (bq0 h5) (by decide)) (b97 (bq0 h7) (by decide)) (bz2 k) h1.2.2 (fun hb i hi => bK8 hb hi) h4 (bG0 fun v w h => aE6 v k w h) (a68 fun v w h => aE2 v k w h) (aZ4 _ _ _) (fun hb => ?_) h6 h8 (fun hb he => ?_)
 ·have := bK1 (K9 k)
  rw [show i5 (K9 k) = true by unfold K9; rw [if_pos hb]; exact av3 hb] at this
  exact this
 ·have e1 : K9 k = n5 k := by unfold K9; rw [if_pos hb]
  rw [e1] at h7
  exact bC2 (av3 hb) (fun h => ba5 h) (fun hc hm => a15 hc hm) h5 h7 he
theorem b11 (u : Value) (c : List UInt8) (w : World) (hp : F8 w u c.length 1 (u8s c)) : Calls Tryz.prog 4 #[u] w fun e w' => e = .returned (.bool true) ∧ Below w.heap.size w w' :=
 bk4 (bY8 c) u w (hp.rowF fun _ _ => trivial)
end
end Go.Proofs.YtmokkddidcmglaaGreat.exLTrimCode

namespace Go.Proofs.YtmokkddidcmglaaGreat.exLTrimCode
open Go Go.RowKit Go.ChangeShapes Go.WideShapes Go.ChangeAt Go.Proofs.YtmokkddidcmglaaGreat
theorem lifted (os : Os) (started : os.Started) (H : Type) (enc : TypeId × Value → H) :
  ReturnsInHanded {} Tryz.checked os 4 .any (Rows.fnTrimCodeSpec.pre6 enc Tryz.prog Tryz.f4 Rows.fnTrimCodeRow.domain false) (Rows.fnTrimCodeSpec.post enc Tryz.prog Tryz.f4 false true false false) := by
 refine returnsInHanded_of_change (C := Tryz.checked) own started (by kernel_rfl) Tryz.func4
  (ChangeSpec.witness6 (enc := enc) (C := Tryz.checked) false ⟨#[], #[.slice none 0 0], []⟩ 8 (by kernel_rfl) (by kernel_rfl) (by kernel_rfl) (by kernel_rfl)) ?_
 intro W base args ds gs before hval0 hW hcnd _
 have hval : ∀ (j : Nat) t v, Tryz.f4.params[j]? = some t → args[j]? = some v → Value.okWide Tryz.prog W .any base t v := hval0
 have hW' := hW
 obtain ⟨p, q, hA0, hV, rfl, hfz, hnd⟩ := hW
 have hA : DataW.TrodAll enc Tryz.prog W 0 (fun _ => true) true Tryz.f4.params.toList args.toList ds p := hA0
 rw [Tryz.params4] at hA hval
 obtain ⟨v0, vs0, d0, ds0, p0, q0, hargs, rfl, rfl, h0, r0⟩ := trodAll_cons hA
 obtain ⟨rfl, rfl, rfl⟩ := trodAll_nil r0
 obtain rfl : args = #[v0] := by cases args; simp_all
 obtain ⟨rfl, rfl⟩ := trodVars_none hV
 have k0 := h0
 have lt0 : ∀ x ∈ p0, x.block < W.heap.size := by obtain ⟨m, hm⟩ := k0; exact DataW.trod_lt m _ _ _ hm
 obtain ⟨a0, len0, cap0, rfl⟩ := okWide_slice Tryz.underlying22 (hval 0 22 v0 rfl rfl)
 obtain ⟨x0, hx0⟩ : ∃ l : List UInt8, F8 W (.slice a0 len0 cap0) l.length 1 (u8s l) := by
  obtain ⟨fuel, hf⟩ := h0
  exact aF1 Tryz.underlying22 hf
 clear hA0 hval0
 refine (b11 _ x0 W hx0).mono fun e W' ⟨he, bel⟩ => ?_
 subst he
 exact ⟨_, rfl, _, _, _, [], _, [], hW', trodAll_mk1 (shut_bool Tryz.underlying4 _), (trodAll_cons_mk (Below.trod bE8 (by kernel_rfl) (of_decide_eq_true (by kernel_rfl)) k0 bel lt0) trodAll_mk0), rfl, bel.frame _, fun h => by cases h⟩
theorem facts : joinedFacts Tryz.pinned.checked.prog 4 Tryz.f4 Rows.fnTrimCodeSpec Rows.fnTrimCodeRow = true := by
 unfold joinedFacts
 rw [may_enter, lifts_final, make_is]
 kernel_rfl
theorem over : Rows.fnTrimCodeRow.holds Tryz.pinned (OpenSpec.ofChange Rows.fnTrimCodeSpec) :=
 OpenClaim.holds_of_wide 4 Tryz.f4 rfl rfl rfl rfl rfl rfl rfl ⟨rfl, rfl, rfl, rfl, rfl⟩ rfl rfl rfl rfl rfl (by kernel_rfl) Tryz.func4 facts
  (of_decide_eq_true (by kernel_rfl)) (by unfold Func.isWrapper; first | (rw [if_pos (by decide +kernel)]; kernel_rfl) | (rw [if_neg (by decide +kernel)]; exact ⟨rfl, rfl⟩))
  (fun os started H enc _ => lifted os started H enc)
theorem proved : Rows.FnTrimCodeSaid := over
end Go.Proofs.YtmokkddidcmglaaGreat.exLTrimCode
