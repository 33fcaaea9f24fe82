/-
  LExprLabel: the statement, whatever the argument. Conditions: none beyond the statement's own.
-/
import Derived.Test.YtgmhmijcnlfmfaaK1
import Derived.Test.YtgmhmijcnlfmfaaK2
import Derived.Test.YtgmhmijcnlfmfaaK3
import Derived.Test.YtgmhmijcnlfmfaaK4
import Derived.Test.YtgmhmijcnlfmfaaK5
import Derived.Test.YtgmhmijcnlfmfaaK6
import Derived.Test.YtgmhmijcnlfmfaaEnter1M
import Derived.Test.YtgmhmijcnlfmfaaEnter2M
import Derived.Test.YtgmhmijcnlfmfaaEnter3M
set_option maxRecDepth 100000
set_option maxHeartbeats 16000000
set_option linter.unusedVariables false
set_option linter.unusedSimpArgs false
open Bool renaming and_eq_false_iff → bI6, and_eq_true → bF9, and_eq_true_iff → bJ1
namespace Go.Proofs.Ytgmhmijcnlfmfaa.exLExprLabel
open Go Go.RowKit Go.Proofs.Ytgmhmijcnlfmfaa
theorem a58 (c : List UInt8) (p : b7) (e : b6) (h1 : c8.ok Try.prog (evC c p e)) : c8.ok Try.prog ⟨25, [.ref 0], [dY c], [dY c] ++ pS p ++ eS e, .tup [pA 1, eA e 4]⟩ := by
 have hev := h1; refine z7 8 Try.func25 [dY c] [(0, .ref 0)] fun G => ?_; refine wp_seq (d7 G b8 [0, 1, 9] [dY c, .box [.v (.slice none 0 0), .v (.slice none 0 0), .v (.slice none 0 0)], .box [iA 0, iA 0, .v (.slice none 0 0)]] [(0, .ref 0), (2, .ptr 1 0), (3, .ptr 2 0)] fun G => b0 (wp_seq (d7 G (n8 1 [0] hev) [0, 1, 2, 11, 12, 13, 14] [dY c, .box (pL 3), .box (eL e 6), dI p.vars, dI p.arrays, dT p.body, dE e.kids] [(2, .ptr 1 0), (3, .ptr 2 0)] fun G => b0 (wp_ret ?_)))); exact F8 G [0, 3, 4, 5, 6]
theorem bn8 {p : b7} {e : b6} (h : (c3 (xlD p e) && decide (xlD p e % 2 = 1)) = false) (hp : j9 p = true) (hr : c6 p.vars.length p.arrays.length e = true) : p.vars.all c3 = true ∧ p.arrays.all c3 = true ∧ b9 p.vars.length p.arrays.length 5 e = true ∧ zB 1 (j8 p.vars p.arrays 5 e) = false := by
 have hh : t5 p.vars p.arrays = true := by
  unfold j9 at hp
  simp only [bF9] at hp
  exact hp.1.1
 have ho : x8 p e = true := by unfold x8; rw [hh, hr]; rfl
 have h6 := hh
 unfold t5 at h6
 simp only [bF9, decide_eq_true_eq] at h6
 have hl := aQ5 h6.1.1.1.1 h6.1.1.1.2 5 e
 rw [bn7 ho] at h
 refine ⟨h6.1.1.1.1, h6.1.1.1.2, a37 ho, ?_⟩
 rw [← bs5 hl]; exact h
theorem bD2 {p : b7} {e : b6} {m m' : t3} (hm : mfB p.vars.length p.arrays.length m = true) (hm' : mfB p.vars.length p.arrays.length m' = true) (hp : Pub p.vars p.arrays m m') (h : (c3 (xlD p e) && decide (xlD p e % 2 = 1)) = false) : F3 p m e = F3 p m' e ∧ (F9 p m e).1 = (F9 p m' e).1 := by
 have h1 : F3 p m e = F3 p m' e := by unfold F3 mvB; rw [hm, hm']
 refine ⟨h1, ?_⟩
 unfold F9
 rw [h1]
 split
 ·rename_i h2
  unfold F3 mvB at h2
  simp only [bF9] at h2
  obtain ⟨a1, a2, a3, a4⟩ := bn8 h h2.1.1 h2.2
  rw [a68 a1 a2 hp 5 e a3 a4]
 ·rfl
theorem bp7 (c : List UInt8) (e : b6) (h : (c3 (xlD (drT c).1 e) && decide (xlD (drT c).1 e % 2 = 1)) = false) : F3 (drT c).1 (drT c).2.1 e = F3 (drT c).1 (drT c).2.2 e ∧ (F9 (drT c).1 (drT c).2.1 e).1 = (F9 (drT c).1 (drT c).2.2 e).1 := by
 have hb := bd0 (j6 c)
 have ht := bs9 (j6 c)
 unfold drT at *
 generalize v5 (j6 c) 0 = p at *
 dsimp only at *
 obtain ⟨f1, f2, f3, f4⟩ := a83 (j6 c) (j := (G0 (j6 c) 0).2 + 1) p.vars.length p.arrays.length (by omega) (by omega)
 generalize mmD (j6 c) ((G0 (j6 c) 0).2 + 1) p.vars.length p.arrays.length = m at *
 refine bD2 ?_ (bp1 (j6 c) p m f1 f2 f3 f4 (by omega) (by omega)) (bp0 _ _ _ _) h
 unfold mfB
 rw [f3, f4, decide_eq_true f1, decide_eq_true f2]; rfl
theorem bs7 {x y : Bool} (h : x = y) (h' : (x == y) = false) : False := by subst h; simp at h'
theorem bu8 (c : List UInt8) (p q : b7) (m m' : t3) (e : b6) (hd : c8.ok Try.prog (trC c 1 p m m')) (he : c8.ok Try.prog ⟨25, [.ref 0], [dY c], [dY c] ++ pS q ++ eS e, .tup [pA 1, eA e 4]⟩)
    (hab : (c3 (xlD p e) && decide (xlD p e % 2 = 1)) = false → F3 p m e = F3 p m' e ∧ (F9 p m e).1 = (F9 p m' e).1) : c8.ok Try.prog ⟨6, [.ref 0], [dY c], [dY c], bA true⟩ := by
  have hdr := hd; have hde := he; have hev := aj7 p m e; have hew := aj7 p m' e; refine z7 70 Try.func6 [dY c] [(0, .ref 0)] fun G => ?_; refine wp_seq (c7 G b8 [(2, bA false)] fun G => b0 (wp_seq (wp_seq (c7 G b8 [(17, bA (decide ((c.length : Int) > 1048576)))] fun G => b0 (Q7 G (fun h0 q0 => ?_) fun h0 q0 => ?_)))))
  ·
   refine wp_skip (b0 (wp_seq (d7 G (n8 1 [0] hdr) [0, 9, 10, 11, 12, 13, 14, 15, 49, 57, 65] [dY c, dI p.vars, dI p.arrays, dT p.body, dI m.vals, dR m.arrs, dI m'.vals, dR m'.arrs, .box (pL 1), .box [.ref 4, .ref 5], .box [.ref 6, .ref 7]] [(0, .ref 0), (2, bA false), (3, .ptr 8 0), (4, .ptr 9 0), (5, .ptr 10 0)] fun G => b0 (wp_seq (d7 G (n8 1 [0] hde) [0, 1, 2, 3, 4, 5, 6, 7, 8, 9, 10, 22, 59] [dY c, dI p.vars, dI p.arrays, dT p.body, dI m.vals, dR m.arrs, dI m'.vals, dR m'.arrs, .box (pL 1), .box [.ref 4, .ref 5], .box [.ref 6, .ref 7], dE e.kids, .box (eL e 11)] [(2, bA false), (3, .ptr 8 0), (4, .ptr 9 0), (5, .ptr 10 0), (7, .ptr 12 0)] fun G => b0 (wp_seq (c7 G (n8 2 [1, 2, 3, 11] (bz4 p e)) [(8, iA (xlD p e))] fun G => b0 (wp_seq (wp_seq (c7 G (s7 (j5 3 [1, 2, 3, 11] (bn2 p e) (j5 7 [] (at3 (xlD p e)) s6)) (fc (a := xlD p e != xlD p e) (b := false) (by simp [h0]) fz) [(6, 0), (7, 0), (1008, 0)]) [(40, bA (c3 (xlD p e) && decide (xlD p e % 2 = 1)))] fun G => b0 ?_)))))))))); cases h1 : (c3 (xlD p e) && decide (xlD p e % (2 : Int) = 1))
   ·
    have q1 : ((c3 (xlD p e)) = false) ∨ (¬ (xlD p e % 2 = 1)) := Or.imp (fun hq => (hq)) (fun hq => of_decide_eq_false hq) (bI6.1 h1); refine rF G _ h1 (wp_skip (b0 (wp_seq (d7 G (n8 3 [1, 2, 3, 4, 5, 11] hev) [0, 1, 2, 3, 6, 7, 8, 10, 11, 12] [dY c, dI p.vars, dI p.arrays, dT p.body, dI m'.vals, dR m'.arrs, .box (pL 1), .box [.ref 4, .ref 5], dE e.kids, .box (eL e 8)] [(2, bA false), (3, .ptr 6 0), (5, .ptr 7 0), (7, .ptr 9 0), (9, iA (F9 p m e).fst), (11, bA (F3 p m e))] fun G => b0 (wp_seq (d7 G (n8 3 [1, 2, 3, 4, 5, 8] hew) [0] [dY c] [(2, bA false), (9, iA (F9 p m e).fst), (11, bA (F3 p m e)), (12, iA (F9 p m' e).fst), (14, bA (F3 p m' e))] fun G => b0 (wp_seq ?_))))))); cases h2 : (F3 p m e == F3 p m' e)
    · exact False.elim (bs7 (hab (by with_reducible assumption)).1 (by with_reducible assumption))
    · refine c7 G (A6 (fc h2 fz) [(4, 0), (5, 0), (6, 0), (1007, 0)]) [(2, bA ((F9 p m e).fst == (F9 p m' e).fst))] fun G => b0 (wp_ret ?_); exact o5 ((F9 p m e).fst == (F9 p m' e).fst) G [0] (by have h9 := hab (by with_reducible assumption); simp [h9.1, h9.2]; done)
   · have q1 : ((c3 (xlD p e)) = true) ∧ (xlD p e % 2 = 1) := And.imp (fun hq => (hq)) (fun hq => of_decide_eq_true hq) (bJ1.1 h1); refine rT G _ h1 (wp_seq (c7 G (n8 3 [1, 2, 3, 11] (bn2 p e)) [(2, bA (xlD p e == xlD p e))] fun G => b0 (wp_ret (c5 ?_)))); exact o5 (xlD p e == xlD p e) G [0] (by simp [h0, h1])
  · refine wp_seq (c7 G b8 [(2, bA true)] fun G => b0 (wp_ret (c5 ?_))); exact F8 G [0]
theorem bz1 (c : List UInt8) : c8.ok Try.prog ⟨6, [.ref 0], [dY c], [dY c], bA true⟩ := by
 obtain ⟨q, e, he⟩ := bb9 c
 exact bu8 c _ q _ _ e (bb8 c) (a58 c q e he) (bp7 c e)
theorem bA7 (u : Value) (c : List UInt8) (w : World) (hp : K3 w u c.length 1 (u8s c)) : Calls Try.prog 6 #[u] w fun e w' => e = .returned (.bool true) ∧ Below w.heap.size w w' :=
 a20 (bz1 c) u w (hp.rowF fun _ _ => trivial)
end Go.Proofs.Ytgmhmijcnlfmfaa.exLExprLabel

namespace Go.Proofs.Ytgmhmijcnlfmfaa.exLExprLabel
open Go Go.RowKit Go.ChangeShapes Go.WideShapes Go.ChangeAt Go.Proofs.Ytgmhmijcnlfmfaa
theorem lifted (os : Os) (started : os.Started) (H : Type) (enc : TypeId × Value → H) :
  ReturnsInHanded {} Try.checked os 6 .any (Rows.fnExprLabelSpec.pre6 enc Try.prog Try.f6 Rows.fnExprLabelRow.domain false) (Rows.fnExprLabelSpec.post enc Try.prog Try.f6 false true false false) := by
 refine returnsInHanded_of_change (C := Try.checked) own started (by kernel_rfl) Try.func6
  (ChangeSpec.witness6 (enc := enc) (C := Try.checked) false ⟨#[], #[.slice none 0 0], []⟩ 8 (by kernel_rfl) (by kernel_rfl) (by kernel_rfl) (by kernel_rfl)) ?_
 intro W base args ds gs before hval0 hW hcnd _
 have hval : ∀ (j : Nat) t v, Try.f6.params[j]? = some t → args[j]? = some v → Value.okWide Try.prog W .any base t v := hval0
 have hW' := hW
 obtain ⟨p, q, hA0, hV, rfl, hfz, hnd⟩ := hW
 have hA : DataW.TrodAll enc Try.prog W 0 (fun _ => true) true Try.f6.params.toList args.toList ds p := hA0
 rw [Try.params6] at hA hval
 obtain ⟨v0, vs0, d0, ds0, p0, q0, hargs, rfl, rfl, h0, r0⟩ := trodAll_cons hA
 obtain ⟨rfl, rfl, rfl⟩ := trodAll_nil r0
 obtain rfl : args = #[v0] := by cases args; simp_all
 obtain ⟨rfl, rfl⟩ := trodVars_none hV
 have k0 := h0
 have lt0 : ∀ x ∈ p0, x.block < W.heap.size := by obtain ⟨m, hm⟩ := k0; exact DataW.trod_lt m _ _ _ hm
 obtain ⟨a0, len0, cap0, rfl⟩ := okWide_slice Try.underlying22 (hval 0 22 v0 rfl rfl)
 obtain ⟨x0, hx0⟩ : ∃ l : List UInt8, K3 W (.slice a0 len0 cap0) l.length 1 (u8s l) := by
  obtain ⟨fuel, hf⟩ := h0
  exact au9 Try.underlying22 hf
 clear hA0 hval0
 refine (bA7 _ x0 W hx0).mono fun e W' ⟨he, bel⟩ => ?_
 subst he
 exact ⟨_, rfl, _, _, _, [], _, [], hW', trodAll_mk1 (shut_bool Try.underlying4 _), (trodAll_cons_mk (Below.trod bh6 (by kernel_rfl) (of_decide_eq_true (by kernel_rfl)) k0 bel lt0) trodAll_mk0), rfl, bel.frame _, fun h => by cases h⟩
theorem facts : joinedFacts Try.pinned.checked.prog 6 Try.f6 Rows.fnExprLabelSpec Rows.fnExprLabelRow = true := by
 unfold joinedFacts
 rw [may_enter, lifts_final, make_is]
 kernel_rfl
theorem over : Rows.fnExprLabelRow.holds Try.pinned (OpenSpec.ofChange Rows.fnExprLabelSpec) :=
 OpenClaim.holds_of_wide 6 Try.f6 rfl rfl rfl rfl rfl rfl rfl ⟨rfl, rfl, rfl, rfl, rfl⟩ rfl rfl rfl rfl rfl (by kernel_rfl) Try.func6 facts
  (of_decide_eq_true (by kernel_rfl)) (by unfold Func.isWrapper; first | (rw [if_pos (by decide +kernel)]; kernel_rfl) | (rw [if_neg (by decide +kernel)]; exact ⟨rfl, rfl⟩))
  (fun os started H enc _ => lifted os started H enc)
theorem proved : Rows.FnExprLabelSaid := over
end Go.Proofs.Ytgmhmijcnlfmfaa.exLExprLabel
