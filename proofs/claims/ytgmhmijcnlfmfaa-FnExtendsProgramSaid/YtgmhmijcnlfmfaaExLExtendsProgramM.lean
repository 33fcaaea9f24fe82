/-
  LExtendsProgram: the statement, whatever the argument. Conditions: none beyond the statement's own.
-/
import Derived.Test.YtgmhmijcnlfmfaaK1
import Derived.Test.YtgmhmijcnlfmfaaK2
import Derived.Test.YtgmhmijcnlfmfaaK3
import Derived.Test.YtgmhmijcnlfmfaaK4
import Derived.Test.YtgmhmijcnlfmfaaK5
import Derived.Test.YtgmhmijcnlfmfaaK6
import Derived.Test.YtgmhmijcnlfmfaaEnter1M
import Derived.Test.YtgmhmijcnlfmfaaEnter2M
import Derived.Test.YtgmhmijcnlfmfaaEnter3M
set_option maxRecDepth 100000
set_option maxHeartbeats 16000000
set_option linter.unusedVariables false
set_option linter.unusedSimpArgs false
open Bool renaming and_eq_true → bL3, not_eq_false' → bM1, not_eq_true' → bL9
open True renaming intro → bM6
namespace Go.Proofs.Ytgmhmijcnlfmfaa.exLExtendsProgram
open Go Go.RowKit Go.Proofs.Ytgmhmijcnlfmfaa
theorem bL0 : ¬ ((!true) = true) := by decide
theorem bfl {b : Bool} (h : b = true) (h' : b = false) : False := by rw [h] at h'; cases h'
section
variable {p q : b8} {n : Int}
theorem bv2 (h : K7 p q = true) : q.vars.length ≤ 12 := by
 unfold K7 at h
 simp only [bL3] at h
 have h2 := h.2.1
 unfold e5 at h2
 simp only [bL3] at h2
 have h6 := h2.1.1
 unfold w4 at h6
 simp only [bL3, decide_eq_true_eq] at h6
 omega
theorem bK0 (h : K7 p q = true) (hl : q.vars.length < 12) (h0 : 0 ≤ n) (h4 : n < 4) (hf : K7 q ⟨([] ++ q.vars) ++ ([n] ++ []), q.arrays, q.body⟩ = false) : False := bfl (aE9 h hl h0 h4).1 hf
theorem bJ9 (h : K7 p q = true) (hl : q.vars.length < 12) (h0 : 0 ≤ n) (h4 : n < 4) (hf : K7 p ⟨([] ++ q.vars) ++ ([n] ++ []), q.arrays, q.body⟩ = false) : False := bfl (aE9 h hl h0 h4).2.1 hf
theorem bJ8 (h : K7 p q = true) (hl : q.vars.length < 12) (h0 : 0 ≤ n) (h4 : n < 4) : K7 ⟨([] ++ q.vars) ++ ([n] ++ []), q.arrays, q.body⟩ p = false := (aE9 h hl h0 h4).2.2
end
theorem tm4 (d : List UInt8) : 0 ≤ (d.length : Int).tmod 4 ∧ (d.length : Int).tmod 4 < 4 := by
 rw [Int.tmod_eq_emod_of_nonneg (by omega)]; omega
theorem al2 (p : b8) (ws ars : List Int) (bd : List b6) : d8.ok Try.prog (E0 14 [pA 0, pA 3] [dI p.vars, dI p.arrays, dT p.body, dI ws, dI ars, dT bd] (bA (K7 p ⟨ws, ars, bd⟩))) := au6 p ⟨ws, ars, bd⟩
theorem aM1 (p : b8) (ws ars : List Int) (bd : List b6) : d8.ok Try.prog (E0 14 [pA 0, pA 3] [dI ws, dI ars, dT bd, dI p.vars, dI p.arrays, dT p.body] (bA (K7 ⟨ws, ars, bd⟩ p))) := au6 ⟨ws, ars, bd⟩ p
theorem bA3 (c d : List UInt8) (p q : b8) (hd : d8.ok Try.prog ⟨13, [.ref 0], [dY c], [dY c] ++ pS p ++ pS q, .tup [pA 1, pA 4]⟩) (hp : c9 p.body ≤ 1048576) (hq : c9 q.body ≤ 1048576) : d8.ok Try.prog ⟨3, [.ref 0, .ref 1], [dY c, dY d], [dY c, dY d], bA true⟩ := by
  have hdr := hd; have hv3 := a43 q (([] ++ q.vars) ++ ([(d.length : Int).tmod 4] ++ [])); have hv4 := a54 p; have hv1 := al2 p (([] ++ q.vars) ++ ([(d.length : Int).tmod 4] ++ [])) q.arrays q.body; have hv2 := aM1 p (([] ++ q.vars) ++ ([(d.length : Int).tmod 4] ++ [])) q.arrays q.body; refine x6 74 Try.func3 [dY c, dY d] [(0, .ref 0), (1, .ref 1)] fun G => ?_; have htm := tm4 d; refine wp_seq (d9 G c4 [(4, bA false)] fun G => b5 (wp_seq (wp_seq ?_))); cases h0 : (decide ((c.length : Int) > 1048576))
  ·
   have q0 := O0 h0; refine d9 G (z6 (fc h0 fz) [(4, 0), (5, 0), (6, 0), (1007, 0)]) [(16, bA (decide ((d.length : Int) > 1048576)))] fun G => b5 (M7 G (fun h1 q1 => ?_) fun h1 q1 => ?_)
   ·
    refine wp_skip (b5 (wp_seq (e6 G (o9 1 [0] hdr) [0, 1, 10, 11, 12, 13, 14, 15, 42, 50] [dY c, dY d, dI p.vars, dI p.arrays, dT p.body, dI q.vars, dI q.arrays, dT q.body, .box (pL 2), .box (pL 5)] [(1, .ref 1), (4, bA false), (5, .ptr 8 0), (6, .ptr 9 0)] fun G => b5 (wp_seq (B7 G (o9 2 [2, 3, 4, 5, 6, 7] (al2 p q.vars q.arrays q.body)) [(1, .ref 1), (4, bA false), (5, .ptr 8 0), (6, .ptr 9 0), (7, bA (K7 p (b8.mk q.vars q.arrays q.body)))] fun G => b5 (wp_seq (wp_seq ?_))))))); cases h2 : (!K7 p (b8.mk q.vars q.arrays q.body) == K7 p q)
    ·
     have q2 : (K7 p (b8.mk q.vars q.arrays q.body) == K7 p q) = true := (Eq.mp (bM1 _) h2); refine bH5 G (m0 (f6 3 [2, 3, 4, 5, 6, 7] (aT4 p q (by assumption) (by assumption)) (f6 8 [2, 3, 4] hv4 (f6 10 [2, 3, 4] (k8 p.vars p.arrays p.body) l9))) (fc h2 fz) (us [(6, 11, 0), (1012, 1012, 0)])) [0, 0, 0, 6, 15, 31, 63, 63, 255, 63, 1023, 2047, 4095] [(1, .ref 1), (4, bA false), (5, .ptr 8 0), (6, .ptr 9 0), (7, bA (K7 p (b8.mk q.vars q.arrays q.body))), (37, .v (.bool !e5 p == e5 (b8.mk p.vars p.arrays p.body)))] fun G => b5 ?_; cases h3 : (!e5 p == e5 (b8.mk p.vars p.arrays p.body))
     ·
      have q3 : (e5 p == e5 (b8.mk p.vars p.arrays p.body)) = true := (Eq.mp (bM1 _) h3); refine rF G _ h3 (wp_skip (b5 (wp_seq (wp_seq ?_)))); cases h4 : (!K7 p (b8.mk q.vars q.arrays q.body))
      ·
       have q4 : (K7 p (b8.mk q.vars q.arrays q.body)) = true := (Eq.mp (bM1 _) h4); have hql := bv2 (p := p) (q := q) (by with_reducible assumption); refine d9 G (z6 (fc h4 fz) (us [(3, 6, 0), (1007, 1007, 0)])) [(45, bA ((q.vars.length : Int) == 12))] fun G => b5 (I7 G (fun h5 q5 => ?_) fun h5 q5 => ?_)
       ·
        refine wp_skip (b5 (wp_seq (E5 G c4 [0, 0, 2, 7, 0, 16, 48, 112, 255, 0, 512, 0, 2048, 8191, 0, 32767] [0, 1, 2, 3, 4, 5, 6, 7, 8, 9, 74, 122] [dY c, dY d, dI p.vars, dI p.arrays, dT p.body, dI q.vars, dI q.arrays, dT q.body, .box (pL 2), .box (pL 5), .row 3 (D.ints ([] ++ q.vars ++ ([(d.length : Int).tmod 4] ++ []))), .box [.ref 10, .ref 6, .ref 7]] [(4, bA false), (5, .ptr 8 0), (6, .ptr 9 0), (8, .ptr 11 0)] (aP ((0 : Nat) + q.vars.length) 8 (((4 : Int) ≠ 0) :: (aP (([] ++ q.vars).length + ([(d.length : Int).tmod (4 : Int)] ++ []).length) 8 []))) (aK (by omega) ⟨(by omega), (aK (by simp; omega) bM6)⟩) fun G => b5 (wp_seq ?_)))); cases h6 : (K7 q (b8.mk ([] ++ q.vars ++ ([(d.length : Int).tmod (4 : Int)] ++ [])) q.arrays q.body))
        · exact False.elim (bK0 (p := p) (q := q) (n := (d.length : Int).tmod 4) (by with_reducible assumption) (by omega) (by omega) (by omega) (by with_reducible assumption))
        ·
         cases h7 : (K7 p (b8.mk ([] ++ q.vars ++ ([(d.length : Int).tmod (4 : Int)] ++ [])) q.arrays q.body))
         · exact False.elim (bJ9 (p := p) (q := q) (n := (d.length : Int).tmod 4) (by with_reducible assumption) (by omega) (by omega) (by omega) (by with_reducible assumption))
         · refine e6 G (m0 (f6 2 [5, 6, 7, 10] (d8.lend hv3 [.no, .no, .no, .row 3]) (f6 6 [2, 3, 4, 10, 6, 7] (d8.lend hv1 [.no, .no, .no, .row 3]) (f6 11 [10, 6, 7, 2, 3, 4] (d8.lend hv2 [.row 3]) l9))) (fc h6 (fc h7 fz)) (us [(4, 6, 0), (1007, 1007, 0), (9, 12, 1), (1013, 1013, 1)])) [0, 1] [dY c, dY d] [(4, .v (.bool !K7 (b8.mk ([] ++ q.vars ++ ([(d.length : Int).tmod 4] ++ [])) q.arrays q.body) p))] fun G => b5 (wp_ret ?_); exact U5 (.v (.bool !K7 (b8.mk ([] ++ q.vars ++ ([(d.length : Int).tmod 4] ++ [])) q.arrays q.body) p)) G [0, 1] (by have e1 : (true : Bool) = (!K7 (b8.mk ([] ++ q.vars ++ ([(d.length : Int).tmod 4] ++ [])) q.arrays q.body) p) := (by rw [bJ8 (p := p) (q := q) (n := (d.length : Int).tmod 4) (by with_reducible assumption) (by omega) (by omega) (by omega)]; rfl); (first | rw [e1] | simp only [e1]) <;> rfl)
       · refine wp_seq (d9 G c4 [(4, bA true)] fun G => b5 (wp_ret (d7 ?_))); exact C4 G [0, 1]
      · have q4 : (K7 p (b8.mk q.vars q.arrays q.body)) = false := (Eq.mp (bL9 _) h4); refine d9 G (z6 (fc h4 fz) (us [(3, 6, 0), (1007, 1007, 0)])) [(45, bA true)] fun G => b5 (rT G true (by kernel_rfl) (wp_seq (d9 G c4 [(4, bA true)] fun G => b5 (wp_ret (d7 ?_))))); exact C4 G [0, 1]
     · have q3 : (e5 p == e5 (b8.mk p.vars p.arrays p.body)) = false := (Eq.mp (bL9 _) h3); exact False.elim (bg5 (by with_reducible assumption))
    · have q2 : (K7 p (b8.mk q.vars q.arrays q.body) == K7 p q) = false := (Eq.mp (bL9 _) h2); exact False.elim (bg5 (by with_reducible assumption))
   · refine wp_seq (d9 G c4 [(4, bA true)] fun G => b5 (wp_ret (d7 ?_))); exact C4 G [0, 1]
  · have q0 := N9 h0; refine d9 G (z6 (fc h0 fz) [(4, 0), (5, 0), (6, 0), (1007, 0)]) [(16, bA true)] fun G => b5 (rT G true (by kernel_rfl) (wp_seq (d9 G c4 [(4, bA true)] fun G => b5 (wp_ret (d7 ?_))))); exact C4 G [0, 1]
theorem bF1 (c d : List UInt8) : d8.ok Try.prog ⟨3, [.ref 0, .ref 1], [dY c, dY d], [dY c, dY d], bA true⟩ := by
 have h := bE6 c
 unfold b8.size at h
 exact bA3 c d _ _ (bg3 c) (by omega) (by omega)
theorem bG0 (u : Value) (c : List UInt8) (v : Value) (d : List UInt8) (w : World) (hp : R0 w u c.length 1 (u8s c)) (hq : R0 w v d.length 1 (u8s d)) : Calls Try.prog 3 #[u, v] w fun e w' => e = .returned (.bool true) ∧ Below w.heap.size w w' :=
 aU8 (bF1 c d) u v w (hp.rowF fun _ _ => trivial) (hq.rowF fun _ _ => trivial)
end Go.Proofs.Ytgmhmijcnlfmfaa.exLExtendsProgram

namespace Go.Proofs.Ytgmhmijcnlfmfaa.exLExtendsProgram
open Go Go.RowKit Go.ChangeShapes Go.WideShapes Go.ChangeAt Go.Proofs.Ytgmhmijcnlfmfaa
theorem lifted (os : Os) (started : os.Started) (H : Type) (enc : TypeId × Value → H) :
  ReturnsInHanded {} Try.checked os 3 .any (Rows.fnExtendsProgramSpec.pre6 enc Try.prog Try.f3 Rows.fnExtendsProgramRow.domain false) (Rows.fnExtendsProgramSpec.post enc Try.prog Try.f3 false true false false) := by
 refine returnsInHanded_of_change (C := Try.checked) own started (by kernel_rfl) Try.func3
  (ChangeSpec.witness6 (enc := enc) (C := Try.checked) false ⟨#[], #[.slice none 0 0, .slice none 0 0], []⟩ 8 (by kernel_rfl) (by kernel_rfl) (by kernel_rfl) (by kernel_rfl)) ?_
 intro W base args ds gs before hval0 hW hcnd _
 have hval : ∀ (j : Nat) t v, Try.f3.params[j]? = some t → args[j]? = some v → Value.okWide Try.prog W .any base t v := hval0
 have hW' := hW
 obtain ⟨p, q, hA0, hV, rfl, hfz, hnd⟩ := hW
 have hA : DataW.TrodAll enc Try.prog W 0 (fun _ => true) true Try.f3.params.toList args.toList ds p := hA0
 rw [Try.params3] at hA hval
 obtain ⟨v0, vs0, d0, ds0, p0, q0, hargs, rfl, rfl, h0, r0⟩ := trodAll_cons hA
 obtain ⟨v1, vs1, d1, ds1, p1, q1, rfl, rfl, rfl, h1, r1⟩ := trodAll_cons r0
 obtain ⟨rfl, rfl, rfl⟩ := trodAll_nil r1
 obtain rfl : args = #[v0, v1] := by cases args; simp_all
 obtain ⟨rfl, rfl⟩ := trodVars_none hV
 have k0 := h0
 have lt0 : ∀ x ∈ p0, x.block < W.heap.size := by obtain ⟨m, hm⟩ := k0; exact DataW.trod_lt m _ _ _ hm
 obtain ⟨a0, len0, cap0, rfl⟩ := okWide_slice Try.underlying22 (hval 0 22 v0 rfl rfl)
 obtain ⟨x0, hx0⟩ : ∃ l : List UInt8, R0 W (.slice a0 len0 cap0) l.length 1 (u8s l) := by
  obtain ⟨fuel, hf⟩ := h0
  exact ab1 Try.underlying22 hf
 have k1 := h1
 have lt1 : ∀ x ∈ p1, x.block < W.heap.size := by obtain ⟨m, hm⟩ := k1; exact DataW.trod_lt m _ _ _ hm
 obtain ⟨a1, a37, cap1, rfl⟩ := okWide_slice Try.underlying22 (hval 1 22 v1 rfl rfl)
 obtain ⟨x1, hx1⟩ : ∃ l : List UInt8, R0 W (.slice a1 a37 cap1) l.length 1 (u8s l) := by
  obtain ⟨fuel, hf⟩ := h1
  exact ab1 Try.underlying22 hf
 clear hA0 hval0
 refine (bG0 _ x0 _ x1 W hx0 hx1).mono fun e W' ⟨he, bel⟩ => ?_
 subst he
 exact ⟨_, rfl, _, _, _, [], _, [], hW', trodAll_mk1 (shut_bool Try.underlying4 _), (trodAll_cons_mk (Below.trod aZ1 (by kernel_rfl) (of_decide_eq_true (by kernel_rfl)) k0 bel lt0) (trodAll_cons_mk (Below.trod aZ1 (by kernel_rfl) (of_decide_eq_true (by kernel_rfl)) k1 bel lt1) trodAll_mk0)), rfl, bel.frame _, fun h => by cases h⟩
theorem facts : joinedFacts Try.pinned.checked.prog 3 Try.f3 Rows.fnExtendsProgramSpec Rows.fnExtendsProgramRow = true := by
 unfold joinedFacts
 rw [may_enter, lifts_final, make_is]
 kernel_rfl
theorem over : Rows.fnExtendsProgramRow.holds Try.pinned (OpenSpec.ofChange Rows.fnExtendsProgramSpec) :=
 OpenClaim.holds_of_wide 3 Try.f3 rfl rfl rfl rfl rfl rfl rfl ⟨rfl, rfl, rfl, rfl, rfl⟩ rfl rfl rfl rfl rfl (by kernel_rfl) Try.func3 facts
  (of_decide_eq_true (by kernel_rfl)) (by unfold Func.isWrapper; first | (rw [if_pos (by decide +kernel)]; kernel_rfl) | (rw [if_neg (by decide +kernel)]; exact ⟨rfl, rfl⟩))
  (fun os started H enc _ => lifted os started H enc)
theorem proved : Rows.FnExtendsProgramSaid := over
end Go.Proofs.Ytgmhmijcnlfmfaa.exLExtendsProgram
