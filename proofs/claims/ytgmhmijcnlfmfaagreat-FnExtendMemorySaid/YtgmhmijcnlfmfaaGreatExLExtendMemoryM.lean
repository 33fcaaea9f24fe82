/-
  LExtendMemory: the statement, whatever the argument. Conditions: none beyond the statement's own.
-/
import Derived.Test.YtgmhmijcnlfmfaaGreatK1
import Derived.Test.YtgmhmijcnlfmfaaGreatK2
import Derived.Test.YtgmhmijcnlfmfaaGreatK3
import Derived.Test.YtgmhmijcnlfmfaaGreatK4
import Derived.Test.YtgmhmijcnlfmfaaGreatK5
import Derived.Test.YtgmhmijcnlfmfaaGreatK6
import Derived.Test.YtgmhmijcnlfmfaaGreatK7
import Derived.Test.YtgmhmijcnlfmfaaGreatEnter1M
import Derived.Test.YtgmhmijcnlfmfaaGreatEnter2M
import Derived.Test.YtgmhmijcnlfmfaaGreatEnter3M
set_option maxRecDepth 100000
set_option maxHeartbeats 16000000
set_option linter.unusedVariables false
set_option linter.unusedSimpArgs false
open Bool renaming and_eq_false_iff → bY6, and_eq_true → bW2, and_eq_true_iff → bY8, not_eq_false' → bW7, not_eq_true' → bW6
namespace Go.Proofs.YtgmhmijcnlfmfaaGreat.exLExtendMemory
open Go Go.RowKit Go.Proofs.YtgmhmijcnlfmfaaGreat
theorem bV9 : ¬ ((!true) = true) := by decide
theorem bfl {b : Bool} (h : b = true) (h' : b = false) : False := by rw [h] at h'; cases h'
theorem bL2 (m : s4) : ¬ ((!(decide (m.vals = m.vals) && decide (m.arrs = m.arrs))) = true) := by simp
theorem bU6 (m : s4) : true = (decide (m.vals = m.vals) && decide (m.arrs = m.arrs)) := by simp
section
variable {p q : b8} {m : s4}
theorem bK7 (h : emB p q m = true) (h2 : (e6 ⟨q.vars, q.arrays, q.body⟩ && L7 q.vars.length q.arrays.length ⟨(y6 p q m).vals, (y6 p q m).arrs⟩) = false) : False := by
 have e : (e6 ⟨q.vars, q.arrays, q.body⟩ && L7 q.vars.length q.arrays.length ⟨(y6 p q m).vals, (y6 p q m).arrs⟩) = (e6 q && L7 q.vars.length q.arrays.length (y6 p q m)) := rfl
 rw [e, (al9 h).2.1, (al9 h).2.2.1] at h2; cases h2
theorem bJ0 (h : emB p q m = true) (h2 : (decide ((rmD p q (y6 p q m)).vals = m.vals) && decide ((rmD p q (y6 p q m)).arrs = m.arrs)) = false) : False := by
 rw [(al9 h).2.2.2.2] at h2; simp at h2
theorem bJ3 (h : emB p q m = true) (h2 : rmB p q (y6 p q m) = false) : False := bfl (al9 h).2.2.2.1 h2
theorem bE1 (h : emB p q m = true) : W9 p q = true := (al9 h).1
theorem bV5 : (y6 p q m).vals.length ≤ m.vals.length + q.vars.length ∧ (y6 p q m).arrs.length ≤ m.arrs.length := by
 unfold y6; split <;> simp <;> omega
theorem bO4 {n : Nat} (h : ∀ l ∈ m.arrs, l.length ≤ n) : ∀ l ∈ (y6 p q m).arrs, l.length ≤ n := by
 unfold y6; split
 ·exact h
 ·intro l hl; simp at hl
theorem bt4 (h : emB p q m = true) : (y6 p q m).vals.length ≤ 12 ∧ (y6 p q m).arrs.length ≤ 2 := by
 obtain ⟨-, h2, h3, -, -⟩ := al9 h
 have h4 := ax1 h3
 have h5 : q.vars.length ≤ 12 ∧ q.arrays.length ≤ 2 := by
  unfold e6 at h2
  simp only [bW2] at h2
  have h6 := h2.1.1
  unfold x7 at h6
  simp only [bW2, decide_eq_true_eq] at h6
  omega
 omega
end
abbrev B5 (p : b8) (q : b8) (m : s4) (r0 : List It) : List It := dI p.vars :: dI p.arrays :: dT p.body :: dI q.vars :: dI q.arrays :: dT q.body :: dI m.vals :: dR m.arrs :: .box (pL 1) :: .box (pL 4) :: .box [.ref 7, .ref 8] :: dI (y6 p q m).vals :: dR (y6 p q m).arrs :: .box [.ref 12, .ref 13] :: r0
theorem bI9 (c : List UInt8) (p q : b8) (m : s4) (hd : d8.ok Tryz.prog (bE3 11 c p q m)) (o : Okd p q m) : d8.ok Tryz.prog ⟨4, [.ref 0], [dY c], [dY c], bA true⟩ := by
  have hdr := hd; refine t8 79 Tryz.func4 [dY c] [(0, .ref 0)] fun G => ?_; have ho1 := o.bp; have ho2 := o.bq; have ho3 := o.qv; have ho4 := o.mv; have ho5 := o.ma; have ho6 := o.mi; refine wp_seq (d9 G c3 [(2, bA false)] fun G => b5 (wp_seq (wp_seq (d9 G c3 [(14, bA (decide ((c.length : Int) > 1048576)))] fun G => b5 (I2 G (fun h0 q0 => ?_) fun h0 q0 => ?_)))))
  ·
   refine wp_skip (b5 (wp_seq (e5 G (n5 1 [0] hdr) [0, 9, 10, 11, 12, 13, 14, 15, 16, 49, 57, 65] [dY c, dI p.vars, dI p.arrays, dT p.body, dI q.vars, dI q.arrays, dT q.body, dI m.vals, dR m.arrs, .box (pL 1), .box (pL 4), .box [.ref 7, .ref 8]] [(2, bA false), (3, .ptr 9 0), (4, .ptr 10 0), (5, .ptr 11 0)] fun G => b5 (wp_seq (e5 G (n5 3 [1, 2, 3, 4, 5, 6, 7, 8] (ap2 p q m (by assumption) (by assumption) (by assumption) (by assumption))) [0, 1, 2, 3, 4, 5, 6, 7, 8, 9, 10, 11, 36, 37, 68] (dY c :: (B5 p q m [])) [(2, bA false), (3, .ptr 9 0), (4, .ptr 10 0), (5, .ptr 11 0), (6, .ptr 14 0), (7, bA (emB p q m))] fun G => b5 (wp_seq (e5 G (n5 3 [1, 2, 3, 4, 5, 6, 7, 8] (ap1 p q m (by assumption) (by assumption) (by assumption) (by assumption) (by assumption) (by assumption))) [0, 1, 2, 3, 4, 5, 6, 7, 8, 9, 10, 11, 12, 13, 14, 39, 40, 71] (dY c :: (B5 p q m [dI (y6 p q m).vals, dR (y6 p q m).arrs, .box [.ref 15, .ref 16]])) [(2, bA false), (3, .ptr 9 0), (4, .ptr 10 0), (5, .ptr 11 0), (6, .ptr 14 0), (7, bA (emB p q m)), (8, .ptr 17 0), (9, bA (emB p q m))] fun G => b5 (wp_seq (wp_seq ?_))))))))); cases h1 : (!(decide ((y6 p q m).vals = (y6 p q m).vals) && decide ((y6 p q m).arrs = (y6 p q m).arrs)))
   ·
    have q1 : ((y6 p q m).vals = (y6 p q m).vals) ∧ ((y6 p q m).arrs = (y6 p q m).arrs) := (fun hq => And.imp (fun hq => of_decide_eq_true hq) (fun hq => of_decide_eq_true hq) (bY8.1 hq)) (Eq.mp (bW7 _) h1); refine w3 G (l9 (f6 6 [12, 13, 15, 16] (R0 ((y6 p q m).vals) ((y6 p q m).vals) ((y6 p q m).arrs) ((y6 p q m).arrs)) l8) (fc (a := !emB p q m == emB p q m) (b := false) (by simp [h0, h1]) (fc h1 fz)) (us [(4, 7, 0), (1008, 1008, 0), (10, 11, 1), (1012, 1012, 1)])) [(2, bA false), (3, .ptr 9 0), (4, .ptr 10 0), (5, .ptr 11 0), (6, .ptr 14 0), (7, bA (emB p q m)), (8, .ptr 17 0), (9, bA (emB p q m)), (47, .v (.bool !emB p q m))] fun G => b5 ?_; cases h2 : (!emB p q m)
    ·
     have q2 : (emB p q m) = true := (Eq.mp (bW7 _) h2); have hrv := bt4 (p := p) (q := q) (m := m) (by with_reducible assumption); refine rF G _ h2 (wp_skip (b5 (wp_seq (e5 G (n5 3 [1, 2, 3, 4, 5, 6, 12, 13] (aj4 p q (y6 p q m) (by omega) (by omega) (bO4 ho6))) [0, 1, 2, 3, 4, 5, 6, 7, 8, 9, 10, 11, 12, 13, 14, 42, 43, 74] (dY c :: (B5 p q m [dI (rmD p q (y6 p q m)).vals, dR (rmD p q (y6 p q m)).arrs, .box [.ref 15, .ref 16]])) [(2, bA false), (3, .ptr 9 0), (4, .ptr 10 0), (5, .ptr 11 0), (6, .ptr 14 0), (10, .ptr 17 0), (11, bA (rmB p q (y6 p q m)))] fun G => b5 (wp_seq ?_))))); cases h3 : (rmB p q (y6 p q m))
     · exact False.elim (bJ3 (by with_reducible assumption) (by with_reducible assumption))
     ·
      cases h4 : (decide ((rmD p q (y6 p q m)).vals = m.vals) && decide ((rmD p q (y6 p q m)).arrs = m.arrs))
      · have q4 : (¬ ((rmD p q (y6 p q m)).vals = m.vals)) ∨ (¬ ((rmD p q (y6 p q m)).arrs = m.arrs)) := Or.imp (fun hq => of_decide_eq_false hq) (fun hq => of_decide_eq_false hq) (bY6.1 h4); exact False.elim (bJ0 (by with_reducible assumption) (by with_reducible assumption))
      ·
       have q4 : ((rmD p q (y6 p q m)).vals = m.vals) ∧ ((rmD p q (y6 p q m)).arrs = m.arrs) := And.imp (fun hq => of_decide_eq_true hq) (fun hq => of_decide_eq_true hq) (bY8.1 h4); cases h5 : (e6 (b8.mk q.vars q.arrays q.body) && L7 q.vars.length q.arrays.length (s4.mk (y6 p q m).vals (y6 p q m).arrs))
       · have q5 : ((e6 (b8.mk q.vars q.arrays q.body)) = false) ∨ ((L7 q.vars.length q.arrays.length (s4.mk (y6 p q m).vals (y6 p q m).arrs)) = false) := Or.imp (fun hq => (hq)) (fun hq => (hq)) (bY6.1 h5); exact False.elim (bK7 (by with_reducible assumption) (by with_reducible assumption))
       · have q5 : ((e6 (b8.mk q.vars q.arrays q.body)) = true) ∧ ((L7 q.vars.length q.arrays.length (s4.mk (y6 p q m).vals (y6 p q m).arrs)) = true) := And.imp (fun hq => (hq)) (fun hq => (hq)) (bY8.1 h5); refine e5 G (l9 (f6 4 [15, 16, 7, 8] (R0 ((rmD p q (y6 p q m)).vals) m.vals ((rmD p q (y6 p q m)).arrs) m.arrs) (f6 9 [4, 5, 6, 12, 13] (ay2 q.vars q.arrays q.body ((y6 p q m).vals) ((y6 p q m).arrs)) (f6 14 [1, 2, 3, 4, 5, 6] (N9 p q) l8))) (fc h3 (fc h4 (fc h5 fz))) (us [(2, 4, 0), (1005, 1005, 0), (7, 9, 1), (1010, 1010, 1), (12, 14, 2), (1015, 1015, 2)])) [0] [dY c] [(2, bA (W9 p q))] fun G => b5 (wp_ret ?_); exact m5 (W9 p q) G [0] ((bE1 (by with_reducible assumption)).symm)
    · have q2 : (emB p q m) = false := (Eq.mp (bW6 _) h2); refine rT G _ h2 (wp_seq (e5 G (l9 (f6 6 [12, 13, 15, 16] (R0 ((y6 p q m).vals) ((y6 p q m).vals) ((y6 p q m).arrs) ((y6 p q m).arrs)) l8) (fc (a := emB p q m == emB p q m) (b := true) (by rw [q2]; rfl) fz) [(4, 0), (5, 0), (6, 0), (1007, 0)]) (rg 15) (dY c :: (B5 p q m [])) [(2, bA (decide ((y6 p q m).vals = (y6 p q m).vals) && decide ((y6 p q m).arrs = (y6 p q m).arrs))), (3, .ptr 9 0), (4, .ptr 10 0), (5, .ptr 11 0), (6, .ptr 14 0)] fun G => b5 (wp_ret (c8 ?_)))); exact m5 (decide ((y6 p q m).vals = (y6 p q m).vals) && decide ((y6 p q m).arrs = (y6 p q m).arrs)) G [0] (by simp [h0, h1, h2, q2])
   · have q1 : (¬ ((y6 p q m).vals = (y6 p q m).vals)) ∨ (¬ ((y6 p q m).arrs = (y6 p q m).arrs)) := (fun hq => Or.imp (fun hq => of_decide_eq_false hq) (fun hq => of_decide_eq_false hq) (bY6.1 hq)) (Eq.mp (bW6 _) h1); exact False.elim (bL2 _ (by with_reducible assumption))
  · refine wp_seq (d9 G c3 [(2, bA true)] fun G => b5 (wp_ret (c8 ?_))); exact A3 G [0]
theorem bP2 (c : List UInt8) : d8.ok Tryz.prog ⟨4, [.ref 0], [dY c], [dY c], bA true⟩ := bI9 c _ _ _ (bl3 c) (bK0 c)
theorem bQ6 (u : Value) (c : List UInt8) (w : World) (hp : O1 w u c.length 1 (u8s c)) : Calls Tryz.prog 4 #[u] w fun e w' => e = .returned (.bool true) ∧ Below w.heap.size w w' :=
 ba6 (bP2 c) u w (hp.rowF fun _ _ => trivial)
end Go.Proofs.YtgmhmijcnlfmfaaGreat.exLExtendMemory

namespace Go.Proofs.YtgmhmijcnlfmfaaGreat.exLExtendMemory
open Go Go.RowKit Go.ChangeShapes Go.WideShapes Go.ChangeAt Go.Proofs.YtgmhmijcnlfmfaaGreat
theorem lifted (os : Os) (started : os.Started) (H : Type) (enc : TypeId × Value → H) :
  ReturnsInHanded {} Tryz.checked os 4 .any (Rows.fnExtendMemorySpec.pre6 enc Tryz.prog Tryz.f4 Rows.fnExtendMemoryRow.domain false) (Rows.fnExtendMemorySpec.post enc Tryz.prog Tryz.f4 false true false false) := by
 refine returnsInHanded_of_change (C := Tryz.checked) own started (by kernel_rfl) Tryz.func4
  (ChangeSpec.witness6 (enc := enc) (C := Tryz.checked) false ⟨#[], #[.slice none 0 0], []⟩ 8 (by kernel_rfl) (by kernel_rfl) (by kernel_rfl) (by kernel_rfl)) ?_
 intro W base args ds gs before hval0 hW hcnd _
 have hval : ∀ (j : Nat) t v, Tryz.f4.params[j]? = some t → args[j]? = some v → Value.okWide Tryz.prog W .any base t v := hval0
 have hW' := hW
 obtain ⟨p, q, hA0, hV, rfl, hfz, hnd⟩ := hW
 have hA : DataW.TrodAll enc Tryz.prog W 0 (fun _ => true) true Tryz.f4.params.toList args.toList ds p := hA0
 rw [Tryz.params4] at hA hval
 obtain ⟨v0, vs0, d0, ds0, p0, q0, hargs, rfl, rfl, h0, r0⟩ := trodAll_cons hA
 obtain ⟨rfl, rfl, rfl⟩ := trodAll_nil r0
 obtain rfl : args = #[v0] := by cases args; simp_all
 obtain ⟨rfl, rfl⟩ := trodVars_none hV
 have k0 := h0
 have lt0 : ∀ x ∈ p0, x.block < W.heap.size := by obtain ⟨m, hm⟩ := k0; exact DataW.trod_lt m _ _ _ hm
 obtain ⟨a0, len0, cap0, rfl⟩ := okWide_slice Tryz.underlying22 (hval 0 22 v0 rfl rfl)
 obtain ⟨x0, hx0⟩ : ∃ l : List UInt8, O1 W (.slice a0 len0 cap0) l.length 1 (u8s l) := by
  obtain ⟨fuel, hf⟩ := h0
  exact aA0 Tryz.underlying22 hf
 clear hA0 hval0
 refine (bQ6 _ x0 W hx0).mono fun e W' ⟨he, bel⟩ => ?_
 subst he
 exact ⟨_, rfl, _, _, _, [], _, [], hW', trodAll_mk1 (shut_bool Tryz.underlying4 _), (trodAll_cons_mk (Below.trod bs4 (by kernel_rfl) (of_decide_eq_true (by kernel_rfl)) k0 bel lt0) trodAll_mk0), rfl, bel.frame _, fun h => by cases h⟩
theorem facts : joinedFacts Tryz.pinned.checked.prog 4 Tryz.f4 Rows.fnExtendMemorySpec Rows.fnExtendMemoryRow = true := by
 unfold joinedFacts
 rw [may_enter, lifts_final, make_is]
 kernel_rfl
theorem over : Rows.fnExtendMemoryRow.holds Tryz.pinned (OpenSpec.ofChange Rows.fnExtendMemorySpec) :=
 OpenClaim.holds_of_wide 4 Tryz.f4 rfl rfl rfl rfl rfl rfl rfl ⟨rfl, rfl, rfl, rfl, rfl⟩ rfl rfl rfl rfl rfl (by kernel_rfl) Tryz.func4 facts
  (of_decide_eq_true (by kernel_rfl)) (by unfold Func.isWrapper; first | (rw [if_pos (by decide +kernel)]; kernel_rfl) | (rw [if_neg (by decide +kernel)]; exact ⟨rfl, rfl⟩))
  (fun os started H enc _ => lifted os started H enc)
theorem proved : Rows.FnExtendMemorySaid := over
end Go.Proofs.YtgmhmijcnlfmfaaGreat.exLExtendMemory
