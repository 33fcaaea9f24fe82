/-
  LRestrictMemory: the statement, whatever the argument. Conditions: none beyond the statement's own.
-/
import Derived.Test.YtgmhmijcnlfmfaaGreatK1
import Derived.Test.YtgmhmijcnlfmfaaGreatK2
import Derived.Test.YtgmhmijcnlfmfaaGreatK3
import Derived.Test.YtgmhmijcnlfmfaaGreatK4
import Derived.Test.YtgmhmijcnlfmfaaGreatK5
import Derived.Test.YtgmhmijcnlfmfaaGreatK6
import Derived.Test.YtgmhmijcnlfmfaaGreatK7
import Derived.Test.YtgmhmijcnlfmfaaGreatEnter1M
import Derived.Test.YtgmhmijcnlfmfaaGreatEnter2M
import Derived.Test.YtgmhmijcnlfmfaaGreatEnter3M
set_option maxRecDepth 100000
set_option maxHeartbeats 16000000
set_option linter.unusedVariables false
set_option linter.unusedSimpArgs false
open Bool renaming and_eq_false_iff → bX3, and_eq_true_iff → bX4, not_eq_false' → bV5, not_eq_true' → bV2
open True renaming intro → bW1
namespace Go.Proofs.YtgmhmijcnlfmfaaGreat.exLRestrictMemory
open Go Go.RowKit Go.Proofs.YtgmhmijcnlfmfaaGreat
theorem bU5 : ¬ ((!true) = true) := by decide
theorem bJ9 (m : t4) : ¬ ((!(decide (m.vals = m.vals) && decide (m.arrs = m.arrs))) = true) := by simp
theorem bT3 (m : t4) : true = (decide (m.vals = m.vals) && decide (m.arrs = m.arrs)) := by simp
theorem bB5 {p q : b8} {m : t4} (h : rmB p q m = true) : (e6 ⟨p.vars, p.arrays, p.body⟩ && T1 p.vars.length p.arrays.length ⟨(D2 p q m).vals, (D2 p q m).arrs⟩) = true := by
 have := aF9 h
 show (e6 p && T1 p.vars.length p.arrays.length (D2 p q m)) = true
 rw [this.1, this.2.1]; rfl
theorem bJ4 {p q : b8} {m : t4} (h : rmB p q m = true) (h2 : (e6 ⟨p.vars, p.arrays, p.body⟩ && T1 p.vars.length p.arrays.length ⟨(D2 p q m).vals, (D2 p q m).arrs⟩) = false) : False := by
 rw [bB5 h] at h2; cases h2
theorem bp9 {p q : b8} {m : t4} (h : rmB p q m = true) : (D2 p q m).vals.length = p.vars.length ∧ p.vars.length ≤ m.vals.length := by
 have h1 := aH8 (aF9 h).2.1
 have h2 := (aF9 h).2.2
 refine ⟨h1.1, ?_⟩
 have h3 := congrArg List.length h2
 simp at h3; omega
theorem bQ5 {p q : b8} {m : t4} : (D2 p q m).vals.length ≤ m.vals.length ∧ (D2 p q m).arrs.length ≤ m.arrs.length := by
 unfold D2; split <;> simp <;> omega
theorem a96 (p q : b8) (m : t4) (h : rmB p q m = true) : d9.ok Tryz.prog (C0 10 [.ref 0, .ref 1] [dI (D2 p q m).vals, dI ((m.vals.take p.vars.length).drop 0)] (bA true)) := by
 rw [(aF9 h).2.2]; exact a95 _
theorem bH8 (c : List UInt8) (p q : b8) (m : t4) (hd : d9.ok Tryz.prog (bD1 5 c p q m)) (o : Okd p q m) : d9.ok Tryz.prog ⟨3, [.ref 0], [dY c], [dY c], bA true⟩ := by
  have hdr := hd; refine t8 68 Tryz.func3 [dY c] [(0, .ref 0)] fun G => ?_; have ho1 := o.bp; have ho2 := o.bq; have ho3 := o.qv; have ho4 := o.mv; have ho5 := o.ma; have ho6 := o.mi; refine wp_seq (d8 G c3 [(2, bA false)] fun G => b5 (wp_seq (wp_seq (d8 G c3 [(12, bA (decide ((c.length : Int) > 1048576)))] fun G => b5 (H2 G (fun h0 q0 => ?_) fun h0 q0 => ?_)))))
  ·
   refine wp_skip (b5 (wp_seq (e5 G (n7 1 [0] hdr) [0, 9, 10, 11, 12, 13, 14, 15, 16, 49, 57, 65] [dY c, dI p.vars, dI p.arrays, dT p.body, dI q.vars, dI q.arrays, dT q.body, dI m.vals, dR m.arrs, .box (pL 1), .box (pL 4), .box [.ref 7, .ref 8]] [(2, bA false), (3, .ptr 9 0), (4, .ptr 10 0), (5, .ptr 11 0)] fun G => b5 (wp_seq (e5 G (n7 3 [1, 2, 3, 4, 5, 6, 7, 8] (ai7 p q m (by assumption) (by assumption) (by assumption))) [0, 1, 2, 3, 4, 5, 6, 7, 8, 9, 10, 11, 36, 37, 68] [dY c, dI p.vars, dI p.arrays, dT p.body, dI q.vars, dI q.arrays, dT q.body, dI m.vals, dR m.arrs, .box (pL 1), .box (pL 4), .box [.ref 7, .ref 8], dI (D2 p q m).vals, dR (D2 p q m).arrs, .box [.ref 12, .ref 13]] [(2, bA false), (3, .ptr 9 0), (4, .ptr 10 0), (5, .ptr 11 0), (6, .ptr 14 0), (7, bA (rmB p q m))] fun G => b5 (wp_seq (e5 G (n7 3 [1, 2, 3, 4, 5, 6, 7, 8] (ai5 p q m (by assumption) (by assumption) (by assumption) (by assumption) (by assumption))) [0, 1, 2, 3, 7, 8, 9, 11, 12, 13, 14, 39, 40, 71] [dY c, dI p.vars, dI p.arrays, dT p.body, dI m.vals, dR m.arrs, .box (pL 1), .box [.ref 4, .ref 5], dI (D2 p q m).vals, dR (D2 p q m).arrs, .box [.ref 8, .ref 9], dI (D2 p q m).vals, dR (D2 p q m).arrs, .box [.ref 11, .ref 12]] [(2, bA false), (3, .ptr 6 0), (5, .ptr 7 0), (6, .ptr 10 0), (7, bA (rmB p q m)), (8, .ptr 13 0), (9, bA (rmB p q m))] fun G => b5 (wp_seq (wp_seq ?_))))))))); cases h1 : (!(decide ((D2 p q m).vals = (D2 p q m).vals) && decide ((D2 p q m).arrs = (D2 p q m).arrs)))
   ·
    have q1 : ((D2 p q m).vals = (D2 p q m).vals) ∧ ((D2 p q m).arrs = (D2 p q m).arrs) := (fun hq => And.imp (fun hq => of_decide_eq_true hq) (fun hq => of_decide_eq_true hq) (bX4.1 hq)) (Eq.mp (bV5 _) h1); refine w5 G (m5 (f6 6 [8, 9, 11, 12] (ac7 ((D2 p q m).vals) ((D2 p q m).vals) ((D2 p q m).arrs) ((D2 p q m).arrs)) m0) (fc (a := !rmB p q m == rmB p q m) (b := false) (by simp [h0, h1]) (fc h1 fz)) (us [(4, 7, 0), (1008, 1008, 0), (10, 11, 1), (1012, 1012, 1)])) [(2, bA false), (3, .ptr 6 0), (5, .ptr 7 0), (6, .ptr 10 0), (7, bA (rmB p q m)), (8, .ptr 13 0), (9, bA (rmB p q m)), (45, .v (.bool !rmB p q m))] fun G => b5 ?_; cases h2 : (!rmB p q m)
    ·
     have q2 : (rmB p q m) = true := (Eq.mp (bV5 _) h2); have hrv := bp9 (p := p) (q := q) (m := m) (by with_reducible assumption); refine rF G _ h2 (wp_skip (b5 (wp_seq ?_))); cases h3 : (e6 (b8.mk p.vars p.arrays p.body) && T1 p.vars.length p.arrays.length (t4.mk (D2 p q m).vals (D2 p q m).arrs))
     · have q3 : ((e6 (b8.mk p.vars p.arrays p.body)) = false) ∨ ((T1 p.vars.length p.arrays.length (t4.mk (D2 p q m).vals (D2 p q m).arrs)) = false) := Or.imp (fun hq => (hq)) (fun hq => (hq)) (bX3.1 h3); exact False.elim (bJ4 (by with_reducible assumption) (by with_reducible assumption))
     · have q3 : ((e6 (b8.mk p.vars p.arrays p.body)) = true) ∧ ((T1 p.vars.length p.arrays.length (t4.mk (D2 p q m).vals (D2 p q m).arrs)) = true) := And.imp (fun hq => (hq)) (fun hq => (hq)) (bX4.1 h3); refine E1 G (m5 (f6 2 [1, 2, 3, 8, 9] (ax1 p.vars p.arrays p.body ((D2 p q m).vals) ((D2 p q m).arrs)) (f6 12 [8, 102] (a96 p q m (by assumption)) m0)) (fc h3 fz) (us [(4, 12, 0), (1013, 1013, 0)])) [0, 0, 3, 7, 15, 31, 15, 79, 15, 271, 783, 1999, 4095, 8191, 16383] [0] [dY c] [(2, bA true)] [(0 : Int) ≤ p.vars.length, (p.vars.length : Int) ≤ m.vals.length] ⟨(by omega), (by omega), bW1⟩ fun G => b5 (wp_ret ?_); exact A0 G [0]
    · have q2 : (rmB p q m) = false := (Eq.mp (bV2 _) h2); refine rT G _ h2 (wp_seq (e5 G (m5 (f6 6 [8, 9, 11, 12] (ac7 ((D2 p q m).vals) ((D2 p q m).vals) ((D2 p q m).arrs) ((D2 p q m).arrs)) m0) (fc (a := rmB p q m == rmB p q m) (b := true) (by rw [q2]; rfl) fz) [(4, 0), (5, 0), (6, 0), (1007, 0)]) (rg 11) [dY c, dI p.vars, dI p.arrays, dT p.body, dI m.vals, dR m.arrs, .box (pL 1), .box [.ref 4, .ref 5], dI (D2 p q m).vals, dR (D2 p q m).arrs, .box [.ref 8, .ref 9]] [(2, bA (decide ((D2 p q m).vals = (D2 p q m).vals) && decide ((D2 p q m).arrs = (D2 p q m).arrs))), (3, .ptr 6 0), (5, .ptr 7 0), (6, .ptr 10 0)] fun G => b5 (wp_ret (c8 ?_)))); exact l9 (decide ((D2 p q m).vals = (D2 p q m).vals) && decide ((D2 p q m).arrs = (D2 p q m).arrs)) G [0] (by simp [h0, h1, h2, q2])
   · have q1 : (¬ ((D2 p q m).vals = (D2 p q m).vals)) ∨ (¬ ((D2 p q m).arrs = (D2 p q m).arrs)) := (fun hq => Or.imp (fun hq => of_decide_eq_false hq) (fun hq => of_decide_eq_false hq) (bX3.1 hq)) (Eq.mp (bV2 _) h1); exact False.elim (bJ9 _ (by with_reducible assumption))
  · refine wp_seq (d8 G c3 [(2, bA true)] fun G => b5 (wp_ret (c8 ?_))); exact A0 G [0]
theorem bN8 (c : List UInt8) : d9.ok Tryz.prog ⟨3, [.ref 0], [dY c], [dY c], bA true⟩ := bH8 c _ _ _ (bk6 c) (bI7 c)
theorem bP2 (u : Value) (c : List UInt8) (w : World) (hp : N5 w u c.length 1 (u8s c)) : Calls Tryz.prog 3 #[u] w fun e w' => e = .returned (.bool true) ∧ Below w.heap.size w w' :=
 a97 (bN8 c) u w (hp.rowF fun _ _ => trivial)
end Go.Proofs.YtgmhmijcnlfmfaaGreat.exLRestrictMemory

namespace Go.Proofs.YtgmhmijcnlfmfaaGreat.exLRestrictMemory
open Go Go.RowKit Go.ChangeShapes Go.WideShapes Go.ChangeAt Go.Proofs.YtgmhmijcnlfmfaaGreat
theorem lifted (os : Os) (started : os.Started) (H : Type) (enc : TypeId × Value → H) :
  ReturnsInHanded {} Tryz.checked os 3 .any (Rows.fnRestrictMemorySpec.pre6 enc Tryz.prog Tryz.f3 Rows.fnRestrictMemoryRow.domain false) (Rows.fnRestrictMemorySpec.post enc Tryz.prog Tryz.f3 false true false false) := by
 refine returnsInHanded_of_change (C := Tryz.checked) own started (by kernel_rfl) Tryz.func3
  (ChangeSpec.witness6 (enc := enc) (C := Tryz.checked) false ⟨#[], #[.slice none 0 0], []⟩ 8 (by kernel_rfl) (by kernel_rfl) (by kernel_rfl) (by kernel_rfl)) ?_
 intro W base args ds gs before hval0 hW hcnd _
 have hval : ∀ (j : Nat) t v, Tryz.f3.params[j]? = some t → args[j]? = some v → Value.okWide Tryz.prog W .any base t v := hval0
 have hW' := hW
 obtain ⟨p, q, hA0, hV, rfl, hfz, hnd⟩ := hW
 have hA : DataW.TrodAll enc Tryz.prog W 0 (fun _ => true) true Tryz.f3.params.toList args.toList ds p := hA0
 rw [Tryz.params3] at hA hval
 obtain ⟨v0, vs0, d0, ds0, p0, q0, hargs, rfl, rfl, h0, r0⟩ := trodAll_cons hA
 obtain ⟨rfl, rfl, rfl⟩ := trodAll_nil r0
 obtain rfl : args = #[v0] := by cases args; simp_all
 obtain ⟨rfl, rfl⟩ := trodVars_none hV
 have k0 := h0
 have lt0 : ∀ x ∈ p0, x.block < W.heap.size := by obtain ⟨m, hm⟩ := k0; exact DataW.trod_lt m _ _ _ hm
 obtain ⟨a0, len0, cap0, rfl⟩ := okWide_slice Tryz.underlying22 (hval 0 22 v0 rfl rfl)
 obtain ⟨x0, hx0⟩ : ∃ l : List UInt8, N5 W (.slice a0 len0 cap0) l.length 1 (u8s l) := by
  obtain ⟨fuel, hf⟩ := h0
  exact az0 Tryz.underlying22 hf
 clear hA0 hval0
 refine (bP2 _ x0 W hx0).mono fun e W' ⟨he, bel⟩ => ?_
 subst he
 exact ⟨_, rfl, _, _, _, [], _, [], hW', trodAll_mk1 (shut_bool Tryz.underlying4 _), (trodAll_cons_mk (Below.trod br5 (by kernel_rfl) (of_decide_eq_true (by kernel_rfl)) k0 bel lt0) trodAll_mk0), rfl, bel.frame _, fun h => by cases h⟩
theorem facts : joinedFacts Tryz.pinned.checked.prog 3 Tryz.f3 Rows.fnRestrictMemorySpec Rows.fnRestrictMemoryRow = true := by
 unfold joinedFacts
 rw [may_enter, lifts_final, make_is]
 kernel_rfl
theorem over : Rows.fnRestrictMemoryRow.holds Tryz.pinned (OpenSpec.ofChange Rows.fnRestrictMemorySpec) :=
 OpenClaim.holds_of_wide 3 Tryz.f3 rfl rfl rfl rfl rfl rfl rfl ⟨rfl, rfl, rfl, rfl, rfl⟩ rfl rfl rfl rfl rfl (by kernel_rfl) Tryz.func3 facts
  (of_decide_eq_true (by kernel_rfl)) (by unfold Func.isWrapper; first | (rw [if_pos (by decide +kernel)]; kernel_rfl) | (rw [if_neg (by decide +kernel)]; exact ⟨rfl, rfl⟩))
  (fun os started H enc _ => lifted os started H enc)
theorem proved : Rows.FnRestrictMemorySaid := over
end Go.Proofs.YtgmhmijcnlfmfaaGreat.exLRestrictMemory
