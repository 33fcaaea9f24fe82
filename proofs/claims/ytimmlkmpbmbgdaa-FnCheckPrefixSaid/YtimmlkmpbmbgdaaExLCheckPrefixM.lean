/-
  LCheckPrefix: the statement, whatever the argument. Conditions: none beyond the statement's own.
-/
import Derived.Test.YtimmlkmpbmbgdaaK6
import Derived.Test.YtimmlkmpbmbgdaaEnter1M
import Derived.Test.YtimmlkmpbmbgdaaEnter2M
import Derived.Test.YtimmlkmpbmbgdaaEnter3M
namespace Go.Proofs.Ytimmlkmpbmbgdaa.exLCheckPrefix
set_option linter.unusedVariables false
set_option linter.unusedSimpArgs false
open Go Go.RowKit Go.Proofs.Ytimmlkmpbmbgdaa

theorem szSs_sub (l : List LStmt) (k : Nat) : szSs (l.take k) ≤ szSs l ∧ szSs (l.drop k) ≤ szSs l := by
  have h : szSs (l.take k ++ l.drop k) = szSs l := by rw [List.take_append_drop]
  rw [szSs_append] at h
  omega
theorem sz_part {l : List LStmt} {a b : Nat} (h : szSs l ≤ 1048576) : szSs (List.drop a (List.take b l)) ≤ 1048576 := by
  have h1 := (szSs_sub (List.take b l) a).2
  have h2 := (szSs_sub l b).1
  omega
theorem px_law (p : LProg) (k : Nat) (hp : ¬ (ctR p).1 = 5) : ((ctR p).1 == 0) = ((ctR ⟨p.vars, p.arrays, p.body.take k⟩).1 == 0 && (ctR ⟨p.vars, p.arrays, p.body.drop k⟩).1 == 0) := by
  rw [Bool.eq_iff_iff, Bool.and_eq_true, beq_iff_eq, beq_iff_eq, beq_iff_eq]
  exact prefix_law p k hp
theorem px_f {p : LProg} {k : Nat} (hp : ¬ (ctR p).1 = 5) (h : ¬ (ctR ⟨p.vars, p.arrays, List.drop 0 (List.take k p.body)⟩).1 = 0) : true = (((ctR ⟨p.vars, p.arrays, p.body⟩).1 == 0) == false) := by
  have h1 : ((ctR ⟨p.vars, p.arrays, p.body⟩).1 == 0) = _ := px_law p k hp
  rw [h1, show ((ctR ⟨p.vars, p.arrays, p.body.take k⟩).1 == 0) = false from beq_eq_false_iff_ne.2 h]
  rfl
theorem px_t {p : LProg} {k : Nat} (hp : ¬ (ctR p).1 = 5) (h : (ctR ⟨p.vars, p.arrays, List.drop 0 (List.take k p.body)⟩).1 = 0) : true = (((ctR ⟨p.vars, p.arrays, p.body⟩).1 == 0) == ((ctR ⟨p.vars, p.arrays, List.drop k (List.take p.body.length p.body)⟩).1 == 0)) := by
  have h1 : ((ctR ⟨p.vars, p.arrays, p.body⟩).1 == 0) = _ := px_law p k hp
  rw [h1, show ((ctR ⟨p.vars, p.arrays, p.body.take k⟩).1 == 0) = true from beq_iff_eq.2 h, List.take_length, Bool.true_and]
  simp
abbrev yWkLCheckPrefix0 (c : List UInt8) := ctR (LProg.mk (drF c).vars (drF c).arrays (drF c).body)
set_option maxRecDepth 100000 in
theorem c_law (c d : List UInt8) : Ctr.ok Try.prog ⟨8, [.ref 0, .ref 1], [dY c, dY d], [dY c, dY d], bA true⟩ := by
  refine rx_enter 87 Try.func8 (by rfl) (by kernel_rfl) (by kernel_rfl) ?_; intro ι φ ψ w0 w F ρ0 ρ a G; replace G := Gam.at G [dY c, dY d] [(0, .ref 0), (1, .ref 1)]; have hsz := drF_sz c
  have hb : szSs (drF c).body ≤ 1048576 := by unfold LProg.size at hsz; omega
  have hmd := tmod_b (x := (d.length : Int)) (n := (((drF c).body.length : Int) + 1)) (by omega) (by omega); have hbl : (drF c).body.length ≤ 1048576 := Nat.le_trans (szSs_len _) hb; refine wp_seq ?_; refine rs0s G [(0, .ref 0), (1, .ref 1), (4, bA false)] fun ρ a w G => th_n (wp_seq (wp_seq ?_)); cases h0 : (decide ((↑c.length : Int) > (1048576 : Int)))
  ·
   have q0 : ¬ ((↑c.length : Int) > 1048576) := of_decide_eq_false h0; refine rs1s G ⟨[], [(decide ((↑c.length : Int) > (1048576 : Int)), false)], [(4, 0), (5, 0), (6, 0), (1007, 0)]⟩ calls_nil ⟨(by assumption), trivial⟩ [(0, .ref 0), (1, .ref 1), (4, bA false), (22, bA (decide ((↑d.length : Int) > 1048576)))] [] trivial fun ρ a w G => th_n ?_; cases h1 : (decide ((↑d.length : Int) > (1048576 : Int)))
   ·
    have q1 : ¬ ((↑d.length : Int) > 1048576) := of_decide_eq_false h1; refine rF G (decide ((↑d.length : Int) > (1048576 : Int))) (by assumption) ?_; refine wp_skip (th_n (wp_seq ?_)); refine rs1 (dk := dkP) G ⟨[(1, _, [0])], [], []⟩ (calls_cons (c_DrawCT (c)) calls_nil) trivial [0, 1, 10, 11, 12, 18] [dY c, dY d, .row 3 (D.ints (drF c).vars), .row 3 (D.ints (drF c).arrays), .tree (D.stmts (drF c).body), .box [.ref 2, .ref 3, .tref 4]] [(1, .ref 1), (4, bA false), (5, .ptr 5 0)] [] trivial fun ρ a w G => th_n (wp_seq ?_); refine rs1s G ⟨[(1, _, [2, 3, 4])], [], []⟩ (calls_cons (Ctr.lend (c_iTimeV ((drF c).vars) ((drF c).arrays) ((drF c).body) (by assumption)) [.row 3, .row 3, .tree]) calls_nil) trivial [(1, .ref 1), (4, bA false), (5, .ptr 5 0), (6, iA (yWkLCheckPrefix0 c).fst)] [] trivial fun ρ a w G => th_n (wp_seq ?_); refine rs1s G ⟨[(1, _, [2, 3, 4])], [], []⟩ (calls_cons (Ctr.lend (c_TimeV ((drF c).vars) ((drF c).arrays) ((drF c).body) (by assumption)) [.row 3, .row 3, .tree]) calls_nil) trivial [(1, .ref 1), (4, bA false), (5, .ptr 5 0), (6, iA (yWkLCheckPrefix0 c).fst), (8, iA (yWkLCheckPrefix0 c).fst)] [] trivial fun ρ a w G => th_n (wp_seq (wp_seq ?_)); refine rs1s G ⟨[], [((ctR (LProg.mk (drF c).vars (drF c).arrays (drF c).body)).fst != (ctR (LProg.mk (drF c).vars (drF c).arrays (drF c).body)).fst, false)], [(4, 0), (5, 0), (1006, 0)]⟩ calls_nil ⟨(by simp [h0, h1]), trivial⟩ [(1, .ref 1), (4, bA false), (5, .ptr 5 0), (6, iA (yWkLCheckPrefix0 c).fst), (8, iA (yWkLCheckPrefix0 c).fst), (41, bA ((yWkLCheckPrefix0 c).fst == 5))] [] trivial fun ρ a w G => th_n ?_; cases h2 : ((ctR (LProg.mk (drF c).vars (drF c).arrays (drF c).body)).fst == (5 : Int))
    ·
     have q2 : ¬ ((ctR (LProg.mk (drF c).vars (drF c).arrays (drF c).body)).fst = 5) := ne_of_beq_false h2; have Gx := G.frz [.no, .no, .no, .no, .tree] [dY c, dY d, .row 3 (D.ints (drF c).vars), .row 3 (D.ints (drF c).arrays), dT (drF c).body, .box (pL 2)] [(1, .ref 1), (4, bA false), (5, .ptr 5 0), (6, iA (yWkLCheckPrefix0 c).fst), (8, iA (yWkLCheckPrefix0 c).fst), (41, bA ((yWkLCheckPrefix0 c).fst == 5))]; clear G; obtain ⟨ρ, G⟩ := Gx; refine rF G ((ctR (LProg.mk (drF c).vars (drF c).arrays (drF c).body)).fst == (5 : Int)) (by assumption) ?_; refine wp_skip (th_n (wp_seq ?_)); refine rs1s G ⟨[], [], []⟩ calls_nil trivial [(4, bA false), (5, .ptr 5 0), (6, iA (yWkLCheckPrefix0 c).fst), (10, iA ((↑d.length : Int).tmod ((↑(drF c).body.length : Int) + 1)))] [IntKind.i64.wrap ((↑(drF c).body.length : Int) + (1 : Int)) = (↑(drF c).body.length : Int) + (1 : Int), (↑(drF c).body.length : Int) + (1 : Int) ≠ (0 : Int)] ⟨(by exact w64 (by omega) (by omega)), (by omega), trivial⟩ fun ρ a w G => th_n (wp_seq ?_); refine rd1s G ⟨[(9, _, [2, 3, 62])], [], []⟩ (calls_cons (Ctr.lend (c_iTimeV ((drF c).vars) ((drF c).arrays) (List.drop 0 (List.take ((↑d.length : Int).tmod ((↑(drF c).body.length : Int) + 1)).toNat (drF c).body)) (by exact sz_part hb)) [.row 3, .row 3]) calls_nil) trivial [0, 1, 0, 4, 0, 16, 0, 112, 255, 511, 1023, 2047, 2047, 4095, 16383] [(4, bA false), (5, .ptr 5 0), (6, iA (yWkLCheckPrefix0 c).fst), (10, iA ((↑d.length : Int).tmod ((↑(drF c).body.length : Int) + 1))), (11, iA (ctR (LProg.mk (drF c).vars (drF c).arrays (List.drop 0 (List.take ((↑d.length : Int).tmod ((↑(drF c).body.length : Int) + 1)).toNat (drF c).body)))).fst)] [(0 : Int) ≤ (↑d.length : Int).tmod ((↑(drF c).body.length : Int) + (1 : Int)), (↑d.length : Int).tmod ((↑(drF c).body.length : Int) + (1 : Int)) ≤ (↑(drF c).body.length : Int)] ⟨(by omega), (by omega), trivial⟩ fun ρ a w G => th_n (wp_seq ?_); refine rd1 (dk := dkP) G ⟨[(9, _, [2, 3, 62])], [], []⟩ (calls_cons (Ctr.lend (c_iTimeV ((drF c).vars) ((drF c).arrays) (List.drop ((↑d.length : Int).tmod ((↑(drF c).body.length : Int) + 1)).toNat (List.take (drF c).body.length (drF c).body)) (by exact sz_part hb)) [.row 3, .row 3]) calls_nil) trivial [0, 1, 0, 4, 0, 16, 0, 112, 255, 511, 1023, 2047, 2047, 4095, 16383] [0, 1] [dY c, dY d] [(4, bA false), (6, iA (yWkLCheckPrefix0 c).fst), (11, iA (ctR (LProg.mk (drF c).vars (drF c).arrays (List.drop 0 (List.take ((↑d.length : Int).tmod ((↑(drF c).body.length : Int) + 1)).toNat (drF c).body)))).fst), (13, iA (ctR (LProg.mk (drF c).vars (drF c).arrays (List.drop ((↑d.length : Int).tmod ((↑(drF c).body.length : Int) + 1)).toNat (List.take (drF c).body.length (drF c).body)))).fst)] [(0 : Int) ≤ (↑d.length : Int).tmod ((↑(drF c).body.length : Int) + (1 : Int)), (↑d.length : Int).tmod ((↑(drF c).body.length : Int) + (1 : Int)) ≤ (↑(drF c).body.length : Int)] ⟨(by omega), (by omega), trivial⟩ fun ρ a w G => th_n (wp_seq ?_); cases h3 : ((ctR (LProg.mk (drF c).vars (drF c).arrays (List.drop (0 : Nat) (List.take ((↑d.length : Int).tmod ((↑(drF c).body.length : Int) + (1 : Int))).toNat (drF c).body)))).fst == (0 : Int))
     · have q3 : ¬ ((ctR (LProg.mk (drF c).vars (drF c).arrays (List.drop 0 (List.take ((↑d.length : Int).tmod ((↑(drF c).body.length : Int) + 1)).toNat (drF c).body)))).fst = 0) := ne_of_beq_false h3; refine rs1s G ⟨[], [((ctR (LProg.mk (drF c).vars (drF c).arrays (List.drop (0 : Nat) (List.take ((↑d.length : Int).tmod ((↑(drF c).body.length : Int) + (1 : Int))).toNat (drF c).body)))).fst == (0 : Int), false)], [(5, 0), (6, 0), (1007, 0)]⟩ calls_nil ⟨(by assumption), trivial⟩ [(4, bA (((yWkLCheckPrefix0 c).fst == 0) == false))] [] trivial fun ρ a w G => th_n (wp_ret ?_); exact rx_ret (v := bA (((ctR (LProg.mk (drF c).vars (drF c).arrays (drF c).body)).fst == 0) == false)) G [0, 1] (by kernel_rfl) (by kernel_rfl) (by kernel_rfl) (by have e1 : (true : Bool) = (((ctR (LProg.mk (drF c).vars (drF c).arrays (drF c).body)).fst == 0) == false) := (by exact px_f (by with_reducible assumption) (by with_reducible assumption)); (first | rw [e1] | simp only [e1]) <;> rfl)
     · have q3 : (ctR (LProg.mk (drF c).vars (drF c).arrays (List.drop 0 (List.take ((↑d.length : Int).tmod ((↑(drF c).body.length : Int) + 1)).toNat (drF c).body)))).fst = 0 := eq_of_beq h3; refine rs1s G ⟨[], [((ctR (LProg.mk (drF c).vars (drF c).arrays (List.drop (0 : Nat) (List.take ((↑d.length : Int).tmod ((↑(drF c).body.length : Int) + (1 : Int))).toNat (drF c).body)))).fst == (0 : Int), true)], [(5, 0), (6, 0), (1007, 0)]⟩ calls_nil ⟨(by assumption), trivial⟩ [(4, bA (((yWkLCheckPrefix0 c).fst == 0) == ((ctR (LProg.mk (drF c).vars (drF c).arrays (List.drop ((↑d.length : Int).tmod ((↑(drF c).body.length : Int) + 1)).toNat (List.take (drF c).body.length (drF c).body)))).fst == 0)))] [] trivial fun ρ a w G => th_n (wp_ret ?_); exact rx_ret (v := bA (((ctR (LProg.mk (drF c).vars (drF c).arrays (drF c).body)).fst == 0) == ((ctR (LProg.mk (drF c).vars (drF c).arrays (List.drop ((↑d.length : Int).tmod ((↑(drF c).body.length : Int) + 1)).toNat (List.take (drF c).body.length (drF c).body)))).fst == 0))) G [0, 1] (by kernel_rfl) (by kernel_rfl) (by kernel_rfl) (by have e1 : (true : Bool) = (((ctR (LProg.mk (drF c).vars (drF c).arrays (drF c).body)).fst == 0) == ((ctR (LProg.mk (drF c).vars (drF c).arrays (List.drop ((↑d.length : Int).tmod ((↑(drF c).body.length : Int) + 1)).toNat (List.take (drF c).body.length (drF c).body)))).fst == 0)) := (by exact px_t (by with_reducible assumption) (by with_reducible assumption)); (first | rw [e1] | simp only [e1]) <;> rfl)
    · have q2 : (ctR (LProg.mk (drF c).vars (drF c).arrays (drF c).body)).fst = 5 := eq_of_beq h2; refine rT G ((ctR (LProg.mk (drF c).vars (drF c).arrays (drF c).body)).fst == (5 : Int)) (by assumption) ?_; refine wp_seq ?_; refine rs0s G [(1, .ref 1), (4, bA ((yWkLCheckPrefix0 c).fst == (yWkLCheckPrefix0 c).fst)), (5, .ptr 5 0), (6, iA (yWkLCheckPrefix0 c).fst)] fun ρ a w G => th_n (wp_ret (th_r ?_)); exact rx_ret (v := bA ((ctR (LProg.mk (drF c).vars (drF c).arrays (drF c).body)).fst == (ctR (LProg.mk (drF c).vars (drF c).arrays (drF c).body)).fst)) G [0, 1] (by kernel_rfl) (by kernel_rfl) (by kernel_rfl) (by have e1 : (true : Bool) = ((ctR (LProg.mk (drF c).vars (drF c).arrays (drF c).body)).fst == (ctR (LProg.mk (drF c).vars (drF c).arrays (drF c).body)).fst) := (by simp [h0, h1, h2]); (first | rw [e1] | simp only [e1]) <;> rfl)
   · have q1 : (↑d.length : Int) > 1048576 := of_decide_eq_true h1; refine rT G (decide ((↑d.length : Int) > (1048576 : Int))) (by assumption) ?_; refine wp_seq ?_; refine rs0s G [(0, .ref 0), (1, .ref 1), (4, bA true)] fun ρ a w G => th_n (wp_ret (th_r ?_)); exact rx_ret (v := bA true) G [0, 1] (by kernel_rfl) (by kernel_rfl) (by kernel_rfl) (by kernel_rfl)
  · have q0 : (↑c.length : Int) > 1048576 := of_decide_eq_true h0; refine rs1s G ⟨[], [(decide ((↑c.length : Int) > (1048576 : Int)), true)], [(4, 0), (5, 0), (6, 0), (1007, 0)]⟩ calls_nil ⟨(by assumption), trivial⟩ [(0, .ref 0), (1, .ref 1), (4, bA false), (22, bA true)] [] trivial fun ρ a w G => th_n ?_; refine rT G (true) (by kernel_rfl) ?_; refine wp_seq ?_; refine rs0s G [(0, .ref 0), (1, .ref 1), (4, bA true)] fun ρ a w G => th_n (wp_ret (th_r ?_)); exact rx_ret (v := bA true) G [0, 1] (by kernel_rfl) (by kernel_rfl) (by kernel_rfl) (by kernel_rfl)

theorem walk (u : Value) (c : List UInt8) (v : Value) (d : List UInt8) (w : World) (hp : Row w u c.length 1 (u8s c)) (hq : Row w v d.length 1 (u8s d)) : Calls Try.prog 8 #[u, v] w fun e w' => e = .returned (.bool true) ∧ Below w.heap.size w w' :=
  bytes_law2 (c_law c d) u v w (hp.rowF fun _ _ => trivial) (hq.rowF fun _ _ => trivial)

end Go.Proofs.Ytimmlkmpbmbgdaa.exLCheckPrefix

namespace Go.Proofs.Ytimmlkmpbmbgdaa.exLCheckPrefix
set_option linter.unusedVariables false
set_option linter.unusedSimpArgs false
open Go Go.RowKit Go.ChangeShapes Go.WideShapes Go.ChangeAt Go.Proofs.Ytimmlkmpbmbgdaa

set_option maxRecDepth 100000 in
theorem lifted (os : Os) (started : os.Started) (H : Type) (enc : TypeId × Value → H) :
    ReturnsInHanded {} Try.checked os 8 .any (Rows.fnCheckPrefixSpec.pre6 enc Try.prog Try.f8 Rows.fnCheckPrefixRow.domain false) (Rows.fnCheckPrefixSpec.post enc Try.prog Try.f8 false true false false) := by
  refine returnsInHanded_of_change (C := Try.checked) own started (by kernel_rfl) Try.func8
    (ChangeSpec.witness6 (enc := enc) (C := Try.checked) false ⟨#[], #[.slice none 0 0, .slice none 0 0], []⟩ 8 (by kernel_rfl) (by kernel_rfl) (by kernel_rfl) (by kernel_rfl)) ?_
  intro W base args ds gs before hval0 hW hcnd _
  have hval : ∀ (j : Nat) t v, Try.f8.params[j]? = some t → args[j]? = some v → Value.okWide Try.prog W .any base t v := hval0
  have hW' := hW
  obtain ⟨p, q, hA0, hV, rfl, hfz, hnd⟩ := hW
  have hA : DataW.TrodAll enc Try.prog W 0 (fun _ => true) true Try.f8.params.toList args.toList ds p := hA0
  rw [Try.params8] at hA hval
  obtain ⟨v0, vs0, d0, ds0, p0, q0, hargs, rfl, rfl, h0, r0⟩ := trodAll_cons hA
  obtain ⟨v1, vs1, d1, ds1, p1, q1, rfl, rfl, rfl, h1, r1⟩ := trodAll_cons r0
  obtain ⟨rfl, rfl, rfl⟩ := trodAll_nil r1
  obtain rfl : args = #[v0, v1] := by cases args; simp_all
  obtain ⟨rfl, rfl⟩ := trodVars_none hV
  have k0 := h0
  have lt0 : ∀ x ∈ p0, x.block < W.heap.size := by obtain ⟨m, hm⟩ := k0; exact DataW.trod_lt m _ _ _ hm
  obtain ⟨a0, len0, cap0, rfl⟩ := okWide_slice Try.underlying45 (hval 0 45 v0 rfl rfl)
  obtain ⟨x0, hx0⟩ : ∃ l : List UInt8, Row W (.slice a0 len0 cap0) l.length 1 (u8s l) := by
    obtain ⟨fuel, hf⟩ := h0
    exact bytes_of_trod Try.underlying45 hf
  have k1 := h1
  have lt1 : ∀ x ∈ p1, x.block < W.heap.size := by obtain ⟨m, hm⟩ := k1; exact DataW.trod_lt m _ _ _ hm
  obtain ⟨a1, len1, cap1, rfl⟩ := okWide_slice Try.underlying45 (hval 1 45 v1 rfl rfl)
  obtain ⟨x1, hx1⟩ : ∃ l : List UInt8, Row W (.slice a1 len1 cap1) l.length 1 (u8s l) := by
    obtain ⟨fuel, hf⟩ := h1
    exact bytes_of_trod Try.underlying45 hf
  clear hA0 hval0
  refine (walk _ x0 _ x1 W hx0 hx1).mono fun e W' ⟨he, bel⟩ => ?_
  subst he
  exact ⟨_, rfl, _, _, _, [], _, [], hW', trodAll_mk1 (shut_bool Try.underlying4 _), (trodAll_cons_mk (Below.trod laidOut (by kernel_rfl) (of_decide_eq_true (by kernel_rfl)) k0 bel lt0) (trodAll_cons_mk (Below.trod laidOut (by kernel_rfl) (of_decide_eq_true (by kernel_rfl)) k1 bel lt1) trodAll_mk0)), rfl, bel.frame _, fun h => by cases h⟩

theorem facts : joinedFacts Try.pinned.checked.prog 8 Try.f8 Rows.fnCheckPrefixSpec Rows.fnCheckPrefixRow = true := by
  unfold joinedFacts
  rw [may_enter, lifts_final, make_is]
  kernel_rfl

theorem over : Rows.fnCheckPrefixRow.holds Try.pinned (OpenSpec.ofChange Rows.fnCheckPrefixSpec) :=
  OpenClaim.holds_of_wide 8 Try.f8 rfl rfl rfl rfl rfl rfl rfl ⟨rfl, rfl, rfl, rfl, rfl⟩ rfl rfl rfl rfl rfl (by kernel_rfl) Try.func8 facts
    (of_decide_eq_true (by kernel_rfl)) (by unfold Func.isWrapper; first | (rw [if_pos (by decide +kernel)]; kernel_rfl) | (rw [if_neg (by decide +kernel)]; exact ⟨rfl, rfl⟩))
    (fun os started H enc _ => lifted os started H enc)

theorem proved : Rows.FnCheckPrefixSaid := over
end Go.Proofs.Ytimmlkmpbmbgdaa.exLCheckPrefix
