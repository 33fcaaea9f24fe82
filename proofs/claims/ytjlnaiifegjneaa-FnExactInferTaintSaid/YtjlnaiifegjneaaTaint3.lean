/-
  A row behind an instruction, both sides. Conditions: code, a valid instruction, a row of fourteen.
-/
import Derived.Test.YtjlnaiifegjneaaTaint2
import Derived.Test.YtjlnaiifegjneaaClone
import Derived.Test.YtjlnaiifegjneaaBox
import Derived.Test.YtjlnaiifegjneaaQTail
namespace Go.Proofs.Ytjlnaiifegjneaa
open Go Go.RowKit

theorem afterF_some {c : LCode} {x : LIns} {t : List Bool} {b : Bool} (h : afterBit c x t = some b) : afterF c x t = t.set x.a.toNat b := by simp [afterF, h]
theorem afterF_none {c : LCode} {x : LIns} {t : List Bool} (h : afterBit c x t = none) : afterF c x t = t := by simp [afterF, h]
theorem own_set {w : World} {lo hi : Nat} {g k a : Nat} {t : List Bool} (h : Own w lo hi 4 1 (.slice (some ⟨g, 0, none⟩) 14 k) 14 (bools t)) (ha : a < 14) (b : Bool) :
    Own (w.setCell ⟨g, a, none⟩ (.bool b)) lo hi 4 1 (.slice (some ⟨g, 0, none⟩) 14 k) 14 (bools (t.set a b)) := by
  have hl : (bools t).length = 14 := by have := h.1.1; simpa using this
  have := h.setCell (j := a) (by omega) (.bool b)
  rwa [show (bools t).set a (.bool b) = bools (t.set a b) by simp [bools]] at this

set_option maxHeartbeats 8000000 in
theorem impl_taintAfter (v u : Value) (c : LCode) (x : LIns) (t : List Bool) (w : World) (h : CodeRow w v c) (hx : insOk c x = true) (ht : Row w u 14 1 (bools t)) :
    Calls Try.prog 75 #[v, x.v, u] w fun e w' => ∃ r, e = .returned r ∧ Own w' w.heap.size w'.heap.size 4 1 r 14 (bools (afterF c x t)) ∧ Below w.heap.size w w' := by
  obtain ⟨v1, v2, v3, rfl, h1, h2, h3⟩ := h
  have hf := ins_fields hx
  obtain ⟨o, a, b, d, g⟩ := x
  simp only at hf
  obtain ⟨W, hW⟩ : ∃ W, W = ((w.alloc (.cells #[v1, v2, v3] 36)).alloc (.cells #[.int .i64 o, .int .i64 a, .int .i64 b, .int .i64 d, .int .i64 g] 66)) := ⟨_, rfl⟩
  have B0 : Below w.heap.size w W := by rw [hW]; go_grown
  have sW : W.heap.size = w.heap.size + 1 + 1 := by rw [hW]; simp
  have L1 : Blk W w.heap.size [v1, v2, v3] := by rw [hW]; exact (Blk.new w [v1, v2, v3] _).alloc _
  have L2 : Blk W (w.heap.size + 1) [.int .i64 o, .int .i64 a, .int .i64 b, .int .i64 d, .int .i64 g] := by rw [hW]; exact Blk.new' (w.alloc _) [.int .i64 o, .int .i64 a, .int .i64 b, .int .i64 d, .int .i64 g] _ (by simp)
  obtain ⟨htl, tb, tof, tc, rfl, htc, htm, htb, htx⟩ := ht.bools14
  have hOF : Hid (afterBit c ⟨o, a, b, d, g⟩ t = if o = 1 ∨ o = 11 then some false else if o = 2 then some (secB (iAt c.vars b)) else if o = 4 then some (secB (iAt c.arrays b) || bAt t d)
      else if o = 6 then some (bAt t d || bAt t g) else if o = 7 then some (bAt t b || bAt t d || bAt t g) else none) := rfl
  go_enter Try.func75, Try.ntmps75
  go_wp2_with fail
  rw [← hW]
  clear hW
  refine (clone_bool _ t _ (by rw [htl]; exact ht.below B0) (by omega)).mono ?_
  rintro e w1 ⟨u1, rfl, o1r, b1⟩
  rw [htl] at o1r
  replace L1 := L1.below b1 L1.lt
  replace L2 := L2.below b1 L2.lt
  have B1 := B0.trans (b1.mono B0.size)
  obtain ⟨gr, kr, hvr, hg1, -, hg3, -, -, hgf, hgc⟩ := o1r.open (by omega)
  cases hvr
  rw [sW] at o1r hg1
  have s1 := B1.size
  have tx : ∀ k : Nat, k < 14 → w1.cell? ⟨tb, tof + k, none⟩ = some (.bool (bAt t k)) := fun k hk => by rw [(bcell B1).1 _ _ htb]; exact htx k hk
  clear htx ht
  have x0 := L2.cell 0
  simp only [List.getElem?_cons_zero] at x0
  by_cases o1 : o = 1
  · subst o1
    have hff := hf.1 rfl
    obtain ⟨a', ha'⟩ : ∃ n : Nat, a = n := ⟨a.toNat, by omega⟩
    subst ha'
    have ha14 : a' < 14 := by omega
    have hR : Hid (afterF c ⟨1, a', b, d, g⟩ t = t.set a' false) := by unfold Hid; rw [afterF_some (b := false) (by rw [hOF.out]; simp)]; simp
    have x1 := L2.cell 1
    simp only [List.getElem?_cons_zero, List.getElem?_cons_succ] at x1
    have hf0 := hgf a'
    obtain ⟨u0, hc0⟩ : ∃ u0, w1.cell? ⟨gr, a', none⟩ = some u0 := ⟨_, hgc a' _ (bools_get t a' (by omega))⟩
    clear hff hOF tx hf
    go_wp2_with fail
    go_ret
    rw [hR.out]
    exact ⟨_, rfl, own_set (o1r.wide (by omega) (by simp)) ha14 _, B1.setCell (p := ⟨gr, a', none⟩) (by show _ ≤ gr; omega) _⟩
  by_cases o11 : o = 11
  · subst o11
    have hff := hf.2.1 rfl
    obtain ⟨a', ha'⟩ : ∃ n : Nat, a = n := ⟨a.toNat, by omega⟩
    subst ha'
    have ha14 : a' < 14 := by omega
    have hR : Hid (afterF c ⟨11, a', b, d, g⟩ t = t.set a' false) := by unfold Hid; rw [afterF_some (b := false) (by rw [hOF.out]; simp)]; simp
    have x1 := L2.cell 1
    simp only [List.getElem?_cons_zero, List.getElem?_cons_succ] at x1
    have hf0 := hgf a'
    obtain ⟨u0, hc0⟩ : ∃ u0, w1.cell? ⟨gr, a', none⟩ = some u0 := ⟨_, hgc a' _ (bools_get t a' (by omega))⟩
    clear hff hOF tx hf
    go_wp2_with fail
    go_ret
    rw [hR.out]
    exact ⟨_, rfl, own_set (o1r.wide (by omega) (by simp)) ha14 _, B1.setCell (p := ⟨gr, a', none⟩) (by show _ ≤ gr; omega) _⟩
  have q1 : (o == 1) = false := by simp [o1]
  have q11 : (o == 11) = false := by simp [o11]
  by_cases o2 : o = 2
  · subst o2
    have hff := hf.2.2.1 rfl
    clear hf
    obtain ⟨a', ha'⟩ : ∃ n : Nat, a = n := ⟨a.toNat, by omega⟩
    subst ha'
    obtain ⟨b', hb'⟩ : ∃ n : Nat, b = n := ⟨b.toNat, by omega⟩
    subst hb'
    obtain ⟨vb, vo, vc, rfl, hvc, hvm, hvn, hvb, hvx⟩ := h1.intsAt (by omega)
    have y2 := hvx b' (by omega)
    have hR : Hid (afterF c ⟨2, a', b', d, g⟩ t = t.set a' (secB (iAt c.vars b'))) := by unfold Hid; rw [afterF_some (b := secB (iAt c.vars b')) (by rw [hOF.out]; simp)]; simp
    have ha14 : a' < 14 := by omega
    have ha14i : (a' : Int) < 14 := by omega
    have hf0 := hgf a'
    obtain ⟨u0, hc0⟩ : ∃ u0, w1.cell? ⟨gr, a', none⟩ = some u0 := ⟨_, hgc a' _ (bools_get t a' (by omega))⟩
    have hb14 : b' < c.vars.length := by omega
    have hb14i : (b' : Int) < (c.vars.length : Int) := by omega
    clear hff hOF tx
    cases hv0 : secB (iAt c.vars b')
    · have HV0 := show Hid _ from hv0
      clear hv0
      have ya := L2.cell 1
      have yb := L2.cell 2
      have yv := L1.cell 0
      simp only [List.getElem?_cons_zero, List.getElem?_cons_succ] at yv ya yb
      have yw : w1.cell? ⟨vb, vo + b', none⟩ = some (.int .i64 (iAt c.vars b')) := by rw [(bcell B1).1 _ _ hvb]; exact y2
      have zya := fun X => ext_cell ya X
      have zyb := fun X => ext_cell yb X
      have zyv := fun X => ext_cell yv X
      have zyw := fun X => ext_cell yw X
      have zhc0 := fun X => ext_cell hc0 X
      have zf := fun X => ext_frozen hg3 hf0 X
      have HC : Hid (∀ X, Calls Try.prog 105 #[.int .i64 (iAt c.vars b')] (w1.ext X) fun e w'' => e = .returned (.bool false) ∧ ∃ Y, w'' = w1.ext Y) := fun X => (impl_LabelSecret _ _).mono fun e w' ⟨e1, e2⟩ => ⟨by rw [e1, HV0.out], X, e2.symm⟩
      clear ya yb yv yw hc0 h1 h2 h3 y2 hvx hgc hgf
      have x0 := L2.cell 0
      simp only [List.getElem?_cons_zero] at x0
      go_wp2_with fail
      refine wp_region_qext 11 _ rfl (by kernel_rfl) (by kernel_rfl) ?_
      simp only [List.set_cons_succ, List.set_cons_zero, idle]
      repeat (any_goals (first | go_big_quiet_step ((go_at_call 105; exact HC.out _)) | quiet_step ((go_at_call 105; exact HC.out _))))
      refine wpQuiet_nil ?_
      rintro _ ⟨X, rfl⟩
      go_wp2_with fail
      go_ret
      rw [hR.out, HV0.out]
      exact ⟨_, rfl, own_set (w := w1.ext X) ((o1r.keep (ext_below w1 X) (Nat.le_refl _)).wide (by omega) (by simp [World.ext])) ha14 _, (B1.trans ((ext_below w1 X).mono s1)).setCell (p := ⟨gr, a', none⟩) (by show _ ≤ gr; omega) _⟩
    · have HV0 := show Hid _ from hv0
      clear hv0
      have ya := L2.cell 1
      have yb := L2.cell 2
      have yv := L1.cell 0
      simp only [List.getElem?_cons_zero, List.getElem?_cons_succ] at yv ya yb
      have yw : w1.cell? ⟨vb, vo + b', none⟩ = some (.int .i64 (iAt c.vars b')) := by rw [(bcell B1).1 _ _ hvb]; exact y2
      have zya := fun X => ext_cell ya X
      have zyb := fun X => ext_cell yb X
      have zyv := fun X => ext_cell yv X
      have zyw := fun X => ext_cell yw X
      have zhc0 := fun X => ext_cell hc0 X
      have zf := fun X => ext_frozen hg3 hf0 X
      have HC : Hid (∀ X, Calls Try.prog 105 #[.int .i64 (iAt c.vars b')] (w1.ext X) fun e w'' => e = .returned (.bool true) ∧ ∃ Y, w'' = w1.ext Y) := fun X => (impl_LabelSecret _ _).mono fun e w' ⟨e1, e2⟩ => ⟨by rw [e1, HV0.out], X, e2.symm⟩
      clear ya yb yv yw hc0 h1 h2 h3 y2 hvx hgc hgf
      have x0 := L2.cell 0
      simp only [List.getElem?_cons_zero] at x0
      go_wp2_with fail
      refine wp_region_qext 11 _ rfl (by kernel_rfl) (by kernel_rfl) ?_
      simp only [List.set_cons_succ, List.set_cons_zero, idle]
      repeat (any_goals (first | go_big_quiet_step ((go_at_call 105; exact HC.out _)) | quiet_step ((go_at_call 105; exact HC.out _))))
      refine wpQuiet_nil ?_
      rintro _ ⟨X, rfl⟩
      go_wp2_with fail
      go_ret
      rw [hR.out, HV0.out]
      exact ⟨_, rfl, own_set (w := w1.ext X) ((o1r.keep (ext_below w1 X) (Nat.le_refl _)).wide (by omega) (by simp [World.ext])) ha14 _, (B1.trans ((ext_below w1 X).mono s1)).setCell (p := ⟨gr, a', none⟩) (by show _ ≤ gr; omega) _⟩
  have q2 : (o == 2) = false := by simp [o2]
  by_cases o4 : o = 4
  · subst o4
    have hff := hf.2.2.2.2.1 rfl
    clear hf
    obtain ⟨a', ha'⟩ : ∃ n : Nat, a = n := ⟨a.toNat, by omega⟩
    subst ha'
    obtain ⟨b', hb'⟩ : ∃ n : Nat, b = n := ⟨b.toNat, by omega⟩
    subst hb'
    obtain ⟨d', hd'⟩ : ∃ n : Nat, d = n := ⟨d.toNat, by omega⟩
    subst hd'
    obtain ⟨vb, vo, vc, rfl, hvc, hvm, hvn, hvb, hvx⟩ := h2.intsAt (by omega)
    have y2 := hvx b' (by omega)
    have hR : Hid (afterF c ⟨4, a', b', d', g⟩ t = t.set a' (secB (iAt c.arrays b') || bAt t d')) := by unfold Hid; rw [afterF_some (b := secB (iAt c.arrays b') || bAt t d') (by rw [hOF.out]; simp)]; simp
    have ha14 : a' < 14 := by omega
    have ha14i : (a' : Int) < 14 := by omega
    have rd := tx d' (by omega)
    have hrd14 : d' < 14 := by omega
    have hrd14i : (d' : Int) < 14 := by omega
    have hf0 := hgf a'
    obtain ⟨u0, hc0⟩ : ∃ u0, w1.cell? ⟨gr, a', none⟩ = some u0 := ⟨_, hgc a' _ (bools_get t a' (by omega))⟩
    have hb14 : b' < c.arrays.length := by omega
    have hb14i : (b' : Int) < (c.arrays.length : Int) := by omega
    clear hff hOF tx
    cases hv0 : secB (iAt c.arrays b')
    · have HV0 := show Hid _ from hv0
      clear hv0
      cases hv1 : bAt t d'
      · have HV1 := show Hid _ from hv1
        rw [hv1] at rd
        clear hv1
        have ya := L2.cell 1
        have yb := L2.cell 2
        have yd := L2.cell 3
        have yv := L1.cell 1
        simp only [List.getElem?_cons_zero, List.getElem?_cons_succ] at yv ya yb yd
        have yw : w1.cell? ⟨vb, vo + b', none⟩ = some (.int .i64 (iAt c.arrays b')) := by rw [(bcell B1).1 _ _ hvb]; exact y2
        have zya := fun X => ext_cell ya X
        have zyb := fun X => ext_cell yb X
        have zyd := fun X => ext_cell yd X
        have zyv := fun X => ext_cell yv X
        have zyw := fun X => ext_cell yw X
        have zrd := fun X => ext_cell rd X
        have zhc0 := fun X => ext_cell hc0 X
        have zf := fun X => ext_frozen hg3 hf0 X
        have HC : Hid (∀ X, Calls Try.prog 105 #[.int .i64 (iAt c.arrays b')] (w1.ext X) fun e w'' => e = .returned (.bool false) ∧ ∃ Y, w'' = w1.ext Y) := fun X => (impl_LabelSecret _ _).mono fun e w' ⟨e1, e2⟩ => ⟨by rw [e1, HV0.out], X, e2.symm⟩
        clear ya yb yd yv yw rd hc0 h1 h2 h3 y2 hvx hgc hgf
        have x0 := L2.cell 0
        simp only [List.getElem?_cons_zero] at x0
        go_wp2_with fail
        refine wp_region_qext 18 _ rfl (by kernel_rfl) (by kernel_rfl) ?_
        simp only [List.set_cons_succ, List.set_cons_zero, idle]
        repeat (any_goals (first | go_big_quiet_step ((go_at_call 105; exact HC.out _)) | quiet_step ((go_at_call 105; exact HC.out _))))
        refine wpQuiet_nil ?_
        rintro _ ⟨X, rfl⟩
        go_wp2_with fail
        go_ret
        rw [hR.out, HV0.out, HV1.out]
        exact ⟨_, rfl, own_set (w := w1.ext X) ((o1r.keep (ext_below w1 X) (Nat.le_refl _)).wide (by omega) (by simp [World.ext])) ha14 _, (B1.trans ((ext_below w1 X).mono s1)).setCell (p := ⟨gr, a', none⟩) (by show _ ≤ gr; omega) _⟩
      · have HV1 := show Hid _ from hv1
        rw [hv1] at rd
        clear hv1
        have ya := L2.cell 1
        have yb := L2.cell 2
        have yd := L2.cell 3
        have yv := L1.cell 1
        simp only [List.getElem?_cons_zero, List.getElem?_cons_succ] at yv ya yb yd
        have yw : w1.cell? ⟨vb, vo + b', none⟩ = some (.int .i64 (iAt c.arrays b')) := by rw [(bcell B1).1 _ _ hvb]; exact y2
        have zya := fun X => ext_cell ya X
        have zyb := fun X => ext_cell yb X
        have zyd := fun X => ext_cell yd X
        have zyv := fun X => ext_cell yv X
        have zyw := fun X => ext_cell yw X
        have zrd := fun X => ext_cell rd X
        have zhc0 := fun X => ext_cell hc0 X
        have zf := fun X => ext_frozen hg3 hf0 X
        have HC : Hid (∀ X, Calls Try.prog 105 #[.int .i64 (iAt c.arrays b')] (w1.ext X) fun e w'' => e = .returned (.bool false) ∧ ∃ Y, w'' = w1.ext Y) := fun X => (impl_LabelSecret _ _).mono fun e w' ⟨e1, e2⟩ => ⟨by rw [e1, HV0.out], X, e2.symm⟩
        clear ya yb yd yv yw rd hc0 h1 h2 h3 y2 hvx hgc hgf
        have x0 := L2.cell 0
        simp only [List.getElem?_cons_zero] at x0
        go_wp2_with fail
        refine wp_region_qext 18 _ rfl (by kernel_rfl) (by kernel_rfl) ?_
        simp only [List.set_cons_succ, List.set_cons_zero, idle]
        repeat (any_goals (first | go_big_quiet_step ((go_at_call 105; exact HC.out _)) | quiet_step ((go_at_call 105; exact HC.out _))))
        refine wpQuiet_nil ?_
        rintro _ ⟨X, rfl⟩
        go_wp2_with fail
        go_ret
        rw [hR.out, HV0.out, HV1.out]
        exact ⟨_, rfl, own_set (w := w1.ext X) ((o1r.keep (ext_below w1 X) (Nat.le_refl _)).wide (by omega) (by simp [World.ext])) ha14 _, (B1.trans ((ext_below w1 X).mono s1)).setCell (p := ⟨gr, a', none⟩) (by show _ ≤ gr; omega) _⟩
    · have HV0 := show Hid _ from hv0
      clear hv0
      have ya := L2.cell 1
      have yb := L2.cell 2
      have yd := L2.cell 3
      have yv := L1.cell 1
      simp only [List.getElem?_cons_zero, List.getElem?_cons_succ] at yv ya yb yd
      have yw : w1.cell? ⟨vb, vo + b', none⟩ = some (.int .i64 (iAt c.arrays b')) := by rw [(bcell B1).1 _ _ hvb]; exact y2
      have zya := fun X => ext_cell ya X
      have zyb := fun X => ext_cell yb X
      have zyd := fun X => ext_cell yd X
      have zyv := fun X => ext_cell yv X
      have zyw := fun X => ext_cell yw X
      have zhc0 := fun X => ext_cell hc0 X
      have zf := fun X => ext_frozen hg3 hf0 X
      have HC : Hid (∀ X, Calls Try.prog 105 #[.int .i64 (iAt c.arrays b')] (w1.ext X) fun e w'' => e = .returned (.bool true) ∧ ∃ Y, w'' = w1.ext Y) := fun X => (impl_LabelSecret _ _).mono fun e w' ⟨e1, e2⟩ => ⟨by rw [e1, HV0.out], X, e2.symm⟩
      clear ya yb yd yv yw hc0 h1 h2 h3 y2 hvx hgc hgf
      have x0 := L2.cell 0
      simp only [List.getElem?_cons_zero] at x0
      go_wp2_with fail
      refine wp_region_qext 18 _ rfl (by kernel_rfl) (by kernel_rfl) ?_
      simp only [List.set_cons_succ, List.set_cons_zero, idle]
      repeat (any_goals (first | go_big_quiet_step ((go_at_call 105; exact HC.out _)) | quiet_step ((go_at_call 105; exact HC.out _))))
      refine wpQuiet_nil ?_
      rintro _ ⟨X, rfl⟩
      go_wp2_with fail
      go_ret
      rw [hR.out, HV0.out]
      exact ⟨_, rfl, own_set (w := w1.ext X) ((o1r.keep (ext_below w1 X) (Nat.le_refl _)).wide (by omega) (by simp [World.ext])) ha14 _, (B1.trans ((ext_below w1 X).mono s1)).setCell (p := ⟨gr, a', none⟩) (by show _ ≤ gr; omega) _⟩
  have q4 : (o == 4) = false := by simp [o4]
  by_cases o6 : o = 6
  · subst o6
    have hff := hf.2.2.2.2.2.2.1 rfl
    clear hf
    obtain ⟨a', ha'⟩ : ∃ n : Nat, a = n := ⟨a.toNat, by omega⟩
    subst ha'
    obtain ⟨d', hd'⟩ : ∃ n : Nat, d = n := ⟨d.toNat, by omega⟩
    subst hd'
    obtain ⟨g', hg'⟩ : ∃ n : Nat, g = n := ⟨g.toNat, by omega⟩
    subst hg'
    have hR : Hid (afterF c ⟨6, a', b, d', g'⟩ t = t.set a' (bAt t d' || bAt t g')) := by unfold Hid; rw [afterF_some (b := bAt t d' || bAt t g') (by rw [hOF.out]; simp)]; simp
    have ha14 : a' < 14 := by omega
    have ha14i : (a' : Int) < 14 := by omega
    have rd := tx d' (by omega)
    have hrd14 : d' < 14 := by omega
    have hrd14i : (d' : Int) < 14 := by omega
    have rg := tx g' (by omega)
    have hrg14 : g' < 14 := by omega
    have hrg14i : (g' : Int) < 14 := by omega
    have hf0 := hgf a'
    obtain ⟨u0, hc0⟩ : ∃ u0, w1.cell? ⟨gr, a', none⟩ = some u0 := ⟨_, hgc a' _ (bools_get t a' (by omega))⟩
    clear hff hOF tx
    cases hv0 : bAt t d'
    · have HV0 := show Hid _ from hv0
      rw [hv0] at rd
      clear hv0
      cases hv1 : bAt t g'
      · have HV1 := show Hid _ from hv1
        rw [hv1] at rg
        clear hv1
        have ya := L2.cell 1
        have yd := L2.cell 3
        have yg := L2.cell 4
        simp only [List.getElem?_cons_zero, List.getElem?_cons_succ] at  ya yd yg
        have zya := fun X => ext_cell ya X
        have zyd := fun X => ext_cell yd X
        have zyg := fun X => ext_cell yg X
        have zrd := fun X => ext_cell rd X
        have zrg := fun X => ext_cell rg X
        have zhc0 := fun X => ext_cell hc0 X
        have zf := fun X => ext_frozen hg3 hf0 X
        clear ya yd yg rd rg hc0 h1 h2 h3 hgc hgf
        have x0 := L2.cell 0
        simp only [List.getElem?_cons_zero] at x0
        go_wp2_with fail
        refine wp_region_qext 16 _ rfl (by kernel_rfl) (by kernel_rfl) ?_
        simp only [List.set_cons_succ, List.set_cons_zero, idle]
        repeat (any_goals (first | go_big_quiet_step ((fail)) | quiet_step ((fail))))
        refine wpQuiet_nil ?_
        rintro _ ⟨X, rfl⟩
        go_wp2_with fail
        go_ret
        rw [hR.out, HV0.out, HV1.out]
        exact ⟨_, rfl, own_set (w := w1.ext X) ((o1r.keep (ext_below w1 X) (Nat.le_refl _)).wide (by omega) (by simp [World.ext])) ha14 _, (B1.trans ((ext_below w1 X).mono s1)).setCell (p := ⟨gr, a', none⟩) (by show _ ≤ gr; omega) _⟩
      · have HV1 := show Hid _ from hv1
        rw [hv1] at rg
        clear hv1
        have ya := L2.cell 1
        have yd := L2.cell 3
        have yg := L2.cell 4
        simp only [List.getElem?_cons_zero, List.getElem?_cons_succ] at  ya yd yg
        have zya := fun X => ext_cell ya X
        have zyd := fun X => ext_cell yd X
        have zyg := fun X => ext_cell yg X
        have zrd := fun X => ext_cell rd X
        have zrg := fun X => ext_cell rg X
        have zhc0 := fun X => ext_cell hc0 X
        have zf := fun X => ext_frozen hg3 hf0 X
        clear ya yd yg rd rg hc0 h1 h2 h3 hgc hgf
        have x0 := L2.cell 0
        simp only [List.getElem?_cons_zero] at x0
        go_wp2_with fail
        refine wp_region_qext 16 _ rfl (by kernel_rfl) (by kernel_rfl) ?_
        simp only [List.set_cons_succ, List.set_cons_zero, idle]
        repeat (any_goals (first | go_big_quiet_step ((fail)) | quiet_step ((fail))))
        refine wpQuiet_nil ?_
        rintro _ ⟨X, rfl⟩
        go_wp2_with fail
        go_ret
        rw [hR.out, HV0.out, HV1.out]
        exact ⟨_, rfl, own_set (w := w1.ext X) ((o1r.keep (ext_below w1 X) (Nat.le_refl _)).wide (by omega) (by simp [World.ext])) ha14 _, (B1.trans ((ext_below w1 X).mono s1)).setCell (p := ⟨gr, a', none⟩) (by show _ ≤ gr; omega) _⟩
    · have HV0 := show Hid _ from hv0
      rw [hv0] at rd
      clear hv0
      have ya := L2.cell 1
      have yd := L2.cell 3
      have yg := L2.cell 4
      simp only [List.getElem?_cons_zero, List.getElem?_cons_succ] at  ya yd yg
      have zya := fun X => ext_cell ya X
      have zyd := fun X => ext_cell yd X
      have zyg := fun X => ext_cell yg X
      have zrd := fun X => ext_cell rd X
      have zhc0 := fun X => ext_cell hc0 X
      have zf := fun X => ext_frozen hg3 hf0 X
      clear ya yd yg rd hc0 h1 h2 h3 hgc hgf
      have x0 := L2.cell 0
      simp only [List.getElem?_cons_zero] at x0
      go_wp2_with fail
      refine wp_region_qext 16 _ rfl (by kernel_rfl) (by kernel_rfl) ?_
      simp only [List.set_cons_succ, List.set_cons_zero, idle]
      repeat (any_goals (first | go_big_quiet_step ((fail)) | quiet_step ((fail))))
      refine wpQuiet_nil ?_
      rintro _ ⟨X, rfl⟩
      go_wp2_with fail
      go_ret
      rw [hR.out, HV0.out]
      exact ⟨_, rfl, own_set (w := w1.ext X) ((o1r.keep (ext_below w1 X) (Nat.le_refl _)).wide (by omega) (by simp [World.ext])) ha14 _, (B1.trans ((ext_below w1 X).mono s1)).setCell (p := ⟨gr, a', none⟩) (by show _ ≤ gr; omega) _⟩
  have q6 : (o == 6) = false := by simp [o6]
  by_cases o7 : o = 7
  · subst o7
    have hff := hf.2.2.2.2.2.2.2.1 rfl
    clear hf
    obtain ⟨a', ha'⟩ : ∃ n : Nat, a = n := ⟨a.toNat, by omega⟩
    subst ha'
    obtain ⟨b', hb'⟩ : ∃ n : Nat, b = n := ⟨b.toNat, by omega⟩
    subst hb'
    obtain ⟨d', hd'⟩ : ∃ n : Nat, d = n := ⟨d.toNat, by omega⟩
    subst hd'
    obtain ⟨g', hg'⟩ : ∃ n : Nat, g = n := ⟨g.toNat, by omega⟩
    subst hg'
    have hR : Hid (afterF c ⟨7, a', b', d', g'⟩ t = t.set a' (bAt t b' || bAt t d' || bAt t g')) := by unfold Hid; rw [afterF_some (b := bAt t b' || bAt t d' || bAt t g') (by rw [hOF.out]; simp)]; simp
    have ha14 : a' < 14 := by omega
    have ha14i : (a' : Int) < 14 := by omega
    have rb := tx b' (by omega)
    have hrb14 : b' < 14 := by omega
    have hrb14i : (b' : Int) < 14 := by omega
    have rd := tx d' (by omega)
    have hrd14 : d' < 14 := by omega
    have hrd14i : (d' : Int) < 14 := by omega
    have rg := tx g' (by omega)
    have hrg14 : g' < 14 := by omega
    have hrg14i : (g' : Int) < 14 := by omega
    have hf0 := hgf a'
    obtain ⟨u0, hc0⟩ : ∃ u0, w1.cell? ⟨gr, a', none⟩ = some u0 := ⟨_, hgc a' _ (bools_get t a' (by omega))⟩
    clear hff hOF tx
    cases hv0 : bAt t b'
    · have HV0 := show Hid _ from hv0
      rw [hv0] at rb
      clear hv0
      cases hv1 : bAt t d'
      · have HV1 := show Hid _ from hv1
        rw [hv1] at rd
        clear hv1
        cases hv2 : bAt t g'
        · have HV2 := show Hid _ from hv2
          rw [hv2] at rg
          clear hv2
          have ya := L2.cell 1
          have yb := L2.cell 2
          have yd := L2.cell 3
          have yg := L2.cell 4
          simp only [List.getElem?_cons_zero, List.getElem?_cons_succ] at  ya yb yd yg
          have zya := fun X => ext_cell ya X
          have zyb := fun X => ext_cell yb X
          have zyd := fun X => ext_cell yd X
          have zyg := fun X => ext_cell yg X
          have zrb := fun X => ext_cell rb X
          have zrd := fun X => ext_cell rd X
          have zrg := fun X => ext_cell rg X
          have zhc0 := fun X => ext_cell hc0 X
          have zf := fun X => ext_frozen hg3 hf0 X
          clear ya yb yd yg rb rd rg hc0 h1 h2 h3 hgc hgf
          have x0 := L2.cell 0
          simp only [List.getElem?_cons_zero] at x0
          go_wp2_with fail
          refine wp_region_qext 23 _ rfl (by kernel_rfl) (by kernel_rfl) ?_
          simp only [List.set_cons_succ, List.set_cons_zero, idle]
          repeat (any_goals (first | go_big_quiet_step ((fail)) | quiet_step ((fail))))
          refine wpQuiet_nil ?_
          rintro _ ⟨X, rfl⟩
          go_wp2_with fail
          go_ret
          rw [hR.out, HV0.out, HV1.out, HV2.out]
          exact ⟨_, rfl, own_set (w := w1.ext X) ((o1r.keep (ext_below w1 X) (Nat.le_refl _)).wide (by omega) (by simp [World.ext])) ha14 _, (B1.trans ((ext_below w1 X).mono s1)).setCell (p := ⟨gr, a', none⟩) (by show _ ≤ gr; omega) _⟩
        · have HV2 := show Hid _ from hv2
          rw [hv2] at rg
          clear hv2
          have ya := L2.cell 1
          have yb := L2.cell 2
          have yd := L2.cell 3
          have yg := L2.cell 4
          simp only [List.getElem?_cons_zero, List.getElem?_cons_succ] at  ya yb yd yg
          have zya := fun X => ext_cell ya X
          have zyb := fun X => ext_cell yb X
          have zyd := fun X => ext_cell yd X
          have zyg := fun X => ext_cell yg X
          have zrb := fun X => ext_cell rb X
          have zrd := fun X => ext_cell rd X
          have zrg := fun X => ext_cell rg X
          have zhc0 := fun X => ext_cell hc0 X
          have zf := fun X => ext_frozen hg3 hf0 X
          clear ya yb yd yg rb rd rg hc0 h1 h2 h3 hgc hgf
          have x0 := L2.cell 0
          simp only [List.getElem?_cons_zero] at x0
          go_wp2_with fail
          refine wp_region_qext 23 _ rfl (by kernel_rfl) (by kernel_rfl) ?_
          simp only [List.set_cons_succ, List.set_cons_zero, idle]
          repeat (any_goals (first | go_big_quiet_step ((fail)) | quiet_step ((fail))))
          refine wpQuiet_nil ?_
          rintro _ ⟨X, rfl⟩
          go_wp2_with fail
          go_ret
          rw [hR.out, HV0.out, HV1.out, HV2.out]
          exact ⟨_, rfl, own_set (w := w1.ext X) ((o1r.keep (ext_below w1 X) (Nat.le_refl _)).wide (by omega) (by simp [World.ext])) ha14 _, (B1.trans ((ext_below w1 X).mono s1)).setCell (p := ⟨gr, a', none⟩) (by show _ ≤ gr; omega) _⟩
      · have HV1 := show Hid _ from hv1
        rw [hv1] at rd
        clear hv1
        have ya := L2.cell 1
        have yb := L2.cell 2
        have yd := L2.cell 3
        have yg := L2.cell 4
        simp only [List.getElem?_cons_zero, List.getElem?_cons_succ] at  ya yb yd yg
        have zya := fun X => ext_cell ya X
        have zyb := fun X => ext_cell yb X
        have zyd := fun X => ext_cell yd X
        have zyg := fun X => ext_cell yg X
        have zrb := fun X => ext_cell rb X
        have zrd := fun X => ext_cell rd X
        have zhc0 := fun X => ext_cell hc0 X
        have zf := fun X => ext_frozen hg3 hf0 X
        clear ya yb yd yg rb rd hc0 h1 h2 h3 hgc hgf
        have x0 := L2.cell 0
        simp only [List.getElem?_cons_zero] at x0
        go_wp2_with fail
        refine wp_region_qext 23 _ rfl (by kernel_rfl) (by kernel_rfl) ?_
        simp only [List.set_cons_succ, List.set_cons_zero, idle]
        repeat (any_goals (first | go_big_quiet_step ((fail)) | quiet_step ((fail))))
        refine wpQuiet_nil ?_
        rintro _ ⟨X, rfl⟩
        go_wp2_with fail
        go_ret
        rw [hR.out, HV0.out, HV1.out]
        exact ⟨_, rfl, own_set (w := w1.ext X) ((o1r.keep (ext_below w1 X) (Nat.le_refl _)).wide (by omega) (by simp [World.ext])) ha14 _, (B1.trans ((ext_below w1 X).mono s1)).setCell (p := ⟨gr, a', none⟩) (by show _ ≤ gr; omega) _⟩
    · have HV0 := show Hid _ from hv0
      rw [hv0] at rb
      clear hv0
      have ya := L2.cell 1
      have yb := L2.cell 2
      have yd := L2.cell 3
      have yg := L2.cell 4
      simp only [List.getElem?_cons_zero, List.getElem?_cons_succ] at  ya yb yd yg
      have zya := fun X => ext_cell ya X
      have zyb := fun X => ext_cell yb X
      have zyd := fun X => ext_cell yd X
      have zyg := fun X => ext_cell yg X
      have zrb := fun X => ext_cell rb X
      have zhc0 := fun X => ext_cell hc0 X
      have zf := fun X => ext_frozen hg3 hf0 X
      clear ya yb yd yg rb hc0 h1 h2 h3 hgc hgf
      have x0 := L2.cell 0
      simp only [List.getElem?_cons_zero] at x0
      go_wp2_with fail
      refine wp_region_qext 23 _ rfl (by kernel_rfl) (by kernel_rfl) ?_
      simp only [List.set_cons_succ, List.set_cons_zero, idle]
      repeat (any_goals (first | go_big_quiet_step ((fail)) | quiet_step ((fail))))
      refine wpQuiet_nil ?_
      rintro _ ⟨X, rfl⟩
      go_wp2_with fail
      go_ret
      rw [hR.out, HV0.out]
      exact ⟨_, rfl, own_set (w := w1.ext X) ((o1r.keep (ext_below w1 X) (Nat.le_refl _)).wide (by omega) (by simp [World.ext])) ha14 _, (B1.trans ((ext_below w1 X).mono s1)).setCell (p := ⟨gr, a', none⟩) (by show _ ≤ gr; omega) _⟩
  have q7 : (o == 7) = false := by simp [o7]
  have hR : Hid (afterF c ⟨o, a, b, d, g⟩ t = t) := by unfold Hid; rw [afterF_none (by rw [hOF.out]; simp [o1, o11, o2, o4, o6, o7])]
  clear hOF tx hf o11 o2 o4 o6 o7
  go_wp2_with fail
  go_ret
  rw [hR.out]
  exact ⟨_, rfl, o1r.wide (by omega) (Nat.le_refl _), B1⟩

end Go.Proofs.Ytjlnaiifegjneaa
