/-
  Texts of this claim, part 6: what the functions on the way do, and plain laws. Conditions: as each statement says.
-/
import Derived.Test.YtgpkdfefgcpbiaaK5

namespace Go.Proofs.Ytgpkdfefgcpbiaa
set_option linter.unusedVariables false
set_option linter.unusedSimpArgs false
open Go Go.RowKit

theorem sameEs_at {ks ls : List LExpr} {k : Nat} (h1 : k < ks.length) (h2 : k < ls.length) (h : sameE ks[k] ls[k] = false) : sameEs ks ls = false := by
  cases hs : sameEs ks ls
  · rfl
  · have := (sameEs_eq ks ls).1 hs
    subst this
    rw [(sameE_eq _ _).2 rfl] at h; cases h
theorem sameSs_at {ks ls : List LStmt} {k : Nat} (h1 : k < ks.length) (h2 : k < ls.length) (h : sameS ks[k] ls[k] = false) : sameSs ks ls = false := by
  cases hs : sameSs ks ls
  · rfl
  · have := (sameSs_eq ks ls).1 hs
    subst this
    rw [(sameS_eq _ _).2 rfl] at h; cases h
theorem sameE_def (e e' : LExpr) : sameE e e' = (decide (e.kind = e'.kind) && decide (e.value = e'.value) && sameEs e.kids e'.kids) := by cases e; cases e'; rfl
theorem sameS_def (s t : LStmt) : sameS s t = (decide (s.kind = t.kind) && decide (s.target = t.target) && sameE s.index t.index && sameE s.value t.value && decide (s.count = t.count) && sameSs s.body t.body && sameSs s.els t.els) := by cases s; cases t; rfl

def EqE (e : LExpr) : Prop := ∀ (φ φ' : Nat → Prop) (v u : Value) (e' : LExpr) (w : World), ExprV w φ v e → ExprV w φ' u e' →
  Calls Try.prog 24 #[v, u] w fun x w' => x = .returned (.bool (sameE e e')) ∧ Below w.heap.size w w'

set_option maxHeartbeats 1000000 in
theorem eqExprS_of (ks : List LExpr) (ih : ∀ e ∈ ks, EqE e) (φ φ' : Nat → Prop) (v u : Value) (ls : List LExpr) (w : World) (h : KidsV w φ v ks) (h' : KidsV w φ' u ls) :
    Calls Try.prog 78 #[v, u] w fun x w' => x = .returned (.bool (sameEs ks ls)) ∧ Below w.heap.size w w' := by
  obtain ⟨a, cap, rfl, -, hn, -, hc⟩ := h.open
  obtain ⟨a', cap', rfl, -, hn', -, hc'⟩ := h'.open
  have HC := show Hid _ from hc
  have HC' := show Hid _ from hc'
  clear hc hc' h h'
  by_cases hl : ks.length = ls.length
  · have heq : ((ks.length : Int) == (ls.length : Int)) = true := by simp; omega
    have HL := show Hid _ from hl
    clear hl
    go_enter Try.func78, Try.ntmps78
    go_wp2
    go_loopw [5] (fun i wr => ∃ k : Nat, k ≤ ks.length ∧ i = .int .i64 k ∧ ks.take k = ls.take k ∧ Below w.heap.size w wr) (fun i _ => ks.length - (intOf i).toNat)
    case atStart => exact ⟨0, Nat.zero_le _, rfl, rfl, Below.refl _ _⟩
    case round =>
      obtain ⟨k, hk, rfl, ht, hb⟩ := hrel
      have HT := show Hid _ from ht
      have HB := show Hid _ from hb
      clear ht hb
      by_cases hlt : k < ks.length
      · have hlt2 : k < ls.length := by have := HL.out; omega
        obtain ⟨b, off, kv, rfl, hbk, hf, c0, c1, c2, hkv⟩ := HC.out k hlt
        obtain ⟨b', off', kv', rfl, hbk', hf', d0, d1, d2, hkv'⟩ := HC'.out k hlt2
        rw [← (bcell HB.out).1 _ _ hbk] at c0 c1 c2
        rw [← (bcell HB.out).1 _ _ hbk'] at d0 d1 d2
        obtain ⟨q, hq⟩ : ∃ q, q = sameE ks[k] ls[k] := ⟨_, rfl⟩
        have HC3 : Hid (∀ X, Calls Try.prog 24 #[.agg #[.int .i64 ks[k].kind, .int .i64 ks[k].value, kv], .agg #[.int .i64 ls[k].kind, .int .i64 ls[k].value, kv']] (wr.ext X) fun e w'' => e = .returned (.bool q) ∧ ∃ Y, w'' = wr.ext Y) := fun X => by
          have bb := HB.out.trans ((ext_below wr X).mono HB.out.size)
          rw [hq]
          exact Calls.ext_of' (ih _ (List.getElem_mem hlt) φ φ' _ _ _ _ ⟨kv, rfl, KidsV.nice _ _ _ _ _ _ (Agr.below bb) hkv⟩ ⟨kv', rfl, KidsV.nice _ _ _ _ _ _ (Agr.below bb) hkv'⟩)
        have HQ := show Hid _ from hq
        have j0 := fun X => ext_cell c0 X
        have j1 := fun X => ext_cell c1 X
        have j2 := fun X => ext_cell c2 X
        have i0 := fun X => ext_cell d0 X
        have i1 := fun X => ext_cell d1 X
        have i2 := fun X => ext_cell d2 X
        clear hkv hkv' hq c0 c1 c2 d0 d1 d2
        cases q
        · go_wp2_with fail
          refine wp_region_ext (by kernel_rfl) (by kernel_rfl) ?_
          repeat (any_goals (first | go_big_quiet_step (((go_at_call 24; exact HC3.out _))) | quiet_step (((go_at_call 24; exact HC3.out _)))))
          refine wpQuiet_nil ?_
          rintro _ ⟨X, rfl⟩
          go_wp2_with fail
          go_ret
          exact ⟨ret_bool (sameEs_at hlt hlt2 HQ.out.symm).symm, HB.out.trans ((ext_below wr X).mono HB.out.size)⟩
        · go_wp2_with fail
          refine wp_region_ext (by kernel_rfl) (by kernel_rfl) ?_
          repeat (any_goals (first | go_big_quiet_step (((go_at_call 24; exact HC3.out _))) | quiet_step (((go_at_call 24; exact HC3.out _)))))
          refine wpQuiet_nil ?_
          rintro _ ⟨X, rfl⟩
          go_wp2_with fail
          exact ⟨⟨k + 1, by omega, by go_num, take_eq_succ HT.out hlt hlt2 ((sameE_eq _ _).1 HQ.out.symm), HB.out.trans ((ext_below wr X).mono HB.out.size)⟩, by simp [intOf]; omega⟩
      · have hge : ¬ ((k : Int) < (ks.length : Int)) := by omega
        go_wp2_with fail
        go_ret
        exact ⟨ret_bool (by rw [take_eq_all HT.out (by omega) (by have := HL.out; omega)]; exact ((sameEs_eq _ _).2 rfl).symm), HB.out⟩
  · have hne : ((ks.length : Int) == (ls.length : Int)) = false := by simp; omega
    have HL := show Hid _ from hl
    clear hl
    go_enter Try.func78, Try.ntmps78
    go_wp2
    go_ret
    exact ⟨ret_bool (sameEs_len HL.out).symm, Below.refl _ _⟩

set_option maxHeartbeats 1000000 in
theorem eqExpr_all (e : LExpr) : EqE e := by
  refine LExpr.ind (P := EqE) (fun k n ks ih => ?_) e
  intro φ φ' v u e' w h h'
  obtain ⟨kv, rfl, hk⟩ := h
  obtain ⟨ku, rfl, hk'⟩ := h'
  simp only [LExpr.kind, LExpr.value, LExpr.kids] at hk ⊢
  cases e' with
  | mk k' n' ks' =>
  have HS : Hid (sameE ⟨k, n, ks⟩ ⟨k', n', ks'⟩ = (decide (k = k') && decide (n = n') && sameEs ks ks')) := rfl
  simp only [LExpr.kind, LExpr.value, LExpr.kids] at hk' ⊢
  obtain ⟨W, hW, M⟩ : ∃ W, W = (w.alloc (.cells #[.int .i64 k, .int .i64 n, kv] 41)).alloc (.cells #[.int .i64 k', .int .i64 n', ku] 41) ∧ Mem (fun _ => True) (fun _ => True) w W [.box w.heap.size [.int .i64 k, .int .i64 n, kv], .box (w.heap.size + 1) [.int .i64 k', .int .i64 n', ku]] :=
    ⟨_, rfl, ((Mem.start fun _ _ => trivial).box _ _).box' _ _ (by simp)⟩
  have HK := show Hid (KidsV W φ kv ks ∧ KidsV W φ' ku ks') from ⟨KidsV.nice _ _ _ _ _ _ (Agr.below (M.below fun _ _ => trivial)) hk, KidsV.nice _ _ _ _ _ _ (Agr.below (M.below fun _ _ => trivial)) hk'⟩
  have HB := show Hid _ from M.below fun _ _ => trivial
  have c0 := M.c 0 0 rfl rfl
  have c1 := M.c 0 1 rfl rfl
  have c2 := M.c 0 2 rfl rfl
  have d0 := M.c 1 0 rfl rfl
  have d1 := M.c 1 1 rfl rfl
  have d2 := M.c 1 2 rfl rfl
  rw [hW] at c0 c1 c2 d0 d1 d2
  clear hk hk' M
  by_cases q0 : k = k'
  · have p0 : (k == k') = true := by simp [q0]
    by_cases q1 : n = n'
    · have p1 : (n == n') = true := by simp [q1]
      have Q := show Hid _ from And.intro q0 q1
      clear q0 q1
      go_enter Try.func24, Try.ntmps24
      go_wp2_with fail
      rw [← hW]
      clear hW c0 c1 c2 d0 d1 d2
      refine (eqExprS_of ks ih φ φ' kv ku ks' _ HK.out.1 HK.out.2).mono ?_
      rintro x w1 ⟨rfl, b1⟩
      have B1 := show Hid _ from HB.out.trans (b1.mono HB.out.size)
      obtain ⟨q, hq⟩ : ∃ q, q = sameEs ks ks' := ⟨_, rfl⟩
      rw [← hq]
      have HQ := show Hid _ from hq
      clear hq
      cases q
      · go_wp2_with fail
        go_ret
        exact ⟨ret_bool (by rw [HS.out, ← HQ.out]; simp), B1.out⟩
      · go_wp2_with fail
        go_ret
        exact ⟨ret_bool (by rw [HS.out, ← HQ.out]; simp [Q.out.1, Q.out.2]), B1.out⟩
    · have p1 : (n == n') = false := by simp [q1]
      have Q := show Hid _ from q1
      clear q0 q1
      go_enter Try.func24, Try.ntmps24
      go_wp2_with fail
      go_ret
      exact ⟨ret_bool (by rw [HS.out, show decide (n = n') = false from decide_eq_false Q.out]; simp), by rw [← hW]; exact HB.out⟩
  · have p0 : (k == k') = false := by simp [q0]
    have Q := show Hid _ from q0
    clear q0
    go_enter Try.func24, Try.ntmps24
    go_wp2_with fail
    go_ret
    exact ⟨ret_bool (by rw [HS.out, show decide (k = k') = false from decide_eq_false Q.out]; simp), by rw [← hW]; exact HB.out⟩

def EqS (e : LStmt) : Prop := ∀ (φ φ' : Nat → Prop) (v u : Value) (e' : LStmt) (w : World), StmtV w φ v e → StmtV w φ' u e' →
  Calls Try.prog 135 #[v, u] w fun x w' => x = .returned (.bool (sameS e e')) ∧ Below w.heap.size w w'

set_option maxHeartbeats 1000000 in
theorem eqStmtS_of (ks : List LStmt) (ih : ∀ e ∈ ks, EqS e) (φ φ' : Nat → Prop) (v u : Value) (ls : List LStmt) (w : World) (h : BlockV w φ v ks) (h' : BlockV w φ' u ls) :
    Calls Try.prog 71 #[v, u] w fun x w' => x = .returned (.bool (sameSs ks ls)) ∧ Below w.heap.size w w' := by
  obtain ⟨a, cap, rfl, -, hn, -, hc⟩ := h.open
  obtain ⟨a', cap', rfl, -, hn', -, hc'⟩ := h'.open
  have HC := show Hid _ from hc
  have HC' := show Hid _ from hc'
  clear hc hc' h h'
  by_cases hl : ks.length = ls.length
  · have heq : ((ks.length : Int) == (ls.length : Int)) = true := by simp; omega
    have HL := show Hid _ from hl
    clear hl
    go_enter Try.func71, Try.ntmps71
    go_wp2
    go_loopw [5] (fun i wr => ∃ k : Nat, k ≤ ks.length ∧ i = .int .i64 k ∧ ks.take k = ls.take k ∧ Below w.heap.size w wr) (fun i _ => ks.length - (intOf i).toNat)
    case atStart => exact ⟨0, Nat.zero_le _, rfl, rfl, Below.refl _ _⟩
    case round =>
      obtain ⟨k, hk, rfl, ht, hb⟩ := hrel
      have HT := show Hid _ from ht
      have HB := show Hid _ from hb
      clear ht hb
      by_cases hlt : k < ks.length
      · have hlt2 : k < ls.length := by have := HL.out; omega
        obtain ⟨b, off, iv, vv, bv, ev, rfl, hbk, hf, ⟨c0, c1, c2, c3, c4, c5, c6, c7, c8, c9, c10⟩, g1, g2, g3, g4⟩ := HC.out k hlt
        obtain ⟨b', off', iv', vv', bv', ev', rfl, hbk', hf', ⟨d0, d1, d2, d3, d4, d5, d6, d7, d8, d9, d10⟩, g1', g2', g3', g4'⟩ := HC'.out k hlt2
        rw [← (bcell HB.out).1 _ _ hbk] at c0 c1 c2 c3 c4 c5 c6 c7 c8 c9 c10
        rw [← (bcell HB.out).1 _ _ hbk'] at d0 d1 d2 d3 d4 d5 d6 d7 d8 d9 d10
        obtain ⟨q, hq⟩ : ∃ q, q = sameS ks[k] ls[k] := ⟨_, rfl⟩
        have HC3 : Hid (∀ X, Calls Try.prog 135 #[.agg #[.int .i64 ks[k].kind, .int .i64 ks[k].target, .int .i64 ks[k].index.kind, .int .i64 ks[k].index.value, iv, .int .i64 ks[k].value.kind, .int .i64 ks[k].value.value, vv, .int .i64 ks[k].count, bv, ev], .agg #[.int .i64 ls[k].kind, .int .i64 ls[k].target, .int .i64 ls[k].index.kind, .int .i64 ls[k].index.value, iv', .int .i64 ls[k].value.kind, .int .i64 ls[k].value.value, vv', .int .i64 ls[k].count, bv', ev']] (wr.ext X) fun e w'' => e = .returned (.bool q) ∧ ∃ Y, w'' = wr.ext Y) := fun X => by
          have bb := HB.out.trans ((ext_below wr X).mono HB.out.size)
          rw [hq]
          exact Calls.ext_of' (ih _ (List.getElem_mem hlt) φ φ' _ _ _ _ (StmtV.nice _ _ _ _ _ _ (Agr.below bb) ⟨iv, vv, bv, ev, rfl, g1, g2, g3, g4⟩) (StmtV.nice _ _ _ _ _ _ (Agr.below bb) ⟨iv', vv', bv', ev', rfl, g1', g2', g3', g4'⟩))
        have HQ := show Hid _ from hq
        have j0 := fun X => ext_cell c0 X
        have j1 := fun X => ext_cell c1 X
        have j2 := fun X => ext_cell c2 X
        have j3 := fun X => ext_cell c3 X
        have j4 := fun X => ext_cell c4 X
        have j5 := fun X => ext_cell c5 X
        have j6 := fun X => ext_cell c6 X
        have j7 := fun X => ext_cell c7 X
        have j8 := fun X => ext_cell c8 X
        have j9 := fun X => ext_cell c9 X
        have j10 := fun X => ext_cell c10 X
        have i0 := fun X => ext_cell d0 X
        have i1 := fun X => ext_cell d1 X
        have i2 := fun X => ext_cell d2 X
        have i3 := fun X => ext_cell d3 X
        have i4 := fun X => ext_cell d4 X
        have i5 := fun X => ext_cell d5 X
        have i6 := fun X => ext_cell d6 X
        have i7 := fun X => ext_cell d7 X
        have i8 := fun X => ext_cell d8 X
        have i9 := fun X => ext_cell d9 X
        have i10 := fun X => ext_cell d10 X
        clear g1 g2 g3 g4 g1' g2' g3' g4' hq c0 d0 c1 d1 c2 d2 c3 d3 c4 d4 c5 d5 c6 d6 c7 d7 c8 d8 c9 d9 c10 d10
        cases q
        · go_wp2_with fail
          refine wp_region_ext (by kernel_rfl) (by kernel_rfl) ?_
          repeat (any_goals (first | go_big_quiet_step (((go_at_call 135; exact HC3.out _))) | quiet_step (((go_at_call 135; exact HC3.out _)))))
          refine wpQuiet_nil ?_
          rintro _ ⟨X, rfl⟩
          go_wp2_with fail
          go_ret
          exact ⟨ret_bool (sameSs_at hlt hlt2 HQ.out.symm).symm, HB.out.trans ((ext_below wr X).mono HB.out.size)⟩
        · go_wp2_with fail
          refine wp_region_ext (by kernel_rfl) (by kernel_rfl) ?_
          repeat (any_goals (first | go_big_quiet_step (((go_at_call 135; exact HC3.out _))) | quiet_step (((go_at_call 135; exact HC3.out _)))))
          refine wpQuiet_nil ?_
          rintro _ ⟨X, rfl⟩
          go_wp2_with fail
          exact ⟨⟨k + 1, by omega, by go_num, take_eq_succ HT.out hlt hlt2 ((sameS_eq _ _).1 HQ.out.symm), HB.out.trans ((ext_below wr X).mono HB.out.size)⟩, by simp [intOf]; omega⟩
      · have hge : ¬ ((k : Int) < (ks.length : Int)) := by omega
        go_wp2_with fail
        go_ret
        exact ⟨ret_bool (by rw [take_eq_all HT.out (by omega) (by have := HL.out; omega)]; exact ((sameSs_eq _ _).2 rfl).symm), HB.out⟩
  · have hne : ((ks.length : Int) == (ls.length : Int)) = false := by simp; omega
    have HL := show Hid _ from hl
    clear hl
    go_enter Try.func71, Try.ntmps71
    go_wp2
    go_ret
    exact ⟨ret_bool (sameSs_len HL.out).symm, Below.refl _ _⟩

theorem bool_of {a b : Bool} (h : a = b) : b = a := h.symm
set_option maxHeartbeats 4000000 in
theorem eqStmt_all (s : LStmt) : EqS s := by
  refine LStmt.ind (P := EqS) (fun k t i v c b e ihb ihe => ?_) s
  intro φ φ' x u s' w h h'
  obtain ⟨iv, vv, bv, ev, rfl, g1, g2, g3, g4⟩ := h
  obtain ⟨iv', vv', bv', ev', rfl, g1', g2', g3', g4'⟩ := h'
  cases s' with
  | mk k' t' i' v' c' b' e' =>
  have HS : Hid (sameS ⟨k, t, i, v, c, b, e⟩ ⟨k', t', i', v', c', b', e'⟩ = (decide (k = k') && decide (t = t') && sameE i i' && sameE v v' && decide (c = c') && sameSs b b' && sameSs e e')) := rfl
  simp only [LStmt.index, LStmt.value, LStmt.body, LStmt.els, LStmt.kind, LStmt.target, LStmt.count] at g1 g2 g3 g4 g1' g2' g3' g4' ⊢
  obtain ⟨W, hW, M⟩ : ∃ W, W = (w.alloc (.cells #[.int .i64 k, .int .i64 t, .int .i64 i.kind, .int .i64 i.value, iv, .int .i64 v.kind, .int .i64 v.value, vv, .int .i64 c, bv, ev] 135)).alloc (.cells #[.int .i64 k', .int .i64 t', .int .i64 i'.kind, .int .i64 i'.value, iv', .int .i64 v'.kind, .int .i64 v'.value, vv', .int .i64 c', bv', ev'] 135) ∧ Mem (fun _ => True) (fun _ => True) w W [.box w.heap.size [.int .i64 k, .int .i64 t, .int .i64 i.kind, .int .i64 i.value, iv, .int .i64 v.kind, .int .i64 v.value, vv, .int .i64 c, bv, ev], .box (w.heap.size + 1) [.int .i64 k', .int .i64 t', .int .i64 i'.kind, .int .i64 i'.value, iv', .int .i64 v'.kind, .int .i64 v'.value, vv', .int .i64 c', bv', ev']] :=
    ⟨_, rfl, ((Mem.start fun _ _ => trivial).box _ _).box' _ _ (by simp)⟩
  have HG := show Hid (∀ W', Below w.heap.size w W' → ExprV W' φ (.agg #[.int .i64 i.kind, .int .i64 i.value, iv]) i ∧ ExprV W' φ (.agg #[.int .i64 v.kind, .int .i64 v.value, vv]) v ∧ BlockV W' φ bv b ∧ BlockV W' φ ev e) from fun W' k =>
    ⟨⟨iv, rfl, KidsV.nice _ _ _ _ _ _ (Agr.below k) g1⟩, ⟨vv, rfl, KidsV.nice _ _ _ _ _ _ (Agr.below k) g2⟩, BlockV.nice _ _ _ _ _ _ (Agr.below k) g3, BlockV.nice _ _ _ _ _ _ (Agr.below k) g4⟩
  have HG' := show Hid (∀ W', Below w.heap.size w W' → ExprV W' φ' (.agg #[.int .i64 i'.kind, .int .i64 i'.value, iv']) i' ∧ ExprV W' φ' (.agg #[.int .i64 v'.kind, .int .i64 v'.value, vv']) v' ∧ BlockV W' φ' bv' b' ∧ BlockV W' φ' ev' e') from fun W' k =>
    ⟨⟨iv', rfl, KidsV.nice _ _ _ _ _ _ (Agr.below k) g1'⟩, ⟨vv', rfl, KidsV.nice _ _ _ _ _ _ (Agr.below k) g2'⟩, BlockV.nice _ _ _ _ _ _ (Agr.below k) g3', BlockV.nice _ _ _ _ _ _ (Agr.below k) g4'⟩
  clear g1 g2 g3 g4 g1' g2' g3' g4'
  have c0 := M.c 0 0 rfl rfl
  have d0 := M.c 1 0 rfl rfl
  have c1 := M.c 0 1 rfl rfl
  have d1 := M.c 1 1 rfl rfl
  have c2 := M.c 0 2 rfl rfl
  have d2 := M.c 1 2 rfl rfl
  have c3 := M.c 0 3 rfl rfl
  have d3 := M.c 1 3 rfl rfl
  have c4 := M.c 0 4 rfl rfl
  have d4 := M.c 1 4 rfl rfl
  rw [hW] at c0 d0 c1 d1 c2 d2 c3 d3 c4 d4
  have HB0 := show Hid _ from M.below fun _ _ => trivial
  have HM := show Hid _ from M
  clear M
  by_cases q0 : k = k'
  rotate_left
  · have p0 : (k == k') = false := by simp [q0]
    have Q := show Hid _ from q0
    clear q0
    go_enter Try.func135, Try.ntmps135
    go_wp2_with fail
    go_ret
    exact ⟨ret_bool (by rw [HS.out, show decide (k = k') = false from decide_eq_false Q.out]; simp), by rw [← hW]; exact HB0.out⟩
  have p0 : (k == k') = true := by simp [q0]
  by_cases q1 : t = t'
  rotate_left
  · have p1 : (t == t') = false := by simp [q1]
    have Q := show Hid _ from q1
    clear q0 q1
    go_enter Try.func135, Try.ntmps135
    go_wp2_with fail
    go_ret
    exact ⟨ret_bool (by rw [HS.out, show decide (t = t') = false from decide_eq_false Q.out]; simp), by rw [← hW]; exact HB0.out⟩
  have p1 : (t == t') = true := by simp [q1]
  have Q0 := show Hid _ from And.intro q0 q1
  clear q0 q1
  go_enter Try.func135, Try.ntmps135
  go_wp2_with fail
  rw [← hW]
  have M := HM.out
  clear hW HM p0 p1 c0 d0 c1 d1 c2 d2 c3 d3 c4 d4
  refine (eqExpr_all i φ φ' _ _ i' _ (HG.out _ (M.below fun _ _ => trivial)).1 (HG'.out _ (M.below fun _ _ => trivial)).1).mono ?_
  rintro x w1 ⟨rfl, b1⟩
  replace M := M.call b1
  clear b1
  obtain ⟨r1, hq⟩ : ∃ q, q = sameE i i' := ⟨_, rfl⟩
  rw [← hq]
  have Hr1 := show Hid _ from hq
  clear hq
  have HB := show Hid _ from M.below fun _ _ => trivial
  have c5 := M.c 0 5 rfl rfl
  have d5 := M.c 1 5 rfl rfl
  have c6 := M.c 0 6 rfl rfl
  have d6 := M.c 1 6 rfl rfl
  have c7 := M.c 0 7 rfl rfl
  have d7 := M.c 1 7 rfl rfl
  have HM := show Hid _ from M
  clear M
  cases r1
  · go_wp2_with fail
    go_ret
    exact ⟨ret_bool (by rw [HS.out, ← Hr1.out]; simp), HB.out⟩
  go_wp2_with fail
  have M := HM.out
  clear HM HB c5 d5 c6 d6 c7 d7
  refine (eqExpr_all v φ φ' _ _ v' _ (HG.out _ (M.below fun _ _ => trivial)).2.1 (HG'.out _ (M.below fun _ _ => trivial)).2.1).mono ?_
  rintro x w1 ⟨rfl, b1⟩
  replace M := M.call b1
  clear b1
  obtain ⟨r2, hq⟩ : ∃ q, q = sameE v v' := ⟨_, rfl⟩
  rw [← hq]
  have Hr2 := show Hid _ from hq
  clear hq
  have HB := show Hid _ from M.below fun _ _ => trivial
  have c8 := M.c 0 8 rfl rfl
  have d8 := M.c 1 8 rfl rfl
  have c9 := M.c 0 9 rfl rfl
  have d9 := M.c 1 9 rfl rfl
  have HM := show Hid _ from M
  clear M
  cases r2
  · go_wp2_with fail
    go_ret
    exact ⟨ret_bool (by rw [HS.out, ← Hr2.out]; simp), HB.out⟩
  by_cases q4 : c = c'
  rotate_left
  · have p4 : (c == c') = false := by simp [q4]
    have Q := show Hid _ from q4
    clear q4
    go_wp2_with fail
    go_ret
    exact ⟨ret_bool (by rw [HS.out, show decide (c = c') = false from decide_eq_false Q.out]; simp), HB.out⟩
  have p4 : (c == c') = true := by simp [q4]
  have Q4 := show Hid _ from q4
  clear q4
  go_wp2_with fail
  have M := HM.out
  clear HM HB p4 c8 d8 c9 d9
  refine (eqStmtS_of b ihb φ φ' bv bv' b' _ (HG.out _ (M.below fun _ _ => trivial)).2.2.1 (HG'.out _ (M.below fun _ _ => trivial)).2.2.1).mono ?_
  rintro x w1 ⟨rfl, b1⟩
  replace M := M.call b1
  clear b1
  obtain ⟨r3, hq⟩ : ∃ q, q = sameSs b b' := ⟨_, rfl⟩
  rw [← hq]
  have Hr3 := show Hid _ from hq
  clear hq
  have HB := show Hid _ from M.below fun _ _ => trivial
  have c10 := M.c 0 10 rfl rfl
  have d10 := M.c 1 10 rfl rfl
  have HM := show Hid _ from M
  clear M
  cases r3
  · go_wp2_with fail
    go_ret
    exact ⟨ret_bool (by rw [HS.out, ← Hr3.out]; simp), HB.out⟩
  go_wp2_with fail
  have M := HM.out
  clear HM HB c10 d10
  refine (eqStmtS_of e ihe φ φ' ev ev' e' _ (HG.out _ (M.below fun _ _ => trivial)).2.2.2 (HG'.out _ (M.below fun _ _ => trivial)).2.2.2).mono ?_
  rintro x w1 ⟨rfl, b1⟩
  replace M := M.call b1
  clear b1
  obtain ⟨r4, hq⟩ : ∃ q, q = sameSs e e' := ⟨_, rfl⟩
  rw [← hq]
  have Hr4 := show Hid _ from hq
  clear hq
  have HB := show Hid _ from M.below fun _ _ => trivial
  have HM := show Hid _ from M
  clear M
  cases r4
  · go_wp2_with fail
    go_ret
    exact ⟨ret_bool (by rw [HS.out, ← Hr4.out]; simp), HB.out⟩
  go_wp2_with fail
  go_ret
  exact ⟨ret_bool (by rw [HS.out, ← Hr1.out, ← Hr2.out, ← Hr3.out, ← Hr4.out, decide_eq_true Q0.out.1, decide_eq_true Q0.out.2, decide_eq_true Q4.out]; rfl), HB.out⟩

set_option maxHeartbeats 2000000 in
theorem eqProgram_any (φ φ' : Nat → Prop) (x u : Value) (p q : LProg) (w : World) (h : ProgV w φ x p) (h' : ProgV w φ' u q) :
    Calls Try.prog 19 #[x, u] w fun e w' => e = .returned (.bool (p.same q)) ∧ Below w.heap.size w w' := by
  obtain ⟨v1, v2, v3, rfl, h1, h2, h3⟩ := h
  obtain ⟨u1, u2, u3, rfl, k1, k2, k3⟩ := h'
  have HS : Hid (p.same q = (decide (p.vars = q.vars) && decide (p.arrays = q.arrays) && sameSs p.body q.body)) := rfl
  obtain ⟨W, hW, M⟩ : ∃ W, W = (w.alloc (.cells #[v1, v2, v3] 31)).alloc (.cells #[u1, u2, u3] 31) ∧ Mem (fun _ => True) (fun _ => True) w W [.box w.heap.size [v1, v2, v3], .box (w.heap.size + 1) [u1, u2, u3]] :=
    ⟨_, rfl, ((Mem.start fun _ _ => trivial).box _ _).box' _ _ (by simp)⟩
  have HG := show Hid (∀ W', Below w.heap.size w W' → (Row W' v1 p.vars.length 1 (ints p.vars) ∧ Row W' v2 p.arrays.length 1 (ints p.arrays) ∧ BlockV W' φ v3 p.body) ∧ (Row W' u1 q.vars.length 1 (ints q.vars) ∧ Row W' u2 q.arrays.length 1 (ints q.arrays) ∧ BlockV W' φ' u3 q.body)) from fun W' k =>
    ⟨⟨h1.row.below k, h2.row.below k, BlockV.nice _ _ _ _ _ _ (Agr.below k) h3⟩, k1.row.below k, k2.row.below k, BlockV.nice _ _ _ _ _ _ (Agr.below k) k3⟩
  clear h1 h2 h3 k1 k2 k3
  have c0 := M.c 0 0 rfl rfl
  have d0 := M.c 1 0 rfl rfl
  rw [hW] at c0 d0
  have HM := show Hid _ from M
  clear M
  go_enter Try.func19, Try.ntmps19
  go_wp2_with fail
  rw [← hW]
  have M := HM.out
  clear hW HM c0 d0
  refine (eqIntS_any _ _ p.vars q.vars _ (HG.out _ (M.below fun _ _ => trivial)).1.1 (HG.out _ (M.below fun _ _ => trivial)).2.1).mono ?_
  rintro x w1 ⟨rfl, n1, rfl⟩
  replace M := M.call (below_drewN (Below.refl _ _) n1)
  obtain ⟨r1, hq⟩ : ∃ r, r = decide (p.vars = q.vars) := ⟨_, rfl⟩
  rw [← hq]
  have Hr1 := show Hid _ from hq
  clear hq
  have HB := show Hid _ from M.below fun _ _ => trivial
  have c1 := M.c 0 1 rfl rfl
  have d1 := M.c 1 1 rfl rfl
  have HM := show Hid _ from M
  clear M
  cases r1
  · go_wp2_with fail
    go_ret
    exact ⟨ret_bool (by rw [HS.out, ← Hr1.out]; simp), HB.out⟩
  go_wp2_with fail
  have M := HM.out
  clear HM HB c1 d1
  refine (eqIntS_any _ _ p.arrays q.arrays _ (HG.out _ (M.below fun _ _ => trivial)).1.2.1 (HG.out _ (M.below fun _ _ => trivial)).2.2.1).mono ?_
  rintro x w1 ⟨rfl, n2, rfl⟩
  replace M := M.call (below_drewN (Below.refl _ _) n2)
  rw [World.drewN_drewN] at M
  obtain ⟨r2, hq⟩ : ∃ r, r = decide (p.arrays = q.arrays) := ⟨_, rfl⟩
  rw [← hq]
  have Hr2 := show Hid _ from hq
  clear hq
  have HB := show Hid _ from M.below fun _ _ => trivial
  have c2 := M.c 0 2 rfl rfl
  have d2 := M.c 1 2 rfl rfl
  have HM := show Hid _ from M
  clear M
  cases r2
  · go_wp2_with fail
    go_ret
    exact ⟨ret_bool (by rw [HS.out, ← Hr2.out]; simp), HB.out⟩
  go_wp2_with fail
  have M := HM.out
  clear HM HB c2 d2
  refine (eqStmtS_of p.body (fun s _ => eqStmt_all s) φ φ' v3 u3 q.body _ (HG.out _ (M.below fun _ _ => trivial)).1.2.2 (HG.out _ (M.below fun _ _ => trivial)).2.2.2).mono ?_
  rintro x w1 ⟨rfl, b1⟩
  replace M := M.call b1
  clear b1
  obtain ⟨r3, hq⟩ : ∃ r, r = sameSs p.body q.body := ⟨_, rfl⟩
  rw [← hq]
  have Hr3 := show Hid _ from hq
  clear hq
  have HB := show Hid _ from M.below fun _ _ => trivial
  clear M
  cases r3
  · go_wp2_with fail
    go_ret
    exact ⟨ret_bool (by rw [HS.out, ← Hr3.out]; simp), HB.out⟩
  go_wp2_with fail
  go_ret
  exact ⟨ret_bool (by rw [HS.out, ← Hr1.out, ← Hr2.out, ← Hr3.out]; rfl), HB.out⟩

end Go.Proofs.Ytgpkdfefgcpbiaa

namespace Go.Proofs.Ytgpkdfefgcpbiaa
set_option linter.unusedVariables false
set_option linter.unusedSimpArgs false
open Go Go.RowKit

theorem c_szProgram (p : LProg) (m : Int) (hm : 0 ≤ m) (hm2 : m ≤ 1048576) : Ctr.ok Try.prog (fnC 15 [pA 0, iA m] (pS p) (iA (szRes m p.size))) :=
  old_ok fun φ w ρ h => szProgram_any φ _ p m w ⟨ρ 0, ρ 1, ρ 2, rfl, h 0 _ rfl, h 1 _ rfl, h 2 _ rfl⟩ hm hm2
theorem c_eqProgram (p q : LProg) : Ctr.ok Try.prog (fnC 19 [pA 0, pA 3] (pS p ++ pS q) (bA (p.same q))) :=
  old_ok fun φ w ρ h => eqProgram_any φ φ _ _ p q w ⟨ρ 0, ρ 1, ρ 2, rfl, h 0 _ rfl, h 1 _ rfl, h 2 _ rfl⟩ ⟨ρ 3, ρ 4, ρ 5, rfl, h 3 _ rfl, h 4 _ rfl, h 5 _ rfl⟩

/-- A contract of before that hands back a new program: three new slices. -/
theorem new_prog {P : Program} {f : FuncId} {args : List AV} {S : List It} {q : LProg} (hS : S.all (fun x => ltAll S.length x.ids) = true)
    (h : ∀ (φ : Nat → Prop) (w : World) (ρ : Nat → Value), (∀ i d, lst S i = .dat d → RD w φ d (ρ i)) → Calls P f (AV.vals ρ args).toArray w fun e w' => ∃ v1 v2 v3, e = .returned (.agg #[v1, v2, v3]) ∧ ProgV w' (fun b => w.heap.size ≤ b) (.agg #[v1, v2, v3]) q ∧ Below w.heap.size w w') :
    Ctr.ok P ⟨f, args, S, S ++ pS q, pA S.length⟩ := by
  intro ι φ ψ w0 w F ρ M
  refine (h (FrF φ (lay F ρ (lst S))) w ρ fun i d hi => M.datAt hi).mono ?_
  rintro e w' ⟨v1, v2, v3, rfl, hp, hb⟩
  have M1 := M.call hb
  obtain ⟨u1, u2, u3, hu, h1, h2, h3⟩ := hp
  cases hu
  have ha : Agr (fun b => w.heap.size ≤ b) (FrF φ (lay F ρ (lst S))) w' w' := Agr.mono fun b _ hf => M.frFresh b hf
  have hx : XHs w' (FrF φ (lay F ρ (lst S))) [.sl (.ints q.vars), .sl (.ints q.arrays), .sl (.stmts q.body)] [v1, v2, v3] :=
    ⟨RD.nice (.ints q.vars) _ _ _ _ _ ha h1, RD.nice (.ints q.arrays) _ _ _ _ _ ha h2, RD.nice (.stmts q.body) _ _ _ _ _ ha h3, trivial⟩
  have hlen : ∀ j, S.length ≤ j → lst S j = .none := fun j hj => by simp only [lst, List.getD_eq_getElem?_getD, List.getElem?_eq_none hj]; rfl
  obtain ⟨ρ', g1, M2, g2⟩ := MemF.dats [.sl (.ints q.vars), .sl (.ints q.arrays), .sl (.stmts q.body)] [v1, v2, v3] S.length M1 hx (fun j hj => hlen j (by simp [xnew] at hj; omega)) (fun ρ' ha j => by
    by_cases hj : j < S.length
    · refine It.res_congr _ (fun k hk => ha k ?_) (.inr (.inr (ha j (by simp [xnew]; omega))))
      have h1 := ltAll_iff (List.all_eq_true.1 hS (S[j]) (List.getElem_mem hj)) k (by simpa [lst, List.getD_eq_getElem?_getD, List.getElem?_eq_getElem hj] using hk)
      simp [xnew]; omega
    · rw [hlen j (by omega)]; rfl)
  have e : updS (lst S) (xnew [.sl (.ints q.vars), .sl (.ints q.arrays), .sl (.stmts q.body)] S.length) = lst (S ++ pS q) := by
    funext j
    simp only [xnew, updS, lst, List.getD_eq_getElem?_getD]
    by_cases h0 : j = S.length
    · subst h0; simp
    by_cases h1 : j = S.length + 1
    · subst h1
      rw [if_neg (by omega), if_pos rfl, List.getElem?_append_right (by omega), show S.length + 1 - S.length = 1 by omega]; rfl
    by_cases h2 : j = S.length + 1 + 1
    · subst h2
      rw [if_neg (by omega), if_neg (by omega), if_pos rfl, List.getElem?_append_right (by omega), show S.length + 1 + 1 - S.length = 2 by omega]; rfl
    rw [if_neg h0, if_neg h1, if_neg h2]
    by_cases hj : j < S.length
    · rw [List.getElem?_append_left hj]
    · rw [List.getElem?_eq_none (by omega), List.getElem?_eq_none (by simp; omega)]
  rw [e] at M2
  refine ⟨ρ', fun k hk => g1 k (by have hk : k < S.length := hk; simp [xnew]; omega), ?_, M2⟩
  simp only [xav, AV.vals, AV.val, List.cons.injEq, and_true] at g2
  obtain ⟨rfl, rfl, rfl⟩ := g2
  rfl
theorem c_toProgram (p : LProg) (hb : p.size ≤ 1048576) : Ctr.ok Try.prog ⟨17, [pA 0], pS p, pS p ++ pS p, pA 3⟩ :=
  new_prog (S := pS p) (q := p) rfl fun φ w ρ h => (toProgram_any φ _ p w ⟨ρ 0, ρ 1, ρ 2, rfl, h 0 _ rfl, h 1 _ rfl, h 2 _ rfl⟩ hb).mono fun e w' ⟨a1, k1, a2, k2, a3, k3, S, e1, e2, e3, e4⟩ => ⟨_, _, _, e1, e2.read fun b hb => (e3 b hb).1, e4⟩

/-- A law over one program, told as before. -/
theorem prog_law {P : Program} {f : FuncId} {x : Value} {p : LProg} {post : List It} (hc : Ctr.ok P ⟨f, [pA 0], pS p, post, .v x⟩) (u : Value) (w : World) (hp : ProgV w (fun _ => True) u p) :
    Calls P f #[u] w fun e w' => e = .returned x ∧ Below w.heap.size w w' := by
  obtain ⟨v1, v2, v3, rfl, h1, h2, h3⟩ := hp
  have M0 : MemF (fun _ => True) (fun _ => True) w w (lay (fun _ : Empty => Rs.none) (fun _ => undef) (lst [])) := by
    refine (MemF.start (ι := Empty ⊕ Nat) (w0 := w) (φ := fun _ => True) (ψ := fun _ => True) fun _ _ => trivial).map (fun k => some k) (fun k k' i a b => by cases a; cases b; rfl) fun k => ?_
    cases k with
    | inl e => exact e.elim
    | inr j => exact .inr rfl
  have ha : Agr (fun _ => True) (FrF (fun _ => True) (lay (fun _ : Empty => Rs.none) (fun _ => undef) (lst []))) w w := Agr.mono fun b _ _ => ⟨trivial, fun i => by
    cases i with
    | inl e => exact e.elim
    | inr j => exact fun h => h.elim⟩
  obtain ⟨ρ', g1, M2, g2⟩ := MemF.dats [.sl (.ints p.vars), .sl (.ints p.arrays), .sl (.stmts p.body)] [v1, v2, v3] 0 M0
    ⟨RD.nice (.ints p.vars) _ _ _ _ _ ha h1, RD.nice (.ints p.arrays) _ _ _ _ _ ha h2, RD.nice (.stmts p.body) _ _ _ _ _ ha h3, trivial⟩ (fun _ _ => rfl) (fun _ _ _ => rfl)
  have e : updS (lst []) (xnew [.sl (.ints p.vars), .sl (.ints p.arrays), .sl (.stmts p.body)] 0) = lst (pS p) := by
    funext j
    match j with
    | 0 => rfl
    | 1 => rfl
    | 2 => rfl
    | j + 3 => simp [xnew, updS, lst]
  rw [e] at M2
  simp only [xav, AV.vals, AV.val, List.cons.injEq, and_true] at g2
  obtain ⟨rfl, rfl, rfl⟩ := g2
  refine (hc Empty _ _ w w _ ρ' M2).mono ?_
  rintro e w' ⟨ρ2, -, rfl, M3⟩
  exact ⟨rfl, M3.below fun _ _ => trivial⟩

end Go.Proofs.Ytgpkdfefgcpbiaa

namespace Go.Proofs.Ytgpkdfefgcpbiaa
set_option linter.unusedVariables false
set_option linter.unusedSimpArgs false
open Go Go.RowKit

set_option maxRecDepth 100000 in
theorem c_iCheckFlow (p : LProg) (hb : szSs p.body ≤ 1048576) : Ctr.ok Try.prog (fnC 68 [pA 0] (pS p) (.tup [iA (ckR p false).1, iA (ckR p false).2])) := by
  refine rx_enter 13 Try.func68 (by rfl) (by kernel_rfl) (by kernel_rfl) ?_
  intro ι φ ψ w0 w F ρ0 ρ a G
  replace G := Gam.at G [dI p.vars, dI p.arrays, dT p.body] [(0, pA 0)]
  refine wp_seq ?_
  refine rs0 G [0, 1, 2, 3] [dI p.vars, dI p.arrays, dT p.body, .box (pL 0)] [(1, .ptr 3 0), (2, iA 0), (3, iA 0)] ?_
  clear G; intro ρ a w G
  refine th_n ?_
  refine wp_seq ?_
  refine wp_seq ?_
  refine rs1s G ⟨[(1, _, [0, 1, 2])], [], []⟩ (calls_cons (c_iProgramValid (p)) calls_nil) trivial [(1, .ptr 3 0), (2, iA 0), (3, iA 0), (6, .v (.bool !progB p))] [] trivial ?_
  clear G; intro ρ a w G
  refine th_n ?_
  cases h0 : (!progB p)
  ·
   have q0 : (progB p) = true := (fun hq => (hq)) (Eq.mp (Bool.not_eq_false' _) h0)
   refine rF G (!progB p) (by assumption) ?_
   refine wp_skip ?_
   refine th_n ?_
   refine wp_seq ?_
   refine rs1 (dk := dkP) G ⟨[(3, _, [0, 1, 2])], [], []⟩ (calls_cons (c_firstOfF (p) (by assumption)) calls_nil) trivial [0, 1, 2] [dI p.vars, dI p.arrays, dT p.body] [(2, iA (List.foldl (stepF (RFl p)) (0, -1, 0) (evs p 5 0 p.body)).fst), (3, iA (List.foldl (stepF (RFl p)) (0, -1, 0) (evs p 5 0 p.body)).snd.fst)] [] trivial ?_
   clear G; intro ρ a w G
   refine th_n ?_
   refine wp_ret ?_
   exact rx_ret (v := .tup [iA (List.foldl (stepF (RFl p)) (0, -1, 0) (evs p 5 0 p.body)).fst, iA (List.foldl (stepF (RFl p)) (0, -1, 0) (evs p 5 0 p.body)).snd.fst]) G [0, 1, 2] (by kernel_rfl) (by kernel_rfl) (by kernel_rfl) (by have e1 : ((ckR p false).fst : Int) = ((List.foldl (stepF (RFl p)) (0, -1, 0) (evs p 5 0 p.body)).fst) := (by exact (ck_flow (by assumption)).1.symm); have e2 : ((ckR p false).snd : Int) = ((List.foldl (stepF (RFl p)) (0, -1, 0) (evs p 5 0 p.body)).snd.fst) := (by exact (ck_flow (by assumption)).2.symm); first | (rw [e1, e2]; done) | (rw [e1, e2]; rfl) | (simp only [e1, e2]; done) | (simp only [e1, e2]; rfl))
  ·
   have q0 : (progB p) = false := (fun hq => (hq)) (Eq.mp (Bool.not_eq_true' _) h0)
   refine rT G (!progB p) (by assumption) ?_
   refine wp_seq ?_
   refine rs0s G [(1, .ptr 3 0), (2, iA 5), (3, iA (-1))] ?_
   clear G; intro ρ a w G
   refine th_n ?_
   refine wp_ret ?_
   refine th_r ?_
   exact rx_ret (v := .tup [iA 5, iA (-1)]) G [0, 1, 2] (by kernel_rfl) (by kernel_rfl) (by kernel_rfl) (by have e1 : ((ckR p false).fst : Int) = (5) := (by rw [ck_no (by assumption)]; done); have e2 : ((ckR p false).snd : Int) = (-1) := (by rw [ck_no (by assumption)]; done); first | (rw [e1, e2]; done) | (rw [e1, e2]; rfl) | (simp only [e1, e2]; done) | (simp only [e1, e2]; rfl))

theorem ct_p {p : LProg} (h : (ckR p false).1 = 0) : progB p = true := by
  unfold ckR at h
  split at h
  · assumption
  · cases h
set_option maxRecDepth 100000 in
theorem c_iCheckConstantTime (p : LProg) (hb : szSs p.body ≤ 1048576) : Ctr.ok Try.prog (fnC 18 [pA 0] (pS p) (.tup [iA (ctR p).1, iA (ctR p).2])) := by
  refine rx_enter 21 Try.func18 (by rfl) (by kernel_rfl) (by kernel_rfl) ?_
  intro ι φ ψ w0 w F ρ0 ρ a G
  replace G := Gam.at G [dI p.vars, dI p.arrays, dT p.body] [(0, pA 0)]
  refine wp_seq ?_
  refine rs0 G [0, 1, 2, 3] [dI p.vars, dI p.arrays, dT p.body, .box (pL 0)] [(1, .ptr 3 0), (2, iA 0), (3, iA 0)] ?_
  clear G; intro ρ a w G
  refine th_n ?_
  refine wp_seq ?_
  refine wp_seq ?_
  refine rs1s G ⟨[(1, _, [0, 1, 2])], [], []⟩ (calls_cons (c_iCheckFlow (p) (by assumption)) calls_nil) trivial [(1, .ptr 3 0), (2, iA 0), (3, iA 0), (4, iA (ckR p false).fst), (5, iA (ckR p false).snd)] [] trivial ?_
  clear G; intro ρ a w G
  refine th_n ?_
  refine wp_seq ?_
  refine rs0s G [(1, .ptr 3 0), (2, iA 0), (3, iA 0), (4, iA (ckR p false).fst), (5, iA (ckR p false).snd), (12, bA ((ckR p false).fst != 0))] ?_
  clear G; intro ρ a w G
  refine th_n ?_
  cases h0 : ((ckR p false).fst != (0 : Int))
  ·
   have q0 : (ckR p false).fst = 0 := (by simpa using h0)
   refine rF G ((ckR p false).fst != (0 : Int)) (by assumption) ?_
   refine wp_skip ?_
   refine th_n ?_
   refine wp_seq ?_
   refine rs1 (dk := dkP) G ⟨[(3, _, [0, 1, 2])], [], []⟩ (calls_cons (c_firstOfL (p) (by exact ct_p (by assumption))) calls_nil) trivial [0, 1, 2] [dI p.vars, dI p.arrays, dT p.body] [(2, iA (List.foldl (stepF (RLk p)) (0, -1, 0) (evs p 5 0 p.body)).fst), (3, iA (List.foldl (stepF (RLk p)) (0, -1, 0) (evs p 5 0 p.body)).snd.fst)] [] trivial ?_
   clear G; intro ρ a w G
   refine th_n ?_
   refine wp_ret ?_
   exact rx_ret (v := .tup [iA (List.foldl (stepF (RLk p)) (0, -1, 0) (evs p 5 0 p.body)).fst, iA (List.foldl (stepF (RLk p)) (0, -1, 0) (evs p 5 0 p.body)).snd.fst]) G [0, 1, 2] (by kernel_rfl) (by kernel_rfl) (by kernel_rfl) (by have e1 : ((ctR p).fst : Int) = ((List.foldl (stepF (RLk p)) (0, -1, 0) (evs p 5 0 p.body)).fst) := (by exact (congrArg Prod.fst (ct_a (by assumption))).trans (ck_leak (ct_p (by assumption)) (by assumption)).1.symm); have e2 : ((ctR p).snd : Int) = ((List.foldl (stepF (RLk p)) (0, -1, 0) (evs p 5 0 p.body)).snd.fst) := (by exact (congrArg Prod.snd (ct_a (by assumption))).trans (ck_leak (ct_p (by assumption)) (by assumption)).2.symm); first | (rw [e1, e2]; done) | (rw [e1, e2]; rfl) | (simp only [e1, e2]; done) | (simp only [e1, e2]; rfl))
  ·
   have q0 : ¬ ((ckR p false).fst = 0) := bne_iff_ne.1 h0
   refine rT G ((ckR p false).fst != (0 : Int)) (by assumption) ?_
   refine wp_seq ?_
   refine rs0s G [(1, .ptr 3 0), (2, iA (ckR p false).fst), (3, iA (ckR p false).snd)] ?_
   clear G; intro ρ a w G
   refine th_n ?_
   refine wp_ret ?_
   refine th_r ?_
   exact rx_ret (v := .tup [iA (ckR p false).fst, iA (ckR p false).snd]) G [0, 1, 2] (by kernel_rfl) (by kernel_rfl) (by kernel_rfl) (by have e1 : ((ctR p).fst : Int) = ((ckR p false).fst) := (by rw [ct_b (by assumption)]; done); have e2 : ((ctR p).snd : Int) = ((ckR p false).snd) := (by rw [ct_b (by assumption)]; done); first | (rw [e1, e2]; done) | (rw [e1, e2]; rfl) | (simp only [e1, e2]; done) | (simp only [e1, e2]; rfl))

end Go.Proofs.Ytgpkdfefgcpbiaa

namespace Go.Proofs.Ytgpkdfefgcpbiaa.exCheckConstantTime
set_option linter.unusedVariables false
set_option linter.unusedSimpArgs false
open Go Go.RowKit Go.Proofs.Ytgpkdfefgcpbiaa

theorem fits {p : LProg} (h : ¬ (szRes 1048576 p.size < 0)) : p.size ≤ 1048576 := by
  by_cases h1 : (1048576 : Int) < p.size
  · rw [szRes_neg h1] at h; omega
  · omega
theorem fitsB {p : LProg} (h : ¬ (szRes 1048576 p.size < 0)) : szSs p.body ≤ 1048576 := by
  have := fits h
  unfold LProg.size at this; omega
theorem same_self (p : LProg) : p.same p = true := LProg.same_eq.2 rfl
set_option maxRecDepth 100000 in
theorem c_law (p : LProg) : Ctr.ok Try.prog (fnC 3 [pA 0] (pS p) (bA true)) := by
  refine rx_enter 40 Try.func3 (by rfl) (by kernel_rfl) (by kernel_rfl) ?_
  intro ι φ ψ w0 w F ρ0 ρ a G
  replace G := Gam.at G [dI p.vars, dI p.arrays, dT p.body] [(0, pA 0)]
  have hself : p.same p = true := same_self p
  refine wp_seq ?_
  refine rs0 G [0, 1, 2, 3] [dI p.vars, dI p.arrays, dT p.body, .box (pL 0)] [(1, .ptr 3 0), (2, bA false)] ?_
  clear G; intro ρ a w G
  refine th_n ?_
  refine wp_seq ?_
  refine rs0s G [(1, .ptr 3 0), (2, bA false), (3, iA 1048576)] ?_
  clear G; intro ρ a w G
  refine th_n ?_
  refine wp_seq ?_
  refine rs1s G ⟨[(2, _, [0, 1, 2])], [], []⟩ (calls_cons (c_szProgram (p) (1048576) (by simp [hself]) (by simp [hself])) calls_nil) trivial [(1, .ptr 3 0), (2, bA false), (3, iA (szRes 1048576 p.size))] [] trivial ?_
  clear G; intro ρ a w G
  refine th_n ?_
  refine wp_seq ?_
  refine wp_seq ?_
  refine rs0s G [(1, .ptr 3 0), (2, bA false), (13, bA (decide (szRes 1048576 p.size < 0)))] ?_
  clear G; intro ρ a w G
  refine th_n ?_
  cases h0 : (decide (szRes (1048576 : Int) p.size < (0 : Int)))
  ·
   have q0 : ¬ (szRes 1048576 p.size < 0) := of_decide_eq_false h0
   refine rF G (decide (szRes (1048576 : Int) p.size < (0 : Int))) (by assumption) ?_
   refine wp_skip ?_
   refine th_n ?_
   refine wp_seq ?_
   refine rs1s G ⟨[(1, _, [0, 1, 2]), (2, _, [12, 13, 14])], [], []⟩ (calls_cons (c_toProgram (p) (by exact fits (by assumption))) (calls_cons (c_CheckConstantTime (p) (by exact fitsB (by assumption))) calls_nil)) trivial [(1, .ptr 3 0), (2, bA false), (4, iA (ctR p).fst), (5, iA (ctR p).snd)] [] trivial ?_
   clear G; intro ρ a w G
   refine th_n ?_
   refine wp_seq ?_
   refine rs1 (dk := dkP) G ⟨[(1, _, [0, 1, 2])], [], []⟩ (calls_cons (c_toProgram (p) (by exact fits (by assumption))) calls_nil) trivial [0, 1, 2, 3, 12, 13, 14, 20] [dI p.vars, dI p.arrays, dT p.body, .box (pL 0), dI p.vars, dI p.arrays, dT p.body, .box (pL 4)] [(1, .ptr 3 0), (2, bA false), (4, iA (ctR p).fst), (5, iA (ctR p).snd), (6, .ptr 7 0)] [] trivial ?_
   clear G; intro ρ a w G
   refine th_n ?_
   refine wp_seq ?_
   refine rs1s G ⟨[(1, _, [4, 5, 6])], [], []⟩ (calls_cons (c_iCheckConstantTime (p) (by exact fitsB (by assumption))) calls_nil) trivial [(1, .ptr 3 0), (2, bA false), (4, iA (ctR p).fst), (5, iA (ctR p).snd), (6, .ptr 7 0), (7, iA (ctR p).fst), (8, iA (ctR p).snd)] [] trivial ?_
   clear G; intro ρ a w G
   refine th_n ?_
   refine wp_seq ?_
   refine wp_seq ?_
   refine rs1s G ⟨[], [((ctR p).fst != (ctR p).fst, false)], [(4, 0), (5, 0), (6, 0), (1007, 0)]⟩ calls_nil ⟨(by simp [hself, h0]), trivial⟩ [(1, .ptr 3 0), (2, bA false), (6, .ptr 7 0), (34, bA ((ctR p).snd != (ctR p).snd))] [] trivial ?_
   clear G; intro ρ a w G
   refine th_n ?_
   refine rF G ((ctR p).snd != (ctR p).snd) (by simp [hself, h0]) ?_
   refine wp_skip ?_
   refine th_n ?_
   refine wp_seq ?_
   refine wp_seq ?_
   refine rd1 (dk := dkP) G ⟨[(2, _, [0, 1, 2]), (3, _, [4, 5, 6, 24, 25, 26])], [], []⟩ (calls_cons (c_toProgram (p) (by exact fits (by assumption))) (calls_cons (c_eqProgram (p) (p)) calls_nil)) trivial [0, 0, 2, 7, 15] [0, 1, 2] [dI p.vars, dI p.arrays, dT p.body] [(2, bA false), (39, .v (.bool !p.same p))] [] trivial ?_
   clear G; intro ρ a w G
   refine th_n ?_
   refine rF G (!p.same p) (by rw [hself]; rfl) ?_
   refine wp_skip ?_
   refine th_n ?_
   refine wp_seq ?_
   refine rs0s G [(2, bA true)] ?_
   clear G; intro ρ a w G
   refine th_n ?_
   refine wp_ret ?_
   exact rx_ret (v := bA true) G [0, 1, 2] (by kernel_rfl) (by kernel_rfl) (by kernel_rfl) (by kernel_rfl)
  ·
   have q0 : szRes 1048576 p.size < 0 := of_decide_eq_true h0
   refine rT G (decide (szRes (1048576 : Int) p.size < (0 : Int))) (by assumption) ?_
   refine wp_seq ?_
   refine rs0s G [(1, .ptr 3 0), (2, bA true)] ?_
   clear G; intro ρ a w G
   refine th_n ?_
   refine wp_ret ?_
   refine th_r ?_
   exact rx_ret (v := bA true) G [0, 1, 2] (by kernel_rfl) (by kernel_rfl) (by kernel_rfl) (by kernel_rfl)

theorem walk (u : Value) (p : LProg) (w : World) (hp : ProgV w (fun _ => True) u p) : Calls Try.prog 3 #[u] w fun e w' => e = .returned (.bool true) ∧ Below w.heap.size w w' := prog_law (c_law p) u w hp

end Go.Proofs.Ytgpkdfefgcpbiaa.exCheckConstantTime

namespace Go.Proofs.Ytgpkdfefgcpbiaa
set_option linter.unusedVariables false
set_option linter.unusedSimpArgs false
open Go Go.RowKit Go.ChangeShapes Go.WideShapes Go.Deep
section
variable {H : Type} {enc : TypeId × Value → H} {W : World}

/-- A slice that reads as data: its row of cells; each element reads, with less fuel. -/
theorem row_of_trod_lt {t e : TypeId} {fuel : Nat} {v : Value} {x : DataW H × List MemPlace} {sz : Nat} (ht : Try.prog.underlying t = some (.slice e)) (hc : Try.prog.cellsOf e = sz) (hsz : 0 < sz)
    (h : DataW.trod enc Try.prog W 0 (fun _ => true) true fuel t [v] = some x) :
    ∃ (n m : Nat) (C : Nat → List Value), Row W v n sz ((List.range n).flatMap C) ∧ (∀ i, (C i).length = sz) ∧ ∀ i, i < n → m < fuel ∧ ∃ y, DataW.trod enc Try.prog W 0 (fun _ => true) true m e (C i) = some y := by
  rcases DataW.trod_slice ht h with ⟨hcs, _⟩ | ⟨a, len, cap, elems, rest, k, hfu, hcs, _, hb, hl, hm, hlen, hel, _, _⟩
  · cases hcs
    exact ⟨0, 0, fun _ => List.replicate sz undef, Row.nil _ _, by simp, fun i hi => by omega⟩
  · cases hcs
    rw [hc] at hel
    obtain ⟨C, hC⟩ := choose_lt (α := List Value) (n := len) (p := fun i cs => cs.length = sz ∧ (∀ j, j < sz → W.cell? (a.add (i * sz + j)) = cs[j]?) ∧ ∃ y, DataW.trod enc Try.prog W 0 (fun _ => true) true k e cs = some y) (fun i hi => by
      have h0 := hel i hi
      rw [List.getElem?_eq_getElem (by omega)] at h0
      obtain ⟨cs', h1, h2⟩ := Option.bind_eq_some_iff.1 h0
      obtain ⟨_, hlen, hcell⟩ := World.cells?_some h1
      exact ⟨cs', hlen, fun j hj => by rw [← add_add]; exact hcell j hj, _, h2⟩)
    let C' : Nat → List Value := fun i => if i < len then C i else List.replicate sz undef
    have hC' : ∀ i, (C' i).length = sz := fun i => by
      by_cases hi : i < len
      · simp only [C', if_pos hi]; exact (hC i hi).1
      · simp [C', if_neg hi]
    refine ⟨len, k, C', ⟨flat_len hC' len, some a, cap, rfl, hl, hm, fun hn => ?_⟩, hC', fun i hi => ?_⟩
    · obtain ⟨b, off, spot⟩ := a
      have h00 := (hC 0 hn).2.1 0 hsz
      have hlen0 := (hC 0 hn).1
      rw [List.getElem?_eq_getElem (by omega)] at h00
      have hs : spot = none := by
        simpa [Addr.add] using World.cell?_spot h00
      subst hs
      have hb : b < W.heap.size := by simpa [Addr.add] using World.block_lt_of_cell? W _ h00
      refine ⟨b, off, rfl, hb, fun j u hj => ?_⟩
      have hjl : j < len * sz := by have := (List.getElem?_eq_some_iff.1 hj).1; rw [flat_len hC'] at this; exact this
      have hi : j / sz < len := Nat.div_lt_of_lt_mul (by rw [Nat.mul_comm]; exact hjl)
      have hr : j % sz < sz := Nat.mod_lt _ hsz
      have hjj : j / sz * sz + j % sz = j := Nat.div_add_mod' j sz
      have hg := flat_get hC' len (j / sz) (j % sz) hi hr
      rw [hjj, hj] at hg
      have hcc := (hC _ hi).2.1 _ hr
      simp only [C', if_pos hi] at hg
      rw [hjj, ← hg] at hcc
      have hadd : (⟨b, off, none⟩ : Addr).add j = ⟨b, off + j, none⟩ := by unfold Addr.add; split <;> simp_all
      rw [hadd] at hcc
      exact hcc
    · obtain ⟨y, hy⟩ := (hC i hi).2.2
      exact ⟨by omega, y, by simp only [C', if_pos hi]; exact hy⟩

instance : Inhabited LExpr := ⟨⟨0, 0, []⟩⟩
instance : Inhabited LStmt := ⟨⟨0, 0, ⟨0, 0, []⟩, ⟨0, 0, []⟩, 0, [], []⟩⟩
theorem exprsC_range {w : World} {φ : Nat → Prop} (C : Nat → List Value) (g : Nat → LExpr) : ∀ l : List Nat, (∀ i ∈ l, ExprC w φ (g i) (C i)) → ExprsC w φ (l.map g) (l.flatMap C)
  | [], _ => rfl
  | a :: r, h => ⟨C a, r.flatMap C, rfl, h a List.mem_cons_self, exprsC_range C g r fun i hi => h i (List.mem_cons_of_mem _ hi)⟩
theorem stmtsC_range {w : World} {φ : Nat → Prop} (C : Nat → List Value) (g : Nat → LStmt) : ∀ l : List Nat, (∀ i ∈ l, StmtC w φ (g i) (C i)) → StmtsC w φ (l.map g) (l.flatMap C)
  | [], _ => rfl
  | a :: r, h => ⟨C a, r.flatMap C, rfl, h a List.mem_cons_self, stmtsC_range C g r fun i hi => h i (List.mem_cons_of_mem _ hi)⟩

set_option maxRecDepth 100000 in
theorem expr_of_trod : ∀ (fuel : Nat) (cs : List Value) (x : DataW H × List MemPlace), DataW.trod enc Try.prog W 0 (fun _ => true) true fuel 37 cs = some x → ∃ e, ExprC W (fun _ => True) e cs := by
  intro fuel
  induction fuel using Nat.strongRecOn with
  | ind fuel ih =>
    intro cs x h
    obtain ⟨ys, k, hfu, _, hl, hys, hf⟩ := DataW.trod_struct Try.underlying37 h
    rw [show Try.prog.cellsOf 37 = 3 from by kernel_rfl] at hl
    match cs, hl with
    | [c0, c1, c2], _ =>
      have h0 := hf 0 _ rfl
      have h1 := hf 1 _ rfl
      have h2 := hf 2 _ rfl
      rw [List.getElem?_eq_getElem (by rw [hys]; decide)] at h0 h1 h2
      have e0 := DataW.trod_int Try.underlying3 ((show Try.prog.cellsOf 3 = 1 from by kernel_rfl) ▸ h0)
      have e1 := DataW.trod_int Try.underlying3 ((show Try.prog.cellsOf 3 = 1 from by kernel_rfl) ▸ h1)
      have e2 := row_of_trod_lt (v := c2) Try.underlying35 (sz := 3) (by kernel_rfl) (by omega) ((show Try.prog.cellsOf 35 = 1 from by kernel_rfl) ▸ h2)
      obtain ⟨b0, hb0, _⟩ := e0
      obtain ⟨b1, hb1, _⟩ := e1
      obtain ⟨n, m, C, hr, hC, hx⟩ := e2
      simp at hb0 hb1
      obtain ⟨g, hg⟩ := choose_lt (α := LExpr) (n := n) (p := fun i e => ExprC W (fun _ => True) e (C i)) (fun i hi => by
        obtain ⟨hm, y, hy⟩ := hx i hi
        exact ih m (by omega) _ _ hy)
      refine ⟨⟨b0, b1, (List.range n).map g⟩, c2, _, by rw [hb0, hb1], ?_, exprsC_range C g (List.range n) fun i hi => hg i (by simpa using hi)⟩
      rw [List.length_map, List.length_range]
      exact hr.rowF fun _ _ => trivial

theorem kids_of_trod {fuel : Nat} {v : Value} {x : DataW H × List MemPlace} (h : DataW.trod enc Try.prog W 0 (fun _ => true) true fuel 35 [v] = some x) : ∃ ks, KidsV W (fun _ => True) v ks := by
  obtain ⟨n, m, C, hr, hC, hx⟩ := row_of_trod_lt Try.underlying35 (sz := 3) (by kernel_rfl) (by omega) h
  obtain ⟨g, hg⟩ := choose_lt (α := LExpr) (n := n) (p := fun i e => ExprC W (fun _ => True) e (C i)) (fun i hi => by
    obtain ⟨hm, y, hy⟩ := hx i hi
    exact expr_of_trod m _ _ hy)
  refine ⟨(List.range n).map g, _, ?_, exprsC_range C g (List.range n) fun i hi => hg i (by simpa using hi)⟩
  rw [List.length_map, List.length_range]
  exact hr.rowF fun _ _ => trivial
set_option maxRecDepth 100000 in
theorem stmt_of_trod : ∀ (fuel : Nat) (cs : List Value) (x : DataW H × List MemPlace), DataW.trod enc Try.prog W 0 (fun _ => true) true fuel 139 cs = some x → ∃ s, StmtC W (fun _ => True) s cs := by
  intro fuel
  induction fuel using Nat.strongRecOn with
  | ind fuel ih =>
    intro cs x h
    obtain ⟨ys, k, hfu, _, hl, hys, hf⟩ := DataW.trod_struct Try.underlying139 h
    rw [show Try.prog.cellsOf 139 = 11 from by kernel_rfl] at hl
    match cs, hl with
    | [c0, c1, c2, c3, c4, c5, c6, c7, c8, c9, c10], _ =>
      have h0 := hf 0 _ rfl
      have h1 := hf 1 _ rfl
      have h2 := hf 2 _ rfl
      have h3 := hf 3 _ rfl
      have h4 := hf 4 _ rfl
      have h5 := hf 5 _ rfl
      have h6 := hf 6 _ rfl
      rw [List.getElem?_eq_getElem (by rw [hys]; decide)] at h0 h1 h2 h3 h4 h5 h6
      obtain ⟨b0, hb0, _⟩ := DataW.trod_int Try.underlying3 ((show Try.prog.cellsOf 3 = 1 from by kernel_rfl) ▸ h0)
      obtain ⟨b1, hb1, _⟩ := DataW.trod_int Try.underlying3 ((show Try.prog.cellsOf 3 = 1 from by kernel_rfl) ▸ h1)
      obtain ⟨b4, hb4, _⟩ := DataW.trod_int Try.underlying3 ((show Try.prog.cellsOf 3 = 1 from by kernel_rfl) ▸ h4)
      obtain ⟨ie, hie⟩ := expr_of_trod k [c2, c3, c4] _ ((show Try.prog.cellsOf 37 = 3 from by kernel_rfl) ▸ h2)
      obtain ⟨ve, hve⟩ := expr_of_trod k [c5, c6, c7] _ ((show Try.prog.cellsOf 37 = 3 from by kernel_rfl) ▸ h3)
      obtain ⟨n, m, C, hr, hC, hx⟩ := row_of_trod_lt (v := c9) Try.underlying23 (sz := 11) (by kernel_rfl) (by omega) ((show Try.prog.cellsOf 23 = 1 from by kernel_rfl) ▸ h5)
      obtain ⟨n', m', C', hr', hC', hx'⟩ := row_of_trod_lt (v := c10) Try.underlying23 (sz := 11) (by kernel_rfl) (by omega) ((show Try.prog.cellsOf 23 = 1 from by kernel_rfl) ▸ h6)
      simp at hb0 hb1 hb4
      obtain ⟨g, hg⟩ := choose_lt (α := LStmt) (n := n) (p := fun i e => StmtC W (fun _ => True) e (C i)) (fun i hi => by
        obtain ⟨hm, y, hy⟩ := hx i hi
        exact ih m (by omega) _ _ hy)
      obtain ⟨g', hg'⟩ := choose_lt (α := LStmt) (n := n') (p := fun i e => StmtC W (fun _ => True) e (C' i)) (fun i hi => by
        obtain ⟨hm, y, hy⟩ := hx' i hi
        exact ih m' (by omega) _ _ hy)
      obtain ⟨iv, hi1, hi2⟩ := (ExprC.iff _ _).1 hie
      obtain ⟨vv, hv1, hv2⟩ := (ExprC.iff _ _).1 hve
      simp at hi1 hv1
      obtain ⟨i1, i2, i3⟩ := hi1
      obtain ⟨v1, v2, v3⟩ := hv1
      refine ⟨⟨b0, b1, ie, ve, b4, (List.range n).map g, (List.range n').map g'⟩, iv, vv, c9, c10, _, _, by rw [hb0, hb1, hb4, i1, i2, i3, v1, v2, v3], hi2, hv2, ?_, stmtsC_range C g (List.range n) fun i hi => hg i (by simpa using hi), ?_, stmtsC_range C' g' (List.range n') fun i hi => hg' i (by simpa using hi)⟩
      · rw [List.length_map, List.length_range]
        exact hr.rowF fun _ _ => trivial
      · rw [List.length_map, List.length_range]
        exact hr'.rowF fun _ _ => trivial

theorem block_of_trod {fuel : Nat} {v : Value} {x : DataW H × List MemPlace} (h : DataW.trod enc Try.prog W 0 (fun _ => true) true fuel 23 [v] = some x) : ∃ ss, BlockV W (fun _ => True) v ss := by
  obtain ⟨n, m, C, hr, hC, hx⟩ := row_of_trod_lt Try.underlying23 (sz := 11) (by kernel_rfl) (by omega) h
  obtain ⟨g, hg⟩ := choose_lt (α := LStmt) (n := n) (p := fun i e => StmtC W (fun _ => True) e (C i)) (fun i hi => by
    obtain ⟨hm, y, hy⟩ := hx i hi
    exact stmt_of_trod m _ _ hy)
  refine ⟨(List.range n).map g, _, ?_, stmtsC_range C g (List.range n) fun i hi => hg i (by simpa using hi)⟩
  rw [List.length_map, List.length_range]
  exact hr.rowF fun _ _ => trivial

set_option maxRecDepth 100000 in
theorem prog_of_trod {r : Reach} {b0 : Nat} {v : Value} {d : DataW H} {p : List MemPlace} (hv : Value.okWide Try.prog W r b0 25 v)
    (h : DataW.Trod enc Try.prog W 0 (fun _ => true) true 25 v d p) : ∃ c : LProg, ProgV W (fun _ => True) v c := by
  obtain ⟨v0, v1, v2, y0, y1, y2, n, rfl, -, -, h0, h1, h2⟩ := Joins.open_agg3 Try.underlying25 (by kernel_rfl) (by kernel_rfl) hv h
  obtain ⟨l0, r0⟩ := ints_of_trod Try.underlying22 h0
  obtain ⟨l1, r1⟩ := ints_of_trod Try.underlying22 h1
  obtain ⟨l2, r2⟩ := block_of_trod h2
  exact ⟨⟨l0, l1, l2⟩, _, _, _, rfl, r0.rowF fun _ _ => trivial, r1.rowF fun _ _ => trivial, r2⟩

set_option maxRecDepth 100000 in
theorem exprV_of_trod {r : Reach} {b0 : Nat} {v : Value} {d : DataW H} {p : List MemPlace} (hv : Value.okWide Try.prog W r b0 37 v)
    (h : DataW.Trod enc Try.prog W 0 (fun _ => true) true 37 v d p) : ∃ c : LExpr, ExprV W (fun _ => True) v c := by
  obtain ⟨v0, v1, v2, y0, y1, y2, n, rfl, -, -, h0, h1, h2⟩ := Joins.open_agg3 Try.underlying37 (by kernel_rfl) (by kernel_rfl) hv h
  obtain ⟨n0, e0, _⟩ := DataW.trod_int Try.underlying3 h0
  obtain ⟨n1, e1, _⟩ := DataW.trod_int Try.underlying3 h1
  obtain ⟨ks, r2⟩ := kids_of_trod h2
  simp at e0 e1
  exact ⟨⟨n0, n1, ks⟩, v2, by rw [e0, e1]; rfl, r2⟩
end
end Go.Proofs.Ytgpkdfefgcpbiaa
