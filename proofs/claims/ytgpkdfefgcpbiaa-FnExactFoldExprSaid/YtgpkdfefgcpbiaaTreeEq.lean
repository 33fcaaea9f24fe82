/-
  Trees compared: the laws' helpers eqExpr, eqStmt, eqProgram. Conditions: the arguments read as trees.
-/
import Derived.Test.YtgpkdfefgcpbiaaTreeSz
namespace Go.Proofs.Ytgpkdfefgcpbiaa
set_option linter.unusedVariables false
set_option linter.unusedSimpArgs false
open Go Go.RowKit

theorem sameEs_at {ks ls : List LExpr} {k : Nat} (h1 : k < ks.length) (h2 : k < ls.length) (h : sameE ks[k] ls[k] = false) : sameEs ks ls = false := by
  cases hs : sameEs ks ls
  · rfl
  · have := (sameEs_eq ks ls).1 hs
    subst this
    rw [(sameE_eq _ _).2 rfl] at h; cases h
theorem sameSs_at {ks ls : List LStmt} {k : Nat} (h1 : k < ks.length) (h2 : k < ls.length) (h : sameS ks[k] ls[k] = false) : sameSs ks ls = false := by
  cases hs : sameSs ks ls
  · rfl
  · have := (sameSs_eq ks ls).1 hs
    subst this
    rw [(sameS_eq _ _).2 rfl] at h; cases h
theorem sameE_def (e e' : LExpr) : sameE e e' = (decide (e.kind = e'.kind) && decide (e.value = e'.value) && sameEs e.kids e'.kids) := by cases e; cases e'; rfl
theorem sameS_def (s t : LStmt) : sameS s t = (decide (s.kind = t.kind) && decide (s.target = t.target) && sameE s.index t.index && sameE s.value t.value && decide (s.count = t.count) && sameSs s.body t.body && sameSs s.els t.els) := by cases s; cases t; rfl

def EqE (e : LExpr) : Prop := ∀ (φ φ' : Nat → Prop) (v u : Value) (e' : LExpr) (w : World), ExprV w φ v e → ExprV w φ' u e' →
  Calls Try.prog 24 #[v, u] w fun x w' => x = .returned (.bool (sameE e e')) ∧ Below w.heap.size w w'

set_option maxHeartbeats 1000000 in
theorem eqExprS_of (ks : List LExpr) (ih : ∀ e ∈ ks, EqE e) (φ φ' : Nat → Prop) (v u : Value) (ls : List LExpr) (w : World) (h : KidsV w φ v ks) (h' : KidsV w φ' u ls) :
    Calls Try.prog 78 #[v, u] w fun x w' => x = .returned (.bool (sameEs ks ls)) ∧ Below w.heap.size w w' := by
  obtain ⟨a, cap, rfl, -, hn, -, hc⟩ := h.open
  obtain ⟨a', cap', rfl, -, hn', -, hc'⟩ := h'.open
  have HC := show Hid _ from hc
  have HC' := show Hid _ from hc'
  clear hc hc' h h'
  by_cases hl : ks.length = ls.length
  · have heq : ((ks.length : Int) == (ls.length : Int)) = true := by simp; omega
    have HL := show Hid _ from hl
    clear hl
    go_enter Try.func78, Try.ntmps78
    go_wp2
    go_loopw [5] (fun i wr => ∃ k : Nat, k ≤ ks.length ∧ i = .int .i64 k ∧ ks.take k = ls.take k ∧ Below w.heap.size w wr) (fun i _ => ks.length - (intOf i).toNat)
    case atStart => exact ⟨0, Nat.zero_le _, rfl, rfl, Below.refl _ _⟩
    case round =>
      obtain ⟨k, hk, rfl, ht, hb⟩ := hrel
      have HT := show Hid _ from ht
      have HB := show Hid _ from hb
      clear ht hb
      by_cases hlt : k < ks.length
      · have hlt2 : k < ls.length := by have := HL.out; omega
        obtain ⟨b, off, kv, rfl, hbk, hf, c0, c1, c2, hkv⟩ := HC.out k hlt
        obtain ⟨b', off', kv', rfl, hbk', hf', d0, d1, d2, hkv'⟩ := HC'.out k hlt2
        rw [← (bcell HB.out).1 _ _ hbk] at c0 c1 c2
        rw [← (bcell HB.out).1 _ _ hbk'] at d0 d1 d2
        obtain ⟨q, hq⟩ : ∃ q, q = sameE ks[k] ls[k] := ⟨_, rfl⟩
        have HC3 : Hid (∀ X, Calls Try.prog 24 #[.agg #[.int .i64 ks[k].kind, .int .i64 ks[k].value, kv], .agg #[.int .i64 ls[k].kind, .int .i64 ls[k].value, kv']] (wr.ext X) fun e w'' => e = .returned (.bool q) ∧ ∃ Y, w'' = wr.ext Y) := fun X => by
          have bb := HB.out.trans ((ext_below wr X).mono HB.out.size)
          rw [hq]
          exact Calls.ext_of' (ih _ (List.getElem_mem hlt) φ φ' _ _ _ _ ⟨kv, rfl, KidsV.nice _ _ _ _ _ _ (Agr.below bb) hkv⟩ ⟨kv', rfl, KidsV.nice _ _ _ _ _ _ (Agr.below bb) hkv'⟩)
        have HQ := show Hid _ from hq
        have j0 := fun X => ext_cell c0 X
        have j1 := fun X => ext_cell c1 X
        have j2 := fun X => ext_cell c2 X
        have i0 := fun X => ext_cell d0 X
        have i1 := fun X => ext_cell d1 X
        have i2 := fun X => ext_cell d2 X
        clear hkv hkv' hq c0 c1 c2 d0 d1 d2
        cases q
        · go_wp2_with fail
          refine wp_region_ext (by kernel_rfl) (by kernel_rfl) ?_
          repeat (any_goals (first | go_big_quiet_step (((go_at_call 24; exact HC3.out _))) | quiet_step (((go_at_call 24; exact HC3.out _)))))
          refine wpQuiet_nil ?_
          rintro _ ⟨X, rfl⟩
          go_wp2_with fail
          go_ret
          exact ⟨ret_bool (sameEs_at hlt hlt2 HQ.out.symm).symm, HB.out.trans ((ext_below wr X).mono HB.out.size)⟩
        · go_wp2_with fail
          refine wp_region_ext (by kernel_rfl) (by kernel_rfl) ?_
          repeat (any_goals (first | go_big_quiet_step (((go_at_call 24; exact HC3.out _))) | quiet_step (((go_at_call 24; exact HC3.out _)))))
          refine wpQuiet_nil ?_
          rintro _ ⟨X, rfl⟩
          go_wp2_with fail
          exact ⟨⟨k + 1, by omega, by go_num, take_eq_succ HT.out hlt hlt2 ((sameE_eq _ _).1 HQ.out.symm), HB.out.trans ((ext_below wr X).mono HB.out.size)⟩, by simp [intOf]; omega⟩
      · have hge : ¬ ((k : Int) < (ks.length : Int)) := by omega
        go_wp2_with fail
        go_ret
        exact ⟨ret_bool (by rw [take_eq_all HT.out (by omega) (by have := HL.out; omega)]; exact ((sameEs_eq _ _).2 rfl).symm), HB.out⟩
  · have hne : ((ks.length : Int) == (ls.length : Int)) = false := by simp; omega
    have HL := show Hid _ from hl
    clear hl
    go_enter Try.func78, Try.ntmps78
    go_wp2
    go_ret
    exact ⟨ret_bool (sameEs_len HL.out).symm, Below.refl _ _⟩

set_option maxHeartbeats 1000000 in
theorem eqExpr_all (e : LExpr) : EqE e := by
  refine LExpr.ind (P := EqE) (fun k n ks ih => ?_) e
  intro φ φ' v u e' w h h'
  obtain ⟨kv, rfl, hk⟩ := h
  obtain ⟨ku, rfl, hk'⟩ := h'
  simp only [LExpr.kind, LExpr.value, LExpr.kids] at hk ⊢
  cases e' with
  | mk k' n' ks' =>
  have HS : Hid (sameE ⟨k, n, ks⟩ ⟨k', n', ks'⟩ = (decide (k = k') && decide (n = n') && sameEs ks ks')) := rfl
  simp only [LExpr.kind, LExpr.value, LExpr.kids] at hk' ⊢
  obtain ⟨W, hW, M⟩ : ∃ W, W = (w.alloc (.cells #[.int .i64 k, .int .i64 n, kv] 41)).alloc (.cells #[.int .i64 k', .int .i64 n', ku] 41) ∧ Mem (fun _ => True) (fun _ => True) w W [.box w.heap.size [.int .i64 k, .int .i64 n, kv], .box (w.heap.size + 1) [.int .i64 k', .int .i64 n', ku]] :=
    ⟨_, rfl, ((Mem.start fun _ _ => trivial).box _ _).box' _ _ (by simp)⟩
  have HK := show Hid (KidsV W φ kv ks ∧ KidsV W φ' ku ks') from ⟨KidsV.nice _ _ _ _ _ _ (Agr.below (M.below fun _ _ => trivial)) hk, KidsV.nice _ _ _ _ _ _ (Agr.below (M.below fun _ _ => trivial)) hk'⟩
  have HB := show Hid _ from M.below fun _ _ => trivial
  have c0 := M.c 0 0 rfl rfl
  have c1 := M.c 0 1 rfl rfl
  have c2 := M.c 0 2 rfl rfl
  have d0 := M.c 1 0 rfl rfl
  have d1 := M.c 1 1 rfl rfl
  have d2 := M.c 1 2 rfl rfl
  rw [hW] at c0 c1 c2 d0 d1 d2
  clear hk hk' M
  by_cases q0 : k = k'
  · have p0 : (k == k') = true := by simp [q0]
    by_cases q1 : n = n'
    · have p1 : (n == n') = true := by simp [q1]
      have Q := show Hid _ from And.intro q0 q1
      clear q0 q1
      go_enter Try.func24, Try.ntmps24
      go_wp2_with fail
      rw [← hW]
      clear hW c0 c1 c2 d0 d1 d2
      refine (eqExprS_of ks ih φ φ' kv ku ks' _ HK.out.1 HK.out.2).mono ?_
      rintro x w1 ⟨rfl, b1⟩
      have B1 := show Hid _ from HB.out.trans (b1.mono HB.out.size)
      obtain ⟨q, hq⟩ : ∃ q, q = sameEs ks ks' := ⟨_, rfl⟩
      rw [← hq]
      have HQ := show Hid _ from hq
      clear hq
      cases q
      · go_wp2_with fail
        go_ret
        exact ⟨ret_bool (by rw [HS.out, ← HQ.out]; simp), B1.out⟩
      · go_wp2_with fail
        go_ret
        exact ⟨ret_bool (by rw [HS.out, ← HQ.out]; simp [Q.out.1, Q.out.2]), B1.out⟩
    · have p1 : (n == n') = false := by simp [q1]
      have Q := show Hid _ from q1
      clear q0 q1
      go_enter Try.func24, Try.ntmps24
      go_wp2_with fail
      go_ret
      exact ⟨ret_bool (by rw [HS.out, show decide (n = n') = false from decide_eq_false Q.out]; simp), by rw [← hW]; exact HB.out⟩
  · have p0 : (k == k') = false := by simp [q0]
    have Q := show Hid _ from q0
    clear q0
    go_enter Try.func24, Try.ntmps24
    go_wp2_with fail
    go_ret
    exact ⟨ret_bool (by rw [HS.out, show decide (k = k') = false from decide_eq_false Q.out]; simp), by rw [← hW]; exact HB.out⟩

def EqS (e : LStmt) : Prop := ∀ (φ φ' : Nat → Prop) (v u : Value) (e' : LStmt) (w : World), StmtV w φ v e → StmtV w φ' u e' →
  Calls Try.prog 135 #[v, u] w fun x w' => x = .returned (.bool (sameS e e')) ∧ Below w.heap.size w w'

set_option maxHeartbeats 1000000 in
theorem eqStmtS_of (ks : List LStmt) (ih : ∀ e ∈ ks, EqS e) (φ φ' : Nat → Prop) (v u : Value) (ls : List LStmt) (w : World) (h : BlockV w φ v ks) (h' : BlockV w φ' u ls) :
    Calls Try.prog 71 #[v, u] w fun x w' => x = .returned (.bool (sameSs ks ls)) ∧ Below w.heap.size w w' := by
  obtain ⟨a, cap, rfl, -, hn, -, hc⟩ := h.open
  obtain ⟨a', cap', rfl, -, hn', -, hc'⟩ := h'.open
  have HC := show Hid _ from hc
  have HC' := show Hid _ from hc'
  clear hc hc' h h'
  by_cases hl : ks.length = ls.length
  · have heq : ((ks.length : Int) == (ls.length : Int)) = true := by simp; omega
    have HL := show Hid _ from hl
    clear hl
    go_enter Try.func71, Try.ntmps71
    go_wp2
    go_loopw [5] (fun i wr => ∃ k : Nat, k ≤ ks.length ∧ i = .int .i64 k ∧ ks.take k = ls.take k ∧ Below w.heap.size w wr) (fun i _ => ks.length - (intOf i).toNat)
    case atStart => exact ⟨0, Nat.zero_le _, rfl, rfl, Below.refl _ _⟩
    case round =>
      obtain ⟨k, hk, rfl, ht, hb⟩ := hrel
      have HT := show Hid _ from ht
      have HB := show Hid _ from hb
      clear ht hb
      by_cases hlt : k < ks.length
      · have hlt2 : k < ls.length := by have := HL.out; omega
        obtain ⟨b, off, iv, vv, bv, ev, rfl, hbk, hf, ⟨c0, c1, c2, c3, c4, c5, c6, c7, c8, c9, c10⟩, g1, g2, g3, g4⟩ := HC.out k hlt
        obtain ⟨b', off', iv', vv', bv', ev', rfl, hbk', hf', ⟨d0, d1, d2, d3, d4, d5, d6, d7, d8, d9, d10⟩, g1', g2', g3', g4'⟩ := HC'.out k hlt2
        rw [← (bcell HB.out).1 _ _ hbk] at c0 c1 c2 c3 c4 c5 c6 c7 c8 c9 c10
        rw [← (bcell HB.out).1 _ _ hbk'] at d0 d1 d2 d3 d4 d5 d6 d7 d8 d9 d10
        obtain ⟨q, hq⟩ : ∃ q, q = sameS ks[k] ls[k] := ⟨_, rfl⟩
        have HC3 : Hid (∀ X, Calls Try.prog 135 #[.agg #[.int .i64 ks[k].kind, .int .i64 ks[k].target, .int .i64 ks[k].index.kind, .int .i64 ks[k].index.value, iv, .int .i64 ks[k].value.kind, .int .i64 ks[k].value.value, vv, .int .i64 ks[k].count, bv, ev], .agg #[.int .i64 ls[k].kind, .int .i64 ls[k].target, .int .i64 ls[k].index.kind, .int .i64 ls[k].index.value, iv', .int .i64 ls[k].value.kind, .int .i64 ls[k].value.value, vv', .int .i64 ls[k].count, bv', ev']] (wr.ext X) fun e w'' => e = .returned (.bool q) ∧ ∃ Y, w'' = wr.ext Y) := fun X => by
          have bb := HB.out.trans ((ext_below wr X).mono HB.out.size)
          rw [hq]
          exact Calls.ext_of' (ih _ (List.getElem_mem hlt) φ φ' _ _ _ _ (StmtV.nice _ _ _ _ _ _ (Agr.below bb) ⟨iv, vv, bv, ev, rfl, g1, g2, g3, g4⟩) (StmtV.nice _ _ _ _ _ _ (Agr.below bb) ⟨iv', vv', bv', ev', rfl, g1', g2', g3', g4'⟩))
        have HQ := show Hid _ from hq
        have j0 := fun X => ext_cell c0 X
        have j1 := fun X => ext_cell c1 X
        have j2 := fun X => ext_cell c2 X
        have j3 := fun X => ext_cell c3 X
        have j4 := fun X => ext_cell c4 X
        have j5 := fun X => ext_cell c5 X
        have j6 := fun X => ext_cell c6 X
        have j7 := fun X => ext_cell c7 X
        have j8 := fun X => ext_cell c8 X
        have j9 := fun X => ext_cell c9 X
        have j10 := fun X => ext_cell c10 X
        have i0 := fun X => ext_cell d0 X
        have i1 := fun X => ext_cell d1 X
        have i2 := fun X => ext_cell d2 X
        have i3 := fun X => ext_cell d3 X
        have i4 := fun X => ext_cell d4 X
        have i5 := fun X => ext_cell d5 X
        have i6 := fun X => ext_cell d6 X
        have i7 := fun X => ext_cell d7 X
        have i8 := fun X => ext_cell d8 X
        have i9 := fun X => ext_cell d9 X
        have i10 := fun X => ext_cell d10 X
        clear g1 g2 g3 g4 g1' g2' g3' g4' hq c0 d0 c1 d1 c2 d2 c3 d3 c4 d4 c5 d5 c6 d6 c7 d7 c8 d8 c9 d9 c10 d10
        cases q
        · go_wp2_with fail
          refine wp_region_ext (by kernel_rfl) (by kernel_rfl) ?_
          repeat (any_goals (first | go_big_quiet_step (((go_at_call 135; exact HC3.out _))) | quiet_step (((go_at_call 135; exact HC3.out _)))))
          refine wpQuiet_nil ?_
          rintro _ ⟨X, rfl⟩
          go_wp2_with fail
          go_ret
          exact ⟨ret_bool (sameSs_at hlt hlt2 HQ.out.symm).symm, HB.out.trans ((ext_below wr X).mono HB.out.size)⟩
        · go_wp2_with fail
          refine wp_region_ext (by kernel_rfl) (by kernel_rfl) ?_
          repeat (any_goals (first | go_big_quiet_step (((go_at_call 135; exact HC3.out _))) | quiet_step (((go_at_call 135; exact HC3.out _)))))
          refine wpQuiet_nil ?_
          rintro _ ⟨X, rfl⟩
          go_wp2_with fail
          exact ⟨⟨k + 1, by omega, by go_num, take_eq_succ HT.out hlt hlt2 ((sameS_eq _ _).1 HQ.out.symm), HB.out.trans ((ext_below wr X).mono HB.out.size)⟩, by simp [intOf]; omega⟩
      · have hge : ¬ ((k : Int) < (ks.length : Int)) := by omega
        go_wp2_with fail
        go_ret
        exact ⟨ret_bool (by rw [take_eq_all HT.out (by omega) (by have := HL.out; omega)]; exact ((sameSs_eq _ _).2 rfl).symm), HB.out⟩
  · have hne : ((ks.length : Int) == (ls.length : Int)) = false := by simp; omega
    have HL := show Hid _ from hl
    clear hl
    go_enter Try.func71, Try.ntmps71
    go_wp2
    go_ret
    exact ⟨ret_bool (sameSs_len HL.out).symm, Below.refl _ _⟩

theorem bool_of {a b : Bool} (h : a = b) : b = a := h.symm
set_option maxHeartbeats 4000000 in
theorem eqStmt_all (s : LStmt) : EqS s := by
  refine LStmt.ind (P := EqS) (fun k t i v c b e ihb ihe => ?_) s
  intro φ φ' x u s' w h h'
  obtain ⟨iv, vv, bv, ev, rfl, g1, g2, g3, g4⟩ := h
  obtain ⟨iv', vv', bv', ev', rfl, g1', g2', g3', g4'⟩ := h'
  cases s' with
  | mk k' t' i' v' c' b' e' =>
  have HS : Hid (sameS ⟨k, t, i, v, c, b, e⟩ ⟨k', t', i', v', c', b', e'⟩ = (decide (k = k') && decide (t = t') && sameE i i' && sameE v v' && decide (c = c') && sameSs b b' && sameSs e e')) := rfl
  simp only [LStmt.index, LStmt.value, LStmt.body, LStmt.els, LStmt.kind, LStmt.target, LStmt.count] at g1 g2 g3 g4 g1' g2' g3' g4' ⊢
  obtain ⟨W, hW, M⟩ : ∃ W, W = (w.alloc (.cells #[.int .i64 k, .int .i64 t, .int .i64 i.kind, .int .i64 i.value, iv, .int .i64 v.kind, .int .i64 v.value, vv, .int .i64 c, bv, ev] 135)).alloc (.cells #[.int .i64 k', .int .i64 t', .int .i64 i'.kind, .int .i64 i'.value, iv', .int .i64 v'.kind, .int .i64 v'.value, vv', .int .i64 c', bv', ev'] 135) ∧ Mem (fun _ => True) (fun _ => True) w W [.box w.heap.size [.int .i64 k, .int .i64 t, .int .i64 i.kind, .int .i64 i.value, iv, .int .i64 v.kind, .int .i64 v.value, vv, .int .i64 c, bv, ev], .box (w.heap.size + 1) [.int .i64 k', .int .i64 t', .int .i64 i'.kind, .int .i64 i'.value, iv', .int .i64 v'.kind, .int .i64 v'.value, vv', .int .i64 c', bv', ev']] :=
    ⟨_, rfl, ((Mem.start fun _ _ => trivial).box _ _).box' _ _ (by simp)⟩
  have HG := show Hid (∀ W', Below w.heap.size w W' → ExprV W' φ (.agg #[.int .i64 i.kind, .int .i64 i.value, iv]) i ∧ ExprV W' φ (.agg #[.int .i64 v.kind, .int .i64 v.value, vv]) v ∧ BlockV W' φ bv b ∧ BlockV W' φ ev e) from fun W' k =>
    ⟨⟨iv, rfl, KidsV.nice _ _ _ _ _ _ (Agr.below k) g1⟩, ⟨vv, rfl, KidsV.nice _ _ _ _ _ _ (Agr.below k) g2⟩, BlockV.nice _ _ _ _ _ _ (Agr.below k) g3, BlockV.nice _ _ _ _ _ _ (Agr.below k) g4⟩
  have HG' := show Hid (∀ W', Below w.heap.size w W' → ExprV W' φ' (.agg #[.int .i64 i'.kind, .int .i64 i'.value, iv']) i' ∧ ExprV W' φ' (.agg #[.int .i64 v'.kind, .int .i64 v'.value, vv']) v' ∧ BlockV W' φ' bv' b' ∧ BlockV W' φ' ev' e') from fun W' k =>
    ⟨⟨iv', rfl, KidsV.nice _ _ _ _ _ _ (Agr.below k) g1'⟩, ⟨vv', rfl, KidsV.nice _ _ _ _ _ _ (Agr.below k) g2'⟩, BlockV.nice _ _ _ _ _ _ (Agr.below k) g3', BlockV.nice _ _ _ _ _ _ (Agr.below k) g4'⟩
  clear g1 g2 g3 g4 g1' g2' g3' g4'
  have c0 := M.c 0 0 rfl rfl
  have d0 := M.c 1 0 rfl rfl
  have c1 := M.c 0 1 rfl rfl
  have d1 := M.c 1 1 rfl rfl
  have c2 := M.c 0 2 rfl rfl
  have d2 := M.c 1 2 rfl rfl
  have c3 := M.c 0 3 rfl rfl
  have d3 := M.c 1 3 rfl rfl
  have c4 := M.c 0 4 rfl rfl
  have d4 := M.c 1 4 rfl rfl
  rw [hW] at c0 d0 c1 d1 c2 d2 c3 d3 c4 d4
  have HB0 := show Hid _ from M.below fun _ _ => trivial
  have HM := show Hid _ from M
  clear M
  by_cases q0 : k = k'
  rotate_left
  · have p0 : (k == k') = false := by simp [q0]
    have Q := show Hid _ from q0
    clear q0
    go_enter Try.func135, Try.ntmps135
    go_wp2_with fail
    go_ret
    exact ⟨ret_bool (by rw [HS.out, show decide (k = k') = false from decide_eq_false Q.out]; simp), by rw [← hW]; exact HB0.out⟩
  have p0 : (k == k') = true := by simp [q0]
  by_cases q1 : t = t'
  rotate_left
  · have p1 : (t == t') = false := by simp [q1]
    have Q := show Hid _ from q1
    clear q0 q1
    go_enter Try.func135, Try.ntmps135
    go_wp2_with fail
    go_ret
    exact ⟨ret_bool (by rw [HS.out, show decide (t = t') = false from decide_eq_false Q.out]; simp), by rw [← hW]; exact HB0.out⟩
  have p1 : (t == t') = true := by simp [q1]
  have Q0 := show Hid _ from And.intro q0 q1
  clear q0 q1
  go_enter Try.func135, Try.ntmps135
  go_wp2_with fail
  rw [← hW]
  have M := HM.out
  clear hW HM p0 p1 c0 d0 c1 d1 c2 d2 c3 d3 c4 d4
  refine (eqExpr_all i φ φ' _ _ i' _ (HG.out _ (M.below fun _ _ => trivial)).1 (HG'.out _ (M.below fun _ _ => trivial)).1).mono ?_
  rintro x w1 ⟨rfl, b1⟩
  replace M := M.call b1
  clear b1
  obtain ⟨r1, hq⟩ : ∃ q, q = sameE i i' := ⟨_, rfl⟩
  rw [← hq]
  have Hr1 := show Hid _ from hq
  clear hq
  have HB := show Hid _ from M.below fun _ _ => trivial
  have c5 := M.c 0 5 rfl rfl
  have d5 := M.c 1 5 rfl rfl
  have c6 := M.c 0 6 rfl rfl
  have d6 := M.c 1 6 rfl rfl
  have c7 := M.c 0 7 rfl rfl
  have d7 := M.c 1 7 rfl rfl
  have HM := show Hid _ from M
  clear M
  cases r1
  · go_wp2_with fail
    go_ret
    exact ⟨ret_bool (by rw [HS.out, ← Hr1.out]; simp), HB.out⟩
  go_wp2_with fail
  have M := HM.out
  clear HM HB c5 d5 c6 d6 c7 d7
  refine (eqExpr_all v φ φ' _ _ v' _ (HG.out _ (M.below fun _ _ => trivial)).2.1 (HG'.out _ (M.below fun _ _ => trivial)).2.1).mono ?_
  rintro x w1 ⟨rfl, b1⟩
  replace M := M.call b1
  clear b1
  obtain ⟨r2, hq⟩ : ∃ q, q = sameE v v' := ⟨_, rfl⟩
  rw [← hq]
  have Hr2 := show Hid _ from hq
  clear hq
  have HB := show Hid _ from M.below fun _ _ => trivial
  have c8 := M.c 0 8 rfl rfl
  have d8 := M.c 1 8 rfl rfl
  have c9 := M.c 0 9 rfl rfl
  have d9 := M.c 1 9 rfl rfl
  have HM := show Hid _ from M
  clear M
  cases r2
  · go_wp2_with fail
    go_ret
    exact ⟨ret_bool (by rw [HS.out, ← Hr2.out]; simp), HB.out⟩
  by_cases q4 : c = c'
  rotate_left
  · have p4 : (c == c') = false := by simp [q4]
    have Q := show Hid _ from q4
    clear q4
    go_wp2_with fail
    go_ret
    exact ⟨ret_bool (by rw [HS.out, show decide (c = c') = false from decide_eq_false Q.out]; simp), HB.out⟩
  have p4 : (c == c') = true := by simp [q4]
  have Q4 := show Hid _ from q4
  clear q4
  go_wp2_with fail
  have M := HM.out
  clear HM HB p4 c8 d8 c9 d9
  refine (eqStmtS_of b ihb φ φ' bv bv' b' _ (HG.out _ (M.below fun _ _ => trivial)).2.2.1 (HG'.out _ (M.below fun _ _ => trivial)).2.2.1).mono ?_
  rintro x w1 ⟨rfl, b1⟩
  replace M := M.call b1
  clear b1
  obtain ⟨r3, hq⟩ : ∃ q, q = sameSs b b' := ⟨_, rfl⟩
  rw [← hq]
  have Hr3 := show Hid _ from hq
  clear hq
  have HB := show Hid _ from M.below fun _ _ => trivial
  have c10 := M.c 0 10 rfl rfl
  have d10 := M.c 1 10 rfl rfl
  have HM := show Hid _ from M
  clear M
  cases r3
  · go_wp2_with fail
    go_ret
    exact ⟨ret_bool (by rw [HS.out, ← Hr3.out]; simp), HB.out⟩
  go_wp2_with fail
  have M := HM.out
  clear HM HB c10 d10
  refine (eqStmtS_of e ihe φ φ' ev ev' e' _ (HG.out _ (M.below fun _ _ => trivial)).2.2.2 (HG'.out _ (M.below fun _ _ => trivial)).2.2.2).mono ?_
  rintro x w1 ⟨rfl, b1⟩
  replace M := M.call b1
  clear b1
  obtain ⟨r4, hq⟩ : ∃ q, q = sameSs e e' := ⟨_, rfl⟩
  rw [← hq]
  have Hr4 := show Hid _ from hq
  clear hq
  have HB := show Hid _ from M.below fun _ _ => trivial
  have HM := show Hid _ from M
  clear M
  cases r4
  · go_wp2_with fail
    go_ret
    exact ⟨ret_bool (by rw [HS.out, ← Hr4.out]; simp), HB.out⟩
  go_wp2_with fail
  go_ret
  exact ⟨ret_bool (by rw [HS.out, ← Hr1.out, ← Hr2.out, ← Hr3.out, ← Hr4.out, decide_eq_true Q0.out.1, decide_eq_true Q0.out.2, decide_eq_true Q4.out]; rfl), HB.out⟩

set_option maxHeartbeats 2000000 in
theorem eqProgram_any (φ φ' : Nat → Prop) (x u : Value) (p q : LProg) (w : World) (h : ProgV w φ x p) (h' : ProgV w φ' u q) :
    Calls Try.prog 19 #[x, u] w fun e w' => e = .returned (.bool (p.same q)) ∧ Below w.heap.size w w' := by
  obtain ⟨v1, v2, v3, rfl, h1, h2, h3⟩ := h
  obtain ⟨u1, u2, u3, rfl, k1, k2, k3⟩ := h'
  have HS : Hid (p.same q = (decide (p.vars = q.vars) && decide (p.arrays = q.arrays) && sameSs p.body q.body)) := rfl
  obtain ⟨W, hW, M⟩ : ∃ W, W = (w.alloc (.cells #[v1, v2, v3] 31)).alloc (.cells #[u1, u2, u3] 31) ∧ Mem (fun _ => True) (fun _ => True) w W [.box w.heap.size [v1, v2, v3], .box (w.heap.size + 1) [u1, u2, u3]] :=
    ⟨_, rfl, ((Mem.start fun _ _ => trivial).box _ _).box' _ _ (by simp)⟩
  have HG := show Hid (∀ W', Below w.heap.size w W' → (Row W' v1 p.vars.length 1 (ints p.vars) ∧ Row W' v2 p.arrays.length 1 (ints p.arrays) ∧ BlockV W' φ v3 p.body) ∧ (Row W' u1 q.vars.length 1 (ints q.vars) ∧ Row W' u2 q.arrays.length 1 (ints q.arrays) ∧ BlockV W' φ' u3 q.body)) from fun W' k =>
    ⟨⟨h1.row.below k, h2.row.below k, BlockV.nice _ _ _ _ _ _ (Agr.below k) h3⟩, k1.row.below k, k2.row.below k, BlockV.nice _ _ _ _ _ _ (Agr.below k) k3⟩
  clear h1 h2 h3 k1 k2 k3
  have c0 := M.c 0 0 rfl rfl
  have d0 := M.c 1 0 rfl rfl
  rw [hW] at c0 d0
  have HM := show Hid _ from M
  clear M
  go_enter Try.func19, Try.ntmps19
  go_wp2_with fail
  rw [← hW]
  have M := HM.out
  clear hW HM c0 d0
  refine (eqIntS_any _ _ p.vars q.vars _ (HG.out _ (M.below fun _ _ => trivial)).1.1 (HG.out _ (M.below fun _ _ => trivial)).2.1).mono ?_
  rintro x w1 ⟨rfl, n1, rfl⟩
  replace M := M.call (below_drewN (Below.refl _ _) n1)
  obtain ⟨r1, hq⟩ : ∃ r, r = decide (p.vars = q.vars) := ⟨_, rfl⟩
  rw [← hq]
  have Hr1 := show Hid _ from hq
  clear hq
  have HB := show Hid _ from M.below fun _ _ => trivial
  have c1 := M.c 0 1 rfl rfl
  have d1 := M.c 1 1 rfl rfl
  have HM := show Hid _ from M
  clear M
  cases r1
  · go_wp2_with fail
    go_ret
    exact ⟨ret_bool (by rw [HS.out, ← Hr1.out]; simp), HB.out⟩
  go_wp2_with fail
  have M := HM.out
  clear HM HB c1 d1
  refine (eqIntS_any _ _ p.arrays q.arrays _ (HG.out _ (M.below fun _ _ => trivial)).1.2.1 (HG.out _ (M.below fun _ _ => trivial)).2.2.1).mono ?_
  rintro x w1 ⟨rfl, n2, rfl⟩
  replace M := M.call (below_drewN (Below.refl _ _) n2)
  rw [World.drewN_drewN] at M
  obtain ⟨r2, hq⟩ : ∃ r, r = decide (p.arrays = q.arrays) := ⟨_, rfl⟩
  rw [← hq]
  have Hr2 := show Hid _ from hq
  clear hq
  have HB := show Hid _ from M.below fun _ _ => trivial
  have c2 := M.c 0 2 rfl rfl
  have d2 := M.c 1 2 rfl rfl
  have HM := show Hid _ from M
  clear M
  cases r2
  · go_wp2_with fail
    go_ret
    exact ⟨ret_bool (by rw [HS.out, ← Hr2.out]; simp), HB.out⟩
  go_wp2_with fail
  have M := HM.out
  clear HM HB c2 d2
  refine (eqStmtS_of p.body (fun s _ => eqStmt_all s) φ φ' v3 u3 q.body _ (HG.out _ (M.below fun _ _ => trivial)).1.2.2 (HG.out _ (M.below fun _ _ => trivial)).2.2.2).mono ?_
  rintro x w1 ⟨rfl, b1⟩
  replace M := M.call b1
  clear b1
  obtain ⟨r3, hq⟩ : ∃ r, r = sameSs p.body q.body := ⟨_, rfl⟩
  rw [← hq]
  have Hr3 := show Hid _ from hq
  clear hq
  have HB := show Hid _ from M.below fun _ _ => trivial
  clear M
  cases r3
  · go_wp2_with fail
    go_ret
    exact ⟨ret_bool (by rw [HS.out, ← Hr3.out]; simp), HB.out⟩
  go_wp2_with fail
  go_ret
  exact ⟨ret_bool (by rw [HS.out, ← Hr1.out, ← Hr2.out, ← Hr3.out]; rfl), HB.out⟩

end Go.Proofs.Ytgpkdfefgcpbiaa
