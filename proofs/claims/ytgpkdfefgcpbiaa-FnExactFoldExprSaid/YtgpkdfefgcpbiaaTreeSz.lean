/-
  How much a tree takes: the laws' helpers szExpr, szStmt, szProgram. Conditions: the argument reads as a tree.
-/
import Derived.Test.YtgpkdfefgcpbiaaTree1
namespace Go.Proofs.Ytgpkdfefgcpbiaa
set_option linter.unusedVariables false
set_option linter.unusedSimpArgs false
open Go Go.RowKit

theorem szEs_drop (ks : List LExpr) (k : Nat) : szEs ks = szEs (ks.take k) + szEs (ks.drop k) := by
  have := szEs_append (ks.take k) (ks.drop k)
  rwa [List.take_append_drop] at this
theorem szEs_take1 {ks : List LExpr} {k : Nat} (h : k < ks.length) : szEs (ks.take (k + 1)) = szEs (ks.take k) + (1 + szE ks[k]) := by
  rw [take_succ_get _ _ h, szEs_append]
  simp [szEs]
theorem szSs_drop (ks : List LStmt) (k : Nat) : szSs ks = szSs (ks.take k) + szSs (ks.drop k) := by
  have := szSs_append (ks.take k) (ks.drop k)
  rwa [List.take_append_drop] at this
theorem szSs_take1 {ks : List LStmt} {k : Nat} (h : k < ks.length) : szSs (ks.take (k + 1)) = szSs (ks.take k) + (1 + szS ks[k]) := by
  rw [take_succ_get _ _ h, szSs_append]
  simp [szSs]

def SzE (e : LExpr) : Prop := ∀ (φ : Nat → Prop) (v : Value) (m : Int) (w : World), ExprV w φ v e → 0 ≤ m → m ≤ 1048576 →
  Calls Try.prog 20 #[v, .int .i64 m] w fun e' w' => e' = .returned (.int .i64 (szRes m (szE e))) ∧ Below w.heap.size w w'

set_option maxHeartbeats 1000000 in
theorem szExprS_of (ks : List LExpr) (ih : ∀ e ∈ ks, SzE e) (φ : Nat → Prop) (v : Value) (m : Int) (w : World) (h : KidsV w φ v ks) (hm : 0 ≤ m) (hm2 : m ≤ 1048576) :
    Calls Try.prog 72 #[v, .int .i64 m] w fun e w' => e = .returned (.int .i64 (szRes m (szEs ks))) ∧ Below w.heap.size w w' := by
  obtain ⟨a, cap, rfl, -, hn, -, hc⟩ := h.open
  have hlen := szEs_len ks
  by_cases hlt : m < (ks.length : Int)
  · have hneg := show Hid (szRes m (szEs ks) = -1) from szRes_neg (by omega)
    clear hc h hlen
    go_enter Try.func72, Try.ntmps72
    go_wp2
    go_ret
    exact ⟨ret_int hneg.out.symm, Below.refl _ _⟩
  · have HC := show Hid _ from hc
    have HL := show Hid _ from hlen
    clear hc h hlen
    go_enter Try.func72, Try.ntmps72
    go_wp2
    go_loopw [1, 5] (fun l i wr => ∃ (k : Nat) (y : Int), k ≤ ks.length ∧ i = .int .i64 k ∧ l = .int .i64 y ∧ y = m - ks.length + k - szEs (ks.take k) ∧ 0 ≤ y ∧ Below w.heap.size w wr) (fun _ i _ => ks.length - (intOf i).toNat)
    case atStart => exact ⟨0, m - ks.length, Nat.zero_le _, rfl, rfl, by simp [szEs], by omega, Below.refl _ _⟩
    case round =>
      obtain ⟨k, y, hk, rfl, rfl, hye, hy, hb⟩ := hrel
      have HY := show Hid _ from hye
      have HB := show Hid _ from hb
      have hy2 : y ≤ 1048576 := by have := szEs_take1 (ks := ks) (k := k); have : k ≤ szEs (ks.take k) := by have := szEs_len (ks.take k); rw [List.length_take] at this; omega
                                   omega
      clear hye hb
      by_cases hlk : k < ks.length
      · obtain ⟨b, off, kv, rfl, hbk, hf, c0, c1, c2, hkv⟩ := HC.out k hlk
        rw [← (bcell HB.out).1 _ _ hbk] at c0 c1 c2
        have HE := show Hid (ExprV wr φ (.agg #[.int .i64 ks[k].kind, .int .i64 ks[k].value, kv]) ks[k]) from ⟨kv, rfl, KidsV.nice _ _ _ _ _ _ (Agr.below HB.out) hkv⟩
        clear hkv
        go_wp2_with fail
        refine (ih _ (List.getElem_mem hlk) φ _ y _ HE.out hy hy2).mono ?_
        rintro e w1 ⟨rfl, b1⟩
        have B1 := show Hid _ from HB.out.trans (b1.mono HB.out.size)
        by_cases hs : y < (szE ks[k] : Int)
        · rw [szRes_neg hs]
          have hneg := show Hid (szRes m (szEs ks) = -1) from by
            have h1 := szEs_drop ks (k + 1)
            have h2 := szEs_take1 hlk
            have h3 := szEs_len (ks.drop (k + 1))
            rw [List.length_drop] at h3
            have h4 := HY.out
            exact szRes_neg (by omega)
          clear hs
          go_wp2_with fail
          go_ret
          exact ⟨ret_int hneg.out.symm, B1.out⟩
        · rw [szRes_pos hs]
          have hnn : ¬ (y - (szE ks[k] : Int) < 0) := by omega
          have hlo : y - (szE ks[k] : Int) ≤ 1048576 := by omega
          have HS := show Hid _ from hs
          clear hs
          go_wp2_with fail
          exact ⟨⟨k + 1, _, by omega, by go_num, rfl, by rw [HY.out, szEs_take1 hlk]; omega, by omega, B1.out⟩, by simp [intOf]; omega⟩
      · have hkn : k = ks.length := by omega
        subst hkn
        go_wp2_with fail
        go_ret
        exact ⟨ret_int (by have h4 := HY.out; rw [List.take_of_length_le (Nat.le_refl _)] at h4; rw [szRes_pos (by omega), h4]; omega), HB.out⟩

set_option maxHeartbeats 1000000 in
theorem szExpr_all (e : LExpr) : SzE e := by
  refine LExpr.ind (P := SzE) (fun k n ks ih => ?_) e
  intro φ v m w h hm hm2
  obtain ⟨kv, rfl, hk⟩ := h
  have bx : Below w.heap.size w (w.alloc (.cells #[.int .i64 k, .int .i64 n, kv] 37)) := by go_grown
  have HS := show Hid (szE ⟨k, n, ks⟩ = szEs ks) from rfl
  have hk1 := KidsV.nice _ _ _ _ _ _ (Agr.below bx) hk
  have HK := show Hid _ from hk1
  have HB := show Hid _ from bx
  clear hk hk1 bx
  go_enter Try.func20, Try.ntmps20
  go_wp2_with fail
  refine (szExprS_of ks ih φ kv m _ HK.out hm hm2).mono ?_
  rintro e w1 ⟨rfl, b1⟩
  have B1 := show Hid _ from HB.out.trans (b1.mono HB.out.size)
  by_cases hs : m < (szEs ks : Int)
  · rw [szRes_neg hs]
    go_wp2_with fail
    go_ret
    exact ⟨ret_int (by rw [HS.out]; exact (szRes_neg (by omega)).symm), B1.out⟩
  · rw [szRes_pos hs]
    have hnn : ¬ (m - (szEs ks : Int) < 0) := by omega
    have hlo : m - (szEs ks : Int) ≤ 1048576 := by omega
    go_wp2_with fail
    go_ret
    exact ⟨ret_int (by rw [HS.out]; exact (szRes_pos (by omega)).symm), B1.out⟩

def SzS (e : LStmt) : Prop := ∀ (φ : Nat → Prop) (v : Value) (m : Int) (w : World), StmtV w φ v e → 0 ≤ m → m ≤ 1048576 →
  Calls Try.prog 128 #[v, .int .i64 m] w fun e' w' => e' = .returned (.int .i64 (szRes m (szS e))) ∧ Below w.heap.size w w'

set_option maxHeartbeats 1000000 in
theorem szStmtS_of (ks : List LStmt) (ih : ∀ e ∈ ks, SzS e) (φ : Nat → Prop) (v : Value) (m : Int) (w : World) (h : BlockV w φ v ks) (hm : 0 ≤ m) (hm2 : m ≤ 1048576) :
    Calls Try.prog 64 #[v, .int .i64 m] w fun e w' => e = .returned (.int .i64 (szRes m (szSs ks))) ∧ Below w.heap.size w w' := by
  obtain ⟨a, cap, rfl, -, hn, -, hc⟩ := h.open
  have hlen := szSs_len ks
  by_cases hlt : m < (ks.length : Int)
  · have hneg := show Hid (szRes m (szSs ks) = -1) from szRes_neg (by omega)
    clear hc h hlen
    go_enter Try.func64, Try.ntmps64
    go_wp2
    go_ret
    exact ⟨ret_int hneg.out.symm, Below.refl _ _⟩
  · have HC := show Hid _ from hc
    have HL := show Hid _ from hlen
    clear hc h hlen
    go_enter Try.func64, Try.ntmps64
    go_wp2
    go_loopw [1, 5] (fun l i wr => ∃ (k : Nat) (y : Int), k ≤ ks.length ∧ i = .int .i64 k ∧ l = .int .i64 y ∧ y = m - ks.length + k - szSs (ks.take k) ∧ 0 ≤ y ∧ Below w.heap.size w wr) (fun _ i _ => ks.length - (intOf i).toNat)
    case atStart => exact ⟨0, m - ks.length, Nat.zero_le _, rfl, rfl, by simp [szSs], by omega, Below.refl _ _⟩
    case round =>
      obtain ⟨k, y, hk, rfl, rfl, hye, hy, hb⟩ := hrel
      have HY := show Hid _ from hye
      have HB := show Hid _ from hb
      have hy2 : y ≤ 1048576 := by have := szSs_take1 (ks := ks) (k := k); have : k ≤ szSs (ks.take k) := by have := szSs_len (ks.take k); rw [List.length_take] at this; omega
                                   omega
      clear hye hb
      by_cases hlk : k < ks.length
      · obtain ⟨b, off, iv, vv, bv, ev, rfl, hbk, hf, ⟨c0, c1, c2, c3, c4, c5, c6, c7, c8, c9, c10⟩, g1, g2, g3, g4⟩ := HC.out k hlk
        rw [← (bcell HB.out).1 _ _ hbk] at c0 c1 c2 c3 c4 c5 c6 c7 c8 c9 c10
        have HE := show Hid (StmtV wr φ (.agg #[.int .i64 ks[k].kind, .int .i64 ks[k].target, .int .i64 ks[k].index.kind, .int .i64 ks[k].index.value, iv, .int .i64 ks[k].value.kind, .int .i64 ks[k].value.value, vv, .int .i64 ks[k].count, bv, ev]) ks[k]) from StmtV.nice _ _ _ _ _ _ (Agr.below HB.out) ⟨iv, vv, bv, ev, rfl, g1, g2, g3, g4⟩
        clear g1 g2 g3 g4
        go_wp2_with fail
        refine (ih _ (List.getElem_mem hlk) φ _ y _ HE.out hy hy2).mono ?_
        rintro e w1 ⟨rfl, b1⟩
        have B1 := show Hid _ from HB.out.trans (b1.mono HB.out.size)
        by_cases hs : y < (szS ks[k] : Int)
        · rw [szRes_neg hs]
          have hneg := show Hid (szRes m (szSs ks) = -1) from by
            have h1 := szSs_drop ks (k + 1)
            have h2 := szSs_take1 hlk
            have h3 := szSs_len (ks.drop (k + 1))
            rw [List.length_drop] at h3
            have h4 := HY.out
            exact szRes_neg (by omega)
          clear hs
          go_wp2_with fail
          go_ret
          exact ⟨ret_int hneg.out.symm, B1.out⟩
        · rw [szRes_pos hs]
          have hnn : ¬ (y - (szS ks[k] : Int) < 0) := by omega
          have hlo : y - (szS ks[k] : Int) ≤ 1048576 := by omega
          have HS := show Hid _ from hs
          clear hs
          go_wp2_with fail
          exact ⟨⟨k + 1, _, by omega, by go_num, rfl, by rw [HY.out, szSs_take1 hlk]; omega, by omega, B1.out⟩, by simp [intOf]; omega⟩
      · have hkn : k = ks.length := by omega
        subst hkn
        go_wp2_with fail
        go_ret
        exact ⟨ret_int (by have h4 := HY.out; rw [List.take_of_length_le (Nat.le_refl _)] at h4; rw [szRes_pos (by omega), h4]; omega), HB.out⟩

theorem szRes_sub {m : Int} {a b : Nat} (h : ¬ m < (a : Int)) : szRes (m - a) b = szRes m (a + b) := by
  by_cases h2 : m - a < (b : Int)
  · rw [szRes_neg h2, szRes_neg (by omega)]
  · rw [szRes_pos h2, szRes_pos (by omega)]; omega

set_option maxHeartbeats 2000000 in
theorem szStmt_all (s : LStmt) : SzS s := by
  refine LStmt.ind (P := SzS) (fun k t i v c b e ihb ihe => ?_) s
  intro φ u m w h hm hm2
  obtain ⟨iv, vv, bv, ev, rfl, g1, g2, g3, g4⟩ := h
  simp only [LStmt.index, LStmt.value, LStmt.body, LStmt.els, LStmt.kind, LStmt.target, LStmt.count] at g1 g2 g3 g4 ⊢
  have HS := show Hid (szS ⟨k, t, i, v, c, b, e⟩ = szE i + szE v + szSs b + szSs e) from rfl
  obtain ⟨W, hW, M⟩ : ∃ W, W = w.alloc (.cells #[.int .i64 k, .int .i64 t, .int .i64 i.kind, .int .i64 i.value, iv, .int .i64 v.kind, .int .i64 v.value, vv, .int .i64 c, bv, ev] 139) ∧ Mem (fun _ => True) (fun _ => True) w W [.box w.heap.size [.int .i64 k, .int .i64 t, .int .i64 i.kind, .int .i64 i.value, iv, .int .i64 v.kind, .int .i64 v.value, vv, .int .i64 c, bv, ev]] :=
    ⟨_, rfl, (Mem.start fun _ _ => trivial).box _ _⟩
  have HG := show Hid (∀ W', Below w.heap.size w W' → ExprV W' φ (.agg #[.int .i64 i.kind, .int .i64 i.value, iv]) i ∧ ExprV W' φ (.agg #[.int .i64 v.kind, .int .i64 v.value, vv]) v ∧ BlockV W' φ bv b ∧ BlockV W' φ ev e) from fun W' k =>
    ⟨⟨iv, rfl, KidsV.nice _ _ _ _ _ _ (Agr.below k) g1⟩, ⟨vv, rfl, KidsV.nice _ _ _ _ _ _ (Agr.below k) g2⟩, BlockV.nice _ _ _ _ _ _ (Agr.below k) g3, BlockV.nice _ _ _ _ _ _ (Agr.below k) g4⟩
  clear g1 g2 g3 g4
  have c2 := M.c 0 2 rfl rfl
  have c3 := M.c 0 3 rfl rfl
  have c4 := M.c 0 4 rfl rfl
  rw [hW] at c2 c3 c4
  go_enter Try.func128, Try.ntmps128
  go_wp2_with fail
  rw [← hW]
  clear hW c2 c3 c4
  refine (szExpr_all i φ _ m _ (HG.out _ (M.below fun _ _ => trivial)).1 hm hm2).mono ?_
  rintro x w1 ⟨rfl, b1⟩
  replace M := M.call b1
  clear b1
  by_cases h1 : m < (szE i : Int)
  · rw [szRes_neg h1]
    have HB := show Hid _ from M.below fun _ _ => trivial
    have HN := show Hid (szRes m (szE i + szE v + szSs b + szSs e) = -1) from szRes_neg (by omega)
    clear h1 M
    go_wp2_with fail
    go_ret
    exact ⟨ret_int (by rw [HS.out]; exact HN.out.symm), HB.out⟩
  have hx1 : 0 ≤ m - (szE i : Int) := by omega
  have hy1 : m - (szE i : Int) ≤ 1048576 := by omega
  rw [szRes_pos h1]
  have c5 := M.c 0 5 rfl rfl
  have c6 := M.c 0 6 rfl rfl
  have c7 := M.c 0 7 rfl rfl
  clear h1
  have HM := show Hid _ from M
  clear M
  go_wp2_with fail
  have M := HM.out
  clear HM c5 c6 c7
  refine (szExpr_all v φ _ _ _ (HG.out _ (M.below fun _ _ => trivial)).2.1 hx1 hy1).mono ?_
  rintro x w2 ⟨rfl, b1⟩
  replace M := M.call b1
  clear b1
  by_cases h2 : m - (szE i : Int) < (szE v : Int)
  · rw [szRes_neg h2]
    have HB := show Hid _ from M.below fun _ _ => trivial
    have HN := show Hid (szRes m (szE i + szE v + szSs b + szSs e) = -1) from szRes_neg (by omega)
    clear h2 M
    go_wp2_with fail
    go_ret
    exact ⟨ret_int (by rw [HS.out]; exact HN.out.symm), HB.out⟩
  have hx2 : 0 ≤ m - (szE i : Int) - (szE v : Int) := by omega
  have hy2 : m - (szE i : Int) - (szE v : Int) ≤ 1048576 := by omega
  rw [szRes_pos h2]
  have c9 := M.c 0 9 rfl rfl
  clear h2
  have HM := show Hid _ from M
  clear M
  go_wp2_with fail
  have M := HM.out
  clear HM c9
  refine (szStmtS_of b ihb φ _ _ _ (HG.out _ (M.below fun _ _ => trivial)).2.2.1 hx2 hy2).mono ?_
  rintro x w3 ⟨rfl, b1⟩
  replace M := M.call b1
  clear b1
  by_cases h3 : m - (szE i : Int) - (szE v : Int) < (szSs b : Int)
  · rw [szRes_neg h3]
    have HB := show Hid _ from M.below fun _ _ => trivial
    have HN := show Hid (szRes m (szE i + szE v + szSs b + szSs e) = -1) from szRes_neg (by omega)
    clear h3 M
    go_wp2_with fail
    go_ret
    exact ⟨ret_int (by rw [HS.out]; exact HN.out.symm), HB.out⟩
  have hx3 : 0 ≤ m - (szE i : Int) - (szE v : Int) - (szSs b : Int) := by omega
  have hy3 : m - (szE i : Int) - (szE v : Int) - (szSs b : Int) ≤ 1048576 := by omega
  rw [szRes_pos h3]
  have c10 := M.c 0 10 rfl rfl
  clear h3
  have HM := show Hid _ from M
  clear M
  go_wp2_with fail
  have M := HM.out
  clear HM c10
  refine (szStmtS_of e ihe φ _ _ _ (HG.out _ (M.below fun _ _ => trivial)).2.2.2 hx3 hy3).mono ?_
  rintro x w4 ⟨rfl, b1⟩
  replace M := M.call b1
  clear b1
  have HB := show Hid _ from M.below fun _ _ => trivial
  clear M
  by_cases h4 : m - (szE i : Int) - (szE v : Int) - (szSs b : Int) < (szSs e : Int)
  · rw [szRes_neg h4]
    have HN := show Hid (szRes m (szE i + szE v + szSs b + szSs e) = -1) from szRes_neg (by omega)
    clear h4
    go_wp2_with fail
    go_ret
    exact ⟨ret_int (by rw [HS.out]; exact HN.out.symm), HB.out⟩
  · rw [szRes_pos h4]
    have HN := show Hid (szRes m (szE i + szE v + szSs b + szSs e) = m - (szE i : Int) - (szE v : Int) - (szSs b : Int) - (szSs e : Int)) from by unfold Hid; rw [szRes_pos (by omega)]; omega
    have hx4 : ¬ (m - (szE i : Int) - (szE v : Int) - (szSs b : Int) - (szSs e : Int) < 0) := by omega
    have hy4 : m - (szE i : Int) - (szE v : Int) - (szSs b : Int) - (szSs e : Int) ≤ 1048576 := by omega
    clear h4
    go_wp2_with fail
    go_ret
    exact ⟨ret_int (by rw [HS.out]; exact HN.out.symm), HB.out⟩

set_option maxHeartbeats 1000000 in
theorem szProgram_any (φ : Nat → Prop) (u : Value) (p : LProg) (m : Int) (w : World) (h : ProgV w φ u p) (hm : 0 ≤ m) (hm2 : m ≤ 1048576) :
    Calls Try.prog 15 #[u, .int .i64 m] w fun e w' => e = .returned (.int .i64 (szRes m p.size)) ∧ Below w.heap.size w w' := by
  obtain ⟨v1, v2, v3, rfl, h1, h2, h3⟩ := h
  have HS : Hid (p.size = p.vars.length + p.arrays.length + szSs p.body) := rfl
  obtain ⟨W, hW, M⟩ : ∃ W, W = w.alloc (.cells #[v1, v2, v3] 25) ∧ Mem (fun _ => True) (fun _ => True) w W [.box w.heap.size [v1, v2, v3]] :=
    ⟨_, rfl, (Mem.start fun _ _ => trivial).box _ _⟩
  have HG := show Hid (∀ W', Below w.heap.size w W' → Row W' v1 p.vars.length 1 (ints p.vars) ∧ Row W' v2 p.arrays.length 1 (ints p.arrays) ∧ BlockV W' φ v3 p.body) from fun W' k =>
    ⟨h1.row.below k, h2.row.below k, BlockV.nice _ _ _ _ _ _ (Agr.below k) h3⟩
  clear h1 h2 h3
  have c0 := M.c 0 0 rfl rfl
  rw [hW] at c0
  go_enter Try.func15, Try.ntmps15
  go_wp2_with fail
  rw [← hW]
  clear hW c0
  refine (szIntS_any v1 p.vars.length _ m _ (HG.out _ (M.below fun _ _ => trivial)).1 hm hm2).mono ?_
  rintro x w1 ⟨rfl, rfl⟩
  by_cases q1 : m < (p.vars.length : Int)
  · rw [szRes_neg q1]
    have HB := show Hid _ from M.below fun _ _ => trivial
    have HN := show Hid (szRes m (p.vars.length + p.arrays.length + szSs p.body) = -1) from szRes_neg (by omega)
    clear q1 M
    go_wp2_with fail
    go_ret
    exact ⟨ret_int (by rw [HS.out]; exact HN.out.symm), HB.out⟩
  have hx1 : 0 ≤ m - (p.vars.length : Int) := by omega
  have hy1 : m - (p.vars.length : Int) ≤ 1048576 := by omega
  rw [szRes_pos q1]
  have c1 := M.c 0 1 rfl rfl
  clear q1
  have HM := show Hid _ from M
  clear M
  go_wp2_with fail
  have M := HM.out
  clear HM c1
  refine (szIntS_any v2 p.arrays.length _ _ _ (HG.out _ (M.below fun _ _ => trivial)).2.1 hx1 hy1).mono ?_
  rintro x w1 ⟨rfl, rfl⟩
  by_cases q2 : m - (p.vars.length : Int) < (p.arrays.length : Int)
  · rw [szRes_neg q2]
    have HB := show Hid _ from M.below fun _ _ => trivial
    have HN := show Hid (szRes m (p.vars.length + p.arrays.length + szSs p.body) = -1) from szRes_neg (by omega)
    clear q2 M
    go_wp2_with fail
    go_ret
    exact ⟨ret_int (by rw [HS.out]; exact HN.out.symm), HB.out⟩
  have hx2 : 0 ≤ m - (p.vars.length : Int) - (p.arrays.length : Int) := by omega
  have hy2 : m - (p.vars.length : Int) - (p.arrays.length : Int) ≤ 1048576 := by omega
  rw [szRes_pos q2]
  have c2 := M.c 0 2 rfl rfl
  clear q2
  have HM := show Hid _ from M
  clear M
  go_wp2_with fail
  have M := HM.out
  clear HM c2
  refine (szStmtS_of p.body (fun s _ => szStmt_all s) φ _ _ _ (HG.out _ (M.below fun _ _ => trivial)).2.2 hx2 hy2).mono ?_
  rintro x w3 ⟨rfl, b1⟩
  replace M := M.call b1
  clear b1
  have HB := show Hid _ from M.below fun _ _ => trivial
  clear M
  by_cases q3 : m - (p.vars.length : Int) - (p.arrays.length : Int) < (szSs p.body : Int)
  · rw [szRes_neg q3]
    have HN := show Hid (szRes m (p.vars.length + p.arrays.length + szSs p.body) = -1) from szRes_neg (by omega)
    clear q3
    go_wp2_with fail
    go_ret
    exact ⟨ret_int (by rw [HS.out]; exact HN.out.symm), HB.out⟩
  · rw [szRes_pos q3]
    have HN := show Hid (szRes m (p.vars.length + p.arrays.length + szSs p.body) = m - (p.vars.length : Int) - (p.arrays.length : Int) - (szSs p.body : Int)) from by unfold Hid; rw [szRes_pos (by omega)]; omega
    have hx4 : ¬ (m - (p.vars.length : Int) - (p.arrays.length : Int) - (szSs p.body : Int) < 0) := by omega
    have hy4 : m - (p.vars.length : Int) - (p.arrays.length : Int) - (szSs p.body : Int) ≤ 1048576 := by omega
    clear q3
    go_wp2_with fail
    go_ret
    exact ⟨ret_int (by rw [HS.out]; exact HN.out.symm), HB.out⟩

end Go.Proofs.Ytgpkdfefgcpbiaa
