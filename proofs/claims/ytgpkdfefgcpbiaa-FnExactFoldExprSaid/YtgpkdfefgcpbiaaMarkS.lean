/-
  Marks laid on owned statements and programs: the laws' helpers markStmtS, markProgram. Conditions: the argument is owned.
-/
import Derived.Test.YtgpkdfefgcpbiaaMemT
import Derived.Test.YtgpkdfefgcpbiaaTreeHeld
namespace Go.Proofs.Ytgpkdfefgcpbiaa
set_option linter.unusedVariables false
set_option linter.unusedSimpArgs false
open Go Go.RowKit

/-! Cells of one element, as a list of their own. -/
theorem setFrom_get (us : List Value) : ∀ (ys : List Value) (p q : Nat), p + us.length ≤ ys.length → (setFrom ys p us)[q]? = if p ≤ q ∧ q < p + us.length then us[q - p]? else ys[q]? := by
  induction us with
  | nil => intro ys p q _; simp only [setFrom, List.length_nil]; split; omega; rfl
  | cons u r ih =>
    intro ys p q h
    simp only [List.length_cons] at h
    simp only [setFrom, List.length_cons]
    rw [ih _ _ _ (by simp; omega)]
    by_cases h1 : q = p
    · subst h1
      rw [if_neg (by omega), if_pos (by omega), List.getElem?_set_self (by omega), Nat.sub_self]; rfl
    · by_cases h2 : p + 1 ≤ q ∧ q < p + 1 + r.length
      · rw [if_pos h2, if_pos (by omega), show q - p = q - (p + 1) + 1 by omega]; rfl
      · rw [if_neg h2, if_neg (by omega), List.getElem?_set_ne (by omega)]
theorem setFrom_self {xs cs : List Value} {p : Nat} (h : p + cs.length ≤ xs.length) (hc : ∀ j, j < cs.length → xs[p + j]? = cs[j]?) : setFrom xs p cs = xs := by
  apply List.ext_getElem?
  intro q
  rw [setFrom_get _ _ _ _ h]
  split
  · rename_i h1
    rw [← hc _ (by omega)]; congr 1; omega
  · rfl
theorem setFrom_set {xs cs : List Value} {p k : Nat} (u : Value) (h : p + cs.length ≤ xs.length) (hk : k < cs.length) : (setFrom xs p cs).set (p + k) u = setFrom xs p (cs.set k u) := by
  apply List.ext_getElem?
  intro q
  rw [setFrom_get _ _ _ _ (by simpa using h), List.getElem?_set, setFrom_get _ _ _ _ h, setFrom_len, List.length_set]
  by_cases h1 : p + k = q
  · subst h1
    rw [if_pos rfl, if_pos (by omega), if_pos (by omega), Nat.add_sub_cancel_left, List.getElem?_set_self hk]
  · rw [if_neg h1]
    split
    · rw [List.getElem?_set_ne (by omega)]
    · rfl

def Res.plain : Res → Prop
  | .dat _ => False
  | _ => True
theorem Res.holds_plain {w : World} {φ φ' : Nat → Prop} {r : Res} (hp : r.plain) (h : r.holds w φ) : r.holds w φ' := by
  cases r with
  | dat R => exact hp.elim
  | box b cs => exact h
  | row e sz v n xs => exact h
  | own S R => exact h
/-- A thing that was there is taken up. -/
theorem Mem.adopt {φ ψ : Nat → Prop} {w0 w : World} {L : List Res} (M : Mem φ ψ w0 w L) (r : Res) (hL : ∀ a ∈ L, a.plain) (hp : r.plain) (h : r.holds w (fun _ => True)) (hd : ∀ a ∈ L, ∀ g, r.blk g → ¬ a.blk g) (hg : ∀ g, r.blk g → ¬ ψ g) : Mem φ ψ w0 w (L ++ [r]) := by
  have get : ∀ (i : Nat) (x : Res), (L ++ [r])[i]? = some x → (i < L.length ∧ x ∈ L ∧ L[i]? = some x) ∨ (i = L.length ∧ x = r) := by
    intro k z hz
    rcases Nat.lt_or_ge k L.length with hk | hk
    · rw [List.getElem?_append_left hk] at hz; exact .inl ⟨hk, List.mem_of_getElem? hz, hz⟩
    · rw [List.getElem?_append_right hk] at hz
      have : k - L.length = 0 := by
        rcases Nat.eq_zero_or_pos (k - L.length) with h | h
        · exact h
        · rw [List.getElem?_eq_none (by rw [List.length_singleton]; exact h)] at hz; cases hz
      rw [this] at hz; simp at hz
      exact .inr ⟨by omega, hz.symm⟩
  refine ⟨M.kept, M.fresh, fun x hx => ?_, fun i j x y g hi hj hij hx hy => ?_, fun x g hx hxg => ?_⟩
  · rcases List.mem_append.1 hx with hx | hx
    · exact Res.holds_plain (hL x hx) (M.holds x hx)
    · rw [List.mem_singleton] at hx; subst hx; exact Res.holds_plain hp h
  · rcases get i x hi with ⟨hi1, hi2, hi3⟩ | ⟨hi1, rfl⟩ <;> rcases get j y hj with ⟨hj1, hj2, hj3⟩ | ⟨hj1, rfl⟩
    · exact M.dis i j x y g hi3 hj3 hij hx hy
    · exact hd x hi2 g hy hx
    · exact hd y hj2 g hx hy
    · omega
  · rcases List.mem_append.1 hx with hx | hx
    · exact M.ge x g hx hxg
    · rw [List.mem_singleton] at hx; subst hx; exact .inr (hg g hxg)

/-! Marks of statements. -/
def mxS (ks : List LStmt) (k : Int) (i : Nat) : List LStmt := (mkSs ks k).take i ++ ks.drop i
theorem mkSs_len : ∀ (ks : List LStmt) (k : Int), (mkSs ks k).length = ks.length
  | [], _ => rfl
  | _ :: r, k => by simp [mkSs, mkSs_len r]
theorem mkN_append (a b : List LStmt) : mkN (a ++ b) = mkN a + mkN b := by
  induction a with
  | nil => simp [mkN]
  | cons x r ih => simp only [List.cons_append, mkN, ih]; omega
theorem mkSs_get : ∀ (ks : List LStmt) (k : Int) (i : Nat) (h : i < ks.length), (mkSs ks k)[i]? = some (mkS ks[i] (k + mkN (ks.take i)))
  | [], _, i, h => by simp at h
  | e :: r, k, 0, _ => by simp [mkSs, mkN]
  | e :: r, k, i + 1, h => by
    simp only [mkSs, List.getElem?_cons_succ, List.getElem_cons_succ, List.take_succ_cons, mkN]
    rw [mkSs_get r _ i (by simpa using h)]
    congr 2
    omega
theorem mxS_len (ks : List LStmt) (k : Int) {i : Nat} (h : i ≤ ks.length) : (mxS ks k i).length = ks.length := by simp [mxS, mkSs_len]; omega
theorem mxS_zero (ks : List LStmt) (k : Int) : mxS ks k 0 = ks := by simp [mxS]
theorem mxS_all (ks : List LStmt) (k : Int) : mxS ks k ks.length = mkSs ks k := by
  unfold mxS; rw [List.drop_length, List.append_nil, List.take_of_length_le (by rw [mkSs_len]; exact Nat.le_refl _)]
theorem mxS_at (ks : List LStmt) (k : Int) {i : Nat} (h : i < ks.length) : (mxS ks k i)[i]? = some ks[i] := by
  unfold mxS
  rw [List.getElem?_append_right (by rw [List.length_take]; omega), List.length_take, mkSs_len, Nat.min_eq_left (by omega), Nat.sub_self, List.getElem?_drop, Nat.add_zero, List.getElem?_eq_getElem h]
theorem mxS_succ (ks : List LStmt) (k : Int) {i : Nat} (h : i < ks.length) : mxS ks k (i + 1) = (mxS ks k i).set i (mkS ks[i] (k + mkN (ks.take i))) := by
  have hl : ((mkSs ks k).take i).length = i := by rw [List.length_take, mkSs_len]; omega
  have hg := mkSs_get ks k i h
  have hi : i < (mkSs ks k).length := by rw [mkSs_len]; exact h
  rw [List.getElem?_eq_getElem hi] at hg
  have hg' := Option.some.inj hg
  unfold mxS
  rw [List.set_append_right _ _ (by omega), hl, Nat.sub_self, List.drop_eq_getElem_cons h, List.set_cons_zero, take_succ_get _ _ hi, hg']
  simp
mutual
theorem mkN1_nonneg : ∀ s : LStmt, 0 ≤ mkN1 s ∧ mkN1 s ≤ 7 * (1 + szS s)
  | ⟨_, _, i, v, _, b, e⟩ => by
    have h1 := mkN_nonneg b
    have h2 := mkN_nonneg e
    simp only [mkN1, szS]
    omega
theorem mkN_nonneg : ∀ ss : List LStmt, 0 ≤ mkN ss ∧ mkN ss ≤ 7 * szSs ss
  | [] => by simp [mkN, szSs]
  | s :: r => by
    have h1 := mkN1_nonneg s
    have h2 := mkN_nonneg r
    simp only [mkN, szSs]
    omega
end
theorem mkN_take1 {ks : List LStmt} {k : Nat} (h : k < ks.length) : mkN (ks.take (k + 1)) = mkN (ks.take k) + mkN1 ks[k] := by
  rw [take_succ_get _ _ h, mkN_append]; simp [mkN]
theorem mkN_drop (ks : List LStmt) (k : Nat) : mkN ks = mkN (ks.take k) + mkN (ks.drop k) := by
  have := mkN_append (ks.take k) (ks.drop k)
  rwa [List.take_append_drop] at this
theorem mkN1_def (s : LStmt) : mkN1 s = 7 + 2 * szEs s.index.kids + 2 * szEs s.value.kids + mkN s.body + mkN s.els := by
  rcases s with ⟨_, _, ⟨_, _, _⟩, ⟨_, _, _⟩, _, _, _⟩; simp only [mkN1, szE]; rfl
theorem mkS_def (s : LStmt) (y A B : Int) (hA : A = 2 * szEs s.index.kids) (hB : B = 2 * szEs s.value.kids) :
    mkS s y = ⟨y, y + 1, ⟨y + 1 + 1, y + 1 + 1 + 1, mkEs s.index.kids (y + 1 + 1 + 1 + 1)⟩, ⟨y + 1 + 1 + 1 + 1 + A, y + 1 + 1 + 1 + 1 + A + 1, mkEs s.value.kids (y + 1 + 1 + 1 + 1 + A + 1 + 1)⟩,
      y + 1 + 1 + 1 + 1 + A + 1 + 1 + B, mkSs s.body (y + 1 + 1 + 1 + 1 + A + 1 + 1 + B + 1), mkSs s.els (y + 1 + 1 + 1 + 1 + A + 1 + 1 + B + 1 + mkN s.body)⟩ := by
  rcases s with ⟨_, _, ⟨_, _, _⟩, ⟨_, _, _⟩, _, _, _⟩
  simp only [LStmt.index, LStmt.value, LStmt.body, LStmt.els, LExpr.kids] at hA hB ⊢
  subst hA hB
  simp only [mkS, mkE, szE, LStmt.mk.injEq, LExpr.mk.injEq, true_and]
  refine ⟨⟨by omega, by omega, by congr 1; omega⟩, ⟨by omega, by omega, by congr 1; omega⟩, by omega, by congr 1; omega, by congr 1; omega⟩

/-! Owned trees lie in memory. -/
section
variable {w : World}
mutual
theorem ExprO.cut : ∀ (e : LExpr) (S : Nat → Prop) (cs : List Value), ExprO w e S cs → ExprO w e (fun b => S b ∧ b < w.heap.size) cs
  | ⟨_, _, ks⟩, _, _, ⟨v, xs, S', h1, h2, h3, h4, h5⟩ => ⟨v, xs, fun b => S' b ∧ b < w.heap.size, h1, h2, fun g hg => ⟨⟨(h3 g hg).1, (World.ownsRow.lt h2 g hg).2⟩, fun h => (h3 g hg).2 h.1⟩, fun b hb => ⟨h4 b hb.1, hb.2⟩, ExprsO.cut ks S' xs h5⟩
theorem ExprsO.cut : ∀ (ks : List LExpr) (S : Nat → Prop) (xs : List Value), ExprsO w ks S xs → ExprsO w ks (fun b => S b ∧ b < w.heap.size) xs
  | [], _, _, h => h
  | e :: r, _, _, ⟨c, ys, S1, S2, h1, h2, h3, h4, h5⟩ => ⟨c, ys, fun b => S1 b ∧ b < w.heap.size, fun b => S2 b ∧ b < w.heap.size, h1, fun b hb => ⟨⟨(h2 b hb.1).1, hb.2⟩, fun h => (h2 b hb.1).2 h.1⟩, fun b hb => ⟨h3 b hb.1, hb.2⟩, ExprO.cut e S1 c h4, ExprsO.cut r S2 ys h5⟩
end
theorem KidsO.cut {v : Value} {ks : List LExpr} {S : Nat → Prop} (h : KidsO w v ks S) : KidsO w v ks (fun b => S b ∧ b < w.heap.size) := by
  obtain ⟨xs, S', h2, h3, h4, h5⟩ := h
  exact ⟨xs, fun b => S' b ∧ b < w.heap.size, h2, fun g hg => ⟨⟨(h3 g hg).1, (World.ownsRow.lt h2 g hg).2⟩, fun h => (h3 g hg).2 h.1⟩, fun b hb => ⟨h4 b hb.1, hb.2⟩, ExprsO.cut ks S' xs h5⟩
mutual
theorem StmtO.cut : ∀ (s : LStmt) (S : Nat → Prop) (cs : List Value), StmtO w s S cs → StmtO w s (fun b => S b ∧ b < w.heap.size) cs
  | ⟨_, _, _, _, _, b, e⟩, _, _, ⟨iv, vv, bv, ev, xb, xe, Si, Sv, Sb, Se, Sb', Se', h1, ⟨d1, d2, d3, d4⟩, h2, h3, ⟨b1, b2, b3, b4⟩, ⟨e1, e2, e3, e4⟩⟩ =>
    ⟨iv, vv, bv, ev, xb, xe, fun b => Si b ∧ b < w.heap.size, fun b => Sv b ∧ b < w.heap.size, fun b => Sb b ∧ b < w.heap.size, fun b => Se b ∧ b < w.heap.size, fun b => Sb' b ∧ b < w.heap.size, fun b => Se' b ∧ b < w.heap.size, h1,
      ⟨fun b hb => ⟨⟨(d1 b hb.1).1, hb.2⟩, fun h => (d1 b hb.1).2.1 h.1, fun h => (d1 b hb.1).2.2.1 h.1, fun h => (d1 b hb.1).2.2.2 h.1⟩, fun b hb => ⟨⟨(d2 b hb.1).1, hb.2⟩, fun h => (d2 b hb.1).2.1 h.1, fun h => (d2 b hb.1).2.2 h.1⟩,
        fun b hb => ⟨⟨(d3 b hb.1).1, hb.2⟩, fun h => (d3 b hb.1).2 h.1⟩, fun b hb => ⟨d4 b hb.1, hb.2⟩⟩, h2.cut, h3.cut,
      ⟨b1, fun g hg => ⟨⟨(b2 g hg).1, (World.ownsRow.lt b1 g hg).2⟩, fun h => (b2 g hg).2 h.1⟩, fun b hb => ⟨b3 b hb.1, hb.2⟩, StmtsO.cut b Sb' xb b4⟩,
      ⟨e1, fun g hg => ⟨⟨(e2 g hg).1, (World.ownsRow.lt e1 g hg).2⟩, fun h => (e2 g hg).2 h.1⟩, fun b hb => ⟨e3 b hb.1, hb.2⟩, StmtsO.cut e Se' xe e4⟩⟩
theorem StmtsO.cut : ∀ (ks : List LStmt) (S : Nat → Prop) (xs : List Value), StmtsO w ks S xs → StmtsO w ks (fun b => S b ∧ b < w.heap.size) xs
  | [], _, _, h => h
  | e :: r, _, _, ⟨c, ys, S1, S2, h1, h2, h3, h4, h5⟩ => ⟨c, ys, fun b => S1 b ∧ b < w.heap.size, fun b => S2 b ∧ b < w.heap.size, h1, fun b hb => ⟨⟨(h2 b hb.1).1, hb.2⟩, fun h => (h2 b hb.1).2 h.1⟩, fun b hb => ⟨h3 b hb.1, hb.2⟩, StmtO.cut e S1 c h4, StmtsO.cut r S2 ys h5⟩
end
theorem BlockO.cut {v : Value} {ks : List LStmt} {S : Nat → Prop} (h : BlockO w v ks S) : BlockO w v ks (fun b => S b ∧ b < w.heap.size) := by
  obtain ⟨xs, S', h2, h3, h4, h5⟩ := h
  exact ⟨xs, fun b => S' b ∧ b < w.heap.size, h2, fun g hg => ⟨⟨(h3 g hg).1, (World.ownsRow.lt h2 g hg).2⟩, fun h => (h3 g hg).2 h.1⟩, fun b hb => ⟨h4 b hb.1, hb.2⟩, StmtsO.cut ks S' xs h5⟩
end

/-! One element of an owned row, cell by cell. -/
section
variable {φ ψ : Nat → Prop} {w0 w : World} {L : List Res}
theorem Mem.elemSet (M : Mem φ ψ w0 w L) (i : Nat) {e : TypeId} {sz n cap g p : Nat} {xs cs : List Value} (hi : L[i]? = some (.row e sz (.slice (some ⟨g, 0, none⟩) n cap) n (Go.Proofs.Ytgpkdfefgcpbiaa.setFrom xs p cs))) (hp : p + cs.length ≤ xs.length) (k : Nat) (hk : k < cs.length) (u : Value) {o : Nat} (ho : o = p + k) :
    Mem φ ψ w0 (w.setCell ⟨g, o, none⟩ u) (L.set i (.row e sz (.slice (some ⟨g, 0, none⟩) n cap) n (Go.Proofs.Ytgpkdfefgcpbiaa.setFrom xs p (cs.set k u)))) := by
  subst ho
  rw [← setFrom_set u hp hk]
  exact M.rowSet i hi (by rw [setFrom_len]; omega) u
theorem Mem.elemCell (M : Mem φ ψ w0 w L) (i : Nat) {e : TypeId} {sz n cap g p : Nat} {xs cs : List Value} (hi : L[i]? = some (.row e sz (.slice (some ⟨g, 0, none⟩) n cap) n (Go.Proofs.Ytgpkdfefgcpbiaa.setFrom xs p cs))) (hn : 0 < n) (hp : p + cs.length ≤ xs.length) (k : Nat) {u : Value} (hk : cs[k]? = some u) {o : Nat} (ho : o = p + k) :
    w.cell? ⟨g, o, none⟩ = some u := by
  subst ho
  obtain ⟨g', cap', hv, -, -, -, -, -, -, hc⟩ := (Own.mk' (M.r i hi)).open hn
  cases hv
  refine hc (p + k) u ?_
  have := (List.getElem?_eq_some_iff.1 hk).1
  rw [setFrom_get _ _ _ _ hp, if_pos (by omega), Nat.add_sub_cancel_left, hk]
theorem Mem.rowFree (M : Mem φ ψ w0 w L) (i : Nat) {e : TypeId} {sz n cap g : Nat} {xs : List Value} (hi : L[i]? = some (.row e sz (.slice (some ⟨g, 0, none⟩) n cap) n xs)) (hn : 0 < n) : ∀ o, w.frozen? ⟨g, o, none⟩ = false := by
  obtain ⟨g', cap', hv, -, -, -, -, -, hf, -⟩ := (Own.mk' (M.r i hi)).open hn
  cases hv
  exact hf
end

def MkSs (ss : List LStmt) : Prop := ∀ (v : Value) (k : Int) (w : World) (S : Nat → Prop), BlockO w v ss S → 0 ≤ k → k + mkN ss ≤ 9000000000000000000 →
  Calls Try.prog 79 #[v, .int .i64 k] w fun x w' => x = .returned (.int .i64 (k + mkN ss)) ∧ BlockO w' v (mkSs ss k) S ∧ Kept (fun b => ¬ S b) w w'

set_option maxRecDepth 100000 in
set_option maxHeartbeats 4000000 in
theorem markStmtS_of (ks : List LStmt) (ih : ∀ s ∈ ks, MkSs s.body ∧ MkSs s.els) : MkSs ks := by
  intro v k0 w S h hk0 hkb
  obtain ⟨xs, S', ho, hg, hs, hx⟩ := h
  obtain ⟨a, cap, rfl⟩ := owns_form ho
  have hm : ks.length ≤ 9223372036854775807 := (owns_row ho).len
  have HG := show Hid _ from hg
  have HS := show Hid _ from hs
  have HX := show Hid _ from hx
  have HO := show Hid _ from ho
  have HKB := show Hid _ from hkb
  clear hg hs hx ho hkb
  go_enter Try.func79, Try.ntmps79
  go_wp2_with fail
  go_loopw [1, 5] (fun q i wr => ∃ (j : Nat) (y : Int) (xs : List Value), j ≤ ks.length ∧ i = .int .i64 j ∧ q = .int .i64 y ∧ y = k0 + mkN (ks.take j) ∧ wr.ownsRow 0 135 11 (.slice a ks.length cap) ks.length xs ∧ StmtsO wr (mxS ks k0 j) S' xs ∧ Kept (fun b => ¬ S b) w wr) (fun _ i _ => ks.length - (intOf i).toNat)
  case atStart => exact ⟨0, k0, xs, Nat.zero_le _, rfl, rfl, by simp [mkN], HO.out, by rw [mxS_zero]; exact HX.out, Kept.refl _ _⟩
  case round =>
    obtain ⟨j, y, xs, hj, rfl, rfl, hy, ho, hx, hkp⟩ := hrel
    have HY := show Hid _ from hy
    have HKP := show Hid _ from hkp
    have HX1 := show Hid _ from hx
    have HO1 := show Hid _ from ho
    clear hy hkp hx ho
    by_cases hlt : j < ks.length
    · have hlen := mxS_len ks k0 hj
      obtain ⟨c, Sc, f1, f2, f3, f4⟩ := HX1.out.focus j (by omega)
      have hge := mxS_at ks k0 hlt
      rw [List.getElem?_eq_getElem (by omega)] at hge
      rw [Option.some.inj hge] at f1
      obtain ⟨iv, vv, bv, ev, Si, Sv, Sb, Se, rfl, ⟨d1, d2, d3, d4⟩, o1, o2, o3, o4⟩ := (StmtO.iff _ _ _).1 f1
      obtain ⟨g, cap', hv, -, hg2, hg3, -, -, -, -⟩ := (Own.mk' HO1.out).open (by omega)
      cases hv
      have hxl : xs.length = ks.length * 11 := HO1.out.1
      have hmx := mxS_succ ks k0 hlt
      rw [← HY.out] at hmx
      have hih := ih _ (List.getElem_mem hlt)
      have ht1 := mkN_take1 hlt
      have hdr := mkN_drop ks (j + 1)
      obtain ⟨s, hsj⟩ : ∃ s, s = ks[j] := ⟨_, rfl⟩
      rw [← hsj] at f1 f3 o1 o2 o3 o4 hih hmx ht1
      have hdef := mkN1_def s
      have hnb := (mkN_nonneg s.body).1
      have hne := (mkN_nonneg s.els).1
      have hnt := (mkN_nonneg (ks.take j)).1
      have hnd := (mkN_nonneg (ks.drop (j + 1))).1
      obtain ⟨A, hA⟩ : ∃ A : Int, A = 2 * szEs s.index.kids := ⟨_, rfl⟩
      obtain ⟨B, hB⟩ : ∃ B : Int, B = 2 * szEs s.value.kids := ⟨_, rfl⟩
      obtain ⟨C, hC⟩ : ∃ C : Int, C = mkN s.body := ⟨_, rfl⟩
      obtain ⟨D, hD⟩ : ∃ D : Int, D = mkN s.els := ⟨_, rfl⟩
      have hA0 : 0 ≤ A := by omega
      have hB0 : 0 ≤ B := by omega
      have hC0 : 0 ≤ C := by omega
      have hD0 : 0 ≤ D := by omega
      have hy0 : 0 ≤ y := by have := HY.out; omega
      have hy1 : y + 7 + A + B + C + D ≤ 9000000000000000000 := by have := HY.out; have := HKB.out; omega
      have hyn : y + 7 + A + B + C + D = k0 + mkN (ks.take (j + 1)) := by have := HY.out; omega
      have hmk := mkS_def s y A B hA hB
      rw [← hC] at hmk
      have hp : j * 11 + 11 ≤ xs.length := by omega
      have hxs : setFrom xs (j * 11) [.int .i64 s.kind, .int .i64 s.target, .int .i64 s.index.kind, .int .i64 s.index.value, iv, .int .i64 s.value.kind, .int .i64 s.value.value, vv, .int .i64 s.count, bv, ev] = xs := setFrom_self hp f3
      have hgS' : ¬ S' g := (HG.out g rfl).2
      have hgc : ¬ Sc g := fun h => hgS' (f2 g h)
      have M : Mem (fun _ => True) (fun b => ¬ (b = g ∨ Sc b)) wr wr [.row 135 11 (.slice (some ⟨g, 0, none⟩) ks.length cap) ks.length (setFrom xs (j * 11) [.int .i64 s.kind, .int .i64 s.target, .int .i64 s.index.kind, .int .i64 s.index.value, iv, .int .i64 s.value.kind, .int .i64 s.value.value, vv, .int .i64 s.count, bv, ev]),
          .own (fun b => Si b ∧ b < wr.heap.size) (fun w => KidsO w iv s.index.kids (fun b => Si b ∧ b < wr.heap.size)), .own (fun b => Sv b ∧ b < wr.heap.size) (fun w => KidsO w vv s.value.kids (fun b => Sv b ∧ b < wr.heap.size)),
          .own (fun b => Sb b ∧ b < wr.heap.size) (fun w => BlockO w bv s.body (fun b => Sb b ∧ b < wr.heap.size)), .own (fun b => Se b ∧ b < wr.heap.size) (fun w => BlockO w ev s.els (fun b => Se b ∧ b < wr.heap.size))] := by
        rw [hxs]
        refine (((((Mem.start fun _ _ => trivial).adopt (.row 135 11 (.slice (some ⟨g, 0, none⟩) ks.length cap) ks.length xs) ?_ trivial HO1.out ?_ ?_).adopt (.own (fun b => Si b ∧ b < wr.heap.size) _) ?_ trivial ⟨fun _ _ h hs => KidsO.same h hs, o1.cut, fun _ h => h.2⟩ ?_ ?_).adopt (.own (fun b => Sv b ∧ b < wr.heap.size) _) ?_ trivial ⟨fun _ _ h hs => KidsO.same h hs, o2.cut, fun _ h => h.2⟩ ?_ ?_).adopt (.own (fun b => Sb b ∧ b < wr.heap.size) _) ?_ trivial ⟨fun _ _ h hs => BlockO.same h hs, o3.cut, fun _ h => h.2⟩ ?_ ?_).adopt (.own (fun b => Se b ∧ b < wr.heap.size) _) ?_ trivial ⟨fun _ _ h hs => BlockO.same h hs, o4.cut, fun _ h => h.2⟩ ?_ ?_
        · intro a ha; cases ha
        · intro a ha; cases ha
        · intro g' hg' hn; cases hg'; exact hn (.inl rfl)
        · intro a ha; simp at ha; subst ha; trivial
        · intro a ha g' hg' h; simp at ha; subst ha; cases h; exact hgc (d1 _ hg'.1).1
        · intro g' hg' hn; exact hn (.inr (d1 _ hg'.1).1)
        · intro a ha; simp at ha; rcases ha with rfl | rfl <;> trivial
        · intro a ha g' hg' h; simp at ha; rcases ha with rfl | rfl
          · cases h; exact hgc (d2 _ hg'.1).1
          · exact (d1 _ h.1).2.1 hg'.1
        · intro g' hg' hn; exact hn (.inr (d2 _ hg'.1).1)
        · intro a ha; simp at ha; rcases ha with rfl | rfl | rfl <;> trivial
        · intro a ha g' hg' h; simp at ha; rcases ha with rfl | rfl | rfl
          · cases h; exact hgc (d3 _ hg'.1).1
          · exact (d1 _ h.1).2.2.1 hg'.1
          · exact (d2 _ h.1).2.1 hg'.1
        · intro g' hg' hn; exact hn (.inr (d3 _ hg'.1).1)
        · intro a ha; simp at ha; rcases ha with rfl | rfl | rfl | rfl <;> trivial
        · intro a ha g' hg' h; simp at ha; rcases ha with rfl | rfl | rfl | rfl
          · cases h; exact hgc (d4 _ hg'.1)
          · exact (d1 _ h.1).2.2.2 hg'.1
          · exact (d2 _ h.1).2.2 hg'.1
          · exact (d3 _ h.1).2 hg'.1
        · intro g' hg' hn; exact hn (.inr (d4 _ hg'.1))
      have hn0 : 0 < ks.length := by omega
      have HIH := show Hid _ from hih
      have HF := show Hid _ from And.intro f2 (And.intro f4 (And.intro hmx (And.intro hmk hyn)))
      have HD := show Hid _ from And.intro d1 (And.intro d2 (And.intro d3 d4))
      have HE := show Hid _ from And.intro hA (And.intro hB (And.intro hC hD))
      have HGS := show Hid _ from hgS'
      have HP := show Hid _ from hp
      clear hih f1 f2 f3 f4 hmx hmk hyn d1 d2 d3 d4 o1 o2 o3 o4 hA hB hC hD hgS' hgc hxs hxl hlen hge ht1 hdr hdef hnb hne hnt hnd hsj hp
      have fz := M.rowFree 0 rfl hn0
      have e0 := M.elemCell 0 rfl hn0 HP.out 0 rfl (o := j * 11) rfl
      have e1 := M.elemCell 0 rfl hn0 HP.out 1 rfl rfl
      have e2 := M.elemCell 0 rfl hn0 HP.out 2 rfl rfl
      have e3 := M.elemCell 0 rfl hn0 HP.out 3 rfl rfl
      have e4 := M.elemCell 0 rfl hn0 HP.out 4 rfl rfl
      have M1 := (((M.elemSet 0 rfl HP.out 0 (by simp) (.int .i64 y) (o := j * 11) rfl).elemSet 0 rfl HP.out 1 (by simp) (.int .i64 (y + 1)) rfl).elemSet 0 rfl HP.out 2 (by simp) (.int .i64 (y + 1 + 1)) rfl).elemSet 0 rfl HP.out 3 (by simp) (.int .i64 (y + 1 + 1 + 1)) rfl
      have HM := show Hid _ from M1
      clear M M1
      go_wp2_with fail
      have M := HM.out
      clear HM fz e0 e1 e2 e3 e4
      refine (markExprS_all s.index.kids iv (y + 1 + 1 + 1 + 1) _ _ (M.o 1 rfl) (by omega) (by have := HE.out.1; omega)).mono ?_
      rintro x w1 ⟨rfl, k1, kp1⟩
      rw [← HE.out.1]
      replace M := M.turn 1 rfl kp1 (fun _ _ h hs => KidsO.same h hs) k1
      clear k1 kp1
      have fz := M.rowFree 0 rfl hn0
      have e5 := M.elemCell 0 rfl hn0 HP.out 5 rfl rfl
      have e6 := M.elemCell 0 rfl hn0 HP.out 6 rfl rfl
      have e7 := M.elemCell 0 rfl hn0 HP.out 7 rfl rfl
      have M1 := (M.elemSet 0 rfl HP.out 5 (by simp) (.int .i64 (y + 1 + 1 + 1 + 1 + A)) rfl).elemSet 0 rfl HP.out 6 (by simp) (.int .i64 (y + 1 + 1 + 1 + 1 + A + 1)) rfl
      have HM := show Hid _ from M1
      clear M M1
      go_wp2_with fail
      have M := HM.out
      clear HM fz e5 e6 e7
      refine (markExprS_all s.value.kids vv (y + 1 + 1 + 1 + 1 + A + 1 + 1) _ _ (M.o 2 rfl) (by omega) (by have := HE.out.2.1; omega)).mono ?_
      rintro x w2 ⟨rfl, k1, kp1⟩
      rw [← HE.out.2.1]
      replace M := M.turn 2 rfl kp1 (fun _ _ h hs => KidsO.same h hs) k1
      clear k1 kp1
      have fz := M.rowFree 0 rfl hn0
      have e8 := M.elemCell 0 rfl hn0 HP.out 8 rfl rfl
      have e9 := M.elemCell 0 rfl hn0 HP.out 9 rfl rfl
      have M1 := M.elemSet 0 rfl HP.out 8 (by simp) (.int .i64 (y + 1 + 1 + 1 + 1 + A + 1 + 1 + B)) rfl
      have HM := show Hid _ from M1
      clear M M1
      go_wp2_with fail
      have M := HM.out
      clear HM fz e8 e9
      refine (HIH.out.1 bv (y + 1 + 1 + 1 + 1 + A + 1 + 1 + B + 1) _ _ (M.o 3 rfl) (by omega) (by have := HE.out.2.2.1; omega)).mono ?_
      rintro x w3 ⟨rfl, k1, kp1⟩
      rw [← HE.out.2.2.1]
      replace M := M.turn 3 rfl kp1 (fun _ _ h hs => BlockO.same h hs) k1
      clear k1 kp1
      have e10 := M.elemCell 0 rfl hn0 HP.out 10 rfl rfl
      have HM := show Hid _ from M
      clear M
      go_wp2_with fail
      have M := HM.out
      clear HM e10
      refine (HIH.out.2 ev (y + 1 + 1 + 1 + 1 + A + 1 + 1 + B + 1 + C) _ _ (M.o 4 rfl) (by omega) (by have := HE.out.2.2.2; omega)).mono ?_
      rintro x w4 ⟨rfl, k1, kp1⟩
      rw [← HE.out.2.2.2]
      replace M := M.turn 4 rfl kp1 (fun _ _ h hs => BlockO.same h hs) k1
      clear k1 kp1
      have HM := show Hid _ from M
      clear M
      obtain ⟨z, hz⟩ : ∃ z : Int, z = y + 1 + 1 + 1 + 1 + A + 1 + 1 + B + 1 + C + D := ⟨_, rfl⟩
      have HZ := show Hid _ from hz
      rw [← hz]
      have hz0 : 0 ≤ z := by omega
      have hz1 : z ≤ 9000000000000000000 := by omega
      have HY1 := show Hid _ from hy1
      clear hz hy1
      go_wp2_with fail
      have M := HM.out
      obtain ⟨f2, f4, hmx, hmk, hyn⟩ := HF.out
      obtain ⟨d1, d2, d3, d4⟩ := HD.out
      have hO : StmtO w4 (mkS s y) Sc [.int .i64 y, .int .i64 (y + 1), .int .i64 (y + 1 + 1), .int .i64 (y + 1 + 1 + 1), iv, .int .i64 (y + 1 + 1 + 1 + 1 + A), .int .i64 (y + 1 + 1 + 1 + 1 + A + 1), vv, .int .i64 (y + 1 + 1 + 1 + 1 + A + 1 + 1 + B), bv, ev] := by
        rw [hmk]
        exact (StmtO.iff _ _ _).2 ⟨iv, vv, bv, ev, Si, Sv, Sb, Se, rfl, ⟨d1, d2, d3, d4⟩, (M.o 1 rfl).mono fun _ h => h.1, (M.o 2 rfl).mono fun _ h => h.1, (M.o 3 rfl).mono fun _ h => h.1, (M.o 4 rfl).mono fun _ h => h.1⟩
      have hX := f4 w4 (mkS s y) _ (fun b hb hn hl => M.kept.block b hl fun h => h.elim (fun h => HGS.out (h ▸ hb)) hn) hO
      rw [← hmx] at hX
      refine ⟨⟨j + 1, _, _, by omega, by go_num, rfl, by have := HZ.out; omega, M.r 0 rfl, hX, HKP.out.trans (M.kept.mono fun b hb h => hb (h.elim (fun h => h ▸ (HG.out g rfl).1) fun h => HS.out b (f2 b h)))⟩, by simp [intOf]; omega⟩
    · have hjn : j = ks.length := by omega
      subst hjn
      go_wp2_with fail
      go_ret
      exact ⟨ret_int (by have := HY.out; rw [List.take_of_length_le (Nat.le_refl _)] at this; exact this), ⟨xs, S', by rw [mkSs_len]; exact HO1.out, HG.out, HS.out, by rw [← mxS_all]; exact HX1.out⟩, HKP.out⟩

theorem markStmtS_all (s : LStmt) : MkSs s.body ∧ MkSs s.els :=
  LStmt.ind (P := fun s => MkSs s.body ∧ MkSs s.els) (fun _ _ _ _ _ b e ihb ihe => ⟨markStmtS_of b ihb, markStmtS_of e ihe⟩) s
theorem markStmtS_any (ks : List LStmt) : MkSs ks := markStmtS_of ks fun s _ => markStmtS_all s

end Go.Proofs.Ytgpkdfefgcpbiaa
