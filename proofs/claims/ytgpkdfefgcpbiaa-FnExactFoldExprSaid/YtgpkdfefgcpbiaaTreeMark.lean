/-
  Marks laid on trees of a call's own: the laws' helpers markExpr, markStmt, markProgram. Conditions: the argument is owned.
-/
import Derived.Test.YtgpkdfefgcpbiaaTreeTo
namespace Go.Proofs.Ytgpkdfefgcpbiaa
set_option linter.unusedVariables false
set_option linter.unusedSimpArgs false
open Go Go.RowKit

theorem setFrom_append_right (us : List Value) : ∀ (c ys : List Value) (p : Nat), c.length ≤ p → setFrom (c ++ ys) p us = c ++ setFrom ys (p - c.length) us := by
  induction us with
  | nil => intro c ys p _; rfl
  | cons u r ih =>
    intro c ys p hp
    simp only [setFrom]
    rw [List.set_append_right _ _ hp, ih _ _ _ (by omega), show p + 1 - c.length = p - c.length + 1 by omega]
theorem setFrom_append_left (us : List Value) : ∀ (c ys : List Value) (p : Nat), p + us.length ≤ c.length → setFrom (c ++ ys) p us = setFrom c p us ++ ys := by
  induction us with
  | nil => intro c ys p _; rfl
  | cons u r ih =>
    intro c ys p hp
    simp only [List.length_cons] at hp
    simp only [setFrom]
    rw [List.set_append_left _ _ (by omega), ih _ _ _ (by simp; omega)]
theorem setFrom_whole {c us : List Value} (h : us.length = c.length) : setFrom c 0 us = us := by
  have h1 := setFrom_take us c 0 (by omega)
  rw [Nat.zero_add, List.take_of_length_le (by rw [setFrom_len]; omega)] at h1
  simpa using h1
theorem ExprO.len {w : World} {e : LExpr} {S : Nat → Prop} {c : List Value} (h : ExprO w e S c) : c.length = 3 := by
  obtain ⟨kv, rfl, _⟩ := (ExprO.iff e S c).1 h; rfl
theorem StmtO.len {w : World} {s : LStmt} {S : Nat → Prop} {c : List Value} (h : StmtO w s S c) : c.length = 11 := by
  obtain ⟨_, _, _, _, _, _, _, _, rfl, _⟩ := (StmtO.iff s S c).1 h; rfl
/-- One element of an owned row, to be turned. -/
theorem ExprsO.focus {w : World} : ∀ {ls : List LExpr} {S : Nat → Prop} {xs : List Value}, ExprsO w ls S xs → ∀ (i : Nat) (hi : i < ls.length), ∃ (c : List Value) (Sc : Nat → Prop), ExprO w ls[i] Sc c ∧ (∀ b, Sc b → S b) ∧ (∀ j, j < 3 → xs[i * 3 + j]? = c[j]?) ∧
    ∀ (w' : World) (e' : LExpr) (c' : List Value), (∀ b, S b → ¬ Sc b → b < w.heap.size → w'.heap[b]? = w.heap[b]?) → ExprO w' e' Sc c' → ExprsO w' (ls.set i e') S (setFrom xs (i * 3) c')
  | [], _, _, _, i, hi => by simp at hi
  | e :: r, S, xs, ⟨c, ys, S1, S2, h1, h2, h3, h4, h5⟩, i, hi => by
    have hc := h4.len
    subst h1
    cases i with
    | zero =>
      refine ⟨c, S1, h4, fun b hb => (h2 b hb).1, fun j hj => by rw [List.getElem?_append_left (by omega)]; simp, fun w' e' c' hs hO => ?_⟩
      refine ⟨c', ys, S1, S2, ?_, h2, h3, hO, ExprsO.same r S2 ys h5 fun b hb hlt => hs b (h3 b hb) (fun h => (h2 b h).2 hb) hlt⟩
      rw [Nat.zero_mul, setFrom_append_left c' c ys 0 (by rw [hO.len]; omega), setFrom_whole (by rw [hO.len, hc])]
    | succ i =>
      obtain ⟨d, Sc, k1, k2, k3, k4⟩ := ExprsO.focus h5 i (by simpa using hi)
      refine ⟨d, Sc, k1, fun b hb => h3 b (k2 b hb), fun j hj => ?_, fun w' e' c' hs hO => ?_⟩
      · rw [List.getElem?_append_right (by rw [hc, Nat.succ_mul]; omega), ← k3 j hj]
        congr 1
        rw [hc, Nat.succ_mul]; omega
      · refine ⟨c, setFrom ys (i * 3) c', S1, S2, ?_, h2, h3, ExprO.same e S1 c h4 fun b hb hlt => hs b (h2 b hb).1 (fun h => (h2 b hb).2 (k2 b h)) hlt, k4 w' e' c' (fun b hb hn hlt => hs b (h3 b hb) hn hlt) hO⟩
        rw [setFrom_append_right c' c ys _ (by rw [hc, Nat.succ_mul]; omega), hc, Nat.succ_mul, Nat.add_sub_cancel]
theorem StmtsO.focus {w : World} : ∀ {ls : List LStmt} {S : Nat → Prop} {xs : List Value}, StmtsO w ls S xs → ∀ (i : Nat) (hi : i < ls.length), ∃ (c : List Value) (Sc : Nat → Prop), StmtO w ls[i] Sc c ∧ (∀ b, Sc b → S b) ∧ (∀ j, j < 11 → xs[i * 11 + j]? = c[j]?) ∧
    ∀ (w' : World) (e' : LStmt) (c' : List Value), (∀ b, S b → ¬ Sc b → b < w.heap.size → w'.heap[b]? = w.heap[b]?) → StmtO w' e' Sc c' → StmtsO w' (ls.set i e') S (setFrom xs (i * 11) c')
  | [], _, _, _, i, hi => by simp at hi
  | e :: r, S, xs, ⟨c, ys, S1, S2, h1, h2, h3, h4, h5⟩, i, hi => by
    have hc := h4.len
    subst h1
    cases i with
    | zero =>
      refine ⟨c, S1, h4, fun b hb => (h2 b hb).1, fun j hj => by rw [List.getElem?_append_left (by omega)]; simp, fun w' e' c' hs hO => ?_⟩
      refine ⟨c', ys, S1, S2, ?_, h2, h3, hO, StmtsO.same r S2 ys h5 fun b hb hlt => hs b (h3 b hb) (fun h => (h2 b h).2 hb) hlt⟩
      rw [Nat.zero_mul, setFrom_append_left c' c ys 0 (by rw [hO.len]; omega), setFrom_whole (by rw [hO.len, hc])]
    | succ i =>
      obtain ⟨d, Sc, k1, k2, k3, k4⟩ := StmtsO.focus h5 i (by simpa using hi)
      refine ⟨d, Sc, k1, fun b hb => h3 b (k2 b hb), fun j hj => ?_, fun w' e' c' hs hO => ?_⟩
      · rw [List.getElem?_append_right (by rw [hc, Nat.succ_mul]; omega), ← k3 j hj]
        congr 1
        rw [hc, Nat.succ_mul]; omega
      · refine ⟨c, setFrom ys (i * 11) c', S1, S2, ?_, h2, h3, StmtO.same e S1 c h4 fun b hb hlt => hs b (h2 b hb).1 (fun h => (h2 b hb).2 (k2 b h)) hlt, k4 w' e' c' (fun b hb hn hlt => hs b (h3 b hb) hn hlt) hO⟩
        rw [setFrom_append_right c' c ys _ (by rw [hc, Nat.succ_mul]; omega), hc, Nat.succ_mul, Nat.add_sub_cancel]

/-- Some elements marked. -/
def mxE (ks : List LExpr) (k : Int) (i : Nat) : List LExpr := (mkEs ks k).take i ++ ks.drop i
theorem mkEs_len : ∀ (ks : List LExpr) (k : Int), (mkEs ks k).length = ks.length
  | [], _ => rfl
  | _ :: r, k => by simp [mkEs, mkEs_len r]
theorem mkEs_get : ∀ (ks : List LExpr) (k : Int) (i : Nat) (h : i < ks.length), (mkEs ks k)[i]? = some (mkE ks[i] (k + 2 * szEs (ks.take i)))
  | [], _, i, h => by simp at h
  | e :: r, k, 0, _ => by simp [mkEs, szEs]
  | e :: r, k, i + 1, h => by
    simp only [mkEs, List.getElem?_cons_succ, List.getElem_cons_succ, List.take_succ_cons, szEs]
    rw [mkEs_get r _ i (by simpa using h)]
    congr 2
    simp only [Int.natCast_add, Int.natCast_one]
    omega
theorem mxE_len (ks : List LExpr) (k : Int) {i : Nat} (h : i ≤ ks.length) : (mxE ks k i).length = ks.length := by simp [mxE, mkEs_len]; omega
theorem mxE_zero (ks : List LExpr) (k : Int) : mxE ks k 0 = ks := by simp [mxE]
theorem mxE_all (ks : List LExpr) (k : Int) : mxE ks k ks.length = mkEs ks k := by
  unfold mxE; rw [List.drop_length, List.append_nil, List.take_of_length_le (by rw [mkEs_len]; exact Nat.le_refl _)]
theorem mxE_at (ks : List LExpr) (k : Int) {i : Nat} (h : i < ks.length) : (mxE ks k i)[i]? = some ks[i] := by
  unfold mxE
  rw [List.getElem?_append_right (by rw [List.length_take]; omega), List.length_take, mkEs_len, Nat.min_eq_left (by omega), Nat.sub_self, List.getElem?_drop, Nat.add_zero, List.getElem?_eq_getElem h]
theorem mxE_succ (ks : List LExpr) (k : Int) {i : Nat} (h : i < ks.length) : mxE ks k (i + 1) = (mxE ks k i).set i (mkE ks[i] (k + 2 * szEs (ks.take i))) := by
  have hl : ((mkEs ks k).take i).length = i := by rw [List.length_take, mkEs_len]; omega
  have hg := mkEs_get ks k i h
  have hi : i < (mkEs ks k).length := by rw [mkEs_len]; exact h
  rw [List.getElem?_eq_getElem hi] at hg
  have hg' := Option.some.inj hg
  unfold mxE
  rw [List.set_append_right _ _ (by omega), hl, Nat.sub_self, List.drop_eq_getElem_cons h, List.set_cons_zero, take_succ_get _ _ hi, hg']
  simp

def MkE' (e : LExpr) : Prop := ∀ (v : Value) (k : Int) (w : World) (S : Nat → Prop), KidsO w v e.kids S → 0 ≤ k → k + 2 * szEs e.kids ≤ 9000000000000000000 →
  Calls Try.prog 80 #[v, .int .i64 k] w fun x w' => x = .returned (.int .i64 (k + 2 * szEs e.kids)) ∧ KidsO w' v (mkEs e.kids k) S ∧ Kept (fun b => ¬ S b) w w'

set_option maxHeartbeats 2000000 in
theorem markExprS_of (ks : List LExpr) (ih : ∀ e ∈ ks, MkE' e) (v : Value) (k0 : Int) (w : World) (S : Nat → Prop) (h : KidsO w v ks S) (hk0 : 0 ≤ k0) (hkb : k0 + 2 * szEs ks ≤ 9000000000000000000) :
    Calls Try.prog 80 #[v, .int .i64 k0] w fun x w' => x = .returned (.int .i64 (k0 + 2 * szEs ks)) ∧ KidsO w' v (mkEs ks k0) S ∧ Kept (fun b => ¬ S b) w w' := by
  obtain ⟨xs, S', ho, hg, hs, hx⟩ := h
  obtain ⟨a, cap, rfl⟩ := owns_form ho
  have hm : ks.length ≤ 9223372036854775807 := (owns_row ho).len
  have HG := show Hid _ from hg
  have HS := show Hid _ from hs
  have HX := show Hid _ from hx
  have HO := show Hid _ from ho
  clear hg hs hx ho
  go_enter Try.func80, Try.ntmps80
  go_wp2_with fail
  go_loopw [1, 5] (fun q i wr => ∃ (j : Nat) (y : Int) (xs : List Value), j ≤ ks.length ∧ i = .int .i64 j ∧ q = .int .i64 y ∧ y = k0 + 2 * szEs (ks.take j) ∧ wr.ownsRow 0 41 3 (.slice a ks.length cap) ks.length xs ∧ ExprsO wr (mxE ks k0 j) S' xs ∧ Kept (fun b => ¬ S b) w wr) (fun _ i _ => ks.length - (intOf i).toNat)
  case atStart => exact ⟨0, k0, xs, Nat.zero_le _, rfl, rfl, by simp [szEs], HO.out, by rw [mxE_zero]; exact HX.out, Kept.refl _ _⟩
  case round =>
    obtain ⟨j, y, xs, hj, rfl, rfl, hy, ho, hx, hkp⟩ := hrel
    have HY := show Hid _ from hy
    have HKP := show Hid _ from hkp
    have HX1 := show Hid _ from hx
    have HO1 := show Hid _ from ho
    clear hy hkp hx ho
    by_cases hlt : j < ks.length
    · have h1 := szEs_take1 hlt
      have h2 := szEs_drop ks (j + 1)
      have hy0 : 0 ≤ y := by have := HY.out; omega
      have hy1 : y + 2 + 2 * szE ks[j] ≤ 9000000000000000000 := by have := HY.out; omega
      have hlen := mxE_len ks k0 hj
      obtain ⟨c, Sc, f1, f2, f3, f4⟩ := HX1.out.focus j (by omega)
      have hge := mxE_at ks k0 hlt
      rw [List.getElem?_eq_getElem (by omega)] at hge
      rw [Option.some.inj hge] at f1
      obtain ⟨kv, rfl, hkv⟩ := (ExprO.iff _ _ _).1 f1
      have F3 := show Hid _ from f3
      have F4 := show Hid _ from f4
      have F2 := show Hid _ from f2
      obtain ⟨g, cap', hv, -, hg2, hg3, -, -, hfr, hcell⟩ := (Own.mk' HO1.out).open (by omega)
      cases hv
      have hxl : xs.length = ks.length * 3 := HO1.out.1
      have e0 := hcell (j * 3) (.int .i64 ks[j].kind) (by simpa using f3 0 (by omega))
      have e1 := hcell (j * 3 + 1) (.int .i64 ks[j].value) ((f3 1 (by omega)).trans rfl)
      have e2 := hcell (j * 3 + 2) kv ((f3 2 (by omega)).trans rfl)
      have hSg : ¬ S' g := (HG.out g rfl).2
      have HSG := show Hid _ from hSg
      have HK := show Hid _ from hkv
      have HXL := show Hid _ from hxl
      have HH := show Hid _ from And.intro h1 h2
      clear hcell f1 f2 f3 f4 hkv hge hlen hSg hxl h1 h2
      go_wp2_with fail
      refine (ih _ (List.getElem_mem hlt) kv (y + 1 + 1) _ Sc (KidsO.same HK.out fun b hb hl => ?_) (by omega) ?_).mono ?_
      · have hbg : b ≠ g := fun e => HSG.out (by rw [← e]; exact F2.out b hb)
        rw [Below.heap_setCell _ _ _ _ hbg, Below.heap_setCell _ _ _ _ hbg]
      · have : szEs ks[j].kids = szE ks[j] := (by cases ks[j]; rfl)
        omega
      rintro x w2 ⟨rfl, hk2, kp2⟩
      have hkids : szEs ks[j].kids = szE ks[j] := (by cases ks[j]; rfl)
      rw [hkids]
      have r1 := ((Own.mk' HO1.out).setCell (j := j * 3) (by rw [HXL.out]; omega) (.int .i64 y)).setCell (j := j * 3 + 1) (by rw [List.length_set, HXL.out]; omega) (.int .i64 (y + 1))
      have hxs : (xs.set (j * 3) (.int .i64 y)).set (j * 3 + 1) (.int .i64 (y + 1)) = setFrom xs (j * 3) [.int .i64 y, .int .i64 (y + 1), kv] := by
        simp only [setFrom]
        have h3 : xs[j * 3 + 1 + 1]? = some kv := (F3.out 2 (by omega)).trans rfl
        apply List.ext_getElem?
        intro q
        rw [List.getElem?_set (i := j * 3 + 1 + 1)]
        split
        · rename_i e
          subst e
          rw [List.getElem?_set_ne (by omega), List.getElem?_set_ne (by omega), h3]
          have := (List.getElem?_eq_some_iff.1 h3).1
          simp [this]
        · rfl
      rw [hxs] at r1
      have hne : ¬ Sc g := fun h => HSG.out (F2.out g h)
      have r2 := owns_same (owns_base r1.1 (Nat.zero_le _)) (w' := w2) fun g' hg' => by
        cases hg'
        exact kp2.block g (by simp; exact hg3) hne
      have hx2 := F4.out w2 (mkE ks[j] y) [.int .i64 y, .int .i64 (y + 1), kv] (fun b hb hn hl => by
        have hbg : b ≠ g := fun e => HSG.out (by rw [← e]; exact hb)
        rw [kp2.block b (by simp; exact hl) hn, Below.heap_setCell _ _ _ _ hbg, Below.heap_setCell _ _ _ _ hbg]) ((ExprO.iff _ _ _).2 ⟨kv, by cases ks[j]; rfl, by
          have hy2 : y + 1 + 1 = y + 2 := by omega
          rw [hy2] at hk2
          cases hkj : ks[j] with
          | mk a1 b1 c1 => rw [hkj] at hk2; exact hk2⟩)
      have hmx := mxE_succ ks k0 hlt
      rw [← HY.out] at hmx
      rw [← hmx] at hx2
      have hkept : Kept (fun b => ¬ S b) w w2 := HKP.out.trans (((Kept.setCell wr g (j * 3) (.int .i64 y)).trans (Kept.setCell _ g (j * 3 + 1) (.int .i64 (y + 1)))).mono (fun b hb e => hb (by rw [e]; exact (HG.out g rfl).1)) |>.trans (kp2.mono fun b hb h => hb (HS.out b (F2.out b h))))
      have HF := show Hid _ from And.intro r2 (And.intro hx2 hkept)
      have hsz0 : (0 : Int) ≤ szE ks[j] := by omega
      clear r1 r2 hx2 hkept hmx hxs hkids hk2 kp2
      obtain ⟨z, hz⟩ : ∃ z : Nat, z = szE ks[j] := ⟨_, rfl⟩
      have HZ := show Hid _ from hz
      rw [← hz] at hy1 hsz0 ⊢
      clear hz
      go_wp2_with fail
      exact ⟨⟨j + 1, _, _, by omega, by go_num, rfl, by rw [HH.out.1, HY.out, ← HZ.out]; omega, HF.out.1, HF.out.2.1, HF.out.2.2⟩, by simp [intOf]; omega⟩
    · have hjn : j = ks.length := by omega
      subst hjn
      go_wp2_with fail
      go_ret
      exact ⟨ret_int (by have := HY.out; rw [List.take_of_length_le (Nat.le_refl _)] at this; exact this), ⟨xs, S', by rw [mkEs_len]; exact HO1.out, HG.out, HS.out, by rw [← mxE_all]; exact HX1.out⟩, HKP.out⟩

end Go.Proofs.Ytgpkdfefgcpbiaa
