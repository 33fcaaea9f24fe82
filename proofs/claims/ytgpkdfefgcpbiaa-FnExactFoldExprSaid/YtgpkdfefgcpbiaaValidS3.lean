/-
  Validity of expressions, the reference's: ExprValid. Conditions: the arguments read as trees.
-/
import Derived.Test.YtgpkdfefgcpbiaaValidS2
namespace Go.Proofs.Ytgpkdfefgcpbiaa
set_option linter.unusedVariables false
set_option linter.unusedSimpArgs false
open Go Go.RowKit

theorem arity_kids {nv na d : Nat} {e : LExpr} (h : shapeB nv na (d + 1) e = true) : e.kids.length ≤ 3 ∧ ∀ x ∈ e.kids, shapeB nv na d x = true := by
  simp only [shapeB, nodeB, Bool.and_eq_true, decide_eq_true_eq, List.all_eq_true] at h
  refine ⟨?_, h.1.2⟩
  have h1 := h.1.1.1.1
  have : arity e.kind ≤ 3 := by unfold arity; (repeat' split) <;> omega
  omega
theorem szEs_bound {ks : List LExpr} {B : Nat} (h : ∀ x ∈ ks, 1 + szE x ≤ B) : szEs ks ≤ ks.length * B := by
  induction ks with
  | nil => simp [szEs]
  | cons a r ih =>
    have h1 := h a List.mem_cons_self
    have h2 := ih fun x hx => h x (List.mem_cons_of_mem _ hx)
    simp only [szEs, List.length_cons, Nat.succ_mul]; omega
theorem shape_sz (nv na : Nat) : ∀ (d : Nat) (e : LExpr), shapeB nv na d e = true → 1 + szE e ≤ 4 ^ d := by
  intro d
  induction d with
  | zero => intro e h; simp [shapeB] at h
  | succ d ih =>
    intro e h
    obtain ⟨h1, h2⟩ := arity_kids h
    have h3 := szEs_bound (ks := e.kids) fun x hx => ih x (h2 x hx)
    have h4 : e.kids.length * 4 ^ d ≤ 3 * 4 ^ d := Nat.mul_le_mul_right _ h1
    have h5 : 0 < 4 ^ d := Nat.pos_of_ne_zero (by simp)
    rw [szE_kids, Nat.pow_succ]
    omega

set_option maxRecDepth 100000 in
set_option maxHeartbeats 4000000 in
theorem spec_l2Count (nv na : Nat) : ∀ d : Nat, d ≤ 5 → ∀ (e : LExpr) (φ : Nat → Prop) (v : Value) (w : World), ExprV w φ v e → shapeB nv na d e = true →
    Calls Try.prog 160 #[v, .int .i64 d] w fun x w' => x = .returned (.int .i64 (1 + szE e : Nat)) ∧ Below w.heap.size w w' := by
  intro d
  induction d with
  | zero => intro _ e φ v w _ hs; simp [shapeB] at hs
  | succ d ih =>
    intro hd5 e φ v w h hs
    obtain ⟨kv, rfl, hk⟩ := h
    obtain ⟨ak, ck, rfl, -, hn, -, hc⟩ := hk.open
    have hd0 : (d : Int) ≤ 5 := by omega
    have hd1 : decide (0 < (d : Int) + 1) = true := decide_eq_true (by omega)
    have hsz : szEs e.kids ≤ 1024 := by
      have h1 := shape_sz nv na (d + 1) e hs
      have h2 : 4 ^ (d + 1) ≤ 4 ^ 5 := Nat.pow_le_pow_right (by omega) hd5
      rw [szE_kids] at h1; omega
    have HK := show Hid _ from (arity_kids hs).2
    obtain ⟨W, hW, M⟩ : ∃ W, W = w.alloc (.cells #[.int .i64 e.kind, .int .i64 e.value, .slice ak e.kids.length ck] 41) ∧ Mem (fun _ => True) (fun _ => True) w W [.box w.heap.size [.int .i64 e.kind, .int .i64 e.value, .slice ak e.kids.length ck]] :=
      ⟨_, rfl, (Mem.start fun _ _ => trivial).box _ _⟩
    have HC := show Hid _ from hc
    have HSZ := show Hid _ from szE_kids e
    clear hk hc hs
    go_enter Try.func160, Try.ntmps160
    go_wp2_with fail
    rw [← hW]
    clear hW
    go_loopw [5, 6] (fun q i wr => ∃ k : Nat, k ≤ e.kids.length ∧ i = .int .i64 k ∧ q = .int .i64 (1 + szEs (e.kids.take k) : Nat) ∧ Mem (fun _ => True) (fun _ => True) w wr [.box w.heap.size [.int .i64 e.kind, .int .i64 e.value, .slice ak e.kids.length ck]]) (fun _ i _ => e.kids.length - (intOf i).toNat)
    case atStart => exact ⟨0, Nat.zero_le _, rfl, rfl, M⟩
    case round =>
      clear M
      obtain ⟨k, hk, rfl, rfl, M⟩ := hrel
      have hB := M.below fun _ _ => trivial
      have y2 := M.c 0 2 rfl rfl
      have htl := szEs_take_le e.kids k
      obtain ⟨z, hz⟩ : ∃ z, z = szEs (e.kids.take k) := ⟨_, rfl⟩
      rw [← hz] at htl ⊢
      have HZ := show Hid _ from hz
      clear hz
      by_cases hlt : k < e.kids.length
      · obtain ⟨b, off, kv, rfl, hbk, hf, c0, c1', c2', hkv⟩ := HC.out k hlt
        rw [← (bcell hB).1 _ _ hbk] at c0 c1' c2'
        have HE := show Hid (ExprV wr φ (.agg #[.int .i64 e.kids[k].kind, .int .i64 e.kids[k].value, kv]) e.kids[k]) from ⟨kv, rfl, KidsV.nice _ _ _ _ _ _ (Agr.below hB) hkv⟩
        have HM := show Hid _ from M
        have hlt' : (k : Int) < e.kids.length := by omega
        have HT := show Hid _ from szEs_take1 hlt
        have htl1 := szEs_take_le e.kids (k + 1)
        rw [HT.out, ← HZ.out] at htl1
        clear hkv M hB
        go_wp2_with fail
        refine (ih (by omega) _ φ _ _ HE.out (HK.out _ (List.getElem_mem hlt))).mono ?_
        rintro x w2 ⟨rfl, b2⟩
        have HM2 := show Hid _ from HM.out.call b2
        clear b2 y2
        go_wp2_with fail
        exact ⟨⟨k + 1, by omega, by go_num, by rw [HT.out, ← HZ.out]; go_num, HM2.out⟩, by simp [intOf]; omega⟩
      · have hkn : k = e.kids.length := by omega
        subst hkn
        have HB := show Hid _ from hB
        clear M hB
        go_wp2_with fail
        go_ret
        exact ⟨ret_int (by rw [HZ.out, List.take_of_length_le (Nat.le_refl _), HSZ.out]), HB.out⟩

set_option maxHeartbeats 1000000 in
theorem spec_l2Right (a1 a2 : Option Addr) (nv c1 na c2 : Nat) (v3 : Value) (h1 : nv ≤ 9223372036854775807) (h2 : na ≤ 9223372036854775807) (e : LExpr) (φ : Nat → Prop) (v : Value) (w : World) (h : ExprV w φ v e) :
    Calls Try.prog 110 #[.agg #[.slice a1 nv c1, .slice a2 na c2, v3], v] w fun x w' => x = .returned (.bool (rightB nv na e)) ∧ Below w.heap.size w w' := by
  obtain ⟨kv, rfl, hk⟩ := h
  have HR : Hid (rightB nv na e = (shapeB nv na 5 e && decide (1 + szE e ≤ 15))) := rfl
  obtain ⟨W, hW, M⟩ : ∃ W, W = (w.alloc (.cells #[.slice a1 nv c1, .slice a2 na c2, v3] 31)).alloc (.cells #[.int .i64 e.kind, .int .i64 e.value, kv] 41) ∧ Mem (fun _ => True) (fun _ => True) w W [.box w.heap.size [.slice a1 nv c1, .slice a2 na c2, v3], .box (w.heap.size + 1) [.int .i64 e.kind, .int .i64 e.value, kv]] :=
    ⟨_, rfl, ((Mem.start fun _ _ => trivial).box _ _).box' _ _ (by simp)⟩
  have HE := show Hid (∀ W', Below w.heap.size w W' → ExprV W' φ (.agg #[.int .i64 e.kind, .int .i64 e.value, kv]) e) from fun W' k => ⟨kv, rfl, KidsV.nice _ _ _ _ _ _ (Agr.below k) hk⟩
  clear hk
  have x0 := M.c 0 0 rfl rfl
  have x1 := M.c 0 1 rfl rfl
  have x2 := M.c 0 2 rfl rfl
  have y0 := M.c 1 0 rfl rfl
  have y1 := M.c 1 1 rfl rfl
  have y2 := M.c 1 2 rfl rfl
  rw [hW] at x0 x1 x2 y0 y1 y2
  go_enter Try.func110, Try.ntmps110
  go_wp2_with fail
  rw [← hW]
  clear hW x0 x1 x2 y0 y1 y2
  refine (spec_l2Shape a1 a2 nv c1 na c2 v3 h1 h2 5 (by omega) e φ _ _ (HE.out _ (M.below fun _ _ => trivial))).mono ?_
  rintro x w1 ⟨rfl, b1⟩
  replace M := M.call b1
  clear b1
  cases hs : shapeB nv na 5 e
  · have HB := show Hid _ from M.below fun _ _ => trivial
    have HS := show Hid _ from hs
    clear hs M
    go_wp2_with fail
    go_ret
    exact ⟨ret_bool (by rw [HR.out, HS.out]; rfl), HB.out⟩
  · have HS := show Hid _ from hs
    have hsz := shape_sz nv na 5 e hs
    have y0 := M.c 1 0 rfl rfl
    have y1 := M.c 1 1 rfl rfl
    have y2 := M.c 1 2 rfl rfl
    have HM := show Hid _ from M
    clear hs M
    go_wp2_with fail
    refine (spec_l2Count nv na 5 (by omega) e φ _ _ (HE.out _ (HM.out.below fun _ _ => trivial)) HS.out).mono ?_
    rintro x w2 ⟨rfl, b1⟩
    have HB := show Hid _ from (HM.out.call b1).below fun _ _ => trivial
    clear b1 y0 y1 y2
    go_wp2_with fail
    go_ret
    exact ⟨ret_bool (by rw [HR.out, HS.out, Bool.true_and]; exact decide_eq_decide.2 (by omega)), HB.out⟩

/-- An expression is valid in a program. -/
def exprOk (p : LProg) (e : LExpr) : Bool := headsB p.vars p.arrays && rightB p.vars.length p.arrays.length e

set_option maxHeartbeats 1000000 in
theorem spec_ExprValid (p : LProg) (e : LExpr) (φ φ' : Nat → Prop) (u v : Value) (w : World) (hp : ProgV w φ u p) (h : ExprV w φ' v e) :
    Calls Try.prog 73 #[u, v] w fun x w' => x = .returned (.bool (exprOk p e)) ∧ Below w.heap.size w w' := by
  obtain ⟨v1, v2, v3, rfl, g1, g2, -⟩ := hp
  obtain ⟨kv, rfl, hk⟩ := h
  obtain ⟨a1, c1, rfl, -, hm1, -⟩ := g1.row.open1
  obtain ⟨a2, c2, rfl, -, hm2, -⟩ := g2.row.open1
  have HR : Hid (exprOk p e = (headsB p.vars p.arrays && rightB p.vars.length p.arrays.length e)) := rfl
  obtain ⟨W, hW, M⟩ : ∃ W, W = (w.alloc (.cells #[.slice a1 p.vars.length c1, .slice a2 p.arrays.length c2, v3] 31)).alloc (.cells #[.int .i64 e.kind, .int .i64 e.value, kv] 41) ∧ Mem (fun _ => True) (fun _ => True) w W [.box w.heap.size [.slice a1 p.vars.length c1, .slice a2 p.arrays.length c2, v3], .box (w.heap.size + 1) [.int .i64 e.kind, .int .i64 e.value, kv]] :=
    ⟨_, rfl, ((Mem.start fun _ _ => trivial).box _ _).box' _ _ (by simp)⟩
  have HE := show Hid (∀ W', Below w.heap.size w W' → ExprV W' φ' (.agg #[.int .i64 e.kind, .int .i64 e.value, kv]) e ∧ Row W' (.slice a1 p.vars.length c1) p.vars.length 1 (ints p.vars) ∧ Row W' (.slice a2 p.arrays.length c2) p.arrays.length 1 (ints p.arrays)) from fun W' k => ⟨⟨kv, rfl, KidsV.nice _ _ _ _ _ _ (Agr.below k) hk⟩, g1.row.below k, g2.row.below k⟩
  clear hk g1 g2
  have x0 := M.c 0 0 rfl rfl
  have x1 := M.c 0 1 rfl rfl
  have x2 := M.c 0 2 rfl rfl
  rw [hW] at x0 x1 x2
  go_enter Try.func73, Try.ntmps73
  go_wp2_with fail
  rw [← hW]
  clear hW x0 x1 x2
  refine (spec_l2Heads _ _ v3 p.vars p.arrays _ (HE.out _ (M.below fun _ _ => trivial)).2.1 (HE.out _ (M.below fun _ _ => trivial)).2.2).mono ?_
  rintro x w1 ⟨rfl, b1⟩
  replace M := M.call b1
  clear b1
  cases hs : headsB p.vars p.arrays
  · have HB := show Hid _ from M.below fun _ _ => trivial
    have HS := show Hid _ from hs
    clear hs M
    go_wp2_with fail
    go_ret
    exact ⟨ret_bool (by rw [HR.out, HS.out]; rfl), HB.out⟩
  · have HS := show Hid _ from hs
    have x0 := M.c 0 0 rfl rfl
    have x1 := M.c 0 1 rfl rfl
    have x2 := M.c 0 2 rfl rfl
    have y0 := M.c 1 0 rfl rfl
    have y1 := M.c 1 1 rfl rfl
    have y2 := M.c 1 2 rfl rfl
    have HM := show Hid _ from M
    clear hs M
    go_wp2_with fail
    refine (spec_l2Right a1 a2 _ c1 _ c2 v3 hm1 hm2 e φ' _ _ (HE.out _ (HM.out.below fun _ _ => trivial)).1).mono ?_
    rintro x w2 ⟨rfl, b1⟩
    have HB := show Hid _ from (HM.out.call b1).below fun _ _ => trivial
    clear b1 x0 x1 x2 y0 y1 y2
    go_wp2_with fail
    go_ret
    exact ⟨ret_bool (by rw [HR.out, HS.out]; rfl), HB.out⟩

end Go.Proofs.Ytgpkdfefgcpbiaa
