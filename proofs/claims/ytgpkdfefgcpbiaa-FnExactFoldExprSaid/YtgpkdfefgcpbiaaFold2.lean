/-
  Whether an expression reads an array: the reference's l8Quiet, the program's reads; slices.ContainsFunc over expressions. Conditions: the argument reads as a tree.
-/
import Derived.Test.YtgpkdfefgcpbiaaFold1
import Derived.Test.YtgpkdfefgcpbiaaImplCode
namespace Go.Proofs.Ytgpkdfefgcpbiaa
set_option linter.unusedVariables false
set_option linter.unusedSimpArgs false
open Go Go.RowKit

def QuE (e : LExpr) : Prop := ∀ (φ : Nat → Prop) (v : Value) (w : World), ExprV w φ v e →
  Calls Try.prog 175 #[v] w fun x w' => x = .returned (.bool (quietE e)) ∧ Below w.heap.size w w'

set_option maxHeartbeats 1000000 in
theorem spec_l8Quiet (e : LExpr) : QuE e := by
  refine LExpr.ind (P := QuE) (fun k0 n0 ks ih => ?_) e
  obtain ⟨e, he⟩ : ∃ e : LExpr, e = ⟨k0, n0, ks⟩ := ⟨_, rfl⟩
  have hks : ks = e.kids := by rw [he]; rfl
  rw [← he]
  subst hks
  clear he
  intro φ v w h
  obtain ⟨kv, rfl, hk⟩ := h
  obtain ⟨ak, ck, rfl, -, hn, -, hc⟩ := hk.open
  have HD := show Hid _ from quietE_def e
  obtain ⟨W, hW, M⟩ : ∃ W, W = w.alloc (.cells #[.int .i64 e.kind, .int .i64 e.value, .slice ak e.kids.length ck] 41) ∧ Mem (fun _ => True) (fun _ => True) w W [.box w.heap.size [.int .i64 e.kind, .int .i64 e.value, .slice ak e.kids.length ck]] :=
    ⟨_, rfl, (Mem.start fun _ _ => trivial).box _ _⟩
  have HC := show Hid _ from hc
  have y0 := M.c 0 0 rfl rfl
  rw [hW] at y0
  clear hk hc
  by_cases q : e.kind = 3
  · have p : (e.kind == 3) = true := by simp [q]
    have HF : Hid (quietE e = false) := by rw [Hid, HD.out]; simp [q]
    have HB := show Hid _ from M.below fun _ _ => trivial
    clear q M
    go_enter Try.func175, Try.ntmps175
    go_wp2_with fail
    rw [← hW]
    clear hW
    go_ret
    exact ⟨ret_bool HF.out.symm, HB.out⟩
  have p : (e.kind == 3) = false := by simp [q]
  have HF : Hid (quietE e = e.kids.all quietE) := by rw [Hid, HD.out, decide_eq_true q]; rfl
  clear q
  go_enter Try.func175, Try.ntmps175
  go_wp2_with fail
  rw [← hW]
  clear hW y0 p
  go_loopw [3] (fun i wr => ∃ k : Nat, k ≤ e.kids.length ∧ i = .int .i64 k ∧ (e.kids.take k).all quietE = true ∧ Mem (fun _ => True) (fun _ => True) w wr [.box w.heap.size [.int .i64 e.kind, .int .i64 e.value, .slice ak e.kids.length ck]]) (fun i _ => e.kids.length - (intOf i).toNat)
  case atStart => exact ⟨0, Nat.zero_le _, rfl, rfl, M⟩
  case round =>
    clear M
    obtain ⟨k, hk, rfl, hall, M⟩ := hrel
    have HALL := show Hid _ from hall
    have hB := M.below fun _ _ => trivial
    have y2 := M.c 0 2 rfl rfl
    clear hall
    by_cases hlt : k < e.kids.length
    · obtain ⟨b, off, kv, rfl, hbk, hf, c0, c1', c2', hkv⟩ := HC.out k hlt
      rw [← (bcell hB).1 _ _ hbk] at c0 c1' c2'
      have HE := show Hid (ExprV wr φ (.agg #[.int .i64 e.kids[k].kind, .int .i64 e.kids[k].value, kv]) e.kids[k]) from ⟨kv, rfl, KidsV.nice _ _ _ _ _ _ (Agr.below hB) hkv⟩
      have HM := show Hid _ from M
      have hlt' : (k : Int) < e.kids.length := by omega
      clear hkv M hB
      go_wp2_with fail
      refine (ih _ (List.getElem_mem hlt) φ _ _ HE.out).mono ?_
      rintro x w2 ⟨rfl, b2⟩
      have HM2 := show Hid _ from HM.out.call b2
      obtain ⟨q, hq⟩ : ∃ q, q = quietE e.kids[k] := ⟨_, rfl⟩
      rw [← hq]
      have HQ := show Hid _ from hq
      clear b2 hq
      cases q
      · go_wp2_with fail
        go_ret
        exact ⟨ret_bool (by rw [HF.out]; symm; exact List.all_eq_false.2 ⟨_, List.getElem_mem hlt, by rw [← HQ.out]; simp⟩), HM2.out.below fun _ _ => trivial⟩
      · go_wp2_with fail
        refine ⟨⟨k + 1, by omega, by go_num, ?_, HM2.out⟩, by simp [intOf]; omega⟩
        rw [p_take_succ _ _ hlt, List.all_append, HALL.out]
        simp [← HQ.out]
    · have hkn : k = e.kids.length := by omega
      subst hkn
      have HB := show Hid _ from hB
      have hall := HALL.out
      rw [List.take_of_length_le (Nat.le_refl _)] at hall
      have HAL := show Hid _ from hall
      clear M hB hall
      go_wp2_with fail
      go_ret
      exact ⟨ret_bool (by rw [HF.out, HAL.out]), HB.out⟩

set_option maxHeartbeats 1000000 in
/-- slices.IndexFunc over expressions. -/
theorem indexFunc_expr (p : LExpr → Bool) (f : FuncId) (v : Value) (ks : List LExpr) (φ : Nat → Prop) (w : World) (h : KidsV w φ v ks) (he : ∀ args w, (callFunc f args).run Try.prog w = .ok (.enter f args) w)
    (hf : ∀ x ∈ ks, ∀ u w', ExprV w' φ u x → Calls Try.prog f #[u] w' fun e w'' => e = .returned (.bool (p x)) ∧ Below w'.heap.size w' w'') :
    Calls Try.prog 200 #[v, .func (.func f) #[] #[]] w fun e w' => ∃ r : Int, e = .returned (.int .i64 r) ∧ decide (0 ≤ r) = ks.any p ∧ Below w.heap.size w w' := by
  obtain ⟨ak, ck, rfl, -, hn, -, hc⟩ := h.open
  have HF := show Hid _ from hf
  have HC := show Hid _ from hc
  clear h hf hc
  go_enter Try.func200, Try.ntmps200
  go_wp2_with fail
  go_loopw [5, 8] (fun _ i wr => ∃ k : Nat, k ≤ ks.length ∧ i = .int .i64 k ∧ (ks.take k).any p = false ∧ Below w.heap.size w wr) (fun _ i _ => ks.length - (intOf i).toNat)
  case atStart => exact ⟨0, Nat.zero_le _, rfl, rfl, Below.refl _ _⟩
  case round =>
    obtain ⟨k, hk, rfl, ha, hB⟩ := hrel
    have HA := show Hid _ from ha
    have HB := show Hid _ from hB
    clear ha hB
    by_cases hlt : k < ks.length
    · obtain ⟨b, off, kv, rfl, hbk, hf, c0, c1', c2', hkv⟩ := HC.out k hlt
      rw [← (bcell HB.out).1 _ _ hbk] at c0 c1' c2'
      have HE := show Hid (ExprV wr φ (.agg #[.int .i64 ks[k].kind, .int .i64 ks[k].value, kv]) ks[k]) from ⟨kv, rfl, KidsV.nice _ _ _ _ _ _ (Agr.below HB.out) hkv⟩
      have hlt' : (k : Int) < ks.length := by omega
      clear hkv
      go_wp2_with fail
      refine (HF.out _ (List.getElem_mem hlt) _ _ HE.out).mono ?_
      rintro e w1 ⟨rfl, b1⟩
      have HB1 := show Hid _ from HB.out.trans (b1.mono HB.out.size)
      clear b1
      obtain ⟨q, hq⟩ : ∃ q, q = p ks[k] := ⟨_, rfl⟩
      rw [← hq]
      have HQ := show Hid _ from hq
      clear hq
      cases q
      · go_wp2_with fail
        exact ⟨⟨k + 1, by omega, by go_num, by rw [take_succ_get _ _ hlt, List.any_append, HA.out]; simp [← HQ.out], HB1.out⟩, by simp [intOf]; omega⟩
      · go_wp2_with fail
        go_ret
        exact ⟨_, rfl, by rw [decide_eq_true (by omega)]; symm; rw [List.any_eq_true]; exact ⟨_, List.getElem_mem hlt, HQ.out.symm⟩, HB1.out⟩
    · go_wp2_with fail
      go_ret
      refine ⟨_, rfl, ?_, HB.out⟩
      have := HA.out
      rw [List.take_of_length_le (by omega)] at this
      rw [this]; rfl
theorem containsFunc_expr (p : LExpr → Bool) (f : FuncId) (v : Value) (ks : List LExpr) (φ : Nat → Prop) (w : World) (h : KidsV w φ v ks) (he : ∀ args w, (callFunc f args).run Try.prog w = .ok (.enter f args) w)
    (hf : ∀ x ∈ ks, ∀ u w', ExprV w' φ u x → Calls Try.prog f #[u] w' fun e w'' => e = .returned (.bool (p x)) ∧ Below w'.heap.size w' w'') :
    Calls Try.prog 174 #[v, .func (.func f) #[] #[]] w fun e w' => e = .returned (.bool (ks.any p)) ∧ Below w.heap.size w w' := by
  obtain ⟨a1, c1, rfl, -⟩ := h.open
  have HF := show Hid _ from hf
  have HE := show Hid _ from he
  have HH := show Hid _ from h
  clear hf he h
  go_enter Try.func174, Try.ntmps174
  go_wp2_with fail
  refine (indexFunc_expr p f _ ks φ _ HH.out HE.out HF.out).mono ?_
  rintro e w1 ⟨r, rfl, hr, b1⟩
  have HR := show Hid _ from hr
  have HB := show Hid _ from b1
  clear hr b1
  go_wp2_with fail
  go_ret
  exact ⟨ret_bool HR.out, HB.out⟩

def ReE (e : LExpr) : Prop := ∀ (φ : Nat → Prop) (v : Value) (w : World), ExprV w φ v e →
  Calls Try.prog 139 #[v] w fun x w' => x = .returned (.bool (!quietE e)) ∧ Below w.heap.size w w'
theorem any_quiet (ks : List LExpr) : ks.any (fun e => !quietE e) = !ks.all quietE := by
  induction ks with
  | nil => rfl
  | cons a r ih => simp only [List.any_cons, List.all_cons, ih]; cases quietE a <;> simp

set_option maxHeartbeats 1000000 in
theorem impl_reads (e : LExpr) : ReE e := by
  refine LExpr.ind (P := ReE) (fun k0 n0 ks ih => ?_) e
  obtain ⟨e, he⟩ : ∃ e : LExpr, e = ⟨k0, n0, ks⟩ := ⟨_, rfl⟩
  have hks : ks = e.kids := by rw [he]; rfl
  rw [← he]
  subst hks
  clear he
  intro φ v w h
  obtain ⟨kv, rfl, hk⟩ := h
  have HD := show Hid _ from quietE_def e
  obtain ⟨W, hW, M⟩ : ∃ W, W = w.alloc (.cells #[.int .i64 e.kind, .int .i64 e.value, kv] 41) ∧ Mem (fun _ => True) (fun _ => True) w W [.box w.heap.size [.int .i64 e.kind, .int .i64 e.value, kv]] :=
    ⟨_, rfl, (Mem.start fun _ _ => trivial).box _ _⟩
  have HB := show Hid _ from M.below fun _ _ => trivial
  have HK := show Hid _ from KidsV.nice _ _ _ _ _ _ (Agr.below HB.out) hk
  have y0 := M.c 0 0 rfl rfl
  have y2 := M.c 0 2 rfl rfl
  rw [hW] at y0 y2
  clear hk M
  by_cases q : e.kind = 3
  · have p : (e.kind == 3) = true := by simp [q]
    have HF : Hid (quietE e = false) := by rw [Hid, HD.out]; simp [q]
    clear q
    go_enter Try.func139, Try.ntmps139
    go_wp2_with fail
    rw [← hW]
    clear hW
    go_ret
    exact ⟨ret_bool (by rw [HF.out]; rfl), HB.out⟩
  have p : (e.kind == 3) = false := by simp [q]
  have HF : Hid (quietE e = e.kids.all quietE) := by rw [Hid, HD.out, decide_eq_true q]; rfl
  clear q
  go_enter Try.func139, Try.ntmps139
  go_wp2_with fail
  rw [← hW]
  clear hW y0 p y2
  refine (containsFunc_expr (fun e => !quietE e) 139 _ e.kids φ _ HK.out (enters_of Try.func139 (by kernel_rfl) rfl) fun x hx u w' hu => ih x hx φ u w' hu).mono ?_
  rintro x w1 ⟨rfl, b1⟩
  rw [any_quiet]
  have HB1 := show Hid _ from HB.out.trans (b1.mono HB.out.size)
  clear b1
  go_wp2_with fail
  go_ret
  exact ⟨ret_bool (by rw [HF.out]), HB1.out⟩

end Go.Proofs.Ytgpkdfefgcpbiaa
