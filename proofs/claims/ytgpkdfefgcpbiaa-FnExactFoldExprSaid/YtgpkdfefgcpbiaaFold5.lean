/-
  Expressions folded, the reference's: l8Fold, FoldExpr. Conditions: the arguments read as trees; for l8Fold as many operands as the kinds have.
-/
import Derived.Test.YtgpkdfefgcpbiaaFold4
import Derived.Test.YtgpkdfefgcpbiaaRegC
namespace Go.Proofs.Ytgpkdfefgcpbiaa
set_option linter.unusedVariables false
set_option linter.unusedSimpArgs false
open Go Go.RowKit

theorem blk_row {w : World} {g : Nat} {cs : List Value} (h : Blk w g cs) : Row w (.slice (some ⟨g, 0, none⟩) 1 1) 1 cs.length cs := by
  refine ⟨by simp, _, _, rfl, Nat.le_refl _, by unfold maxLen; omega, fun _ => ⟨_, _, rfl, h.lt, fun j u hj => ?_⟩⟩
  rw [Nat.zero_add, h.cell j]; exact hj

theorem good_map {e : LExpr} (h : goodE e = true) : goodE ⟨e.kind, e.value, e.kids.map foldE⟩ = true := by
  rw [goodE_def] at h ⊢
  simp only [LExpr.kids, LExpr.kind, LExpr.value, List.length_map, Bool.and_eq_true] at h ⊢
  refine ⟨h.1, (goodEs_iff _).2 fun x hx => ?_⟩
  obtain ⟨y, hy, rfl⟩ := List.mem_map.1 hx
  exact foldE_good y ((goodEs_iff _).1 h.2 y hy)

def FoE (e : LExpr) : Prop := goodE e = true → ∀ (φ : Nat → Prop) (v : Value) (w : World), ExprV w φ v e →
  Calls Try.prog 74 #[v] w fun x w' => ∃ a c S, x = .returned (.agg #[.int .i64 (foldE e).kind, .int .i64 (foldE e).value, .slice a (foldE e).kids.length c]) ∧ KidsO w' (.slice a (foldE e).kids.length c) (foldE e).kids S ∧ (∀ b, S b → w.heap.size ≤ b ∧ b < w'.heap.size) ∧ Below w.heap.size w w'

set_option maxRecDepth 100000 in
set_option maxHeartbeats 8000000 in
theorem spec_l8Fold (e : LExpr) : FoE e := by
  refine LExpr.ind (P := FoE) (fun k0 n0 ks ih => ?_) e
  obtain ⟨e, he⟩ : ∃ e : LExpr, e = ⟨k0, n0, ks⟩ := ⟨_, rfl⟩
  have hks : ks = e.kids := by rw [he]; rfl
  rw [← he]
  subst hks
  clear he
  intro hgood φ v w h
  obtain ⟨kv, rfl, hk⟩ := h
  obtain ⟨ak, ck, rfl, -, hn, -, hc⟩ := hk.open
  have hl3 : e.kids.length ≤ 3 := by have h1 := goodE_len hgood; have h2 := arity_le e.kind; omega
  obtain ⟨W, hW, M⟩ : ∃ W, W = ((w.alloc (.cells #[.int .i64 e.kind, .int .i64 e.value, .slice ak e.kids.length ck] 41)).alloc (.cells #[.int .i64 0, .int .i64 0, .slice none 0 0] 41)).alloc (.cells #[.int .i64 e.kind, .int .i64 e.value, .slice none 0 0] 41) ∧
      Mem (fun _ => True) (fun _ => True) w W [.box w.heap.size [.int .i64 e.kind, .int .i64 e.value, .slice ak e.kids.length ck], .box (w.heap.size + 1) [.int .i64 0, .int .i64 0, .slice none 0 0], .box (w.heap.size + 1 + 1) [.int .i64 e.kind, .int .i64 e.value, .slice none 0 0], .row 41 3 (.slice none 0 0) 0 [], .own (fun _ => False) (fun w => ExprsO w [] (fun _ => False) [])] :=
    ⟨_, rfl, (((((Mem.start fun _ _ => trivial).box _ _).box' _ _ (by simp)).box' _ _ (by simp)).nil 41 3).noneE⟩
  have HC0 := show Hid _ from hc
  have HGK := show Hid (∀ x ∈ e.kids, goodE x = true) from (goodEs_iff _).1 (goodE_kids hgood)
  have HM := show Hid _ from M
  clear hk hc M
  go_enter Try.func74, Try.ntmps74
  go_wp2_with fail
  rw [← hW]
  clear hW
  go_loopw [4] (fun i wr => ∃ (k : Nat) (a : Option Addr) (c : Nat) (S : Nat → Prop) (ys : List Value), k ≤ e.kids.length ∧ i = .int .i64 k ∧ Mem (fun _ => True) (fun _ => True) w wr [.box w.heap.size [.int .i64 e.kind, .int .i64 e.value, .slice ak e.kids.length ck], .box (w.heap.size + 1) [.int .i64 0, .int .i64 0, .slice none 0 0], .box (w.heap.size + 1 + 1) [.int .i64 e.kind, .int .i64 e.value, .slice a k c], .row 41 3 (.slice a k c) k ys, .own S (fun w => ExprsO w ((e.kids.take k).map foldE) S ys)]) (fun i _ => e.kids.length - (intOf i).toNat)
  case atStart => exact ⟨0, none, 0, fun _ => False, [], Nat.zero_le _, rfl, HM.out⟩
  case round =>
    clear HM
    obtain ⟨k, a, c, S, ys, hk, rfl, M⟩ := hrel
    by_cases hlt : k < e.kids.length
    · obtain ⟨b, off, kv, rfl, hbk, hf, c0, c1, c2, hkv⟩ := HC0.out k hlt
      obtain ⟨ka, kc, rfl, -⟩ := hkv.open
      have HE : Hid (∀ w', Below w.heap.size w w' → Calls Try.prog 74 #[.agg #[.int .i64 e.kids[k].kind, .int .i64 e.kids[k].value, .slice ka e.kids[k].kids.length kc]] w' fun x w'' => ∃ a c S, x = .returned (.agg #[.int .i64 (foldE e.kids[k]).kind, .int .i64 (foldE e.kids[k]).value, .slice a (foldE e.kids[k]).kids.length c]) ∧ KidsO w'' (.slice a (foldE e.kids[k]).kids.length c) (foldE e.kids[k]).kids S ∧ (∀ b, S b → w'.heap.size ≤ b ∧ b < w''.heap.size) ∧ Below w'.heap.size w' w'') := fun w' hw =>
        ih _ (List.getElem_mem hlt) (HGK.out _ (List.getElem_mem hlt)) φ _ _ ⟨_, rfl, KidsV.nice _ _ _ _ _ _ (Agr.below hw) hkv⟩
      have HC : Hid (∀ (s : Nat) (g : Nat → Value) (w' : World), (fun (s : Nat) (g : Nat → Value) (w' : World) => match s with
  | 0 => Mem (fun _ => True) (fun _ => True) w w' ([.box w.heap.size [.int .i64 e.kind, .int .i64 e.value, .slice (some ⟨b, off, none⟩) e.kids.length ck], .box (w.heap.size + 1) [.int .i64 0, .int .i64 0, .slice none 0 0], .box (w.heap.size + 1 + 1) [.int .i64 e.kind, .int .i64 e.value, .slice a k c], .row 41 3 (.slice a k c) k ys, .own S (fun w => ExprsO w ((e.kids.take k).map foldE) S ys)])
  | 1 => ∃ a7 c7 T, g 0 = .agg #[.int .i64 (foldE e.kids[k]).kind, .int .i64 (foldE e.kids[k]).value, .slice a7 (foldE e.kids[k]).kids.length c7] ∧ Mem (fun _ => True) (fun _ => True) w w' ([.box w.heap.size [.int .i64 e.kind, .int .i64 e.value, .slice (some ⟨b, off, none⟩) e.kids.length ck], .box (w.heap.size + 1) [.int .i64 0, .int .i64 0, .slice none 0 0], .box (w.heap.size + 1 + 1) [.int .i64 e.kind, .int .i64 e.value, .slice a k c], .row 41 3 (.slice a k c) k ys, .own S (fun w => ExprsO w ((e.kids.take k).map foldE) S ys), .own T (fun w => KidsO w (.slice a7 (foldE e.kids[k]).kids.length c7) (foldE e.kids[k]).kids T)])
  | 2 => ∃ a7 c7 T gb, g 1 = .slice (some ⟨gb, 0, none⟩) 1 1 ∧ Mem (fun _ => True) (fun _ => True) w w' ([.box w.heap.size [.int .i64 e.kind, .int .i64 e.value, .slice (some ⟨b, off, none⟩) e.kids.length ck], .box (w.heap.size + 1) [.int .i64 0, .int .i64 0, .slice none 0 0], .box (w.heap.size + 1 + 1) [.int .i64 e.kind, .int .i64 e.value, .slice a k c], .row 41 3 (.slice a k c) k ys, .own S (fun w => ExprsO w ((e.kids.take k).map foldE) S ys), .own T (fun w => KidsO w (.slice a7 (foldE e.kids[k]).kids.length c7) (foldE e.kids[k]).kids T), .box gb [.int .i64 (foldE e.kids[k]).kind, .int .i64 (foldE e.kids[k]).value, .slice a7 (foldE e.kids[k]).kids.length c7]])
  | 3 => ∃ a7 c7 T gb a9 c9, g 2 = .slice a9 (k + 1) c9 ∧ Mem (fun _ => True) (fun _ => True) w w' ([.box w.heap.size [.int .i64 e.kind, .int .i64 e.value, .slice (some ⟨b, off, none⟩) e.kids.length ck], .box (w.heap.size + 1) [.int .i64 0, .int .i64 0, .slice none 0 0], .box (w.heap.size + 1 + 1) [.int .i64 e.kind, .int .i64 e.value, .slice a k c], .row 41 3 (.slice a9 (k + 1) c9) (k + 1) (ys ++ [.int .i64 (foldE e.kids[k]).kind, .int .i64 (foldE e.kids[k]).value, .slice a7 (foldE e.kids[k]).kids.length c7]), .own S (fun w => ExprsO w ((e.kids.take k).map foldE) S ys), .own T (fun w => KidsO w (.slice a7 (foldE e.kids[k]).kids.length c7) (foldE e.kids[k]).kids T), .box gb [.int .i64 (foldE e.kids[k]).kind, .int .i64 (foldE e.kids[k]).value, .slice a7 (foldE e.kids[k]).kids.length c7]])
  | _ => False : Nat → (Nat → Value) → World → Prop) s g w' → w'.cell? ⟨w.heap.size + 1 + 1, 2, none⟩ = some (.slice a k c) ∧ w'.cell? ⟨w.heap.size, 2, none⟩ = some (.slice (some ⟨b, off, none⟩) e.kids.length ck) ∧ w'.cell? ⟨b, off + k * 3, none⟩ = some (.int .i64 e.kids[k].kind) ∧ w'.cell? ⟨b, off + k * 3 + 1, none⟩ = some (.int .i64 e.kids[k].value) ∧ w'.cell? ⟨b, off + k * 3 + 2, none⟩ = some (.slice ka e.kids[k].kids.length kc)) := by
        intro s g w' h
        have key : ∀ (L : List Res), Mem (fun _ => True) (fun _ => True) w w' L → L[0]? = some (.box w.heap.size [.int .i64 e.kind, .int .i64 e.value, .slice (some ⟨b, off, none⟩) e.kids.length ck]) → L[2]? = some (.box (w.heap.size + 1 + 1) [.int .i64 e.kind, .int .i64 e.value, .slice a k c]) → w'.cell? ⟨w.heap.size + 1 + 1, 2, none⟩ = some (.slice a k c) ∧ w'.cell? ⟨w.heap.size, 2, none⟩ = some (.slice (some ⟨b, off, none⟩) e.kids.length ck) ∧ w'.cell? ⟨b, off + k * 3, none⟩ = some (.int .i64 e.kids[k].kind) ∧ w'.cell? ⟨b, off + k * 3 + 1, none⟩ = some (.int .i64 e.kids[k].value) ∧ w'.cell? ⟨b, off + k * 3 + 2, none⟩ = some (.slice ka e.kids[k].kids.length kc) := fun L M h0 h2 => by
          have bb := M.below fun _ _ => trivial
          refine ⟨M.c 2 2 h2 rfl, M.c 0 2 h0 rfl, ?_, ?_, ?_⟩
          · rw [(bcell bb).1 _ _ hbk]; exact c0
          · rw [(bcell bb).1 _ _ hbk]; exact c1
          · rw [(bcell bb).1 _ _ hbk]; exact c2
        match s, h with
        | 0, h => exact key _ h rfl rfl
        | 1, ⟨_, _, _, _, h⟩ => exact key _ h rfl rfl
        | 2, ⟨_, _, _, _, _, h⟩ => exact key _ h rfl rfl
        | 3, ⟨_, _, _, _, _, _, _, h⟩ => exact key _ h rfl rfl
      have x2 := M.c 0 2 rfl rfl
      have hlt' : (k : Int) < e.kids.length := by omega
      have HM := show Hid _ from M
      clear M hkv c0 c1 c2
      go_wp2_with fail
      clear x2
      refine wp_region_chain 11 [7, 8, 9] (fun i => [.pointer (some ⟨w.heap.size + 1 + 1, 2, none⟩), .slice a k c, .pointer (some ⟨w.heap.size, 2, none⟩), .slice (some ⟨b, off, none⟩) e.kids.length ck, .int .i64 k, .pointer (some ⟨b, off + k * 3, none⟩), .agg #[.int .i64 e.kids[k].kind, .int .i64 e.kids[k].value, .slice ka e.kids[k].kids.length kc], undef, undef, undef, .pointer (some ⟨w.heap.size + 1 + 1, 2, none⟩)].getD i undef) (fun (s : Nat) (g : Nat → Value) (w' : World) => match s with
        | 0 => Mem (fun _ => True) (fun _ => True) w w' ([.box w.heap.size [.int .i64 e.kind, .int .i64 e.value, .slice (some ⟨b, off, none⟩) e.kids.length ck], .box (w.heap.size + 1) [.int .i64 0, .int .i64 0, .slice none 0 0], .box (w.heap.size + 1 + 1) [.int .i64 e.kind, .int .i64 e.value, .slice a k c], .row 41 3 (.slice a k c) k ys, .own S (fun w => ExprsO w ((e.kids.take k).map foldE) S ys)])
        | 1 => ∃ a7 c7 T, g 0 = .agg #[.int .i64 (foldE e.kids[k]).kind, .int .i64 (foldE e.kids[k]).value, .slice a7 (foldE e.kids[k]).kids.length c7] ∧ Mem (fun _ => True) (fun _ => True) w w' ([.box w.heap.size [.int .i64 e.kind, .int .i64 e.value, .slice (some ⟨b, off, none⟩) e.kids.length ck], .box (w.heap.size + 1) [.int .i64 0, .int .i64 0, .slice none 0 0], .box (w.heap.size + 1 + 1) [.int .i64 e.kind, .int .i64 e.value, .slice a k c], .row 41 3 (.slice a k c) k ys, .own S (fun w => ExprsO w ((e.kids.take k).map foldE) S ys), .own T (fun w => KidsO w (.slice a7 (foldE e.kids[k]).kids.length c7) (foldE e.kids[k]).kids T)])
        | 2 => ∃ a7 c7 T gb, g 1 = .slice (some ⟨gb, 0, none⟩) 1 1 ∧ Mem (fun _ => True) (fun _ => True) w w' ([.box w.heap.size [.int .i64 e.kind, .int .i64 e.value, .slice (some ⟨b, off, none⟩) e.kids.length ck], .box (w.heap.size + 1) [.int .i64 0, .int .i64 0, .slice none 0 0], .box (w.heap.size + 1 + 1) [.int .i64 e.kind, .int .i64 e.value, .slice a k c], .row 41 3 (.slice a k c) k ys, .own S (fun w => ExprsO w ((e.kids.take k).map foldE) S ys), .own T (fun w => KidsO w (.slice a7 (foldE e.kids[k]).kids.length c7) (foldE e.kids[k]).kids T), .box gb [.int .i64 (foldE e.kids[k]).kind, .int .i64 (foldE e.kids[k]).value, .slice a7 (foldE e.kids[k]).kids.length c7]])
        | 3 => ∃ a7 c7 T gb a9 c9, g 2 = .slice a9 (k + 1) c9 ∧ Mem (fun _ => True) (fun _ => True) w w' ([.box w.heap.size [.int .i64 e.kind, .int .i64 e.value, .slice (some ⟨b, off, none⟩) e.kids.length ck], .box (w.heap.size + 1) [.int .i64 0, .int .i64 0, .slice none 0 0], .box (w.heap.size + 1 + 1) [.int .i64 e.kind, .int .i64 e.value, .slice a k c], .row 41 3 (.slice a9 (k + 1) c9) (k + 1) (ys ++ [.int .i64 (foldE e.kids[k]).kind, .int .i64 (foldE e.kids[k]).value, .slice a7 (foldE e.kids[k]).kids.length c7]), .own S (fun w => ExprsO w ((e.kids.take k).map foldE) S ys), .own T (fun w => KidsO w (.slice a7 (foldE e.kids[k]).kids.length c7) (foldE e.kids[k]).kids T), .box gb [.int .i64 (foldE e.kids[k]).kind, .int .i64 (foldE e.kids[k]).value, .slice a7 (foldE e.kids[k]).kids.length c7]])
        | _ => False) (by kernel_rfl) (by kernel_rfl) (by kernel_rfl) (by kernel_rfl) (by decide) (by decide) ?_ ?_ ?_ ?_ ?_
      · intro s g g' w' hg h
        match s, h with
        | 0, h => exact h
        | 1, ⟨a7, c7, T, h1, h2⟩ => exact ⟨a7, c7, T, (hg 0 (by omega)).symm.trans h1, h2⟩
        | 2, ⟨a7, c7, T, gb, h1, h2⟩ => exact ⟨a7, c7, T, gb, (hg 1 (by omega)).symm.trans h1, h2⟩
        | 3, ⟨a7, c7, T, gb, a9, c9, h1, h2⟩ => exact ⟨a7, c7, T, gb, a9, c9, (hg 2 (by omega)).symm.trans h1, h2⟩
      · intro g
        exact HM.out.drew
      · intro i o hi hn ho s f w' hst hdep Q' hQ
        have HQ := show Hid _ from hQ
        clear hQ
        have hc : i = 0 ∨ i = 1 ∨ i = 2 ∨ i = 3 ∨ i = 4 ∨ i = 5 ∨ i = 6 ∨ i = 10 := by simp at hn; omega
        clear hn
        rcases hc with rfl | rfl | rfl | rfl | rfl | rfl | rfl | rfl
        all_goals
          simp only [List.getElem?_cons_zero, List.getElem?_cons_succ, Option.some.injEq] at ho
          subst ho
        · clear hdep hst
          simp only [putAll]
          go_wp2_with fail
          exact use_act HQ.out (by kernel_rfl)
        · have e0 : f 0 = .pointer (some ⟨w.heap.size + 1 + 1, 2, none⟩) := hdep { on := 0, ground := .data } (by simp) (by kernel_rfl) (by simp)
          obtain ⟨x0, x1, x2, x3, x4⟩ := HC.out _ _ _ hst
          clear hdep hst
          obtain ⟨f', rfl⟩ := upd_self e0
          clear e0
          simp only [putAll, upd, ↓reduceIte, Nat.reduceEqDiff]
          go_wp2_with fail
          exact use_act HQ.out (by kernel_rfl)
        · clear hdep hst
          simp only [putAll]
          go_wp2_with fail
          exact use_act HQ.out (by kernel_rfl)
        · have e2 : f 2 = .pointer (some ⟨w.heap.size, 2, none⟩) := hdep { on := 2, ground := .data } (by simp) (by kernel_rfl) (by simp)
          obtain ⟨x0, x1, x2, x3, x4⟩ := HC.out _ _ _ hst
          clear hdep hst
          obtain ⟨f', rfl⟩ := upd_self e2
          clear e2
          simp only [putAll, upd, ↓reduceIte, Nat.reduceEqDiff]
          go_wp2_with fail
          exact use_act HQ.out (by kernel_rfl)
        · clear hdep hst
          simp only [putAll]
          go_wp2_with fail
          exact use_act HQ.out (by kernel_rfl)
        · have e3 : f 3 = .slice (some ⟨b, off, none⟩) e.kids.length ck := hdep { on := 3, ground := .data } (by simp) (by kernel_rfl) (by simp)
          have e4 : f 4 = .int .i64 k := hdep { on := 4, ground := .data } (by simp) (by kernel_rfl) (by simp)
          obtain ⟨x0, x1, x2, x3, x4⟩ := HC.out _ _ _ hst
          clear hdep hst
          obtain ⟨f', rfl⟩ := upd_self e3
          clear e3
          simp only [upd, ↓reduceIte, Nat.reduceEqDiff] at e4
          obtain ⟨f'', rfl⟩ := upd_self e4
          clear e4
          simp only [putAll, upd, ↓reduceIte, Nat.reduceEqDiff]
          go_wp2_with fail
          exact use_act HQ.out (by kernel_rfl)
        · have e5 : f 5 = .pointer (some ⟨b, off + k * 3, none⟩) := hdep { on := 5, ground := .data } (by simp) (by kernel_rfl) (by simp)
          obtain ⟨x0, x1, x2, x3, x4⟩ := HC.out _ _ _ hst
          clear hdep hst
          obtain ⟨f', rfl⟩ := upd_self e5
          clear e5
          simp only [putAll, upd, ↓reduceIte, Nat.reduceEqDiff]
          go_wp2_with fail
          exact use_act HQ.out (by kernel_rfl)
        · clear hdep hst
          simp only [putAll]
          go_wp2_with fail
          exact use_act HQ.out (by kernel_rfl)
      · intro s j o hs ho f w' hst hdep Q' hQ
        have HQ := show Hid _ from hQ
        clear hQ
        match s, hs, hst, HQ with
        | 0, hs, hst, HQ =>
          simp only [List.getElem?_cons_zero, Option.some.injEq] at hs
          subst hs
          simp only [List.getElem?_cons_zero, List.getElem?_cons_succ, Option.some.injEq] at ho
          subst ho
          have M : Mem (fun _ => True) (fun _ => True) w w' ([.box w.heap.size [.int .i64 e.kind, .int .i64 e.value, .slice (some ⟨b, off, none⟩) e.kids.length ck], .box (w.heap.size + 1) [.int .i64 0, .int .i64 0, .slice none 0 0], .box (w.heap.size + 1 + 1) [.int .i64 e.kind, .int .i64 e.value, .slice a k c], .row 41 3 (.slice a k c) k ys, .own S (fun w => ExprsO w ((e.kids.take k).map foldE) S ys)]) := hst
          have HM7 := show Hid _ from M
          have e6 : f 6 = .agg #[.int .i64 e.kids[k].kind, .int .i64 e.kids[k].value, .slice ka e.kids[k].kids.length kc] := hdep { on := 6, ground := .data } (by simp) (by kernel_rfl) (by simp)
          clear hdep hst M
          obtain ⟨f', rfl⟩ := upd_self e6
          clear e6
          simp only [putAll, upd, ↓reduceIte, Nat.reduceEqDiff]
          go_wp2_with fail
          refine (HE.out w' (HM7.out.below fun _ _ => trivial)).mono ?_
          rintro x w7 ⟨a7, c7, T, rfl, hO, hT, b7⟩
          have HM8 := show Hid _ from HM7.out.callO b7 (S := T) (R := fun w => KidsO w (.slice a7 (foldE e.kids[k]).kids.length c7) (foldE e.kids[k]).kids T) (fun _ _ h hs => KidsO.same h hs) hO hT
          clear hO hT b7
          go_wp2_with fail
          exact use_act (HQ.out (.agg #[.int .i64 (foldE e.kids[k]).kind, .int .i64 (foldE e.kids[k]).value, .slice a7 (foldE e.kids[k]).kids.length c7]) _ ⟨a7, c7, T, rfl, HM8.out⟩) (by kernel_rfl)
        | 1, hs, hst, HQ =>
          simp only [List.getElem?_cons_zero, List.getElem?_cons_succ, Option.some.injEq] at hs
          subst hs
          simp only [List.getElem?_cons_zero, List.getElem?_cons_succ, Option.some.injEq] at ho
          subst ho
          obtain ⟨a7, c7, T, e7, M⟩ := hst
          have e7 : f 7 = .agg #[.int .i64 (foldE e.kids[k]).kind, .int .i64 (foldE e.kids[k]).value, .slice a7 (foldE e.kids[k]).kids.length c7] := e7
          have HM7 := show Hid _ from M.box [.int .i64 (foldE e.kids[k]).kind, .int .i64 (foldE e.kids[k]).value, .slice a7 (foldE e.kids[k]).kids.length c7] 41
          clear hdep M
          obtain ⟨f', rfl⟩ := upd_self e7
          clear e7
          simp only [putAll, upd, ↓reduceIte, Nat.reduceEqDiff]
          go_wp2_with fail
          exact use_act (HQ.out (.slice (some ⟨w'.heap.size, 0, none⟩) 1 1) _ ⟨a7, c7, T, w'.heap.size, rfl, HM7.out⟩) (by kernel_rfl)
        | 2, hs, hst, HQ =>
          simp only [List.getElem?_cons_zero, List.getElem?_cons_succ, Option.some.injEq] at hs
          subst hs
          simp only [List.getElem?_cons_zero, List.getElem?_cons_succ, Option.some.injEq] at ho
          subst ho
          obtain ⟨a7, c7, T, gb, e8, M⟩ := hst
          have e8 : f 8 = .slice (some ⟨gb, 0, none⟩) 1 1 := e8
          have e1 : f 1 = .slice a k c := hdep { on := 1, ground := .data } (by simp) (by kernel_rfl) (by simp)
          clear hdep
          refine wpList_app rfl _ _ rfl Try.underlying39 infoE rfl (by omega) (Eq.trans (by kernel_rfl) e1) (M.r 3 rfl) (Eq.trans (by kernel_rfl) e8) (blk_row (M.blk 6 rfl)) (fun u hu => by simp at hu; rcases hu with rfl | rfl | rfl <;> rfl) (by omega) (by omega) (Nat.zero_le _) ?_
          intro a9 c9 w9 o9 _ g9 n9
          exact wpList_nil (HQ.out _ _ ⟨a7, c7, T, gb, a9, c9, rfl, M.app 3 rfl o9 g9 n9⟩)
        | s + 3, hs, _, _ => simp at hs
      · intro o ho f w' hst hall
        simp only [List.getElem?_cons_zero, List.getElem?_cons_succ, Option.some.injEq] at ho
        subst ho
        obtain ⟨a7, c7, T, gb, a9, c9, e9, M⟩ := hst
        have e9 : f 9 = .slice a9 (k + 1) c9 := e9
        have e10 : f 10 = .pointer (some ⟨w.heap.size + 1 + 1, 2, none⟩) := hall 10 (by omega) (by simp)
        have x0 := M.c 2 2 rfl rfl
        have f0 := M.f 2 rfl
        have M9 : Mem (fun _ => True) (fun _ => True) w _ ([.box w.heap.size [.int .i64 e.kind, .int .i64 e.value, .slice (some ⟨b, off, none⟩) e.kids.length ck], .box (w.heap.size + 1) [.int .i64 0, .int .i64 0, .slice none 0 0], .box (w.heap.size + 1 + 1) [.int .i64 e.kind, .int .i64 e.value, .slice a9 (k + 1) c9], .row 41 3 (.slice a9 (k + 1) c9) (k + 1) (ys ++ [.int .i64 (foldE e.kids[k]).kind, .int .i64 (foldE e.kids[k]).value, .slice a7 (foldE e.kids[k]).kids.length c7])] ++ [.own S (fun w => ExprsO w ((e.kids.take k).map foldE) S ys), .own T (fun w => KidsO w (.slice a7 (foldE e.kids[k]).kids.length c7) (foldE e.kids[k]).kids T)]) := (M.set 2 rfl 2 (.slice a9 (k + 1) c9)).take 6
        have HM9 := show Hid _ from Mem.joinE (e := foldE e.kids[k]) M9
        clear M9
        clear hall M HM HC
        obtain ⟨f', rfl⟩ := upd_self e9
        clear e9
        simp only [upd, ↓reduceIte, Nat.reduceEqDiff] at e10
        obtain ⟨f'', rfl⟩ := upd_self e10
        clear e10
        simp only [putAll, upd, ↓reduceIte, Nat.reduceEqDiff]
        go_wp2_with fail
        refine ⟨⟨k + 1, a9, c9, _, _, by omega, by go_num, by rw [take_succ_get _ _ hlt, List.map_append]; exact HM9.out⟩, by simp [intOf]; omega⟩
    · have hkn : k = e.kids.length := by omega
      subst hkn
      have x0 := M.c 2 0 rfl rfl
      have x1 := M.c 2 1 rfl rfl
      have x2 := M.c 2 2 rfl rfl
      have x3 := M.c 0 2 rfl rfl
      rw [List.take_of_length_le (Nat.le_refl _)] at M
      have M3 : Mem (fun _ => True) (fun _ => True) w wr ([.box w.heap.size [.int .i64 e.kind, .int .i64 e.value, .slice ak e.kids.length ck], .box (w.heap.size + 1) [.int .i64 0, .int .i64 0, .slice none 0 0], .box (w.heap.size + 1 + 1) [.int .i64 e.kind, .int .i64 e.value, .slice a e.kids.length c]] ++ [.row 41 3 (.slice a e.kids.length c) e.kids.length ys, .own S (fun w => ExprsO w (e.kids.map foldE) S ys)]) := M
      have M4 := Mem.joinK M3 (by simp)
      have HG2 := show Hid (goodE ⟨e.kind, e.value, e.kids.map foldE⟩ = true) from good_map hgood
      have HM4 := show Hid _ from M4
      clear M M3 M4
      go_wp2_with fail
      clear x0 x1 x2 x3
      refine (spec_l8Node ⟨e.kind, e.value, e.kids.map foldE⟩ HG2.out _ _ _ (HM4.out.o 3 rfl)).mono ?_
      rintro x w2 ⟨a2, c2, rfl, hO, b2⟩
      rw [← foldE_def] at hO ⊢
      have M5 := (HM4.out.call b2).turn 3 rfl (Kept.refl _ _) (fun _ _ h hs => KidsO.same h hs) hO
      have d0 := M5.c 1 0 rfl rfl
      have d1 := M5.c 1 1 rfl rfl
      have d2 := M5.c 1 2 rfl rfl
      have ff := M5.f 1 rfl
      have HM6 := show Hid _ from ((M5.set 1 rfl 0 (.int .i64 (foldE e).kind)).set 1 rfl 1 (.int .i64 (foldE e).value)).set 1 rfl 2 (.slice a2 (foldE e).kids.length c2)
      clear M5 hO b2 HM4
      go_wp2_with fail
      have M2 := HM6.out
      have r0 : World.cell? _ ⟨w.heap.size + 1, 0, none⟩ = some (.int .i64 (foldE e).kind) := M2.c 1 0 rfl rfl
      have r1 : World.cell? _ ⟨w.heap.size + 1, 1, none⟩ = some (.int .i64 (foldE e).value) := M2.c 1 1 rfl rfl
      have r2 : World.cell? _ ⟨w.heap.size + 1, 2, none⟩ = some (.slice a2 (foldE e).kids.length c2) := M2.c 1 2 rfl rfl
      refine bodyPost_ret (v := .agg #[.int .i64 (foldE e).kind, .int .i64 (foldE e).value, .slice a2 (foldE e).kids.length c2]) (by simp [results, Try.results74, go_sem, r0, r1, r2]) rfl ⟨a2, c2, _, rfl, M2.o 3 rfl, fun b hb => ⟨?_, M2.lt (List.mem_of_getElem? (i := 3) rfl) hb⟩, M2.below fun _ _ => trivial⟩
      exact (M2.ge _ b (List.mem_of_getElem? (i := 3) rfl) hb).elim (fun h => h) fun h => absurd trivial h

end Go.Proofs.Ytgpkdfefgcpbiaa
