/-
  Expressions folded, the program's fold. Conditions: the argument reads as a tree; as many operands as the kinds have.
-/
import Derived.Test.YtgpkdfefgcpbiaaFold5
namespace Go.Proofs.Ytgpkdfefgcpbiaa
set_option linter.unusedVariables false
set_option linter.unusedSimpArgs false
open Go Go.RowKit

theorem cell_own {w w' : World} {S : Nat → Prop} {g o : Nat} {u : Value} (hs : S g) (h : w.cell? ⟨g, o, none⟩ = some u) (hk : ∀ b, S b → b < w.heap.size → w'.heap[b]? = w.heap[b]?) : w'.cell? ⟨g, o, none⟩ = some u := by
  have := hk g hs (World.block_lt_of_cell? w _ h)
  simp only [World.cell?, this] at h ⊢
  exact h
/-- Two operands, opened. -/
def TwoO (w : World) (S : Nat → Prop) (g off cap : Nat) (av : Option Addr) (ac : Nat) (bv : Option Addr) (bc : Nat) (a b : LExpr) : Prop :=
  S g ∧ w.cell? ⟨g, off, none⟩ = some (.int .i64 a.kind) ∧ w.cell? ⟨g, off + 1, none⟩ = some (.int .i64 a.value) ∧ w.cell? ⟨g, off + 2, none⟩ = some (.slice av a.kids.length ac) ∧
      w.cell? ⟨g, off + 3, none⟩ = some (.int .i64 b.kind) ∧ w.cell? ⟨g, off + 4, none⟩ = some (.int .i64 b.value) ∧ w.cell? ⟨g, off + 5, none⟩ = some (.slice bv b.kids.length bc) ∧
    KidsO w (.slice av a.kids.length ac) a.kids S ∧ KidsO w (.slice bv b.kids.length bc) b.kids S ∧ KidsO w (.slice (some ⟨g, off, none⟩) 2 cap) [a, b] S
theorem TwoO.same {w w' : World} {S : Nat → Prop} {g off cap : Nat} {av : Option Addr} {ac : Nat} {bv : Option Addr} {bc : Nat} {a b : LExpr} (h : TwoO w S g off cap av ac bv bc a b) (hk : ∀ b, S b → b < w.heap.size → w'.heap[b]? = w.heap[b]?) : TwoO w' S g off cap av ac bv bc a b :=
  ⟨h.1, cell_own h.1 h.2.1 hk, cell_own h.1 h.2.2.1 hk, cell_own h.1 h.2.2.2.1 hk, cell_own h.1 h.2.2.2.2.1 hk, cell_own h.1 h.2.2.2.2.2.1 hk, cell_own h.1 h.2.2.2.2.2.2.1 hk, h.2.2.2.2.2.2.2.1.same hk, h.2.2.2.2.2.2.2.2.1.same hk, h.2.2.2.2.2.2.2.2.2.same hk⟩
/-- Three operands, opened. -/
def ThreeO (w : World) (S : Nat → Prop) (g off cap : Nat) (av : Option Addr) (ac : Nat) (bv : Option Addr) (bc : Nat) (cv : Option Addr) (cc : Nat) (a b c : LExpr) : Prop :=
  S g ∧ (w.cell? ⟨g, off, none⟩ = some (.int .i64 a.kind) ∧ w.cell? ⟨g, off + 1, none⟩ = some (.int .i64 a.value) ∧ w.cell? ⟨g, off + 2, none⟩ = some (.slice av a.kids.length ac) ∧
      w.cell? ⟨g, off + 3, none⟩ = some (.int .i64 b.kind) ∧ w.cell? ⟨g, off + 4, none⟩ = some (.int .i64 b.value) ∧ w.cell? ⟨g, off + 5, none⟩ = some (.slice bv b.kids.length bc) ∧
      w.cell? ⟨g, off + 6, none⟩ = some (.int .i64 c.kind) ∧ w.cell? ⟨g, off + 7, none⟩ = some (.int .i64 c.value) ∧ w.cell? ⟨g, off + 8, none⟩ = some (.slice cv c.kids.length cc)) ∧
    KidsO w (.slice av a.kids.length ac) a.kids S ∧ KidsO w (.slice bv b.kids.length bc) b.kids S ∧ KidsO w (.slice cv c.kids.length cc) c.kids S ∧ KidsO w (.slice (some ⟨g, off, none⟩) 3 cap) [a, b, c] S
theorem ThreeO.same {w w' : World} {S : Nat → Prop} {g off cap : Nat} {av : Option Addr} {ac : Nat} {bv : Option Addr} {bc : Nat} {cv : Option Addr} {cc : Nat} {a b c : LExpr} (h : ThreeO w S g off cap av ac bv bc cv cc a b c) (hk : ∀ b, S b → b < w.heap.size → w'.heap[b]? = w.heap[b]?) : ThreeO w' S g off cap av ac bv bc cv cc a b c := by
  obtain ⟨h1, ⟨k0, k1, k2, k3, k4, k5, k6, k7, k8⟩, h2, h3, h4, h5⟩ := h
  exact ⟨h1, ⟨cell_own h1 k0 hk, cell_own h1 k1 hk, cell_own h1 k2 hk, cell_own h1 k3 hk, cell_own h1 k4 hk, cell_own h1 k5 hk, cell_own h1 k6 hk, cell_own h1 k7 hk, cell_own h1 k8 hk⟩, h2.same hk, h3.same hk, h4.same hk, h5.same hk⟩

/-- What folding gives, in memory. -/
def FoQ (w : World) (e : LExpr) (x : Ending) (w' : World) : Prop :=
  ∃ a c S, x = .returned (.agg #[.int .i64 (foldE e).kind, .int .i64 (foldE e).value, .slice a (foldE e).kids.length c]) ∧ KidsO w' (.slice a (foldE e).kids.length c) (foldE e).kids S ∧ (∀ b, S b → w.heap.size ≤ b ∧ b < w'.heap.size) ∧ Below w.heap.size w w'
def FoI (e : LExpr) : Prop := goodE e = true → ∀ (φ : Nat → Prop) (v : Value) (w : World), ExprV w φ v e →
  Calls Try.prog 77 #[v] w fun x w' => FoQ w e x w'

set_option maxRecDepth 100000 in
set_option maxHeartbeats 32000000 in
theorem impl_fold (e : LExpr) : FoI e := by
  refine LExpr.ind (P := FoI) (fun k0 n0 ks ih => ?_) e
  obtain ⟨e, he⟩ : ∃ e : LExpr, e = ⟨k0, n0, ks⟩ := ⟨_, rfl⟩
  have hks : ks = e.kids := by rw [he]; rfl
  rw [← he]
  subst hks
  clear he
  intro hgood φ v w h
  obtain ⟨kv, rfl, hk⟩ := h
  obtain ⟨ak, ck, rfl, -, hn, -, hc⟩ := hk.open
  have hl3 : e.kids.length ≤ 3 := by have h1 := goodE_len hgood; have h2 := arity_le e.kind; omega
  obtain ⟨m, hm⟩ : ∃ m, m = e.kids.length := ⟨_, rfl⟩
  rw [← hm] at hn hl3 ⊢
  obtain ⟨W, hW, M⟩ : ∃ W, W = ((w.alloc (.cells #[.int .i64 e.kind, .int .i64 e.value, .slice ak m ck] 41)).alloc (.cells #[.int .i64 0, .int .i64 0, .slice none 0 0] 41)).alloc (.cells #[.int .i64 e.kind, .int .i64 e.value, .slice none 0 0] 41) ∧
      Mem (fun _ => True) (fun _ => True) w W [.box w.heap.size [.int .i64 e.kind, .int .i64 e.value, .slice ak m ck], .box (w.heap.size + 1) [.int .i64 0, .int .i64 0, .slice none 0 0], .box (w.heap.size + 1 + 1) [.int .i64 e.kind, .int .i64 e.value, .slice none 0 0], .row 41 3 (.slice none 0 0) 0 [], .own (fun _ => False) (fun w => ExprsO w [] (fun _ => False) [])] :=
    ⟨_, rfl, (((((Mem.start fun _ _ => trivial).box _ _).box' _ _ (by simp)).box' _ _ (by simp)).nil 41 3).noneE⟩
  have HC0 := show Hid _ from hc
  have HGK := show Hid (∀ x ∈ e.kids, goodE x = true) from (goodEs_iff _).1 (goodE_kids hgood)
  have HM := show Hid _ from M
  have HMM := show Hid _ from hm
  have y2 := M.c 0 2 rfl rfl
  rw [hW] at y2
  clear hk hc M hm
  go_enter Try.func77, Try.ntmps77
  go_wp2_with fail
  rw [← hW]
  clear hW y2
  go_loopw [17] (fun i wr => ∃ (k : Nat) (a : Option Addr) (c : Nat) (S : Nat → Prop) (ys : List Value), k ≤ m ∧ i = .int .i64 k ∧ Mem (fun _ => True) (fun _ => True) w wr [.box w.heap.size [.int .i64 e.kind, .int .i64 e.value, .slice ak m ck], .box (w.heap.size + 1) [.int .i64 0, .int .i64 0, .slice none 0 0], .box (w.heap.size + 1 + 1) [.int .i64 e.kind, .int .i64 e.value, .slice a k c], .row 41 3 (.slice a k c) k ys, .own S (fun w => ExprsO w ((e.kids.take k).map foldE) S ys)]) (fun i _ => m - (intOf i).toNat)
  case atStart => exact ⟨0, none, 0, fun _ => False, [], Nat.zero_le _, rfl, HM.out⟩
  case round =>
    clear HM
    obtain ⟨k, a, c, S, ys, hk, rfl, M⟩ := hrel
    by_cases hltm : k < m
    · have hlt : k < e.kids.length := by have := HMM.out; omega
      obtain ⟨b, off, kv, rfl, hbk, hf, c0, c1, c2, hkv⟩ := HC0.out k hlt
      obtain ⟨ka, kc, rfl, -⟩ := hkv.open
      rw [← (bcell (M.below fun _ _ => trivial)).1 _ _ hbk] at c0 c1 c2
      have HE : Hid (∀ w', Below w.heap.size w w' → Calls Try.prog 77 #[.agg #[.int .i64 e.kids[k].kind, .int .i64 e.kids[k].value, .slice ka e.kids[k].kids.length kc]] w' fun x w'' => FoQ w' e.kids[k] x w'') := fun w' hw =>
        ih _ (List.getElem_mem hlt) (HGK.out _ (List.getElem_mem hlt)) φ _ _ ⟨_, rfl, KidsV.nice _ _ _ _ _ _ (Agr.below hw) hkv⟩
      have HM := show Hid _ from M.box [.int .i64 e.kids[k].kind, .int .i64 e.kids[k].value, .slice ka e.kids[k].kids.length kc] 41
      clear M hkv
      go_wp2_with fail
      clear c0 c1 c2
      obtain ⟨g5, hg5⟩ : ∃ g5, g5 = wr.heap.size := ⟨_, rfl⟩
      replace HM : Hid (Mem (fun _ => True) (fun _ => True) w (wr.alloc (.cells #[.int .i64 e.kids[k].kind, .int .i64 e.kids[k].value, .slice ka e.kids[k].kids.length kc] 41)) ([.box w.heap.size [.int .i64 e.kind, .int .i64 e.value, .slice (some ⟨b, off, none⟩) m ck], .box (w.heap.size + 1) [.int .i64 0, .int .i64 0, .slice none 0 0], .box (w.heap.size + 1 + 1) [.int .i64 e.kind, .int .i64 e.value, .slice a k c], .row 41 3 (.slice a k c) k ys, .own S (fun w => ExprsO w ((e.kids.take k).map foldE) S ys), .box g5 [.int .i64 e.kids[k].kind, .int .i64 e.kids[k].value, .slice ka e.kids[k].kids.length kc]])) := by rw [hg5]; exact HM
      rw [← hg5]
      clear hg5
      generalize wr.alloc (.cells #[.int .i64 e.kids[k].kind, .int .i64 e.kids[k].value, .slice ka e.kids[k].kids.length kc] 41) = w5 at *
      have HC : Hid (∀ (s : Nat) (g : Nat → Value) (w' : World), (fun (s : Nat) (g : Nat → Value) (w' : World) => match s with
  | 0 => Mem (fun _ => True) (fun _ => True) w w' ([.box w.heap.size [.int .i64 e.kind, .int .i64 e.value, .slice (some ⟨b, off, none⟩) m ck], .box (w.heap.size + 1) [.int .i64 0, .int .i64 0, .slice none 0 0], .box (w.heap.size + 1 + 1) [.int .i64 e.kind, .int .i64 e.value, .slice a k c], .row 41 3 (.slice a k c) k ys, .own S (fun w => ExprsO w ((e.kids.take k).map foldE) S ys), .box g5 [.int .i64 e.kids[k].kind, .int .i64 e.kids[k].value, .slice ka e.kids[k].kids.length kc]])
  | 1 => ∃ a7 c7 T, g 0 = .agg #[.int .i64 (foldE e.kids[k]).kind, .int .i64 (foldE e.kids[k]).value, .slice a7 (foldE e.kids[k]).kids.length c7] ∧ Mem (fun _ => True) (fun _ => True) w w' ([.box w.heap.size [.int .i64 e.kind, .int .i64 e.value, .slice (some ⟨b, off, none⟩) m ck], .box (w.heap.size + 1) [.int .i64 0, .int .i64 0, .slice none 0 0], .box (w.heap.size + 1 + 1) [.int .i64 e.kind, .int .i64 e.value, .slice a k c], .row 41 3 (.slice a k c) k ys, .own S (fun w => ExprsO w ((e.kids.take k).map foldE) S ys), .box g5 [.int .i64 e.kids[k].kind, .int .i64 e.kids[k].value, .slice ka e.kids[k].kids.length kc], .own T (fun w => KidsO w (.slice a7 (foldE e.kids[k]).kids.length c7) (foldE e.kids[k]).kids T)])
  | 2 => ∃ a7 c7 T gb, g 1 = .slice (some ⟨gb, 0, none⟩) 1 1 ∧ Mem (fun _ => True) (fun _ => True) w w' ([.box w.heap.size [.int .i64 e.kind, .int .i64 e.value, .slice (some ⟨b, off, none⟩) m ck], .box (w.heap.size + 1) [.int .i64 0, .int .i64 0, .slice none 0 0], .box (w.heap.size + 1 + 1) [.int .i64 e.kind, .int .i64 e.value, .slice a k c], .row 41 3 (.slice a k c) k ys, .own S (fun w => ExprsO w ((e.kids.take k).map foldE) S ys), .box g5 [.int .i64 e.kids[k].kind, .int .i64 e.kids[k].value, .slice ka e.kids[k].kids.length kc], .own T (fun w => KidsO w (.slice a7 (foldE e.kids[k]).kids.length c7) (foldE e.kids[k]).kids T), .box gb [.int .i64 (foldE e.kids[k]).kind, .int .i64 (foldE e.kids[k]).value, .slice a7 (foldE e.kids[k]).kids.length c7]])
  | 3 => ∃ a7 c7 T gb a9 c9, g 2 = .slice a9 (k + 1) c9 ∧ Mem (fun _ => True) (fun _ => True) w w' ([.box w.heap.size [.int .i64 e.kind, .int .i64 e.value, .slice (some ⟨b, off, none⟩) m ck], .box (w.heap.size + 1) [.int .i64 0, .int .i64 0, .slice none 0 0], .box (w.heap.size + 1 + 1) [.int .i64 e.kind, .int .i64 e.value, .slice a k c], .row 41 3 (.slice a9 (k + 1) c9) (k + 1) (ys ++ [.int .i64 (foldE e.kids[k]).kind, .int .i64 (foldE e.kids[k]).value, .slice a7 (foldE e.kids[k]).kids.length c7]), .own S (fun w => ExprsO w ((e.kids.take k).map foldE) S ys), .box g5 [.int .i64 e.kids[k].kind, .int .i64 e.kids[k].value, .slice ka e.kids[k].kids.length kc], .own T (fun w => KidsO w (.slice a7 (foldE e.kids[k]).kids.length c7) (foldE e.kids[k]).kids T), .box gb [.int .i64 (foldE e.kids[k]).kind, .int .i64 (foldE e.kids[k]).value, .slice a7 (foldE e.kids[k]).kids.length c7]])
  | _ => False : Nat → (Nat → Value) → World → Prop) s g w' → w'.cell? ⟨w.heap.size + 1 + 1, 2, none⟩ = some (.slice a k c) ∧ w'.cell? ⟨g5, 0, none⟩ = some (.int .i64 e.kids[k].kind) ∧ w'.cell? ⟨g5, 1, none⟩ = some (.int .i64 e.kids[k].value) ∧ w'.cell? ⟨g5, 2, none⟩ = some (.slice ka e.kids[k].kids.length kc)) := by
        intro s g w' h
        have key : ∀ (L : List Res), Mem (fun _ => True) (fun _ => True) w w' L → L[5]? = some (.box g5 [.int .i64 e.kids[k].kind, .int .i64 e.kids[k].value, .slice ka e.kids[k].kids.length kc]) → L[2]? = some (.box (w.heap.size + 1 + 1) [.int .i64 e.kind, .int .i64 e.value, .slice a k c]) → w'.cell? ⟨w.heap.size + 1 + 1, 2, none⟩ = some (.slice a k c) ∧ w'.cell? ⟨g5, 0, none⟩ = some (.int .i64 e.kids[k].kind) ∧ w'.cell? ⟨g5, 1, none⟩ = some (.int .i64 e.kids[k].value) ∧ w'.cell? ⟨g5, 2, none⟩ = some (.slice ka e.kids[k].kids.length kc) := fun L M h0 h2 =>
          ⟨M.c 2 2 h2 rfl, M.c 5 0 h0 rfl, M.c 5 1 h0 rfl, M.c 5 2 h0 rfl⟩
        match s, h with
        | 0, h => exact key _ h rfl rfl
        | 1, ⟨_, _, _, _, h⟩ => exact key _ h rfl rfl
        | 2, ⟨_, _, _, _, _, h⟩ => exact key _ h rfl rfl
        | 3, ⟨_, _, _, _, _, _, _, h⟩ => exact key _ h rfl rfl
      refine wp_region_chain 7 [3, 4, 5] (fun i => [.pointer (some ⟨w.heap.size + 1 + 1, 2, none⟩), .slice a k c, .agg #[.int .i64 e.kids[k].kind, .int .i64 e.kids[k].value, .slice ka e.kids[k].kids.length kc], undef, undef, undef, .pointer (some ⟨w.heap.size + 1 + 1, 2, none⟩)].getD i undef) (fun (s : Nat) (g : Nat → Value) (w' : World) => match s with
        | 0 => Mem (fun _ => True) (fun _ => True) w w' ([.box w.heap.size [.int .i64 e.kind, .int .i64 e.value, .slice (some ⟨b, off, none⟩) m ck], .box (w.heap.size + 1) [.int .i64 0, .int .i64 0, .slice none 0 0], .box (w.heap.size + 1 + 1) [.int .i64 e.kind, .int .i64 e.value, .slice a k c], .row 41 3 (.slice a k c) k ys, .own S (fun w => ExprsO w ((e.kids.take k).map foldE) S ys), .box g5 [.int .i64 e.kids[k].kind, .int .i64 e.kids[k].value, .slice ka e.kids[k].kids.length kc]])
        | 1 => ∃ a7 c7 T, g 0 = .agg #[.int .i64 (foldE e.kids[k]).kind, .int .i64 (foldE e.kids[k]).value, .slice a7 (foldE e.kids[k]).kids.length c7] ∧ Mem (fun _ => True) (fun _ => True) w w' ([.box w.heap.size [.int .i64 e.kind, .int .i64 e.value, .slice (some ⟨b, off, none⟩) m ck], .box (w.heap.size + 1) [.int .i64 0, .int .i64 0, .slice none 0 0], .box (w.heap.size + 1 + 1) [.int .i64 e.kind, .int .i64 e.value, .slice a k c], .row 41 3 (.slice a k c) k ys, .own S (fun w => ExprsO w ((e.kids.take k).map foldE) S ys), .box g5 [.int .i64 e.kids[k].kind, .int .i64 e.kids[k].value, .slice ka e.kids[k].kids.length kc], .own T (fun w => KidsO w (.slice a7 (foldE e.kids[k]).kids.length c7) (foldE e.kids[k]).kids T)])
        | 2 => ∃ a7 c7 T gb, g 1 = .slice (some ⟨gb, 0, none⟩) 1 1 ∧ Mem (fun _ => True) (fun _ => True) w w' ([.box w.heap.size [.int .i64 e.kind, .int .i64 e.value, .slice (some ⟨b, off, none⟩) m ck], .box (w.heap.size + 1) [.int .i64 0, .int .i64 0, .slice none 0 0], .box (w.heap.size + 1 + 1) [.int .i64 e.kind, .int .i64 e.value, .slice a k c], .row 41 3 (.slice a k c) k ys, .own S (fun w => ExprsO w ((e.kids.take k).map foldE) S ys), .box g5 [.int .i64 e.kids[k].kind, .int .i64 e.kids[k].value, .slice ka e.kids[k].kids.length kc], .own T (fun w => KidsO w (.slice a7 (foldE e.kids[k]).kids.length c7) (foldE e.kids[k]).kids T), .box gb [.int .i64 (foldE e.kids[k]).kind, .int .i64 (foldE e.kids[k]).value, .slice a7 (foldE e.kids[k]).kids.length c7]])
        | 3 => ∃ a7 c7 T gb a9 c9, g 2 = .slice a9 (k + 1) c9 ∧ Mem (fun _ => True) (fun _ => True) w w' ([.box w.heap.size [.int .i64 e.kind, .int .i64 e.value, .slice (some ⟨b, off, none⟩) m ck], .box (w.heap.size + 1) [.int .i64 0, .int .i64 0, .slice none 0 0], .box (w.heap.size + 1 + 1) [.int .i64 e.kind, .int .i64 e.value, .slice a k c], .row 41 3 (.slice a9 (k + 1) c9) (k + 1) (ys ++ [.int .i64 (foldE e.kids[k]).kind, .int .i64 (foldE e.kids[k]).value, .slice a7 (foldE e.kids[k]).kids.length c7]), .own S (fun w => ExprsO w ((e.kids.take k).map foldE) S ys), .box g5 [.int .i64 e.kids[k].kind, .int .i64 e.kids[k].value, .slice ka e.kids[k].kids.length kc], .own T (fun w => KidsO w (.slice a7 (foldE e.kids[k]).kids.length c7) (foldE e.kids[k]).kids T), .box gb [.int .i64 (foldE e.kids[k]).kind, .int .i64 (foldE e.kids[k]).value, .slice a7 (foldE e.kids[k]).kids.length c7]])
        | _ => False) (by kernel_rfl) (by kernel_rfl) (by kernel_rfl) (by kernel_rfl) (by decide) (by decide) ?_ ?_ ?_ ?_ ?_
      · intro s g g' w' hg h
        match s, h with
        | 0, h => exact h
        | 1, ⟨a7, c7, T, h1, h2⟩ => exact ⟨a7, c7, T, (hg 0 (by omega)).symm.trans h1, h2⟩
        | 2, ⟨a7, c7, T, gb, h1, h2⟩ => exact ⟨a7, c7, T, gb, (hg 1 (by omega)).symm.trans h1, h2⟩
        | 3, ⟨a7, c7, T, gb, a9, c9, h1, h2⟩ => exact ⟨a7, c7, T, gb, a9, c9, (hg 2 (by omega)).symm.trans h1, h2⟩
      · intro g
        exact HM.out.drew
      · intro i o hi hn ho s f w' hst hdep Q' hQ
        have HQ := show Hid _ from hQ
        clear hQ
        have hc : i = 0 ∨ i = 1 ∨ i = 2 ∨ i = 6 := by simp at hn; omega
        clear hn
        rcases hc with rfl | rfl | rfl | rfl
        all_goals
          simp only [List.getElem?_cons_zero, List.getElem?_cons_succ, Option.some.injEq] at ho
          subst ho
        · clear hdep hst
          simp only [putAll]
          go_wp2_with fail
          exact use_act HQ.out (by kernel_rfl)
        · have e0 : f 0 = .pointer (some ⟨w.heap.size + 1 + 1, 2, none⟩) := hdep { on := 0, ground := .data } (by simp) (by kernel_rfl) (by simp)
          obtain ⟨x0, x1, x2, x3⟩ := HC.out _ _ _ hst
          clear hdep hst
          obtain ⟨f', rfl⟩ := upd_self e0
          clear e0
          simp only [putAll, upd, ↓reduceIte, Nat.reduceEqDiff]
          go_wp2_with fail
          exact use_act HQ.out (by kernel_rfl)
        · obtain ⟨x0, x1, x2, x3⟩ := HC.out _ _ _ hst
          clear hdep hst
          simp only [putAll]
          go_wp2_with fail
          exact use_act HQ.out (by kernel_rfl)
        · clear hdep hst
          simp only [putAll]
          go_wp2_with fail
          exact use_act HQ.out (by kernel_rfl)
      · intro s j o hs ho f w' hst hdep Q' hQ
        have HQ := show Hid _ from hQ
        clear hQ
        match s, hs, hst, HQ with
        | 0, hs, hst, HQ =>
          simp only [List.getElem?_cons_zero, Option.some.injEq] at hs
          subst hs
          simp only [List.getElem?_cons_zero, List.getElem?_cons_succ, Option.some.injEq] at ho
          subst ho
          have M : Mem (fun _ => True) (fun _ => True) w w' ([.box w.heap.size [.int .i64 e.kind, .int .i64 e.value, .slice (some ⟨b, off, none⟩) m ck], .box (w.heap.size + 1) [.int .i64 0, .int .i64 0, .slice none 0 0], .box (w.heap.size + 1 + 1) [.int .i64 e.kind, .int .i64 e.value, .slice a k c], .row 41 3 (.slice a k c) k ys, .own S (fun w => ExprsO w ((e.kids.take k).map foldE) S ys), .box g5 [.int .i64 e.kids[k].kind, .int .i64 e.kids[k].value, .slice ka e.kids[k].kids.length kc]]) := hst
          have HM7 := show Hid _ from M
          have e2 : f 2 = .agg #[.int .i64 e.kids[k].kind, .int .i64 e.kids[k].value, .slice ka e.kids[k].kids.length kc] := hdep { on := 2, ground := .data } (by simp) (by kernel_rfl) (by simp)
          clear hdep hst M
          obtain ⟨f', rfl⟩ := upd_self e2
          clear e2
          simp only [putAll, upd, ↓reduceIte, Nat.reduceEqDiff]
          go_wp2_with fail
          refine (HE.out w' (HM7.out.below fun _ _ => trivial)).mono ?_
          rintro x w7 ⟨a7, c7, T, rfl, hO, hT, b7⟩
          have HM8 := show Hid _ from HM7.out.callO b7 (S := T) (R := fun w => KidsO w (.slice a7 (foldE e.kids[k]).kids.length c7) (foldE e.kids[k]).kids T) (fun _ _ h hs => KidsO.same h hs) hO hT
          clear hO hT b7
          go_wp2_with fail
          exact use_act (HQ.out (.agg #[.int .i64 (foldE e.kids[k]).kind, .int .i64 (foldE e.kids[k]).value, .slice a7 (foldE e.kids[k]).kids.length c7]) _ ⟨a7, c7, T, rfl, HM8.out⟩) (by kernel_rfl)
        | 1, hs, hst, HQ =>
          simp only [List.getElem?_cons_zero, List.getElem?_cons_succ, Option.some.injEq] at hs
          subst hs
          simp only [List.getElem?_cons_zero, List.getElem?_cons_succ, Option.some.injEq] at ho
          subst ho
          obtain ⟨a7, c7, T, e3, M⟩ := hst
          have e3 : f 3 = .agg #[.int .i64 (foldE e.kids[k]).kind, .int .i64 (foldE e.kids[k]).value, .slice a7 (foldE e.kids[k]).kids.length c7] := e3
          have HM7 := show Hid _ from M.box [.int .i64 (foldE e.kids[k]).kind, .int .i64 (foldE e.kids[k]).value, .slice a7 (foldE e.kids[k]).kids.length c7] 41
          clear hdep M
          obtain ⟨f', rfl⟩ := upd_self e3
          clear e3
          simp only [putAll, upd, ↓reduceIte, Nat.reduceEqDiff]
          go_wp2_with fail
          exact use_act (HQ.out (.slice (some ⟨w'.heap.size, 0, none⟩) 1 1) _ ⟨a7, c7, T, w'.heap.size, rfl, HM7.out⟩) (by kernel_rfl)
        | 2, hs, hst, HQ =>
          simp only [List.getElem?_cons_zero, List.getElem?_cons_succ, Option.some.injEq] at hs
          subst hs
          simp only [List.getElem?_cons_zero, List.getElem?_cons_succ, Option.some.injEq] at ho
          subst ho
          obtain ⟨a7, c7, T, gb, e4, M⟩ := hst
          have e4 : f 4 = .slice (some ⟨gb, 0, none⟩) 1 1 := e4
          have e1 : f 1 = .slice a k c := hdep { on := 1, ground := .data } (by simp) (by kernel_rfl) (by simp)
          clear hdep
          refine wpList_app rfl _ _ rfl Try.underlying39 infoE rfl (by omega) (Eq.trans (by kernel_rfl) e1) (M.r 3 rfl) (Eq.trans (by kernel_rfl) e4) (blk_row (M.blk 7 rfl)) (fun u hu => by simp at hu; rcases hu with rfl | rfl | rfl <;> rfl) (by omega) (by omega) (Nat.zero_le _) ?_
          intro a9 c9 w9 o9 _ g9 n9
          exact wpList_nil (HQ.out _ _ ⟨a7, c7, T, gb, a9, c9, rfl, M.app 3 rfl o9 g9 n9⟩)
        | s + 3, hs, _, _ => simp at hs
      · intro o ho f w' hst hall
        simp only [List.getElem?_cons_zero, List.getElem?_cons_succ, Option.some.injEq] at ho
        subst ho
        obtain ⟨a7, c7, T, gb, a9, c9, e5, M⟩ := hst
        have e5 : f 5 = .slice a9 (k + 1) c9 := e5
        have e6 : f 6 = .pointer (some ⟨w.heap.size + 1 + 1, 2, none⟩) := hall 6 (by omega) (by simp)
        have x0 := M.c 2 2 rfl rfl
        have f0 := M.f 2 rfl
        have M9 : Mem (fun _ => True) (fun _ => True) w _ ([.box w.heap.size [.int .i64 e.kind, .int .i64 e.value, .slice (some ⟨b, off, none⟩) m ck], .box (w.heap.size + 1) [.int .i64 0, .int .i64 0, .slice none 0 0], .box (w.heap.size + 1 + 1) [.int .i64 e.kind, .int .i64 e.value, .slice a9 (k + 1) c9], .row 41 3 (.slice a9 (k + 1) c9) (k + 1) (ys ++ [.int .i64 (foldE e.kids[k]).kind, .int .i64 (foldE e.kids[k]).value, .slice a7 (foldE e.kids[k]).kids.length c7])] ++ [.own S (fun w => ExprsO w ((e.kids.take k).map foldE) S ys), .own T (fun w => KidsO w (.slice a7 (foldE e.kids[k]).kids.length c7) (foldE e.kids[k]).kids T)]) := (M.set 2 rfl 2 (.slice a9 (k + 1) c9)).sel [0, 1, 2, 3, 4, 6] _ rfl (by decide)
        have HM9 := show Hid _ from Mem.joinE (e := foldE e.kids[k]) M9
        clear M9
        clear hall M HM HC
        obtain ⟨f', rfl⟩ := upd_self e5
        clear e5
        simp only [upd, ↓reduceIte, Nat.reduceEqDiff] at e6
        obtain ⟨f'', rfl⟩ := upd_self e6
        clear e6
        simp only [putAll, upd, ↓reduceIte, Nat.reduceEqDiff]
        go_wp2_with fail
        refine ⟨⟨k + 1, a9, c9, _, _, by omega, by go_num, by rw [take_succ_get _ _ hlt, List.map_append]; exact HM9.out⟩, by simp [intOf]; omega⟩
    · have hkn : k = m := by omega
      subst hkn
      -- TAIL
      rw [List.take_of_length_le (by have := HMM.out; omega)] at M
      obtain ⟨ks', hks'⟩ : ∃ ks', ks' = e.kids.map foldE := ⟨_, rfl⟩
      have HND := show Hid (foldE e = nodeE ⟨e.kind, e.value, ks'⟩) from by rw [hks']; exact foldE_def e
      have HG2 := show Hid (goodE ⟨e.kind, e.value, ks'⟩ = true) from by rw [hks']; exact good_map hgood
      have hkl : k = ks'.length := by rw [hks', List.length_map]; exact HMM.out
      rw [← hks'] at M
      clear hks' HMM HC0 HGK
      have M3 : Mem (fun _ => True) (fun _ => True) w wr ([.box w.heap.size [.int .i64 e.kind, .int .i64 e.value, .slice ak k ck], .box (w.heap.size + 1) [.int .i64 0, .int .i64 0, .slice none 0 0], .box (w.heap.size + 1 + 1) [.int .i64 e.kind, .int .i64 e.value, .slice a k c]] ++ [.row 41 3 (.slice a k c) k ys, .own S (fun w => ExprsO w ks' S ys)]) := M
      have M4 := Mem.joinK M3 hkl
      obtain ⟨S', hS'⟩ : ∃ S' : Nat → Prop, S' = fun b => (Value.slice a k c).ownBlock = some b ∨ S b := ⟨_, rfl⟩
      rw [← hS'] at M4
      clear M M3 hS'
      have M : Mem (fun _ => True) (fun _ => True) w wr [.box w.heap.size [.int .i64 e.kind, .int .i64 e.value, .slice ak k ck], .box (w.heap.size + 1) [.int .i64 0, .int .i64 0, .slice none 0 0], .box (w.heap.size + 1 + 1) [.int .i64 e.kind, .int .i64 e.value, .slice a k c], .own S' (fun w => KidsO w (.slice a k c) ks' S')] := M4
      clear M4
      have hkind : (e.kind = 11 ∧ ks'.length = 3) ∨ (4 ≤ e.kind ∧ e.kind ≤ 10 ∧ ks'.length = 2) ∨ (e.kind < 4 ∧ 1 ≤ e.kind ∧ ks'.length ≤ 1) := good_kinds HG2.out
      rcases hkind with ⟨h1, h2⟩ | ⟨h1, h2, h3⟩ | ⟨h1, h2, h3⟩
      · obtain ⟨p, q, r, rfl⟩ : ∃ p q r, ks' = [p, q, r] := by
          match ks', h2 with
          | [p, q, r], _ => exact ⟨p, q, r, rfl⟩
        clear h2
        have hkl2 : k = 3 := hkl
        clear hkl
        subst hkl2
        obtain ⟨g, off, cap, av, ac, bv, bc, cv, cc, hv, hg, hs, hcell, k0, k1, k2⟩ := (show KidsO _ _ [p, q, r] S' from M.o 3 rfl).three
        have e1 : a = some ⟨g, off, none⟩ := by cases hv; rfl
        have e2 : cap = c := by cases hv; rfl
        subst e1 e2
        clear hv
        replace M := M.turn 3 rfl (Kept.refl _ _) (R' := fun w => ThreeO w S' g off cap av ac bv bc cv cc p q r) (fun _ _ h hs => ThreeO.same h hs) ⟨hs, hcell, k0, k1, k2, M.o 3 rfl⟩
        replace M : Mem (fun _ => True) (fun _ => True) w wr [.box w.heap.size [.int .i64 e.kind, .int .i64 e.value, .slice ak 3 ck], .box (w.heap.size + 1) [.int .i64 0, .int .i64 0, .slice none 0 0], .box (w.heap.size + 1 + 1) [.int .i64 e.kind, .int .i64 e.value, .slice (some ⟨g, off, none⟩) 3 cap], .own S' (fun w => ThreeO w S' g off cap av ac bv bc cv cc p q r)] := M
        clear hcell k0 k1 k2 hs
        have pk : (e.kind == 11) = true := by simp [h1]
        have HN0 := show Hid (nodeE ⟨e.kind, e.value, [p, q, r]⟩ = (if p.kind = 1 ∧ quietE q = true ∧ quietE r = true then (if p.value ≠ 0 then q else r) else ⟨e.kind, e.value, [p, q, r]⟩)) from node3 _ _ _ _ _
        clear h1
        by_cases qa : p.kind = 1
        case neg =>
          have pa : (p.kind != 1) = true := by simp [qa]
          have HN : Hid (nodeE ⟨e.kind, e.value, [p, q, r]⟩ = ⟨e.kind, e.value, [p, q, r]⟩) := by rw [Hid, HN0.out, if_neg (fun h => qa h.1)]
          clear qa HN0
          have y0 := M.c 0 0 rfl rfl
          have d0 := M.c 1 0 rfl rfl
          have d1 := M.c 1 1 rfl rfl
          have d2 := M.c 1 2 rfl rfl
          have ff := M.f 1 rfl
          have o0 := M.c 2 0 rfl rfl
          have o1 := M.c 2 1 rfl rfl
          have o2 := M.c 2 2 rfl rfl
          obtain ⟨-, ⟨c0, c1, c2, c3, c4, c5, c6, c7, c8⟩, -⟩ := M.o 3 rfl
          have HM := show Hid _ from ((M.set 1 rfl 0 (.int .i64 e.kind)).set 1 rfl 1 (.int .i64 e.value)).set 1 rfl 2 (.slice (some ⟨g, off, none⟩) 3 cap)
          clear M
          go_wp2_with fail
          have M2 := HM.out
          have r0 : World.cell? _ ⟨w.heap.size + 1, 0, none⟩ = some (.int .i64 e.kind) := M2.c 1 0 rfl rfl
          have r1 : World.cell? _ ⟨w.heap.size + 1, 1, none⟩ = some (.int .i64 e.value) := M2.c 1 1 rfl rfl
          have r2 : World.cell? _ ⟨w.heap.size + 1, 2, none⟩ = some (.slice (some ⟨g, off, none⟩) 3 cap) := M2.c 1 2 rfl rfl
          refine bodyPost_ret (v := .agg #[.int .i64 e.kind, .int .i64 e.value, .slice (some ⟨g, off, none⟩) 3 cap]) (by simp [results, Try.results77, go_sem, r0, r1, r2]) rfl ?_
          show FoQ w e _ _
          unfold FoQ
          rw [HND.out, HN.out]
          exact ⟨_, _, S', rfl, (M2.o 3 rfl).2.2.2.2.2, fun b hb => ⟨(M2.ge _ b (List.mem_of_getElem? (i := 3) rfl) hb).elim (fun h => h) fun h => absurd trivial h, M2.lt (List.mem_of_getElem? (i := 3) rfl) hb⟩, M2.below fun _ _ => trivial⟩
        have pa : (p.kind != 1) = false := by simp [qa]
        have HQA := show Hid _ from qa
        clear qa
        have y0 := M.c 0 0 rfl rfl
        have d0 := M.c 1 0 rfl rfl
        have d1 := M.c 1 1 rfl rfl
        have d2 := M.c 1 2 rfl rfl
        have ff := M.f 1 rfl
        have o0 := M.c 2 0 rfl rfl
        have o1 := M.c 2 1 rfl rfl
        have o2 := M.c 2 2 rfl rfl
        obtain ⟨-, ⟨c0, c1, c2, c3, c4, c5, c6, c7, c8⟩, -⟩ := M.o 3 rfl
        have HM := show Hid _ from M
        clear M
        go_wp2_with fail
        have M := HM.out
        clear HM y0 d0 d1 d2 ff o0 o1 o2 c0 c1 c2 c3 c4 c5 c6 c7 c8
        refine (impl_reads q S' _ _ ⟨_, rfl, KidsO.read (M.o 3 rfl).2.2.2.1 fun _ h => h⟩).mono ?_
        rintro x w1 ⟨rfl, b1⟩
        replace M := M.call b1
        clear b1
        cases hb : quietE q
        · have HN : Hid (nodeE ⟨e.kind, e.value, [p, q, r]⟩ = ⟨e.kind, e.value, [p, q, r]⟩) := by rw [Hid, HN0.out, if_neg (fun h => by rw [hb] at h; exact absurd h.2.1 (by simp))]
          clear hb HN0
          have y0 := M.c 0 0 rfl rfl
          have d0 := M.c 1 0 rfl rfl
          have d1 := M.c 1 1 rfl rfl
          have d2 := M.c 1 2 rfl rfl
          have ff := M.f 1 rfl
          have o0 := M.c 2 0 rfl rfl
          have o1 := M.c 2 1 rfl rfl
          have o2 := M.c 2 2 rfl rfl
          obtain ⟨-, ⟨c0, c1, c2, c3, c4, c5, c6, c7, c8⟩, -⟩ := M.o 3 rfl
          have HM := show Hid _ from ((M.set 1 rfl 0 (.int .i64 e.kind)).set 1 rfl 1 (.int .i64 e.value)).set 1 rfl 2 (.slice (some ⟨g, off, none⟩) 3 cap)
          clear M
          go_wp2_with fail
          have M2 := HM.out
          have r0 : World.cell? _ ⟨w.heap.size + 1, 0, none⟩ = some (.int .i64 e.kind) := M2.c 1 0 rfl rfl
          have r1 : World.cell? _ ⟨w.heap.size + 1, 1, none⟩ = some (.int .i64 e.value) := M2.c 1 1 rfl rfl
          have r2 : World.cell? _ ⟨w.heap.size + 1, 2, none⟩ = some (.slice (some ⟨g, off, none⟩) 3 cap) := M2.c 1 2 rfl rfl
          refine bodyPost_ret (v := .agg #[.int .i64 e.kind, .int .i64 e.value, .slice (some ⟨g, off, none⟩) 3 cap]) (by simp [results, Try.results77, go_sem, r0, r1, r2]) rfl ?_
          show FoQ w e _ _
          unfold FoQ
          rw [HND.out, HN.out]
          exact ⟨_, _, S', rfl, (M2.o 3 rfl).2.2.2.2.2, fun b hb => ⟨(M2.ge _ b (List.mem_of_getElem? (i := 3) rfl) hb).elim (fun h => h) fun h => absurd trivial h, M2.lt (List.mem_of_getElem? (i := 3) rfl) hb⟩, M2.below fun _ _ => trivial⟩
        · have y0 := M.c 0 0 rfl rfl
          have d0 := M.c 1 0 rfl rfl
          have d1 := M.c 1 1 rfl rfl
          have d2 := M.c 1 2 rfl rfl
          have ff := M.f 1 rfl
          have o0 := M.c 2 0 rfl rfl
          have o1 := M.c 2 1 rfl rfl
          have o2 := M.c 2 2 rfl rfl
          obtain ⟨-, ⟨c0, c1, c2, c3, c4, c5, c6, c7, c8⟩, -⟩ := M.o 3 rfl
          have HM := show Hid _ from M
          clear M
          go_wp2_with fail
          have M := HM.out
          clear HM y0 d0 d1 d2 ff o0 o1 o2 c0 c1 c2 c3 c4 c5 c6 c7 c8
          refine (impl_reads r S' _ _ ⟨_, rfl, KidsO.read (M.o 3 rfl).2.2.2.2.1 fun _ h => h⟩).mono ?_
          rintro x w1 ⟨rfl, b1⟩
          replace M := M.call b1
          clear b1
          cases hc : quietE r
          · have HN : Hid (nodeE ⟨e.kind, e.value, [p, q, r]⟩ = ⟨e.kind, e.value, [p, q, r]⟩) := by rw [Hid, HN0.out, if_neg (fun h => by rw [hc] at h; exact absurd h.2.2 (by simp))]
            clear hb hc HN0
            have y0 := M.c 0 0 rfl rfl
            have d0 := M.c 1 0 rfl rfl
            have d1 := M.c 1 1 rfl rfl
            have d2 := M.c 1 2 rfl rfl
            have ff := M.f 1 rfl
            have o0 := M.c 2 0 rfl rfl
            have o1 := M.c 2 1 rfl rfl
            have o2 := M.c 2 2 rfl rfl
            obtain ⟨-, ⟨c0, c1, c2, c3, c4, c5, c6, c7, c8⟩, -⟩ := M.o 3 rfl
            have HM := show Hid _ from ((M.set 1 rfl 0 (.int .i64 e.kind)).set 1 rfl 1 (.int .i64 e.value)).set 1 rfl 2 (.slice (some ⟨g, off, none⟩) 3 cap)
            clear M
            go_wp2_with fail
            have M2 := HM.out
            have r0 : World.cell? _ ⟨w.heap.size + 1, 0, none⟩ = some (.int .i64 e.kind) := M2.c 1 0 rfl rfl
            have r1 : World.cell? _ ⟨w.heap.size + 1, 1, none⟩ = some (.int .i64 e.value) := M2.c 1 1 rfl rfl
            have r2 : World.cell? _ ⟨w.heap.size + 1, 2, none⟩ = some (.slice (some ⟨g, off, none⟩) 3 cap) := M2.c 1 2 rfl rfl
            refine bodyPost_ret (v := .agg #[.int .i64 e.kind, .int .i64 e.value, .slice (some ⟨g, off, none⟩) 3 cap]) (by simp [results, Try.results77, go_sem, r0, r1, r2]) rfl ?_
            show FoQ w e _ _
            unfold FoQ
            rw [HND.out, HN.out]
            exact ⟨_, _, S', rfl, (M2.o 3 rfl).2.2.2.2.2, fun b hb => ⟨(M2.ge _ b (List.mem_of_getElem? (i := 3) rfl) hb).elim (fun h => h) fun h => absurd trivial h, M2.lt (List.mem_of_getElem? (i := 3) rfl) hb⟩, M2.below fun _ _ => trivial⟩
          · by_cases qv : p.value = 0
            · have pv : (p.value != 0) = false := by simp [qv]
              have HN : Hid (nodeE ⟨e.kind, e.value, [p, q, r]⟩ = r) := by rw [Hid, HN0.out, if_pos ⟨HQA.out, hb, hc⟩, if_neg (by simp [qv])]
              clear qv hb hc HN0
              have y0 := M.c 0 0 rfl rfl
              have d0 := M.c 1 0 rfl rfl
              have d1 := M.c 1 1 rfl rfl
              have d2 := M.c 1 2 rfl rfl
              have ff := M.f 1 rfl
              have o0 := M.c 2 0 rfl rfl
              have o1 := M.c 2 1 rfl rfl
              have o2 := M.c 2 2 rfl rfl
              obtain ⟨-, ⟨c0, c1, c2, c3, c4, c5, c6, c7, c8⟩, -⟩ := M.o 3 rfl
              have HM := show Hid _ from ((M.set 1 rfl 0 (.int .i64 r.kind)).set 1 rfl 1 (.int .i64 r.value)).set 1 rfl 2 (.slice cv r.kids.length cc)
              clear M
              go_wp2_with fail
              have M2 := HM.out
              have r0 : World.cell? _ ⟨w.heap.size + 1, 0, none⟩ = some (.int .i64 r.kind) := M2.c 1 0 rfl rfl
              have r1 : World.cell? _ ⟨w.heap.size + 1, 1, none⟩ = some (.int .i64 r.value) := M2.c 1 1 rfl rfl
              have r2 : World.cell? _ ⟨w.heap.size + 1, 2, none⟩ = some (.slice cv r.kids.length cc) := M2.c 1 2 rfl rfl
              refine bodyPost_ret (v := .agg #[.int .i64 r.kind, .int .i64 r.value, .slice cv r.kids.length cc]) (by simp [results, Try.results77, go_sem, r0, r1, r2]) rfl ?_
              show FoQ w e _ _
              unfold FoQ
              rw [HND.out, HN.out]
              exact ⟨_, _, S', rfl, (M2.o 3 rfl).2.2.2.2.1, fun b hb => ⟨(M2.ge _ b (List.mem_of_getElem? (i := 3) rfl) hb).elim (fun h => h) fun h => absurd trivial h, M2.lt (List.mem_of_getElem? (i := 3) rfl) hb⟩, M2.below fun _ _ => trivial⟩
            · have pv : (p.value != 0) = true := by simp [qv]
              have HN : Hid (nodeE ⟨e.kind, e.value, [p, q, r]⟩ = q) := by rw [Hid, HN0.out, if_pos ⟨HQA.out, hb, hc⟩, if_pos qv]
              clear qv hb hc HN0
              have y0 := M.c 0 0 rfl rfl
              have d0 := M.c 1 0 rfl rfl
              have d1 := M.c 1 1 rfl rfl
              have d2 := M.c 1 2 rfl rfl
              have ff := M.f 1 rfl
              have o0 := M.c 2 0 rfl rfl
              have o1 := M.c 2 1 rfl rfl
              have o2 := M.c 2 2 rfl rfl
              obtain ⟨-, ⟨c0, c1, c2, c3, c4, c5, c6, c7, c8⟩, -⟩ := M.o 3 rfl
              have HM := show Hid _ from ((M.set 1 rfl 0 (.int .i64 q.kind)).set 1 rfl 1 (.int .i64 q.value)).set 1 rfl 2 (.slice bv q.kids.length bc)
              clear M
              go_wp2_with fail
              have M2 := HM.out
              have r0 : World.cell? _ ⟨w.heap.size + 1, 0, none⟩ = some (.int .i64 q.kind) := M2.c 1 0 rfl rfl
              have r1 : World.cell? _ ⟨w.heap.size + 1, 1, none⟩ = some (.int .i64 q.value) := M2.c 1 1 rfl rfl
              have r2 : World.cell? _ ⟨w.heap.size + 1, 2, none⟩ = some (.slice bv q.kids.length bc) := M2.c 1 2 rfl rfl
              refine bodyPost_ret (v := .agg #[.int .i64 q.kind, .int .i64 q.value, .slice bv q.kids.length bc]) (by simp [results, Try.results77, go_sem, r0, r1, r2]) rfl ?_
              show FoQ w e _ _
              unfold FoQ
              rw [HND.out, HN.out]
              exact ⟨_, _, S', rfl, (M2.o 3 rfl).2.2.2.1, fun b hb => ⟨(M2.ge _ b (List.mem_of_getElem? (i := 3) rfl) hb).elim (fun h => h) fun h => absurd trivial h, M2.lt (List.mem_of_getElem? (i := 3) rfl) hb⟩, M2.below fun _ _ => trivial⟩
      · obtain ⟨p, q, rfl⟩ : ∃ p q, ks' = [p, q] := by
          match ks', h3 with
          | [p, q], _ => exact ⟨p, q, rfl⟩
        clear h3
        have hkl2 : k = 2 := hkl
        clear hkl
        subst hkl2
        have HPV : Hid (p.kind = 1 → 0 ≤ p.value ∧ p.value ≤ 255) := goodE_val ((goodEs_iff _).1 (goodE_kids HG2.out) p (by simp [LExpr.kids]))
        have HQV : Hid (q.kind = 1 → 0 ≤ q.value ∧ q.value ≤ 255) := goodE_val ((goodEs_iff _).1 (goodE_kids HG2.out) q (by simp [LExpr.kids]))
        obtain ⟨g, off, cap, av, ac, bv, bc, hv, hg, hs, hcell, k0, k1⟩ := (show KidsO _ _ [p, q] S' from M.o 3 rfl).two
        have e1 : a = some ⟨g, off, none⟩ := by cases hv; rfl
        have e2 : cap = c := by cases hv; rfl
        subst e1 e2
        clear hv
        replace M := M.turn 3 rfl (Kept.refl _ _) (R' := fun w => TwoO w S' g off cap av ac bv bc p q) (fun _ _ h hs => TwoO.same h hs) ⟨hs, hcell.1, hcell.2.1, hcell.2.2.1, hcell.2.2.2.1, hcell.2.2.2.2.1, hcell.2.2.2.2.2, k0, k1, M.o 3 rfl⟩
        replace M : Mem (fun _ => True) (fun _ => True) w wr [.box w.heap.size [.int .i64 e.kind, .int .i64 e.value, .slice ak 2 ck], .box (w.heap.size + 1) [.int .i64 0, .int .i64 0, .slice none 0 0], .box (w.heap.size + 1 + 1) [.int .i64 e.kind, .int .i64 e.value, .slice (some ⟨g, off, none⟩) 2 cap], .own S' (fun w => TwoO w S' g off cap av ac bv bc p q)] := M
        clear hcell k0 k1 hs
        have pk : (e.kind == 11) = false := by simp; omega
        have pw : (decide (4 ≤ e.kind) && decide (e.kind ≤ 10)) = true := by simp; omega
        have HN0 := show Hid (nodeE ⟨e.kind, e.value, [p, q]⟩ = _) from node2 _ _ _ _
        clear h1 h2
        have y0 := M.c 0 0 rfl rfl
        have d0 := M.c 1 0 rfl rfl
        have d1 := M.c 1 1 rfl rfl
        have d2 := M.c 1 2 rfl rfl
        have ff := M.f 1 rfl
        have o0 := M.c 2 0 rfl rfl
        have o1 := M.c 2 1 rfl rfl
        have o2 := M.c 2 2 rfl rfl
        obtain ⟨-, c0, c1, c2, c3, c4, c5, -, -, -⟩ := M.o 3 rfl
        have HM := show Hid _ from M
        clear M
        go_wp2_with fail
        have M := HM.out
        clear HM y0 d0 d1 d2 ff o0 o1 o2 c0 c1 c2 c3 c4 c5
        refine (impl_within e.kind 4 10 _).mono ?_
        rintro x w1 ⟨rfl, rfl⟩
        rw [pw]
        clear pw
        have y0 := M.c 0 0 rfl rfl
        have d0 := M.c 1 0 rfl rfl
        have d1 := M.c 1 1 rfl rfl
        have d2 := M.c 1 2 rfl rfl
        have ff := M.f 1 rfl
        have o0 := M.c 2 0 rfl rfl
        have o1 := M.c 2 1 rfl rfl
        have o2 := M.c 2 2 rfl rfl
        obtain ⟨-, c0, c1, c2, c3, c4, c5, -, -, -⟩ := M.o 3 rfl
        have HM := show Hid _ from M
        clear M
        go_wp2_with fail
        have M := HM.out
        clear HM y0 d0 d1 d2 ff o0 o1 o2 c0 c1 c2 c3 c4 c5
        have HC : Hid (∀ (b : Nat → Bool) (gg : Nat → Value) (w' : World), (fun (b : Nat → Bool) (gg : Nat → Value) (w' : World) => Fl3 (b 0) (b 1) (b 2) (Mem (fun _ => True) (fun _ => True) w w' [.box w.heap.size [.int .i64 e.kind, .int .i64 e.value, .slice ak 2 ck], .box (w.heap.size + 1) [.int .i64 0, .int .i64 0, .slice none 0 0], .box (w.heap.size + 1 + 1) [.int .i64 e.kind, .int .i64 e.value, .slice (some ⟨g, off, none⟩) 2 cap], .own S' (fun w => TwoO w S' g off cap av ac bv bc p q)]) (∃ g6, gg 0 = .pointer (some ⟨g6, 0, none⟩) ∧ Mem (fun _ => True) (fun _ => True) w w' [.box w.heap.size [.int .i64 e.kind, .int .i64 e.value, .slice ak 2 ck], .box (w.heap.size + 1) [.int .i64 0, .int .i64 0, .slice none 0 0], .box (w.heap.size + 1 + 1) [.int .i64 e.kind, .int .i64 e.value, .slice (some ⟨g, off, none⟩) 2 cap], .own S' (fun w => TwoO w S' g off cap av ac bv bc p q), .box g6 [.int .i64 0, .int .i64 0, .slice none 0 0]]) (∃ g7, gg 1 = .pointer (some ⟨g7, 0, none⟩) ∧ Mem (fun _ => True) (fun _ => True) w w' [.box w.heap.size [.int .i64 e.kind, .int .i64 e.value, .slice ak 2 ck], .box (w.heap.size + 1) [.int .i64 0, .int .i64 0, .slice none 0 0], .box (w.heap.size + 1 + 1) [.int .i64 e.kind, .int .i64 e.value, .slice (some ⟨g, off, none⟩) 2 cap], .own S' (fun w => TwoO w S' g off cap av ac bv bc p q), .box g7 [.int .i64 0, .int .i64 0, .slice none 0 0]]) (∃ g6 g7, gg 0 = .pointer (some ⟨g6, 0, none⟩) ∧ gg 1 = .pointer (some ⟨g7, 0, none⟩) ∧ Mem (fun _ => True) (fun _ => True) w w' [.box w.heap.size [.int .i64 e.kind, .int .i64 e.value, .slice ak 2 ck], .box (w.heap.size + 1) [.int .i64 0, .int .i64 0, .slice none 0 0], .box (w.heap.size + 1 + 1) [.int .i64 e.kind, .int .i64 e.value, .slice (some ⟨g, off, none⟩) 2 cap], .own S' (fun w => TwoO w S' g off cap av ac bv bc p q), .box g6 [.int .i64 0, .int .i64 0, .slice none 0 0], .box g7 [.int .i64 0, .int .i64 0, .slice none 0 0]]) (∃ g6, gg 0 = .pointer (some ⟨g6, 0, none⟩) ∧ Mem (fun _ => True) (fun _ => True) w w' [.box w.heap.size [.int .i64 e.kind, .int .i64 e.value, .slice ak 2 ck], .box (w.heap.size + 1) [.int .i64 0, .int .i64 0, .slice none 0 0], .box (w.heap.size + 1 + 1) [.int .i64 e.kind, .int .i64 e.value, .slice (some ⟨g, off, none⟩) 2 cap], .own S' (fun w => TwoO w S' g off cap av ac bv bc p q), .box g6 [.int .i64 p.kind, .int .i64 p.value, .slice av p.kids.length ac]]) (∃ g6 g7, gg 0 = .pointer (some ⟨g6, 0, none⟩) ∧ gg 1 = .pointer (some ⟨g7, 0, none⟩) ∧ Mem (fun _ => True) (fun _ => True) w w' [.box w.heap.size [.int .i64 e.kind, .int .i64 e.value, .slice ak 2 ck], .box (w.heap.size + 1) [.int .i64 0, .int .i64 0, .slice none 0 0], .box (w.heap.size + 1 + 1) [.int .i64 e.kind, .int .i64 e.value, .slice (some ⟨g, off, none⟩) 2 cap], .own S' (fun w => TwoO w S' g off cap av ac bv bc p q), .box g6 [.int .i64 p.kind, .int .i64 p.value, .slice av p.kids.length ac], .box g7 [.int .i64 0, .int .i64 0, .slice none 0 0]]) : (Nat → Bool) → (Nat → Value) → World → Prop) b gg w' → w'.cell? ⟨w.heap.size + 1 + 1, 2, none⟩ = some (.slice (some ⟨g, off, none⟩) 2 cap) ∧ w'.cell? ⟨g, off, none⟩ = some (.int .i64 p.kind) ∧ w'.cell? ⟨g, off + 1, none⟩ = some (.int .i64 p.value) ∧ w'.cell? ⟨g, off + 2, none⟩ = some (.slice av p.kids.length ac) ∧ w'.cell? ⟨g, off + 3, none⟩ = some (.int .i64 q.kind) ∧ w'.cell? ⟨g, off + 4, none⟩ = some (.int .i64 q.value) ∧ w'.cell? ⟨g, off + 5, none⟩ = some (.slice bv q.kids.length bc)) := by
          intro b gg w' h
          have key : ∀ (L : List Res), Mem (fun _ => True) (fun _ => True) w w' L → L[2]? = some (.box (w.heap.size + 1 + 1) [.int .i64 e.kind, .int .i64 e.value, .slice (some ⟨g, off, none⟩) 2 cap]) → L[3]? = some (.own S' (fun w => TwoO w S' g off cap av ac bv bc p q)) → w'.cell? ⟨w.heap.size + 1 + 1, 2, none⟩ = some (.slice (some ⟨g, off, none⟩) 2 cap) ∧ w'.cell? ⟨g, off, none⟩ = some (.int .i64 p.kind) ∧ w'.cell? ⟨g, off + 1, none⟩ = some (.int .i64 p.value) ∧ w'.cell? ⟨g, off + 2, none⟩ = some (.slice av p.kids.length ac) ∧ w'.cell? ⟨g, off + 3, none⟩ = some (.int .i64 q.kind) ∧ w'.cell? ⟨g, off + 4, none⟩ = some (.int .i64 q.value) ∧ w'.cell? ⟨g, off + 5, none⟩ = some (.slice bv q.kids.length bc) := fun L M h2 h3 => by
            obtain ⟨-, c0, c1, c2, c3, c4, c5, -, -, -⟩ := M.o 3 h3
            exact ⟨M.c 2 2 h2 rfl, c0, c1, c2, c3, c4, c5⟩
          cases h0 : b 0 <;> cases h1 : b 1 <;> cases h2 : b 2 <;> simp only [h0, h1, h2, Fl3] at h
          · exact key _ h rfl rfl
          · obtain ⟨_, _, h⟩ := h; exact key _ h rfl rfl
          · obtain ⟨_, _, h⟩ := h; exact key _ h rfl rfl
          · obtain ⟨_, _, h⟩ := h; exact key _ h rfl rfl
          · obtain ⟨_, _, _, _, h⟩ := h; exact key _ h rfl rfl
          · obtain ⟨_, _, _, _, h⟩ := h; exact key _ h rfl rfl
        have HM := show Hid _ from M
        clear M
        refine wp_region_flags 11 [8, 9, 10] (fun i => [.pointer (some ⟨w.heap.size + 1 + 1, 2, none⟩), .slice (some ⟨g, off, none⟩) 2 cap, .pointer (some ⟨g, off, none⟩), .agg #[.int .i64 p.kind, .int .i64 p.value, .slice av p.kids.length ac], .pointer (some ⟨w.heap.size + 1 + 1, 2, none⟩), .slice (some ⟨g, off, none⟩) 2 cap, .pointer (some ⟨g, off + 3, none⟩), .agg #[.int .i64 q.kind, .int .i64 q.value, .slice bv q.kids.length bc]].getD i undef) (fun (b : Nat → Bool) (gg : Nat → Value) (w' : World) => Fl3 (b 0) (b 1) (b 2) (Mem (fun _ => True) (fun _ => True) w w' [.box w.heap.size [.int .i64 e.kind, .int .i64 e.value, .slice ak 2 ck], .box (w.heap.size + 1) [.int .i64 0, .int .i64 0, .slice none 0 0], .box (w.heap.size + 1 + 1) [.int .i64 e.kind, .int .i64 e.value, .slice (some ⟨g, off, none⟩) 2 cap], .own S' (fun w => TwoO w S' g off cap av ac bv bc p q)]) (∃ g6, gg 0 = .pointer (some ⟨g6, 0, none⟩) ∧ Mem (fun _ => True) (fun _ => True) w w' [.box w.heap.size [.int .i64 e.kind, .int .i64 e.value, .slice ak 2 ck], .box (w.heap.size + 1) [.int .i64 0, .int .i64 0, .slice none 0 0], .box (w.heap.size + 1 + 1) [.int .i64 e.kind, .int .i64 e.value, .slice (some ⟨g, off, none⟩) 2 cap], .own S' (fun w => TwoO w S' g off cap av ac bv bc p q), .box g6 [.int .i64 0, .int .i64 0, .slice none 0 0]]) (∃ g7, gg 1 = .pointer (some ⟨g7, 0, none⟩) ∧ Mem (fun _ => True) (fun _ => True) w w' [.box w.heap.size [.int .i64 e.kind, .int .i64 e.value, .slice ak 2 ck], .box (w.heap.size + 1) [.int .i64 0, .int .i64 0, .slice none 0 0], .box (w.heap.size + 1 + 1) [.int .i64 e.kind, .int .i64 e.value, .slice (some ⟨g, off, none⟩) 2 cap], .own S' (fun w => TwoO w S' g off cap av ac bv bc p q), .box g7 [.int .i64 0, .int .i64 0, .slice none 0 0]]) (∃ g6 g7, gg 0 = .pointer (some ⟨g6, 0, none⟩) ∧ gg 1 = .pointer (some ⟨g7, 0, none⟩) ∧ Mem (fun _ => True) (fun _ => True) w w' [.box w.heap.size [.int .i64 e.kind, .int .i64 e.value, .slice ak 2 ck], .box (w.heap.size + 1) [.int .i64 0, .int .i64 0, .slice none 0 0], .box (w.heap.size + 1 + 1) [.int .i64 e.kind, .int .i64 e.value, .slice (some ⟨g, off, none⟩) 2 cap], .own S' (fun w => TwoO w S' g off cap av ac bv bc p q), .box g6 [.int .i64 0, .int .i64 0, .slice none 0 0], .box g7 [.int .i64 0, .int .i64 0, .slice none 0 0]]) (∃ g6, gg 0 = .pointer (some ⟨g6, 0, none⟩) ∧ Mem (fun _ => True) (fun _ => True) w w' [.box w.heap.size [.int .i64 e.kind, .int .i64 e.value, .slice ak 2 ck], .box (w.heap.size + 1) [.int .i64 0, .int .i64 0, .slice none 0 0], .box (w.heap.size + 1 + 1) [.int .i64 e.kind, .int .i64 e.value, .slice (some ⟨g, off, none⟩) 2 cap], .own S' (fun w => TwoO w S' g off cap av ac bv bc p q), .box g6 [.int .i64 p.kind, .int .i64 p.value, .slice av p.kids.length ac]]) (∃ g6 g7, gg 0 = .pointer (some ⟨g6, 0, none⟩) ∧ gg 1 = .pointer (some ⟨g7, 0, none⟩) ∧ Mem (fun _ => True) (fun _ => True) w w' [.box w.heap.size [.int .i64 e.kind, .int .i64 e.value, .slice ak 2 ck], .box (w.heap.size + 1) [.int .i64 0, .int .i64 0, .slice none 0 0], .box (w.heap.size + 1 + 1) [.int .i64 e.kind, .int .i64 e.value, .slice (some ⟨g, off, none⟩) 2 cap], .own S' (fun w => TwoO w S' g off cap av ac bv bc p q), .box g6 [.int .i64 p.kind, .int .i64 p.value, .slice av p.kids.length ac], .box g7 [.int .i64 0, .int .i64 0, .slice none 0 0]])) (by kernel_rfl) (by kernel_rfl) (by kernel_rfl) (by decide) (by decide) ?_ ?_ ?_ ?_ ?_
        · intro b b' gg gg' w' hb hg h
          have e0 := hb 0 (by decide)
          have e1 := hb 1 (by decide)
          have e2 := hb 2 (by decide)
          have i0 := hg 0 (by decide)
          have i1 := hg 1 (by decide)
          clear hb hg HC HM
          show Fl3 (b' 0) (b' 1) (b' 2) _ _ _ _ _ _
          rw [← e0, ← e1, ← e2]
          replace h : Fl3 (b 0) (b 1) (b 2) _ _ _ _ _ _ := h
          cases h0 : b 0 <;> cases h1 : b 1 <;> cases h2 : b 2 <;> simp only [h0, h1, h2, Fl3] at h i0 i1 ⊢
          · exact h
          · obtain ⟨g7, k0, M⟩ := h; exact ⟨g7, (i1 trivial).symm.trans k0, M⟩
          · obtain ⟨g6, k0, M⟩ := h; exact ⟨g6, (i0 trivial).symm.trans k0, M⟩
          · obtain ⟨g6, k0, M⟩ := h; exact ⟨g6, (i0 trivial).symm.trans k0, M⟩
          · obtain ⟨g6, g7, k0, k1, M⟩ := h; exact ⟨g6, g7, (i0 trivial).symm.trans k0, (i1 trivial).symm.trans k1, M⟩
          · obtain ⟨g6, g7, k0, k1, M⟩ := h; exact ⟨g6, g7, (i0 trivial).symm.trans k0, (i1 trivial).symm.trans k1, M⟩
        · intro gg
          exact HM.out.drew
        · intro i o hi hn ho b f w' hst hdep Q' hQ
          have HQ := show Hid _ from hQ
          clear hQ
          have hc : i = 0 ∨ i = 1 ∨ i = 2 ∨ i = 3 ∨ i = 4 ∨ i = 5 ∨ i = 6 ∨ i = 7 := by simp at hn; omega
          clear hn
          rcases hc with rfl | rfl | rfl | rfl | rfl | rfl | rfl | rfl
          all_goals
            simp only [List.getElem?_cons_zero, List.getElem?_cons_succ, Option.some.injEq] at ho
            subst ho
          · clear hdep hst
            simp only [putAll]
            go_wp2_with fail
            exact use_act HQ.out (by kernel_rfl)
          · have e0 : f 0 = .pointer (some ⟨w.heap.size + 1 + 1, 2, none⟩) := hdep { on := 0, ground := .data } (by simp) (by kernel_rfl) (by simp)
            obtain ⟨x0, x1, x2, x3, x4, x5, x6⟩ := HC.out _ _ _ hst
            clear hdep hst
            obtain ⟨f', rfl⟩ := upd_self e0
            clear e0
            simp only [putAll, upd, ↓reduceIte, Nat.reduceEqDiff]
            go_wp2_with fail
            exact use_act HQ.out (by kernel_rfl)
          · have e1 : f 1 = .slice (some ⟨g, off, none⟩) 2 cap := hdep { on := 1, ground := .data } (by simp) (by kernel_rfl) (by simp)
            clear hdep hst
            obtain ⟨f', rfl⟩ := upd_self e1
            clear e1
            simp only [putAll, upd, ↓reduceIte, Nat.reduceEqDiff]
            go_wp2_with fail
            exact use_act HQ.out (by kernel_rfl)
          · have e2 : f 2 = .pointer (some ⟨g, off, none⟩) := hdep { on := 2, ground := .data } (by simp) (by kernel_rfl) (by simp)
            obtain ⟨x0, x1, x2, x3, x4, x5, x6⟩ := HC.out _ _ _ hst
            clear hdep hst
            obtain ⟨f', rfl⟩ := upd_self e2
            clear e2
            simp only [putAll, upd, ↓reduceIte, Nat.reduceEqDiff]
            go_wp2_with fail
            exact use_act HQ.out (by kernel_rfl)
          · clear hdep hst
            simp only [putAll]
            go_wp2_with fail
            exact use_act HQ.out (by kernel_rfl)
          · have e4 : f 4 = .pointer (some ⟨w.heap.size + 1 + 1, 2, none⟩) := hdep { on := 4, ground := .data } (by simp) (by kernel_rfl) (by simp)
            obtain ⟨x0, x1, x2, x3, x4, x5, x6⟩ := HC.out _ _ _ hst
            clear hdep hst
            obtain ⟨f', rfl⟩ := upd_self e4
            clear e4
            simp only [putAll, upd, ↓reduceIte, Nat.reduceEqDiff]
            go_wp2_with fail
            exact use_act HQ.out (by kernel_rfl)
          · have e5 : f 5 = .slice (some ⟨g, off, none⟩) 2 cap := hdep { on := 5, ground := .data } (by simp) (by kernel_rfl) (by simp)
            clear hdep hst
            obtain ⟨f', rfl⟩ := upd_self e5
            clear e5
            simp only [putAll, upd, ↓reduceIte, Nat.reduceEqDiff]
            go_wp2_with fail
            exact use_act HQ.out (by kernel_rfl)
          · have e6 : f 6 = .pointer (some ⟨g, off + 3, none⟩) := hdep { on := 6, ground := .data } (by simp) (by kernel_rfl) (by simp)
            obtain ⟨x0, x1, x2, x3, x4, x5, x6⟩ := HC.out _ _ _ hst
            clear hdep hst
            obtain ⟨f', rfl⟩ := upd_self e6
            clear e6
            simp only [putAll, upd, ↓reduceIte, Nat.reduceEqDiff]
            go_wp2_with fail
            exact use_act HQ.out (by kernel_rfl)
        · intro j i o hj ho b f w' hbj hst hdep hdj Q' hQ
          have HQ := show Hid _ from hQ
          clear hQ
          replace hst : Fl3 (b 0) (b 1) (b 2) _ _ _ _ _ _ := hst
          match j, hj, hbj, HQ with
          | 0, hj, h0, HQ =>
            simp only [List.getElem?_cons_zero, Option.some.injEq] at hj
            subst hj
            simp only [List.getElem?_cons_zero, List.getElem?_cons_succ, Option.some.injEq] at ho
            subst ho
            clear hdep hdj
            cases h1 : b 1 <;> cases h2 : b 2 <;> simp only [h0, h1, h2, Fl3] at hst
            · have HM1 := show Hid _ from hst.box [.int .i64 0, .int .i64 0, .slice none 0 0] 41
              clear hst
              simp only [putAll]
              go_wp2_with fail
              refine use_act (HQ.out (.pointer (some ⟨w'.heap.size, 0, none⟩)) _ ?_) (by kernel_rfl)
              show Fl3 (if 0 = 0 then true else b 0) (if 1 = 0 then true else b 1) (if 2 = 0 then true else b 2) _ _ _ _ _ _
              simp only [h0, h1, h2, Nat.reduceEqDiff, ↓reduceIte]
              exact ⟨_, rfl, HM1.out⟩
            · obtain ⟨g7, k7, M⟩ := hst
              have K7 := show Hid _ from k7
              have HM1 := show Hid (Mem (fun _ => True) (fun _ => True) w _ [.box w.heap.size [.int .i64 e.kind, .int .i64 e.value, .slice ak 2 ck], .box (w.heap.size + 1) [.int .i64 0, .int .i64 0, .slice none 0 0], .box (w.heap.size + 1 + 1) [.int .i64 e.kind, .int .i64 e.value, .slice (some ⟨g, off, none⟩) 2 cap], .own S' (fun w => TwoO w S' g off cap av ac bv bc p q), .box w'.heap.size [.int .i64 0, .int .i64 0, .slice none 0 0], .box g7 [.int .i64 0, .int .i64 0, .slice none 0 0]]) from (M.box [.int .i64 0, .int .i64 0, .slice none 0 0] 41).sel [0, 1, 2, 3, 5, 4] _ rfl (by decide)
              clear M k7
              simp only [putAll]
              go_wp2_with fail
              refine use_act (HQ.out (.pointer (some ⟨w'.heap.size, 0, none⟩)) _ ?_) (by kernel_rfl)
              show Fl3 (if 0 = 0 then true else b 0) (if 1 = 0 then true else b 1) (if 2 = 0 then true else b 2) _ _ _ _ _ _
              simp only [h0, h1, h2, Nat.reduceEqDiff, ↓reduceIte]
              exact ⟨_, _, rfl, K7.out, HM1.out⟩
          | 1, hj, h1, HQ =>
            simp only [List.getElem?_cons_zero, List.getElem?_cons_succ, Option.some.injEq] at hj
            subst hj
            simp only [List.getElem?_cons_zero, List.getElem?_cons_succ, Option.some.injEq] at ho
            subst ho
            clear hdep hdj
            cases h0 : b 0 <;> cases h2 : b 2 <;> simp only [h0, h1, h2, Fl3] at hst
            · have HM1 := show Hid _ from hst.box [.int .i64 0, .int .i64 0, .slice none 0 0] 41
              clear hst
              simp only [putAll]
              go_wp2_with fail
              refine use_act (HQ.out (.pointer (some ⟨w'.heap.size, 0, none⟩)) _ ?_) (by kernel_rfl)
              show Fl3 (if 0 = 1 then true else b 0) (if 1 = 1 then true else b 1) (if 2 = 1 then true else b 2) _ _ _ _ _ _
              simp only [h0, h1, h2, Nat.reduceEqDiff, ↓reduceIte]
              exact ⟨_, rfl, HM1.out⟩
            · obtain ⟨g6, k6, M⟩ := hst
              have K6 := show Hid _ from k6
              have HM1 := show Hid _ from M.box [.int .i64 0, .int .i64 0, .slice none 0 0] 41
              clear M k6
              simp only [putAll]
              go_wp2_with fail
              refine use_act (HQ.out (.pointer (some ⟨w'.heap.size, 0, none⟩)) _ ?_) (by kernel_rfl)
              show Fl3 (if 0 = 1 then true else b 0) (if 1 = 1 then true else b 1) (if 2 = 1 then true else b 2) _ _ _ _ _ _
              simp only [h0, h1, h2, Nat.reduceEqDiff, ↓reduceIte]
              exact ⟨_, _, K6.out, rfl, HM1.out⟩
            · obtain ⟨g6, k6, M⟩ := hst
              have K6 := show Hid _ from k6
              have HM1 := show Hid _ from M.box [.int .i64 0, .int .i64 0, .slice none 0 0] 41
              clear M k6
              simp only [putAll]
              go_wp2_with fail
              refine use_act (HQ.out (.pointer (some ⟨w'.heap.size, 0, none⟩)) _ ?_) (by kernel_rfl)
              show Fl3 (if 0 = 1 then true else b 0) (if 1 = 1 then true else b 1) (if 2 = 1 then true else b 2) _ _ _ _ _ _
              simp only [h0, h1, h2, Nat.reduceEqDiff, ↓reduceIte]
              exact ⟨_, _, K6.out, rfl, HM1.out⟩
          | 2, hj, h2, HQ =>
            simp only [List.getElem?_cons_zero, List.getElem?_cons_succ, Option.some.injEq] at hj
            subst hj
            simp only [List.getElem?_cons_zero, List.getElem?_cons_succ, Option.some.injEq] at ho
            subst ho
            have h0 : b 0 = true := hdj { on := 8, ground := .data } (by simp) (by kernel_rfl) 0 rfl
            have e3 : f 3 = .agg #[.int .i64 p.kind, .int .i64 p.value, .slice av p.kids.length ac] := hdep { on := 3, ground := .data } (by simp) (by kernel_rfl) (by simp)
            clear hdep hdj
            cases h1 : b 1 <;> simp only [h0, h1, h2, Fl3] at hst
            · obtain ⟨g6, k6, M⟩ := hst
              have e8 : f 8 = .pointer (some ⟨g6, 0, none⟩) := k6
              have K6 := show Hid _ from k6
              have z0 := M.c 4 0 rfl rfl
              have z1 := M.c 4 1 rfl rfl
              have z2 := M.c 4 2 rfl rfl
              have f6 := M.f 4 rfl
              have HM1 := show Hid _ from ((M.set 4 rfl 0 (.int .i64 p.kind)).set 4 rfl 1 (.int .i64 p.value)).set 4 rfl 2 (.slice av p.kids.length ac)
              clear M k6
              obtain ⟨f', rfl⟩ := upd_self e3
              clear e3
              simp only [upd, ↓reduceIte, Nat.reduceEqDiff] at e8
              obtain ⟨f'', rfl⟩ := upd_self e8
              clear e8
              simp only [putAll, upd, ↓reduceIte, Nat.reduceEqDiff]
              go_wp2_with fail
              refine use_act (HQ.out undef _ ?_) (by kernel_rfl)
              show Fl3 (if 0 = 2 then true else b 0) (if 1 = 2 then true else b 1) (if 2 = 2 then true else b 2) _ _ _ _ _ _
              simp only [h0, h1, Nat.reduceEqDiff, ↓reduceIte]
              exact ⟨_, rfl, HM1.out⟩
            · obtain ⟨g6, g7, k6, k7, M⟩ := hst
              have e8 : f 8 = .pointer (some ⟨g6, 0, none⟩) := k6
              have e9 : f 9 = .pointer (some ⟨g7, 0, none⟩) := k7
              have z0 := M.c 4 0 rfl rfl
              have z1 := M.c 4 1 rfl rfl
              have z2 := M.c 4 2 rfl rfl
              have f6 := M.f 4 rfl
              have HM1 := show Hid _ from ((M.set 4 rfl 0 (.int .i64 p.kind)).set 4 rfl 1 (.int .i64 p.value)).set 4 rfl 2 (.slice av p.kids.length ac)
              clear M k6 k7
              obtain ⟨f', rfl⟩ := upd_self e3
              clear e3
              simp only [upd, ↓reduceIte, Nat.reduceEqDiff] at e8 e9
              obtain ⟨f'', rfl⟩ := upd_self e8
              clear e8
              simp only [upd, ↓reduceIte, Nat.reduceEqDiff] at e9
              obtain ⟨f3, rfl⟩ := upd_self e9
              clear e9
              simp only [putAll, upd, ↓reduceIte, Nat.reduceEqDiff]
              go_wp2_with fail
              refine use_act (HQ.out undef _ ?_) (by kernel_rfl)
              show Fl3 (if 0 = 2 then true else b 0) (if 1 = 2 then true else b 1) (if 2 = 2 then true else b 2) _ _ _ _ _ _
              simp only [h0, h1, Nat.reduceEqDiff, ↓reduceIte]
              exact ⟨_, _, rfl, rfl, HM1.out⟩
          | j + 3, hj, _, _ => simp at hj
        · intro o ho f w' hst hu
          simp only [List.getElem?_cons_zero, List.getElem?_cons_succ, Option.some.injEq] at ho
          subst ho
          obtain ⟨g6, g7, k6, k7, M⟩ := hst
          have e8 : f 8 = .pointer (some ⟨g6, 0, none⟩) := k6
          have e9 : f 9 = .pointer (some ⟨g7, 0, none⟩) := k7
          have e7 : f 7 = .agg #[.int .i64 q.kind, .int .i64 q.value, .slice bv q.kids.length bc] := hu 7 (by omega) (by simp)
          have z0 := M.c 5 0 rfl rfl
          have z1 := M.c 5 1 rfl rfl
          have z2 := M.c 5 2 rfl rfl
          have f6 := M.f 5 rfl
          have HM1 := show Hid _ from ((M.set 5 rfl 0 (.int .i64 q.kind)).set 5 rfl 1 (.int .i64 q.value)).set 5 rfl 2 (.slice bv q.kids.length bc)
          clear M k6 k7 hu HC HM
          obtain ⟨f', rfl⟩ := upd_self e8
          clear e8
          simp only [upd, ↓reduceIte, Nat.reduceEqDiff] at e9
          simp only [upd, ↓reduceIte, Nat.reduceEqDiff] at e7
          obtain ⟨f'', rfl⟩ := upd_self e9
          clear e9
          simp only [upd, ↓reduceIte, Nat.reduceEqDiff] at e7
          obtain ⟨f''', rfl⟩ := upd_self e7
          clear e7
          simp only [putAll, upd, ↓reduceIte, Nat.reduceEqDiff]
          apply wpList_cut (fun w'' => Mem (fun _ => True) (fun _ => True) w w'' [.box w.heap.size [.int .i64 e.kind, .int .i64 e.value, .slice ak 2 ck], .box (w.heap.size + 1) [.int .i64 0, .int .i64 0, .slice none 0 0], .box (w.heap.size + 1 + 1) [.int .i64 e.kind, .int .i64 e.value, .slice (some ⟨g, off, none⟩) 2 cap], .own S' (fun w => TwoO w S' g off cap av ac bv bc p q), .box g6 [.int .i64 p.kind, .int .i64 p.value, .slice av p.kids.length ac], .box g7 [.int .i64 q.kind, .int .i64 q.value, .slice bv q.kids.length bc]])
          · go_wp2_with fail
            first | exact HM1.out | exact ⟨rfl, HM1.out⟩ | exact ⟨rfl, rfl, HM1.out⟩
          clear z0 z1 z2 f6 HM1
          intro w'' M
          by_cases qc : p.kind = 1 ∧ q.kind = 1
          · have pa : (p.kind == 1) = true := by simp [qc.1]
            have pb : (q.kind == 1) = true := by simp [qc.2]
            have HN : Hid (nodeE ⟨e.kind, e.value, [p, q]⟩ = ⟨1, binV e.kind p.value q.value, []⟩) := by rw [Hid, HN0.out, if_pos qc]; rfl
            have HP := HPV.out qc.1
            have HQV2 := HQV.out qc.2
            clear qc HN0
            have hs : (e.kind == 4) = true ∨ ((e.kind == 4) = false ∧ (e.kind == 8) = true) ∨ ((e.kind == 4) = false ∧ (e.kind == 8) = false) := by
              cases (e.kind == 4) <;> cases (e.kind == 8) <;> simp
            rcases hs with p4 | ⟨p4, p8⟩ | ⟨p4, p8⟩
            all_goals
              have y0 := M.c 0 0 rfl rfl
              have q0 := M.c 4 0 rfl rfl
              have q1 := M.c 4 1 rfl rfl
              have q2 := M.c 4 2 rfl rfl
              have q3 := M.c 5 0 rfl rfl
              have q4 := M.c 5 1 rfl rfl
              have q5 := M.c 5 2 rfl rfl
              have HM := show Hid _ from M
              clear M
              go_wp2_with fail
              have M := HM.out
              clear HM y0 q0 q1 q2 q3 q4 q5
              refine (impl_operate e.kind p.value q.value _ HP.1 HP.2 HQV2.1 HQV2.2).mono ?_
              rintro x w1 ⟨rfl, rfl⟩
              have y0 := M.c 0 0 rfl rfl
              have HM := show Hid _ from M
              clear M
              go_wp2_with fail
              have M := HM.out
              clear HM y0
              refine (impl_number _ _).mono ?_
              rintro x w1 ⟨rfl, b1⟩
              replace M := M.call b1
              clear b1
              have y0 := M.c 0 0 rfl rfl
              have d0 := M.c 1 0 rfl rfl
              have d1 := M.c 1 1 rfl rfl
              have d2 := M.c 1 2 rfl rfl
              have ff := M.f 1 rfl
              have HM := show Hid _ from ((M.set 1 rfl 0 (.int .i64 1)).set 1 rfl 1 (.int .i64 (binV e.kind p.value q.value))).set 1 rfl 2 (.slice none 0 0)
              clear M
              go_wp2_with fail
              have M2 := HM.out
              have r0 : World.cell? _ ⟨w.heap.size + 1, 0, none⟩ = some (.int .i64 1) := M2.c 1 0 rfl rfl
              have r1 : World.cell? _ ⟨w.heap.size + 1, 1, none⟩ = some (.int .i64 (binV e.kind p.value q.value)) := M2.c 1 1 rfl rfl
              have r2 : World.cell? _ ⟨w.heap.size + 1, 2, none⟩ = some (.slice none 0 0) := M2.c 1 2 rfl rfl
              refine bodyPost_ret (v := .agg #[.int .i64 1, .int .i64 (binV e.kind p.value q.value), .slice none 0 0]) (by simp [results, Try.results77, go_sem, r0, r1, r2]) rfl ?_
              show FoQ w e _ _
              unfold FoQ
              rw [HND.out, HN.out]
              exact ⟨_, _, S', rfl, KidsO.nil _ _, fun b hb => ⟨(M2.ge _ b (List.mem_of_getElem? (i := 3) rfl) hb).elim (fun h => h) fun h => absurd trivial h, M2.lt (List.mem_of_getElem? (i := 3) rfl) hb⟩, M2.below fun _ _ => trivial⟩
          have HCN : Hid (¬ (p.kind = 1 ∧ q.kind = 1)) := qc
          have pab : ((p.kind == 1) = true ∧ (q.kind == 1) = false) ∨ (p.kind == 1) = false := by
            by_cases h : p.kind = 1
            · exact .inl ⟨by simp [h], by simp; exact fun h' => qc ⟨h, h'⟩⟩
            · exact .inr (by simp [h])
          clear qc
          rcases pab with ⟨pa, pb⟩ | pa
          · by_cases hq : e.kind = 4
            · have p4 : (e.kind == 4) = true := by simp [hq]
              have p8 : (e.kind == 8) = false := by simp [hq]
              have p5 : (e.kind == 5) = false := by simp [hq]
              have p6 : (e.kind == 6) = false := by simp [hq]
              have HQK := show Hid _ from hq
              clear hq
              have y0 := M.c 0 0 rfl rfl
              have q0 := M.c 4 0 rfl rfl
              have q1 := M.c 4 1 rfl rfl
              have q2 := M.c 4 2 rfl rfl
              have q3 := M.c 5 0 rfl rfl
              have q4 := M.c 5 1 rfl rfl
              have q5 := M.c 5 2 rfl rfl
              have HM := show Hid _ from M
              clear M
              go_wp2_with fail
              have M := HM.out
              clear HM y0 q0 q1 q2 q3 q4 q5
              refine (impl_isNumber p.kind p.value 0 (.slice av p.kids.length ac) _).mono ?_
              rintro x w1 ⟨rfl, b1⟩
              rw [show (decide (p.kind = 1) && decide (p.value = 0)) = knownB p 0 from rfl]
              replace M := M.call b1
              clear b1
              cases hK : knownB p 0
              · have y0 := M.c 0 0 rfl rfl
                have q0 := M.c 4 0 rfl rfl
                have q1 := M.c 4 1 rfl rfl
                have q2 := M.c 4 2 rfl rfl
                have q3 := M.c 5 0 rfl rfl
                have q4 := M.c 5 1 rfl rfl
                have q5 := M.c 5 2 rfl rfl
                have HM := show Hid _ from M
                clear M
                go_wp2_with fail
                have M := HM.out
                clear HM y0 q0 q1 q2 q3 q4 q5
                refine (impl_isNumber q.kind q.value 0 (.slice bv q.kids.length bc) _).mono ?_
                rintro x w1 ⟨rfl, b1⟩
                rw [show (decide (q.kind = 1) && decide (q.value = 0)) = knownB q 0 from rfl]
                replace M := M.call b1
                clear b1
                cases hK2 : knownB q 0
                · have HN : Hid (nodeE ⟨e.kind, e.value, [p, q]⟩ = ⟨e.kind, e.value, [p, q]⟩) := by have hq := HQK.out; rw [Hid, HN0.out, if_neg HCN.out, if_neg (by simp [hq, hK]), if_neg (by simp [hq, hK2])]
                  clear hK2 hK HQK HN0
                  have y0 := M.c 0 0 rfl rfl
                  have d0 := M.c 1 0 rfl rfl
                  have d1 := M.c 1 1 rfl rfl
                  have d2 := M.c 1 2 rfl rfl
                  have o0 := M.c 2 0 rfl rfl
                  have o1 := M.c 2 1 rfl rfl
                  have o2 := M.c 2 2 rfl rfl
                  have ff := M.f 1 rfl
                  have HM := show Hid _ from ((M.set 1 rfl 0 (.int .i64 e.kind)).set 1 rfl 1 (.int .i64 e.value)).set 1 rfl 2 (.slice (some ⟨g, off, none⟩) 2 cap)
                  clear M
                  go_wp2_with fail
                  have M2 := HM.out
                  have r0 : World.cell? _ ⟨w.heap.size + 1, 0, none⟩ = some (.int .i64 e.kind) := M2.c 1 0 rfl rfl
                  have r1 : World.cell? _ ⟨w.heap.size + 1, 1, none⟩ = some (.int .i64 e.value) := M2.c 1 1 rfl rfl
                  have r2 : World.cell? _ ⟨w.heap.size + 1, 2, none⟩ = some (.slice (some ⟨g, off, none⟩) 2 cap) := M2.c 1 2 rfl rfl
                  refine bodyPost_ret (v := .agg #[.int .i64 e.kind, .int .i64 e.value, .slice (some ⟨g, off, none⟩) 2 cap]) (by simp [results, Try.results77, go_sem, r0, r1, r2]) rfl ?_
                  show FoQ w e _ _
                  unfold FoQ
                  rw [HND.out, HN.out]
                  exact ⟨_, _, S', rfl, (M2.o 3 rfl).2.2.2.2.2.2.2.2.2, fun b hb => ⟨(M2.ge _ b (List.mem_of_getElem? (i := 3) rfl) hb).elim (fun h => h) fun h => absurd trivial h, M2.lt (List.mem_of_getElem? (i := 3) rfl) hb⟩, M2.below fun _ _ => trivial⟩
                · have HN : Hid (nodeE ⟨e.kind, e.value, [p, q]⟩ = p) := by have hq := HQK.out; rw [Hid, HN0.out, if_neg HCN.out, if_neg (by simp [hq, hK]), if_pos (by simp [hq, hK2])]
                  clear hK2 hK HQK HN0
                  have y0 := M.c 0 0 rfl rfl
                  have d0 := M.c 1 0 rfl rfl
                  have d1 := M.c 1 1 rfl rfl
                  have d2 := M.c 1 2 rfl rfl
                  have q0 := M.c 4 0 rfl rfl
                  have q1 := M.c 4 1 rfl rfl
                  have q2 := M.c 4 2 rfl rfl
                  have ff := M.f 1 rfl
                  have HM := show Hid _ from ((M.set 1 rfl 0 (.int .i64 p.kind)).set 1 rfl 1 (.int .i64 p.value)).set 1 rfl 2 (.slice av p.kids.length ac)
                  clear M
                  go_wp2_with fail
                  have M2 := HM.out
                  have r0 : World.cell? _ ⟨w.heap.size + 1, 0, none⟩ = some (.int .i64 p.kind) := M2.c 1 0 rfl rfl
                  have r1 : World.cell? _ ⟨w.heap.size + 1, 1, none⟩ = some (.int .i64 p.value) := M2.c 1 1 rfl rfl
                  have r2 : World.cell? _ ⟨w.heap.size + 1, 2, none⟩ = some (.slice av p.kids.length ac) := M2.c 1 2 rfl rfl
                  refine bodyPost_ret (v := .agg #[.int .i64 p.kind, .int .i64 p.value, .slice av p.kids.length ac]) (by simp [results, Try.results77, go_sem, r0, r1, r2]) rfl ?_
                  show FoQ w e _ _
                  unfold FoQ
                  rw [HND.out, HN.out]
                  exact ⟨_, _, S', rfl, (M2.o 3 rfl).2.2.2.2.2.2.2.1, fun b hb => ⟨(M2.ge _ b (List.mem_of_getElem? (i := 3) rfl) hb).elim (fun h => h) fun h => absurd trivial h, M2.lt (List.mem_of_getElem? (i := 3) rfl) hb⟩, M2.below fun _ _ => trivial⟩
              · have HN : Hid (nodeE ⟨e.kind, e.value, [p, q]⟩ = q) := by have hq := HQK.out; rw [Hid, HN0.out, if_neg HCN.out, if_pos (by simp [hq, hK])]
                clear hK HQK HN0
                have y0 := M.c 0 0 rfl rfl
                have d0 := M.c 1 0 rfl rfl
                have d1 := M.c 1 1 rfl rfl
                have d2 := M.c 1 2 rfl rfl
                have q3 := M.c 5 0 rfl rfl
                have q4 := M.c 5 1 rfl rfl
                have q5 := M.c 5 2 rfl rfl
                have ff := M.f 1 rfl
                have HM := show Hid _ from ((M.set 1 rfl 0 (.int .i64 q.kind)).set 1 rfl 1 (.int .i64 q.value)).set 1 rfl 2 (.slice bv q.kids.length bc)
                clear M
                go_wp2_with fail
                have M2 := HM.out
                have r0 : World.cell? _ ⟨w.heap.size + 1, 0, none⟩ = some (.int .i64 q.kind) := M2.c 1 0 rfl rfl
                have r1 : World.cell? _ ⟨w.heap.size + 1, 1, none⟩ = some (.int .i64 q.value) := M2.c 1 1 rfl rfl
                have r2 : World.cell? _ ⟨w.heap.size + 1, 2, none⟩ = some (.slice bv q.kids.length bc) := M2.c 1 2 rfl rfl
                refine bodyPost_ret (v := .agg #[.int .i64 q.kind, .int .i64 q.value, .slice bv q.kids.length bc]) (by simp [results, Try.results77, go_sem, r0, r1, r2]) rfl ?_
                show FoQ w e _ _
                unfold FoQ
                rw [HND.out, HN.out]
                exact ⟨_, _, S', rfl, (M2.o 3 rfl).2.2.2.2.2.2.2.2.1, fun b hb => ⟨(M2.ge _ b (List.mem_of_getElem? (i := 3) rfl) hb).elim (fun h => h) fun h => absurd trivial h, M2.lt (List.mem_of_getElem? (i := 3) rfl) hb⟩, M2.below fun _ _ => trivial⟩
            have HN4 := show Hid _ from hq
            clear hq
            by_cases hq : e.kind = 8
            · have p4 : (e.kind == 4) = false := by simp [hq]
              have p8 : (e.kind == 8) = true := by simp [hq]
              have p5 : (e.kind == 5) = false := by simp [hq]
              have p6 : (e.kind == 6) = false := by simp [hq]
              have HQK := show Hid _ from hq
              clear hq
              have y0 := M.c 0 0 rfl rfl
              have q0 := M.c 4 0 rfl rfl
              have q1 := M.c 4 1 rfl rfl
              have q2 := M.c 4 2 rfl rfl
              have q3 := M.c 5 0 rfl rfl
              have q4 := M.c 5 1 rfl rfl
              have q5 := M.c 5 2 rfl rfl
              have HM := show Hid _ from M
              clear M
              go_wp2_with fail
              have M := HM.out
              clear HM y0 q0 q1 q2 q3 q4 q5
              refine (impl_isNumber p.kind p.value 0 (.slice av p.kids.length ac) _).mono ?_
              rintro x w1 ⟨rfl, b1⟩
              rw [show (decide (p.kind = 1) && decide (p.value = 0)) = knownB p 0 from rfl]
              replace M := M.call b1
              clear b1
              cases hK : knownB p 0
              · have y0 := M.c 0 0 rfl rfl
                have q0 := M.c 4 0 rfl rfl
                have q1 := M.c 4 1 rfl rfl
                have q2 := M.c 4 2 rfl rfl
                have q3 := M.c 5 0 rfl rfl
                have q4 := M.c 5 1 rfl rfl
                have q5 := M.c 5 2 rfl rfl
                have HM := show Hid _ from M
                clear M
                go_wp2_with fail
                have M := HM.out
                clear HM y0 q0 q1 q2 q3 q4 q5
                refine (impl_isNumber q.kind q.value 0 (.slice bv q.kids.length bc) _).mono ?_
                rintro x w1 ⟨rfl, b1⟩
                rw [show (decide (q.kind = 1) && decide (q.value = 0)) = knownB q 0 from rfl]
                replace M := M.call b1
                clear b1
                cases hK2 : knownB q 0
                · have HN : Hid (nodeE ⟨e.kind, e.value, [p, q]⟩ = ⟨e.kind, e.value, [p, q]⟩) := by have hq := HQK.out; rw [Hid, HN0.out, if_neg HCN.out, if_neg (by simp [hq, hK]), if_neg (by simp [hq, hK2])]
                  clear hK2 hK HQK HN0
                  have y0 := M.c 0 0 rfl rfl
                  have d0 := M.c 1 0 rfl rfl
                  have d1 := M.c 1 1 rfl rfl
                  have d2 := M.c 1 2 rfl rfl
                  have o0 := M.c 2 0 rfl rfl
                  have o1 := M.c 2 1 rfl rfl
                  have o2 := M.c 2 2 rfl rfl
                  have ff := M.f 1 rfl
                  have HM := show Hid _ from ((M.set 1 rfl 0 (.int .i64 e.kind)).set 1 rfl 1 (.int .i64 e.value)).set 1 rfl 2 (.slice (some ⟨g, off, none⟩) 2 cap)
                  clear M
                  go_wp2_with fail
                  have M2 := HM.out
                  have r0 : World.cell? _ ⟨w.heap.size + 1, 0, none⟩ = some (.int .i64 e.kind) := M2.c 1 0 rfl rfl
                  have r1 : World.cell? _ ⟨w.heap.size + 1, 1, none⟩ = some (.int .i64 e.value) := M2.c 1 1 rfl rfl
                  have r2 : World.cell? _ ⟨w.heap.size + 1, 2, none⟩ = some (.slice (some ⟨g, off, none⟩) 2 cap) := M2.c 1 2 rfl rfl
                  refine bodyPost_ret (v := .agg #[.int .i64 e.kind, .int .i64 e.value, .slice (some ⟨g, off, none⟩) 2 cap]) (by simp [results, Try.results77, go_sem, r0, r1, r2]) rfl ?_
                  show FoQ w e _ _
                  unfold FoQ
                  rw [HND.out, HN.out]
                  exact ⟨_, _, S', rfl, (M2.o 3 rfl).2.2.2.2.2.2.2.2.2, fun b hb => ⟨(M2.ge _ b (List.mem_of_getElem? (i := 3) rfl) hb).elim (fun h => h) fun h => absurd trivial h, M2.lt (List.mem_of_getElem? (i := 3) rfl) hb⟩, M2.below fun _ _ => trivial⟩
                · have HN : Hid (nodeE ⟨e.kind, e.value, [p, q]⟩ = p) := by have hq := HQK.out; rw [Hid, HN0.out, if_neg HCN.out, if_neg (by simp [hq, hK]), if_pos (by simp [hq, hK2])]
                  clear hK2 hK HQK HN0
                  have y0 := M.c 0 0 rfl rfl
                  have d0 := M.c 1 0 rfl rfl
                  have d1 := M.c 1 1 rfl rfl
                  have d2 := M.c 1 2 rfl rfl
                  have q0 := M.c 4 0 rfl rfl
                  have q1 := M.c 4 1 rfl rfl
                  have q2 := M.c 4 2 rfl rfl
                  have ff := M.f 1 rfl
                  have HM := show Hid _ from ((M.set 1 rfl 0 (.int .i64 p.kind)).set 1 rfl 1 (.int .i64 p.value)).set 1 rfl 2 (.slice av p.kids.length ac)
                  clear M
                  go_wp2_with fail
                  have M2 := HM.out
                  have r0 : World.cell? _ ⟨w.heap.size + 1, 0, none⟩ = some (.int .i64 p.kind) := M2.c 1 0 rfl rfl
                  have r1 : World.cell? _ ⟨w.heap.size + 1, 1, none⟩ = some (.int .i64 p.value) := M2.c 1 1 rfl rfl
                  have r2 : World.cell? _ ⟨w.heap.size + 1, 2, none⟩ = some (.slice av p.kids.length ac) := M2.c 1 2 rfl rfl
                  refine bodyPost_ret (v := .agg #[.int .i64 p.kind, .int .i64 p.value, .slice av p.kids.length ac]) (by simp [results, Try.results77, go_sem, r0, r1, r2]) rfl ?_
                  show FoQ w e _ _
                  unfold FoQ
                  rw [HND.out, HN.out]
                  exact ⟨_, _, S', rfl, (M2.o 3 rfl).2.2.2.2.2.2.2.1, fun b hb => ⟨(M2.ge _ b (List.mem_of_getElem? (i := 3) rfl) hb).elim (fun h => h) fun h => absurd trivial h, M2.lt (List.mem_of_getElem? (i := 3) rfl) hb⟩, M2.below fun _ _ => trivial⟩
              · have HN : Hid (nodeE ⟨e.kind, e.value, [p, q]⟩ = q) := by have hq := HQK.out; rw [Hid, HN0.out, if_neg HCN.out, if_pos (by simp [hq, hK])]
                clear hK HQK HN0
                have y0 := M.c 0 0 rfl rfl
                have d0 := M.c 1 0 rfl rfl
                have d1 := M.c 1 1 rfl rfl
                have d2 := M.c 1 2 rfl rfl
                have q3 := M.c 5 0 rfl rfl
                have q4 := M.c 5 1 rfl rfl
                have q5 := M.c 5 2 rfl rfl
                have ff := M.f 1 rfl
                have HM := show Hid _ from ((M.set 1 rfl 0 (.int .i64 q.kind)).set 1 rfl 1 (.int .i64 q.value)).set 1 rfl 2 (.slice bv q.kids.length bc)
                clear M
                go_wp2_with fail
                have M2 := HM.out
                have r0 : World.cell? _ ⟨w.heap.size + 1, 0, none⟩ = some (.int .i64 q.kind) := M2.c 1 0 rfl rfl
                have r1 : World.cell? _ ⟨w.heap.size + 1, 1, none⟩ = some (.int .i64 q.value) := M2.c 1 1 rfl rfl
                have r2 : World.cell? _ ⟨w.heap.size + 1, 2, none⟩ = some (.slice bv q.kids.length bc) := M2.c 1 2 rfl rfl
                refine bodyPost_ret (v := .agg #[.int .i64 q.kind, .int .i64 q.value, .slice bv q.kids.length bc]) (by simp [results, Try.results77, go_sem, r0, r1, r2]) rfl ?_
                show FoQ w e _ _
                unfold FoQ
                rw [HND.out, HN.out]
                exact ⟨_, _, S', rfl, (M2.o 3 rfl).2.2.2.2.2.2.2.2.1, fun b hb => ⟨(M2.ge _ b (List.mem_of_getElem? (i := 3) rfl) hb).elim (fun h => h) fun h => absurd trivial h, M2.lt (List.mem_of_getElem? (i := 3) rfl) hb⟩, M2.below fun _ _ => trivial⟩
            have HN8 := show Hid _ from hq
            clear hq
            by_cases hq : e.kind = 5
            · have p4 : (e.kind == 4) = false := by simp [hq]
              have p8 : (e.kind == 8) = false := by simp [hq]
              have p5 : (e.kind == 5) = true := by simp [hq]
              have p6 : (e.kind == 6) = false := by simp [hq]
              have HQK := show Hid _ from hq
              clear hq
              have y0 := M.c 0 0 rfl rfl
              have q0 := M.c 4 0 rfl rfl
              have q1 := M.c 4 1 rfl rfl
              have q2 := M.c 4 2 rfl rfl
              have q3 := M.c 5 0 rfl rfl
              have q4 := M.c 5 1 rfl rfl
              have q5 := M.c 5 2 rfl rfl
              have HM := show Hid _ from M
              clear M
              go_wp2_with fail
              have M := HM.out
              clear HM y0 q0 q1 q2 q3 q4 q5
              refine (impl_isNumber q.kind q.value 0 (.slice bv q.kids.length bc) _).mono ?_
              rintro x w1 ⟨rfl, b1⟩
              rw [show (decide (q.kind = 1) && decide (q.value = 0)) = knownB q 0 from rfl]
              replace M := M.call b1
              clear b1
              cases hK2 : knownB q 0
              · have HN : Hid (nodeE ⟨e.kind, e.value, [p, q]⟩ = ⟨e.kind, e.value, [p, q]⟩) := by have hq := HQK.out; rw [Hid, HN0.out, if_neg HCN.out, if_neg (by simp [hq, hq]), if_neg (by simp [hq, hK2])]
                clear hK2  HQK HN0
                have y0 := M.c 0 0 rfl rfl
                have d0 := M.c 1 0 rfl rfl
                have d1 := M.c 1 1 rfl rfl
                have d2 := M.c 1 2 rfl rfl
                have o0 := M.c 2 0 rfl rfl
                have o1 := M.c 2 1 rfl rfl
                have o2 := M.c 2 2 rfl rfl
                have ff := M.f 1 rfl
                have HM := show Hid _ from ((M.set 1 rfl 0 (.int .i64 e.kind)).set 1 rfl 1 (.int .i64 e.value)).set 1 rfl 2 (.slice (some ⟨g, off, none⟩) 2 cap)
                clear M
                go_wp2_with fail
                have M2 := HM.out
                have r0 : World.cell? _ ⟨w.heap.size + 1, 0, none⟩ = some (.int .i64 e.kind) := M2.c 1 0 rfl rfl
                have r1 : World.cell? _ ⟨w.heap.size + 1, 1, none⟩ = some (.int .i64 e.value) := M2.c 1 1 rfl rfl
                have r2 : World.cell? _ ⟨w.heap.size + 1, 2, none⟩ = some (.slice (some ⟨g, off, none⟩) 2 cap) := M2.c 1 2 rfl rfl
                refine bodyPost_ret (v := .agg #[.int .i64 e.kind, .int .i64 e.value, .slice (some ⟨g, off, none⟩) 2 cap]) (by simp [results, Try.results77, go_sem, r0, r1, r2]) rfl ?_
                show FoQ w e _ _
                unfold FoQ
                rw [HND.out, HN.out]
                exact ⟨_, _, S', rfl, (M2.o 3 rfl).2.2.2.2.2.2.2.2.2, fun b hb => ⟨(M2.ge _ b (List.mem_of_getElem? (i := 3) rfl) hb).elim (fun h => h) fun h => absurd trivial h, M2.lt (List.mem_of_getElem? (i := 3) rfl) hb⟩, M2.below fun _ _ => trivial⟩
              · have HN : Hid (nodeE ⟨e.kind, e.value, [p, q]⟩ = p) := by have hq := HQK.out; rw [Hid, HN0.out, if_neg HCN.out, if_neg (by simp [hq, hq]), if_pos (by simp [hq, hK2])]
                clear hK2  HQK HN0
                have y0 := M.c 0 0 rfl rfl
                have d0 := M.c 1 0 rfl rfl
                have d1 := M.c 1 1 rfl rfl
                have d2 := M.c 1 2 rfl rfl
                have q0 := M.c 4 0 rfl rfl
                have q1 := M.c 4 1 rfl rfl
                have q2 := M.c 4 2 rfl rfl
                have ff := M.f 1 rfl
                have HM := show Hid _ from ((M.set 1 rfl 0 (.int .i64 p.kind)).set 1 rfl 1 (.int .i64 p.value)).set 1 rfl 2 (.slice av p.kids.length ac)
                clear M
                go_wp2_with fail
                have M2 := HM.out
                have r0 : World.cell? _ ⟨w.heap.size + 1, 0, none⟩ = some (.int .i64 p.kind) := M2.c 1 0 rfl rfl
                have r1 : World.cell? _ ⟨w.heap.size + 1, 1, none⟩ = some (.int .i64 p.value) := M2.c 1 1 rfl rfl
                have r2 : World.cell? _ ⟨w.heap.size + 1, 2, none⟩ = some (.slice av p.kids.length ac) := M2.c 1 2 rfl rfl
                refine bodyPost_ret (v := .agg #[.int .i64 p.kind, .int .i64 p.value, .slice av p.kids.length ac]) (by simp [results, Try.results77, go_sem, r0, r1, r2]) rfl ?_
                show FoQ w e _ _
                unfold FoQ
                rw [HND.out, HN.out]
                exact ⟨_, _, S', rfl, (M2.o 3 rfl).2.2.2.2.2.2.2.1, fun b hb => ⟨(M2.ge _ b (List.mem_of_getElem? (i := 3) rfl) hb).elim (fun h => h) fun h => absurd trivial h, M2.lt (List.mem_of_getElem? (i := 3) rfl) hb⟩, M2.below fun _ _ => trivial⟩
            have HN5 := show Hid _ from hq
            clear hq
            by_cases hq : e.kind = 6
            · have p4 : (e.kind == 4) = false := by simp [hq]
              have p8 : (e.kind == 8) = false := by simp [hq]
              have p5 : (e.kind == 5) = false := by simp [hq]
              have p6 : (e.kind == 6) = true := by simp [hq]
              have HQK := show Hid _ from hq
              clear hq
              have y0 := M.c 0 0 rfl rfl
              have q0 := M.c 4 0 rfl rfl
              have q1 := M.c 4 1 rfl rfl
              have q2 := M.c 4 2 rfl rfl
              have q3 := M.c 5 0 rfl rfl
              have q4 := M.c 5 1 rfl rfl
              have q5 := M.c 5 2 rfl rfl
              have HM := show Hid _ from M
              clear M
              go_wp2_with fail
              have M := HM.out
              clear HM y0 q0 q1 q2 q3 q4 q5
              refine (impl_isNumber p.kind p.value 1 (.slice av p.kids.length ac) _).mono ?_
              rintro x w1 ⟨rfl, b1⟩
              rw [show (decide (p.kind = 1) && decide (p.value = 1)) = knownB p 1 from rfl]
              replace M := M.call b1
              clear b1
              cases hK : knownB p 1
              · have y0 := M.c 0 0 rfl rfl
                have q0 := M.c 4 0 rfl rfl
                have q1 := M.c 4 1 rfl rfl
                have q2 := M.c 4 2 rfl rfl
                have q3 := M.c 5 0 rfl rfl
                have q4 := M.c 5 1 rfl rfl
                have q5 := M.c 5 2 rfl rfl
                have HM := show Hid _ from M
                clear M
                go_wp2_with fail
                have M := HM.out
                clear HM y0 q0 q1 q2 q3 q4 q5
                refine (impl_isNumber q.kind q.value 1 (.slice bv q.kids.length bc) _).mono ?_
                rintro x w1 ⟨rfl, b1⟩
                rw [show (decide (q.kind = 1) && decide (q.value = 1)) = knownB q 1 from rfl]
                replace M := M.call b1
                clear b1
                cases hK2 : knownB q 1
                · have HN : Hid (nodeE ⟨e.kind, e.value, [p, q]⟩ = ⟨e.kind, e.value, [p, q]⟩) := by have hq := HQK.out; rw [Hid, HN0.out, if_neg HCN.out, if_neg (by simp [hq, hK]), if_neg (by simp [hq, hK2])]
                  clear hK2 hK HQK HN0
                  have y0 := M.c 0 0 rfl rfl
                  have d0 := M.c 1 0 rfl rfl
                  have d1 := M.c 1 1 rfl rfl
                  have d2 := M.c 1 2 rfl rfl
                  have o0 := M.c 2 0 rfl rfl
                  have o1 := M.c 2 1 rfl rfl
                  have o2 := M.c 2 2 rfl rfl
                  have ff := M.f 1 rfl
                  have HM := show Hid _ from ((M.set 1 rfl 0 (.int .i64 e.kind)).set 1 rfl 1 (.int .i64 e.value)).set 1 rfl 2 (.slice (some ⟨g, off, none⟩) 2 cap)
                  clear M
                  go_wp2_with fail
                  have M2 := HM.out
                  have r0 : World.cell? _ ⟨w.heap.size + 1, 0, none⟩ = some (.int .i64 e.kind) := M2.c 1 0 rfl rfl
                  have r1 : World.cell? _ ⟨w.heap.size + 1, 1, none⟩ = some (.int .i64 e.value) := M2.c 1 1 rfl rfl
                  have r2 : World.cell? _ ⟨w.heap.size + 1, 2, none⟩ = some (.slice (some ⟨g, off, none⟩) 2 cap) := M2.c 1 2 rfl rfl
                  refine bodyPost_ret (v := .agg #[.int .i64 e.kind, .int .i64 e.value, .slice (some ⟨g, off, none⟩) 2 cap]) (by simp [results, Try.results77, go_sem, r0, r1, r2]) rfl ?_
                  show FoQ w e _ _
                  unfold FoQ
                  rw [HND.out, HN.out]
                  exact ⟨_, _, S', rfl, (M2.o 3 rfl).2.2.2.2.2.2.2.2.2, fun b hb => ⟨(M2.ge _ b (List.mem_of_getElem? (i := 3) rfl) hb).elim (fun h => h) fun h => absurd trivial h, M2.lt (List.mem_of_getElem? (i := 3) rfl) hb⟩, M2.below fun _ _ => trivial⟩
                · have HN : Hid (nodeE ⟨e.kind, e.value, [p, q]⟩ = p) := by have hq := HQK.out; rw [Hid, HN0.out, if_neg HCN.out, if_neg (by simp [hq, hK]), if_pos (by simp [hq, hK2])]
                  clear hK2 hK HQK HN0
                  have y0 := M.c 0 0 rfl rfl
                  have d0 := M.c 1 0 rfl rfl
                  have d1 := M.c 1 1 rfl rfl
                  have d2 := M.c 1 2 rfl rfl
                  have q0 := M.c 4 0 rfl rfl
                  have q1 := M.c 4 1 rfl rfl
                  have q2 := M.c 4 2 rfl rfl
                  have ff := M.f 1 rfl
                  have HM := show Hid _ from ((M.set 1 rfl 0 (.int .i64 p.kind)).set 1 rfl 1 (.int .i64 p.value)).set 1 rfl 2 (.slice av p.kids.length ac)
                  clear M
                  go_wp2_with fail
                  have M2 := HM.out
                  have r0 : World.cell? _ ⟨w.heap.size + 1, 0, none⟩ = some (.int .i64 p.kind) := M2.c 1 0 rfl rfl
                  have r1 : World.cell? _ ⟨w.heap.size + 1, 1, none⟩ = some (.int .i64 p.value) := M2.c 1 1 rfl rfl
                  have r2 : World.cell? _ ⟨w.heap.size + 1, 2, none⟩ = some (.slice av p.kids.length ac) := M2.c 1 2 rfl rfl
                  refine bodyPost_ret (v := .agg #[.int .i64 p.kind, .int .i64 p.value, .slice av p.kids.length ac]) (by simp [results, Try.results77, go_sem, r0, r1, r2]) rfl ?_
                  show FoQ w e _ _
                  unfold FoQ
                  rw [HND.out, HN.out]
                  exact ⟨_, _, S', rfl, (M2.o 3 rfl).2.2.2.2.2.2.2.1, fun b hb => ⟨(M2.ge _ b (List.mem_of_getElem? (i := 3) rfl) hb).elim (fun h => h) fun h => absurd trivial h, M2.lt (List.mem_of_getElem? (i := 3) rfl) hb⟩, M2.below fun _ _ => trivial⟩
              · have HN : Hid (nodeE ⟨e.kind, e.value, [p, q]⟩ = q) := by have hq := HQK.out; rw [Hid, HN0.out, if_neg HCN.out, if_pos (by simp [hq, hK])]
                clear hK HQK HN0
                have y0 := M.c 0 0 rfl rfl
                have d0 := M.c 1 0 rfl rfl
                have d1 := M.c 1 1 rfl rfl
                have d2 := M.c 1 2 rfl rfl
                have q3 := M.c 5 0 rfl rfl
                have q4 := M.c 5 1 rfl rfl
                have q5 := M.c 5 2 rfl rfl
                have ff := M.f 1 rfl
                have HM := show Hid _ from ((M.set 1 rfl 0 (.int .i64 q.kind)).set 1 rfl 1 (.int .i64 q.value)).set 1 rfl 2 (.slice bv q.kids.length bc)
                clear M
                go_wp2_with fail
                have M2 := HM.out
                have r0 : World.cell? _ ⟨w.heap.size + 1, 0, none⟩ = some (.int .i64 q.kind) := M2.c 1 0 rfl rfl
                have r1 : World.cell? _ ⟨w.heap.size + 1, 1, none⟩ = some (.int .i64 q.value) := M2.c 1 1 rfl rfl
                have r2 : World.cell? _ ⟨w.heap.size + 1, 2, none⟩ = some (.slice bv q.kids.length bc) := M2.c 1 2 rfl rfl
                refine bodyPost_ret (v := .agg #[.int .i64 q.kind, .int .i64 q.value, .slice bv q.kids.length bc]) (by simp [results, Try.results77, go_sem, r0, r1, r2]) rfl ?_
                show FoQ w e _ _
                unfold FoQ
                rw [HND.out, HN.out]
                exact ⟨_, _, S', rfl, (M2.o 3 rfl).2.2.2.2.2.2.2.2.1, fun b hb => ⟨(M2.ge _ b (List.mem_of_getElem? (i := 3) rfl) hb).elim (fun h => h) fun h => absurd trivial h, M2.lt (List.mem_of_getElem? (i := 3) rfl) hb⟩, M2.below fun _ _ => trivial⟩
            have HN6 := show Hid _ from hq
            clear hq
            have p4 : (e.kind == 4) = false := by
              have h : ¬ e.kind = 4 := HN4.out
              simp [h]
            have p8 : (e.kind == 8) = false := by
              have h : ¬ e.kind = 8 := HN8.out
              simp [h]
            have p5 : (e.kind == 5) = false := by
              have h : ¬ e.kind = 5 := HN5.out
              simp [h]
            have p6 : (e.kind == 6) = false := by
              have h : ¬ e.kind = 6 := HN6.out
              simp [h]
            have HN : Hid (nodeE ⟨e.kind, e.value, [p, q]⟩ = ⟨e.kind, e.value, [p, q]⟩) := by
              have h4 : ¬ e.kind = 4 := HN4.out
              have h5 : ¬ e.kind = 5 := HN5.out
              have h6 : ¬ e.kind = 6 := HN6.out
              have h8 : ¬ e.kind = 8 := HN8.out
              rw [Hid, HN0.out, if_neg HCN.out, if_neg (by simp [h4, h5, h6, h8]), if_neg (by simp [h4, h5, h6, h8])]
            clear HN4 HN5 HN6 HN8 HN0
            have y0 := M.c 0 0 rfl rfl
            have d0 := M.c 1 0 rfl rfl
            have d1 := M.c 1 1 rfl rfl
            have d2 := M.c 1 2 rfl rfl
            have o0 := M.c 2 0 rfl rfl
            have o1 := M.c 2 1 rfl rfl
            have o2 := M.c 2 2 rfl rfl
            have q0 := M.c 4 0 rfl rfl
            have q1 := M.c 4 1 rfl rfl
            have q2 := M.c 4 2 rfl rfl
            have q3 := M.c 5 0 rfl rfl
            have q4 := M.c 5 1 rfl rfl
            have q5 := M.c 5 2 rfl rfl
            have ff := M.f 1 rfl
            have HM := show Hid _ from ((M.set 1 rfl 0 (.int .i64 e.kind)).set 1 rfl 1 (.int .i64 e.value)).set 1 rfl 2 (.slice (some ⟨g, off, none⟩) 2 cap)
            clear M
            go_wp2_with fail
            have M2 := HM.out
            have r0 : World.cell? _ ⟨w.heap.size + 1, 0, none⟩ = some (.int .i64 e.kind) := M2.c 1 0 rfl rfl
            have r1 : World.cell? _ ⟨w.heap.size + 1, 1, none⟩ = some (.int .i64 e.value) := M2.c 1 1 rfl rfl
            have r2 : World.cell? _ ⟨w.heap.size + 1, 2, none⟩ = some (.slice (some ⟨g, off, none⟩) 2 cap) := M2.c 1 2 rfl rfl
            refine bodyPost_ret (v := .agg #[.int .i64 e.kind, .int .i64 e.value, .slice (some ⟨g, off, none⟩) 2 cap]) (by simp [results, Try.results77, go_sem, r0, r1, r2]) rfl ?_
            show FoQ w e _ _
            unfold FoQ
            rw [HND.out, HN.out]
            exact ⟨_, _, S', rfl, (M2.o 3 rfl).2.2.2.2.2.2.2.2.2, fun b hb => ⟨(M2.ge _ b (List.mem_of_getElem? (i := 3) rfl) hb).elim (fun h => h) fun h => absurd trivial h, M2.lt (List.mem_of_getElem? (i := 3) rfl) hb⟩, M2.below fun _ _ => trivial⟩
          · by_cases hq : e.kind = 4
            · have p4 : (e.kind == 4) = true := by simp [hq]
              have p8 : (e.kind == 8) = false := by simp [hq]
              have p5 : (e.kind == 5) = false := by simp [hq]
              have p6 : (e.kind == 6) = false := by simp [hq]
              have HQK := show Hid _ from hq
              clear hq
              have y0 := M.c 0 0 rfl rfl
              have q0 := M.c 4 0 rfl rfl
              have q1 := M.c 4 1 rfl rfl
              have q2 := M.c 4 2 rfl rfl
              have q3 := M.c 5 0 rfl rfl
              have q4 := M.c 5 1 rfl rfl
              have q5 := M.c 5 2 rfl rfl
              have HM := show Hid _ from M
              clear M
              go_wp2_with fail
              have M := HM.out
              clear HM y0 q0 q1 q2 q3 q4 q5
              refine (impl_isNumber p.kind p.value 0 (.slice av p.kids.length ac) _).mono ?_
              rintro x w1 ⟨rfl, b1⟩
              rw [show (decide (p.kind = 1) && decide (p.value = 0)) = knownB p 0 from rfl]
              replace M := M.call b1
              clear b1
              cases hK : knownB p 0
              · have y0 := M.c 0 0 rfl rfl
                have q0 := M.c 4 0 rfl rfl
                have q1 := M.c 4 1 rfl rfl
                have q2 := M.c 4 2 rfl rfl
                have q3 := M.c 5 0 rfl rfl
                have q4 := M.c 5 1 rfl rfl
                have q5 := M.c 5 2 rfl rfl
                have HM := show Hid _ from M
                clear M
                go_wp2_with fail
                have M := HM.out
                clear HM y0 q0 q1 q2 q3 q4 q5
                refine (impl_isNumber q.kind q.value 0 (.slice bv q.kids.length bc) _).mono ?_
                rintro x w1 ⟨rfl, b1⟩
                rw [show (decide (q.kind = 1) && decide (q.value = 0)) = knownB q 0 from rfl]
                replace M := M.call b1
                clear b1
                cases hK2 : knownB q 0
                · have HN : Hid (nodeE ⟨e.kind, e.value, [p, q]⟩ = ⟨e.kind, e.value, [p, q]⟩) := by have hq := HQK.out; rw [Hid, HN0.out, if_neg HCN.out, if_neg (by simp [hq, hK]), if_neg (by simp [hq, hK2])]
                  clear hK2 hK HQK HN0
                  have y0 := M.c 0 0 rfl rfl
                  have d0 := M.c 1 0 rfl rfl
                  have d1 := M.c 1 1 rfl rfl
                  have d2 := M.c 1 2 rfl rfl
                  have o0 := M.c 2 0 rfl rfl
                  have o1 := M.c 2 1 rfl rfl
                  have o2 := M.c 2 2 rfl rfl
                  have ff := M.f 1 rfl
                  have HM := show Hid _ from ((M.set 1 rfl 0 (.int .i64 e.kind)).set 1 rfl 1 (.int .i64 e.value)).set 1 rfl 2 (.slice (some ⟨g, off, none⟩) 2 cap)
                  clear M
                  go_wp2_with fail
                  have M2 := HM.out
                  have r0 : World.cell? _ ⟨w.heap.size + 1, 0, none⟩ = some (.int .i64 e.kind) := M2.c 1 0 rfl rfl
                  have r1 : World.cell? _ ⟨w.heap.size + 1, 1, none⟩ = some (.int .i64 e.value) := M2.c 1 1 rfl rfl
                  have r2 : World.cell? _ ⟨w.heap.size + 1, 2, none⟩ = some (.slice (some ⟨g, off, none⟩) 2 cap) := M2.c 1 2 rfl rfl
                  refine bodyPost_ret (v := .agg #[.int .i64 e.kind, .int .i64 e.value, .slice (some ⟨g, off, none⟩) 2 cap]) (by simp [results, Try.results77, go_sem, r0, r1, r2]) rfl ?_
                  show FoQ w e _ _
                  unfold FoQ
                  rw [HND.out, HN.out]
                  exact ⟨_, _, S', rfl, (M2.o 3 rfl).2.2.2.2.2.2.2.2.2, fun b hb => ⟨(M2.ge _ b (List.mem_of_getElem? (i := 3) rfl) hb).elim (fun h => h) fun h => absurd trivial h, M2.lt (List.mem_of_getElem? (i := 3) rfl) hb⟩, M2.below fun _ _ => trivial⟩
                · have HN : Hid (nodeE ⟨e.kind, e.value, [p, q]⟩ = p) := by have hq := HQK.out; rw [Hid, HN0.out, if_neg HCN.out, if_neg (by simp [hq, hK]), if_pos (by simp [hq, hK2])]
                  clear hK2 hK HQK HN0
                  have y0 := M.c 0 0 rfl rfl
                  have d0 := M.c 1 0 rfl rfl
                  have d1 := M.c 1 1 rfl rfl
                  have d2 := M.c 1 2 rfl rfl
                  have q0 := M.c 4 0 rfl rfl
                  have q1 := M.c 4 1 rfl rfl
                  have q2 := M.c 4 2 rfl rfl
                  have ff := M.f 1 rfl
                  have HM := show Hid _ from ((M.set 1 rfl 0 (.int .i64 p.kind)).set 1 rfl 1 (.int .i64 p.value)).set 1 rfl 2 (.slice av p.kids.length ac)
                  clear M
                  go_wp2_with fail
                  have M2 := HM.out
                  have r0 : World.cell? _ ⟨w.heap.size + 1, 0, none⟩ = some (.int .i64 p.kind) := M2.c 1 0 rfl rfl
                  have r1 : World.cell? _ ⟨w.heap.size + 1, 1, none⟩ = some (.int .i64 p.value) := M2.c 1 1 rfl rfl
                  have r2 : World.cell? _ ⟨w.heap.size + 1, 2, none⟩ = some (.slice av p.kids.length ac) := M2.c 1 2 rfl rfl
                  refine bodyPost_ret (v := .agg #[.int .i64 p.kind, .int .i64 p.value, .slice av p.kids.length ac]) (by simp [results, Try.results77, go_sem, r0, r1, r2]) rfl ?_
                  show FoQ w e _ _
                  unfold FoQ
                  rw [HND.out, HN.out]
                  exact ⟨_, _, S', rfl, (M2.o 3 rfl).2.2.2.2.2.2.2.1, fun b hb => ⟨(M2.ge _ b (List.mem_of_getElem? (i := 3) rfl) hb).elim (fun h => h) fun h => absurd trivial h, M2.lt (List.mem_of_getElem? (i := 3) rfl) hb⟩, M2.below fun _ _ => trivial⟩
              · have HN : Hid (nodeE ⟨e.kind, e.value, [p, q]⟩ = q) := by have hq := HQK.out; rw [Hid, HN0.out, if_neg HCN.out, if_pos (by simp [hq, hK])]
                clear hK HQK HN0
                have y0 := M.c 0 0 rfl rfl
                have d0 := M.c 1 0 rfl rfl
                have d1 := M.c 1 1 rfl rfl
                have d2 := M.c 1 2 rfl rfl
                have q3 := M.c 5 0 rfl rfl
                have q4 := M.c 5 1 rfl rfl
                have q5 := M.c 5 2 rfl rfl
                have ff := M.f 1 rfl
                have HM := show Hid _ from ((M.set 1 rfl 0 (.int .i64 q.kind)).set 1 rfl 1 (.int .i64 q.value)).set 1 rfl 2 (.slice bv q.kids.length bc)
                clear M
                go_wp2_with fail
                have M2 := HM.out
                have r0 : World.cell? _ ⟨w.heap.size + 1, 0, none⟩ = some (.int .i64 q.kind) := M2.c 1 0 rfl rfl
                have r1 : World.cell? _ ⟨w.heap.size + 1, 1, none⟩ = some (.int .i64 q.value) := M2.c 1 1 rfl rfl
                have r2 : World.cell? _ ⟨w.heap.size + 1, 2, none⟩ = some (.slice bv q.kids.length bc) := M2.c 1 2 rfl rfl
                refine bodyPost_ret (v := .agg #[.int .i64 q.kind, .int .i64 q.value, .slice bv q.kids.length bc]) (by simp [results, Try.results77, go_sem, r0, r1, r2]) rfl ?_
                show FoQ w e _ _
                unfold FoQ
                rw [HND.out, HN.out]
                exact ⟨_, _, S', rfl, (M2.o 3 rfl).2.2.2.2.2.2.2.2.1, fun b hb => ⟨(M2.ge _ b (List.mem_of_getElem? (i := 3) rfl) hb).elim (fun h => h) fun h => absurd trivial h, M2.lt (List.mem_of_getElem? (i := 3) rfl) hb⟩, M2.below fun _ _ => trivial⟩
            have HN4 := show Hid _ from hq
            clear hq
            by_cases hq : e.kind = 8
            · have p4 : (e.kind == 4) = false := by simp [hq]
              have p8 : (e.kind == 8) = true := by simp [hq]
              have p5 : (e.kind == 5) = false := by simp [hq]
              have p6 : (e.kind == 6) = false := by simp [hq]
              have HQK := show Hid _ from hq
              clear hq
              have y0 := M.c 0 0 rfl rfl
              have q0 := M.c 4 0 rfl rfl
              have q1 := M.c 4 1 rfl rfl
              have q2 := M.c 4 2 rfl rfl
              have q3 := M.c 5 0 rfl rfl
              have q4 := M.c 5 1 rfl rfl
              have q5 := M.c 5 2 rfl rfl
              have HM := show Hid _ from M
              clear M
              go_wp2_with fail
              have M := HM.out
              clear HM y0 q0 q1 q2 q3 q4 q5
              refine (impl_isNumber p.kind p.value 0 (.slice av p.kids.length ac) _).mono ?_
              rintro x w1 ⟨rfl, b1⟩
              rw [show (decide (p.kind = 1) && decide (p.value = 0)) = knownB p 0 from rfl]
              replace M := M.call b1
              clear b1
              cases hK : knownB p 0
              · have y0 := M.c 0 0 rfl rfl
                have q0 := M.c 4 0 rfl rfl
                have q1 := M.c 4 1 rfl rfl
                have q2 := M.c 4 2 rfl rfl
                have q3 := M.c 5 0 rfl rfl
                have q4 := M.c 5 1 rfl rfl
                have q5 := M.c 5 2 rfl rfl
                have HM := show Hid _ from M
                clear M
                go_wp2_with fail
                have M := HM.out
                clear HM y0 q0 q1 q2 q3 q4 q5
                refine (impl_isNumber q.kind q.value 0 (.slice bv q.kids.length bc) _).mono ?_
                rintro x w1 ⟨rfl, b1⟩
                rw [show (decide (q.kind = 1) && decide (q.value = 0)) = knownB q 0 from rfl]
                replace M := M.call b1
                clear b1
                cases hK2 : knownB q 0
                · have HN : Hid (nodeE ⟨e.kind, e.value, [p, q]⟩ = ⟨e.kind, e.value, [p, q]⟩) := by have hq := HQK.out; rw [Hid, HN0.out, if_neg HCN.out, if_neg (by simp [hq, hK]), if_neg (by simp [hq, hK2])]
                  clear hK2 hK HQK HN0
                  have y0 := M.c 0 0 rfl rfl
                  have d0 := M.c 1 0 rfl rfl
                  have d1 := M.c 1 1 rfl rfl
                  have d2 := M.c 1 2 rfl rfl
                  have o0 := M.c 2 0 rfl rfl
                  have o1 := M.c 2 1 rfl rfl
                  have o2 := M.c 2 2 rfl rfl
                  have ff := M.f 1 rfl
                  have HM := show Hid _ from ((M.set 1 rfl 0 (.int .i64 e.kind)).set 1 rfl 1 (.int .i64 e.value)).set 1 rfl 2 (.slice (some ⟨g, off, none⟩) 2 cap)
                  clear M
                  go_wp2_with fail
                  have M2 := HM.out
                  have r0 : World.cell? _ ⟨w.heap.size + 1, 0, none⟩ = some (.int .i64 e.kind) := M2.c 1 0 rfl rfl
                  have r1 : World.cell? _ ⟨w.heap.size + 1, 1, none⟩ = some (.int .i64 e.value) := M2.c 1 1 rfl rfl
                  have r2 : World.cell? _ ⟨w.heap.size + 1, 2, none⟩ = some (.slice (some ⟨g, off, none⟩) 2 cap) := M2.c 1 2 rfl rfl
                  refine bodyPost_ret (v := .agg #[.int .i64 e.kind, .int .i64 e.value, .slice (some ⟨g, off, none⟩) 2 cap]) (by simp [results, Try.results77, go_sem, r0, r1, r2]) rfl ?_
                  show FoQ w e _ _
                  unfold FoQ
                  rw [HND.out, HN.out]
                  exact ⟨_, _, S', rfl, (M2.o 3 rfl).2.2.2.2.2.2.2.2.2, fun b hb => ⟨(M2.ge _ b (List.mem_of_getElem? (i := 3) rfl) hb).elim (fun h => h) fun h => absurd trivial h, M2.lt (List.mem_of_getElem? (i := 3) rfl) hb⟩, M2.below fun _ _ => trivial⟩
                · have HN : Hid (nodeE ⟨e.kind, e.value, [p, q]⟩ = p) := by have hq := HQK.out; rw [Hid, HN0.out, if_neg HCN.out, if_neg (by simp [hq, hK]), if_pos (by simp [hq, hK2])]
                  clear hK2 hK HQK HN0
                  have y0 := M.c 0 0 rfl rfl
                  have d0 := M.c 1 0 rfl rfl
                  have d1 := M.c 1 1 rfl rfl
                  have d2 := M.c 1 2 rfl rfl
                  have q0 := M.c 4 0 rfl rfl
                  have q1 := M.c 4 1 rfl rfl
                  have q2 := M.c 4 2 rfl rfl
                  have ff := M.f 1 rfl
                  have HM := show Hid _ from ((M.set 1 rfl 0 (.int .i64 p.kind)).set 1 rfl 1 (.int .i64 p.value)).set 1 rfl 2 (.slice av p.kids.length ac)
                  clear M
                  go_wp2_with fail
                  have M2 := HM.out
                  have r0 : World.cell? _ ⟨w.heap.size + 1, 0, none⟩ = some (.int .i64 p.kind) := M2.c 1 0 rfl rfl
                  have r1 : World.cell? _ ⟨w.heap.size + 1, 1, none⟩ = some (.int .i64 p.value) := M2.c 1 1 rfl rfl
                  have r2 : World.cell? _ ⟨w.heap.size + 1, 2, none⟩ = some (.slice av p.kids.length ac) := M2.c 1 2 rfl rfl
                  refine bodyPost_ret (v := .agg #[.int .i64 p.kind, .int .i64 p.value, .slice av p.kids.length ac]) (by simp [results, Try.results77, go_sem, r0, r1, r2]) rfl ?_
                  show FoQ w e _ _
                  unfold FoQ
                  rw [HND.out, HN.out]
                  exact ⟨_, _, S', rfl, (M2.o 3 rfl).2.2.2.2.2.2.2.1, fun b hb => ⟨(M2.ge _ b (List.mem_of_getElem? (i := 3) rfl) hb).elim (fun h => h) fun h => absurd trivial h, M2.lt (List.mem_of_getElem? (i := 3) rfl) hb⟩, M2.below fun _ _ => trivial⟩
              · have HN : Hid (nodeE ⟨e.kind, e.value, [p, q]⟩ = q) := by have hq := HQK.out; rw [Hid, HN0.out, if_neg HCN.out, if_pos (by simp [hq, hK])]
                clear hK HQK HN0
                have y0 := M.c 0 0 rfl rfl
                have d0 := M.c 1 0 rfl rfl
                have d1 := M.c 1 1 rfl rfl
                have d2 := M.c 1 2 rfl rfl
                have q3 := M.c 5 0 rfl rfl
                have q4 := M.c 5 1 rfl rfl
                have q5 := M.c 5 2 rfl rfl
                have ff := M.f 1 rfl
                have HM := show Hid _ from ((M.set 1 rfl 0 (.int .i64 q.kind)).set 1 rfl 1 (.int .i64 q.value)).set 1 rfl 2 (.slice bv q.kids.length bc)
                clear M
                go_wp2_with fail
                have M2 := HM.out
                have r0 : World.cell? _ ⟨w.heap.size + 1, 0, none⟩ = some (.int .i64 q.kind) := M2.c 1 0 rfl rfl
                have r1 : World.cell? _ ⟨w.heap.size + 1, 1, none⟩ = some (.int .i64 q.value) := M2.c 1 1 rfl rfl
                have r2 : World.cell? _ ⟨w.heap.size + 1, 2, none⟩ = some (.slice bv q.kids.length bc) := M2.c 1 2 rfl rfl
                refine bodyPost_ret (v := .agg #[.int .i64 q.kind, .int .i64 q.value, .slice bv q.kids.length bc]) (by simp [results, Try.results77, go_sem, r0, r1, r2]) rfl ?_
                show FoQ w e _ _
                unfold FoQ
                rw [HND.out, HN.out]
                exact ⟨_, _, S', rfl, (M2.o 3 rfl).2.2.2.2.2.2.2.2.1, fun b hb => ⟨(M2.ge _ b (List.mem_of_getElem? (i := 3) rfl) hb).elim (fun h => h) fun h => absurd trivial h, M2.lt (List.mem_of_getElem? (i := 3) rfl) hb⟩, M2.below fun _ _ => trivial⟩
            have HN8 := show Hid _ from hq
            clear hq
            by_cases hq : e.kind = 5
            · have p4 : (e.kind == 4) = false := by simp [hq]
              have p8 : (e.kind == 8) = false := by simp [hq]
              have p5 : (e.kind == 5) = true := by simp [hq]
              have p6 : (e.kind == 6) = false := by simp [hq]
              have HQK := show Hid _ from hq
              clear hq
              have y0 := M.c 0 0 rfl rfl
              have q0 := M.c 4 0 rfl rfl
              have q1 := M.c 4 1 rfl rfl
              have q2 := M.c 4 2 rfl rfl
              have q3 := M.c 5 0 rfl rfl
              have q4 := M.c 5 1 rfl rfl
              have q5 := M.c 5 2 rfl rfl
              have HM := show Hid _ from M
              clear M
              go_wp2_with fail
              have M := HM.out
              clear HM y0 q0 q1 q2 q3 q4 q5
              refine (impl_isNumber q.kind q.value 0 (.slice bv q.kids.length bc) _).mono ?_
              rintro x w1 ⟨rfl, b1⟩
              rw [show (decide (q.kind = 1) && decide (q.value = 0)) = knownB q 0 from rfl]
              replace M := M.call b1
              clear b1
              cases hK2 : knownB q 0
              · have HN : Hid (nodeE ⟨e.kind, e.value, [p, q]⟩ = ⟨e.kind, e.value, [p, q]⟩) := by have hq := HQK.out; rw [Hid, HN0.out, if_neg HCN.out, if_neg (by simp [hq, hq]), if_neg (by simp [hq, hK2])]
                clear hK2  HQK HN0
                have y0 := M.c 0 0 rfl rfl
                have d0 := M.c 1 0 rfl rfl
                have d1 := M.c 1 1 rfl rfl
                have d2 := M.c 1 2 rfl rfl
                have o0 := M.c 2 0 rfl rfl
                have o1 := M.c 2 1 rfl rfl
                have o2 := M.c 2 2 rfl rfl
                have ff := M.f 1 rfl
                have HM := show Hid _ from ((M.set 1 rfl 0 (.int .i64 e.kind)).set 1 rfl 1 (.int .i64 e.value)).set 1 rfl 2 (.slice (some ⟨g, off, none⟩) 2 cap)
                clear M
                go_wp2_with fail
                have M2 := HM.out
                have r0 : World.cell? _ ⟨w.heap.size + 1, 0, none⟩ = some (.int .i64 e.kind) := M2.c 1 0 rfl rfl
                have r1 : World.cell? _ ⟨w.heap.size + 1, 1, none⟩ = some (.int .i64 e.value) := M2.c 1 1 rfl rfl
                have r2 : World.cell? _ ⟨w.heap.size + 1, 2, none⟩ = some (.slice (some ⟨g, off, none⟩) 2 cap) := M2.c 1 2 rfl rfl
                refine bodyPost_ret (v := .agg #[.int .i64 e.kind, .int .i64 e.value, .slice (some ⟨g, off, none⟩) 2 cap]) (by simp [results, Try.results77, go_sem, r0, r1, r2]) rfl ?_
                show FoQ w e _ _
                unfold FoQ
                rw [HND.out, HN.out]
                exact ⟨_, _, S', rfl, (M2.o 3 rfl).2.2.2.2.2.2.2.2.2, fun b hb => ⟨(M2.ge _ b (List.mem_of_getElem? (i := 3) rfl) hb).elim (fun h => h) fun h => absurd trivial h, M2.lt (List.mem_of_getElem? (i := 3) rfl) hb⟩, M2.below fun _ _ => trivial⟩
              · have HN : Hid (nodeE ⟨e.kind, e.value, [p, q]⟩ = p) := by have hq := HQK.out; rw [Hid, HN0.out, if_neg HCN.out, if_neg (by simp [hq, hq]), if_pos (by simp [hq, hK2])]
                clear hK2  HQK HN0
                have y0 := M.c 0 0 rfl rfl
                have d0 := M.c 1 0 rfl rfl
                have d1 := M.c 1 1 rfl rfl
                have d2 := M.c 1 2 rfl rfl
                have q0 := M.c 4 0 rfl rfl
                have q1 := M.c 4 1 rfl rfl
                have q2 := M.c 4 2 rfl rfl
                have ff := M.f 1 rfl
                have HM := show Hid _ from ((M.set 1 rfl 0 (.int .i64 p.kind)).set 1 rfl 1 (.int .i64 p.value)).set 1 rfl 2 (.slice av p.kids.length ac)
                clear M
                go_wp2_with fail
                have M2 := HM.out
                have r0 : World.cell? _ ⟨w.heap.size + 1, 0, none⟩ = some (.int .i64 p.kind) := M2.c 1 0 rfl rfl
                have r1 : World.cell? _ ⟨w.heap.size + 1, 1, none⟩ = some (.int .i64 p.value) := M2.c 1 1 rfl rfl
                have r2 : World.cell? _ ⟨w.heap.size + 1, 2, none⟩ = some (.slice av p.kids.length ac) := M2.c 1 2 rfl rfl
                refine bodyPost_ret (v := .agg #[.int .i64 p.kind, .int .i64 p.value, .slice av p.kids.length ac]) (by simp [results, Try.results77, go_sem, r0, r1, r2]) rfl ?_
                show FoQ w e _ _
                unfold FoQ
                rw [HND.out, HN.out]
                exact ⟨_, _, S', rfl, (M2.o 3 rfl).2.2.2.2.2.2.2.1, fun b hb => ⟨(M2.ge _ b (List.mem_of_getElem? (i := 3) rfl) hb).elim (fun h => h) fun h => absurd trivial h, M2.lt (List.mem_of_getElem? (i := 3) rfl) hb⟩, M2.below fun _ _ => trivial⟩
            have HN5 := show Hid _ from hq
            clear hq
            by_cases hq : e.kind = 6
            · have p4 : (e.kind == 4) = false := by simp [hq]
              have p8 : (e.kind == 8) = false := by simp [hq]
              have p5 : (e.kind == 5) = false := by simp [hq]
              have p6 : (e.kind == 6) = true := by simp [hq]
              have HQK := show Hid _ from hq
              clear hq
              have y0 := M.c 0 0 rfl rfl
              have q0 := M.c 4 0 rfl rfl
              have q1 := M.c 4 1 rfl rfl
              have q2 := M.c 4 2 rfl rfl
              have q3 := M.c 5 0 rfl rfl
              have q4 := M.c 5 1 rfl rfl
              have q5 := M.c 5 2 rfl rfl
              have HM := show Hid _ from M
              clear M
              go_wp2_with fail
              have M := HM.out
              clear HM y0 q0 q1 q2 q3 q4 q5
              refine (impl_isNumber p.kind p.value 1 (.slice av p.kids.length ac) _).mono ?_
              rintro x w1 ⟨rfl, b1⟩
              rw [show (decide (p.kind = 1) && decide (p.value = 1)) = knownB p 1 from rfl]
              replace M := M.call b1
              clear b1
              cases hK : knownB p 1
              · have y0 := M.c 0 0 rfl rfl
                have q0 := M.c 4 0 rfl rfl
                have q1 := M.c 4 1 rfl rfl
                have q2 := M.c 4 2 rfl rfl
                have q3 := M.c 5 0 rfl rfl
                have q4 := M.c 5 1 rfl rfl
                have q5 := M.c 5 2 rfl rfl
                have HM := show Hid _ from M
                clear M
                go_wp2_with fail
                have M := HM.out
                clear HM y0 q0 q1 q2 q3 q4 q5
                refine (impl_isNumber q.kind q.value 1 (.slice bv q.kids.length bc) _).mono ?_
                rintro x w1 ⟨rfl, b1⟩
                rw [show (decide (q.kind = 1) && decide (q.value = 1)) = knownB q 1 from rfl]
                replace M := M.call b1
                clear b1
                cases hK2 : knownB q 1
                · have HN : Hid (nodeE ⟨e.kind, e.value, [p, q]⟩ = ⟨e.kind, e.value, [p, q]⟩) := by have hq := HQK.out; rw [Hid, HN0.out, if_neg HCN.out, if_neg (by simp [hq, hK]), if_neg (by simp [hq, hK2])]
                  clear hK2 hK HQK HN0
                  have y0 := M.c 0 0 rfl rfl
                  have d0 := M.c 1 0 rfl rfl
                  have d1 := M.c 1 1 rfl rfl
                  have d2 := M.c 1 2 rfl rfl
                  have o0 := M.c 2 0 rfl rfl
                  have o1 := M.c 2 1 rfl rfl
                  have o2 := M.c 2 2 rfl rfl
                  have ff := M.f 1 rfl
                  have HM := show Hid _ from ((M.set 1 rfl 0 (.int .i64 e.kind)).set 1 rfl 1 (.int .i64 e.value)).set 1 rfl 2 (.slice (some ⟨g, off, none⟩) 2 cap)
                  clear M
                  go_wp2_with fail
                  have M2 := HM.out
                  have r0 : World.cell? _ ⟨w.heap.size + 1, 0, none⟩ = some (.int .i64 e.kind) := M2.c 1 0 rfl rfl
                  have r1 : World.cell? _ ⟨w.heap.size + 1, 1, none⟩ = some (.int .i64 e.value) := M2.c 1 1 rfl rfl
                  have r2 : World.cell? _ ⟨w.heap.size + 1, 2, none⟩ = some (.slice (some ⟨g, off, none⟩) 2 cap) := M2.c 1 2 rfl rfl
                  refine bodyPost_ret (v := .agg #[.int .i64 e.kind, .int .i64 e.value, .slice (some ⟨g, off, none⟩) 2 cap]) (by simp [results, Try.results77, go_sem, r0, r1, r2]) rfl ?_
                  show FoQ w e _ _
                  unfold FoQ
                  rw [HND.out, HN.out]
                  exact ⟨_, _, S', rfl, (M2.o 3 rfl).2.2.2.2.2.2.2.2.2, fun b hb => ⟨(M2.ge _ b (List.mem_of_getElem? (i := 3) rfl) hb).elim (fun h => h) fun h => absurd trivial h, M2.lt (List.mem_of_getElem? (i := 3) rfl) hb⟩, M2.below fun _ _ => trivial⟩
                · have HN : Hid (nodeE ⟨e.kind, e.value, [p, q]⟩ = p) := by have hq := HQK.out; rw [Hid, HN0.out, if_neg HCN.out, if_neg (by simp [hq, hK]), if_pos (by simp [hq, hK2])]
                  clear hK2 hK HQK HN0
                  have y0 := M.c 0 0 rfl rfl
                  have d0 := M.c 1 0 rfl rfl
                  have d1 := M.c 1 1 rfl rfl
                  have d2 := M.c 1 2 rfl rfl
                  have q0 := M.c 4 0 rfl rfl
                  have q1 := M.c 4 1 rfl rfl
                  have q2 := M.c 4 2 rfl rfl
                  have ff := M.f 1 rfl
                  have HM := show Hid _ from ((M.set 1 rfl 0 (.int .i64 p.kind)).set 1 rfl 1 (.int .i64 p.value)).set 1 rfl 2 (.slice av p.kids.length ac)
                  clear M
                  go_wp2_with fail
                  have M2 := HM.out
                  have r0 : World.cell? _ ⟨w.heap.size + 1, 0, none⟩ = some (.int .i64 p.kind) := M2.c 1 0 rfl rfl
                  have r1 : World.cell? _ ⟨w.heap.size + 1, 1, none⟩ = some (.int .i64 p.value) := M2.c 1 1 rfl rfl
                  have r2 : World.cell? _ ⟨w.heap.size + 1, 2, none⟩ = some (.slice av p.kids.length ac) := M2.c 1 2 rfl rfl
                  refine bodyPost_ret (v := .agg #[.int .i64 p.kind, .int .i64 p.value, .slice av p.kids.length ac]) (by simp [results, Try.results77, go_sem, r0, r1, r2]) rfl ?_
                  show FoQ w e _ _
                  unfold FoQ
                  rw [HND.out, HN.out]
                  exact ⟨_, _, S', rfl, (M2.o 3 rfl).2.2.2.2.2.2.2.1, fun b hb => ⟨(M2.ge _ b (List.mem_of_getElem? (i := 3) rfl) hb).elim (fun h => h) fun h => absurd trivial h, M2.lt (List.mem_of_getElem? (i := 3) rfl) hb⟩, M2.below fun _ _ => trivial⟩
              · have HN : Hid (nodeE ⟨e.kind, e.value, [p, q]⟩ = q) := by have hq := HQK.out; rw [Hid, HN0.out, if_neg HCN.out, if_pos (by simp [hq, hK])]
                clear hK HQK HN0
                have y0 := M.c 0 0 rfl rfl
                have d0 := M.c 1 0 rfl rfl
                have d1 := M.c 1 1 rfl rfl
                have d2 := M.c 1 2 rfl rfl
                have q3 := M.c 5 0 rfl rfl
                have q4 := M.c 5 1 rfl rfl
                have q5 := M.c 5 2 rfl rfl
                have ff := M.f 1 rfl
                have HM := show Hid _ from ((M.set 1 rfl 0 (.int .i64 q.kind)).set 1 rfl 1 (.int .i64 q.value)).set 1 rfl 2 (.slice bv q.kids.length bc)
                clear M
                go_wp2_with fail
                have M2 := HM.out
                have r0 : World.cell? _ ⟨w.heap.size + 1, 0, none⟩ = some (.int .i64 q.kind) := M2.c 1 0 rfl rfl
                have r1 : World.cell? _ ⟨w.heap.size + 1, 1, none⟩ = some (.int .i64 q.value) := M2.c 1 1 rfl rfl
                have r2 : World.cell? _ ⟨w.heap.size + 1, 2, none⟩ = some (.slice bv q.kids.length bc) := M2.c 1 2 rfl rfl
                refine bodyPost_ret (v := .agg #[.int .i64 q.kind, .int .i64 q.value, .slice bv q.kids.length bc]) (by simp [results, Try.results77, go_sem, r0, r1, r2]) rfl ?_
                show FoQ w e _ _
                unfold FoQ
                rw [HND.out, HN.out]
                exact ⟨_, _, S', rfl, (M2.o 3 rfl).2.2.2.2.2.2.2.2.1, fun b hb => ⟨(M2.ge _ b (List.mem_of_getElem? (i := 3) rfl) hb).elim (fun h => h) fun h => absurd trivial h, M2.lt (List.mem_of_getElem? (i := 3) rfl) hb⟩, M2.below fun _ _ => trivial⟩
            have HN6 := show Hid _ from hq
            clear hq
            have p4 : (e.kind == 4) = false := by
              have h : ¬ e.kind = 4 := HN4.out
              simp [h]
            have p8 : (e.kind == 8) = false := by
              have h : ¬ e.kind = 8 := HN8.out
              simp [h]
            have p5 : (e.kind == 5) = false := by
              have h : ¬ e.kind = 5 := HN5.out
              simp [h]
            have p6 : (e.kind == 6) = false := by
              have h : ¬ e.kind = 6 := HN6.out
              simp [h]
            have HN : Hid (nodeE ⟨e.kind, e.value, [p, q]⟩ = ⟨e.kind, e.value, [p, q]⟩) := by
              have h4 : ¬ e.kind = 4 := HN4.out
              have h5 : ¬ e.kind = 5 := HN5.out
              have h6 : ¬ e.kind = 6 := HN6.out
              have h8 : ¬ e.kind = 8 := HN8.out
              rw [Hid, HN0.out, if_neg HCN.out, if_neg (by simp [h4, h5, h6, h8]), if_neg (by simp [h4, h5, h6, h8])]
            clear HN4 HN5 HN6 HN8 HN0
            have y0 := M.c 0 0 rfl rfl
            have d0 := M.c 1 0 rfl rfl
            have d1 := M.c 1 1 rfl rfl
            have d2 := M.c 1 2 rfl rfl
            have o0 := M.c 2 0 rfl rfl
            have o1 := M.c 2 1 rfl rfl
            have o2 := M.c 2 2 rfl rfl
            have q0 := M.c 4 0 rfl rfl
            have q1 := M.c 4 1 rfl rfl
            have q2 := M.c 4 2 rfl rfl
            have q3 := M.c 5 0 rfl rfl
            have q4 := M.c 5 1 rfl rfl
            have q5 := M.c 5 2 rfl rfl
            have ff := M.f 1 rfl
            have HM := show Hid _ from ((M.set 1 rfl 0 (.int .i64 e.kind)).set 1 rfl 1 (.int .i64 e.value)).set 1 rfl 2 (.slice (some ⟨g, off, none⟩) 2 cap)
            clear M
            go_wp2_with fail
            have M2 := HM.out
            have r0 : World.cell? _ ⟨w.heap.size + 1, 0, none⟩ = some (.int .i64 e.kind) := M2.c 1 0 rfl rfl
            have r1 : World.cell? _ ⟨w.heap.size + 1, 1, none⟩ = some (.int .i64 e.value) := M2.c 1 1 rfl rfl
            have r2 : World.cell? _ ⟨w.heap.size + 1, 2, none⟩ = some (.slice (some ⟨g, off, none⟩) 2 cap) := M2.c 1 2 rfl rfl
            refine bodyPost_ret (v := .agg #[.int .i64 e.kind, .int .i64 e.value, .slice (some ⟨g, off, none⟩) 2 cap]) (by simp [results, Try.results77, go_sem, r0, r1, r2]) rfl ?_
            show FoQ w e _ _
            unfold FoQ
            rw [HND.out, HN.out]
            exact ⟨_, _, S', rfl, (M2.o 3 rfl).2.2.2.2.2.2.2.2.2, fun b hb => ⟨(M2.ge _ b (List.mem_of_getElem? (i := 3) rfl) hb).elim (fun h => h) fun h => absurd trivial h, M2.lt (List.mem_of_getElem? (i := 3) rfl) hb⟩, M2.below fun _ _ => trivial⟩
      · have pk : (e.kind == 11) = false := by simp; omega
        have pw : (decide (4 ≤ e.kind) && decide (e.kind ≤ 10)) = false := by simp; omega
        have HN : Hid (nodeE ⟨e.kind, e.value, ks'⟩ = ⟨e.kind, e.value, ks'⟩) := by
          match ks', h3 with
          | [], _ => rfl
          | [_], _ => rfl
        have HKL := show Hid _ from hkl
        clear h1 h2 hkl
        have y0 := M.c 0 0 rfl rfl
        have d0 := M.c 1 0 rfl rfl
        have d1 := M.c 1 1 rfl rfl
        have d2 := M.c 1 2 rfl rfl
        have ff := M.f 1 rfl
        have o0 := M.c 2 0 rfl rfl
        have o1 := M.c 2 1 rfl rfl
        have o2 := M.c 2 2 rfl rfl
        have HM := show Hid _ from M
        clear M
        go_wp2_with fail
        have M := HM.out
        clear HM y0 d0 d1 d2 ff o0 o1 o2
        refine (impl_within e.kind 4 10 _).mono ?_
        rintro x w1 ⟨rfl, rfl⟩
        rw [pw]
        clear pw pk
        have y0 := M.c 0 0 rfl rfl
        have d0 := M.c 1 0 rfl rfl
        have d1 := M.c 1 1 rfl rfl
        have d2 := M.c 1 2 rfl rfl
        have ff := M.f 1 rfl
        have o0 := M.c 2 0 rfl rfl
        have o1 := M.c 2 1 rfl rfl
        have o2 := M.c 2 2 rfl rfl
        have HM := show Hid _ from ((M.set 1 rfl 0 (.int .i64 e.kind)).set 1 rfl 1 (.int .i64 e.value)).set 1 rfl 2 (.slice a k c)
        clear M
        go_wp2_with fail
        have M2 := HM.out
        have r0 : World.cell? _ ⟨w.heap.size + 1, 0, none⟩ = some (.int .i64 e.kind) := M2.c 1 0 rfl rfl
        have r1 : World.cell? _ ⟨w.heap.size + 1, 1, none⟩ = some (.int .i64 e.value) := M2.c 1 1 rfl rfl
        have r2 : World.cell? _ ⟨w.heap.size + 1, 2, none⟩ = some (.slice a k c) := M2.c 1 2 rfl rfl
        refine bodyPost_ret (v := .agg #[.int .i64 e.kind, .int .i64 e.value, .slice a k c]) (by simp [results, Try.results77, go_sem, r0, r1, r2]) rfl ?_
        show FoQ w e _ _
        unfold FoQ
        rw [HND.out, HN.out]
        rw [show (LExpr.mk e.kind e.value ks').kids.length = k from HKL.out.symm]
        exact ⟨a, c, S', rfl, M2.o 3 rfl, fun b hb => ⟨(M2.ge _ b (List.mem_of_getElem? (i := 3) rfl) hb).elim (fun h => h) fun h => absurd trivial h, M2.lt (List.mem_of_getElem? (i := 3) rfl) hb⟩, M2.below fun _ _ => trivial⟩

end Go.Proofs.Ytgpkdfefgcpbiaa
