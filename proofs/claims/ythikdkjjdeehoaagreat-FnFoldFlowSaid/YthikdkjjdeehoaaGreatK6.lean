/-
  Texts of this claim, part 6: what the functions on the way do, and plain laws. Conditions: as each statement says.
-/
import Derived.Test.YthikdkjjdeehoaaGreatK5
set_option maxRecDepth 100000
set_option maxHeartbeats 16000000
open Bool renaming and_eq_true → bR1
open Inhabited renaming default → bR0
open Int renaming mul_le_mul_of_nonneg_right → bV3
open List renaming getElem?_cons_succ → bT7, getElem?_cons_zero → bT0, getElem_mem → bS7, length_append → bS5, length_cons → bR7, length_nil → bS2, length_replicate → bT5, mem_append → bT2, mem_cons → bU8, mem_cons_of_mem → bS9, mem_cons_self → bS4, mem_of_getElem? → bR3, mem_singleton → bV0, range → bT4, replicate → bT6, take → bR4, take_of_length_le → bS6
open Nat renaming le_refl → bS8, le_trans → bU1, mul_le_mul_right → bV1, reduceEqDiff → bT1, zero_le → bU3
open True renaming intro → bR2

namespace Go.Proofs.YthikdkjjdeehoaaGreat
set_option linter.unusedVariables false
set_option linter.unusedSimpArgs false
open Go Go.RowKit
theorem E2 {w w' : World} {S : Nat → Prop} {g o : Nat} {u : Value} (hs : S g) (h : w.cell? ⟨g, o, none⟩ = some u) (hk : ∀ b, S b → b < w.heap.size → w'.heap[b]? = w.heap[b]?) : w'.cell? ⟨g, o, none⟩ = some u := by
 have := hk g hs (World.block_lt_of_cell? w _ h)
 simp only [World.cell?, this] at h ⊢
 exact h
def Y8 (w : World) (S : Nat → Prop) (g off cap : Nat) (av : Option Addr) (ac : Nat) (bv : Option Addr) (bc : Nat) (a b : b9) : Prop :=
 S g ∧ w.cell? ⟨g, off, none⟩ = some (.int .i64 a.kind) ∧ w.cell? ⟨g, off + 1, none⟩ = some (.int .i64 a.value) ∧ w.cell? ⟨g, off + 2, none⟩ = some (.slice av a.kids.length ac) ∧
   w.cell? ⟨g, off + 3, none⟩ = some (.int .i64 b.kind) ∧ w.cell? ⟨g, off + 4, none⟩ = some (.int .i64 b.value) ∧ w.cell? ⟨g, off + 5, none⟩ = some (.slice bv b.kids.length bc) ∧
  m5 w (.slice av a.kids.length ac) a.kids S ∧ m5 w (.slice bv b.kids.length bc) b.kids S ∧ m5 w (.slice (some ⟨g, off, none⟩) 2 cap) [a, b] S
theorem Y8.same {w w' : World} {S : Nat → Prop} {g off cap : Nat} {av : Option Addr} {ac : Nat} {bv : Option Addr} {bc : Nat} {a b : b9} (h : Y8 w S g off cap av ac bv bc a b) (hk : ∀ b, S b → b < w.heap.size → w'.heap[b]? = w.heap[b]?) : Y8 w' S g off cap av ac bv bc a b :=
 ⟨h.1, E2 h.1 h.2.1 hk, E2 h.1 h.2.2.1 hk, E2 h.1 h.2.2.2.1 hk, E2 h.1 h.2.2.2.2.1 hk, E2 h.1 h.2.2.2.2.2.1 hk, E2 h.1 h.2.2.2.2.2.2.1 hk, h.2.2.2.2.2.2.2.1.same hk, h.2.2.2.2.2.2.2.2.1.same hk, h.2.2.2.2.2.2.2.2.2.same hk⟩
def at8 (w : World) (S : Nat → Prop) (g off cap : Nat) (av : Option Addr) (ac : Nat) (bv : Option Addr) (bc : Nat) (cv : Option Addr) (cc : Nat) (a b c : b9) : Prop :=
 S g ∧ (w.cell? ⟨g, off, none⟩ = some (.int .i64 a.kind) ∧ w.cell? ⟨g, off + 1, none⟩ = some (.int .i64 a.value) ∧ w.cell? ⟨g, off + 2, none⟩ = some (.slice av a.kids.length ac) ∧
   w.cell? ⟨g, off + 3, none⟩ = some (.int .i64 b.kind) ∧ w.cell? ⟨g, off + 4, none⟩ = some (.int .i64 b.value) ∧ w.cell? ⟨g, off + 5, none⟩ = some (.slice bv b.kids.length bc) ∧
   w.cell? ⟨g, off + 6, none⟩ = some (.int .i64 c.kind) ∧ w.cell? ⟨g, off + 7, none⟩ = some (.int .i64 c.value) ∧ w.cell? ⟨g, off + 8, none⟩ = some (.slice cv c.kids.length cc)) ∧
  m5 w (.slice av a.kids.length ac) a.kids S ∧ m5 w (.slice bv b.kids.length bc) b.kids S ∧ m5 w (.slice cv c.kids.length cc) c.kids S ∧ m5 w (.slice (some ⟨g, off, none⟩) 3 cap) [a, b, c] S
theorem at8.same {w w' : World} {S : Nat → Prop} {g off cap : Nat} {av : Option Addr} {ac : Nat} {bv : Option Addr} {bc : Nat} {cv : Option Addr} {cc : Nat} {a b c : b9} (h : at8 w S g off cap av ac bv bc cv cc a b c) (hk : ∀ b, S b → b < w.heap.size → w'.heap[b]? = w.heap[b]?) : at8 w' S g off cap av ac bv bc cv cc a b c := by
 obtain ⟨h1, ⟨k0, k1, k2, k3, k4, k5, k6, k7, k8⟩, h2, h3, h4, h5⟩ := h
 exact ⟨h1, ⟨E2 h1 k0 hk, E2 h1 k1 hk, E2 h1 k2 hk, E2 h1 k3 hk, E2 h1 k4 hk, E2 h1 k5 hk, E2 h1 k6 hk, E2 h1 k7 hk, E2 h1 k8 hk⟩, h2.same hk, h3.same hk, h4.same hk, h5.same hk⟩
def L9 (w : World) (e : b9) (x : Ending) (w' : World) : Prop :=
 ∃ a c S, x = .returned (.agg #[.int .i64 (d8 e).kind, .int .i64 (d8 e).value, .slice a (d8 e).kids.length c]) ∧ m5 w' (.slice a (d8 e).kids.length c) (d8 e).kids S ∧ (∀ b, S b → w.heap.size ≤ b ∧ b < w'.heap.size) ∧ Below w.heap.size w w'
def FoI (e : b9) : Prop := E1 e = true → ∀ (φ : Nat → Prop) (v : Value) (w : World), L1 w φ v e →
 Calls Tryz.prog 127 #[v] w fun x w' => L9 w e x w'
theorem bf7 (e : b9) : FoI e := by
 refine b9.ind (P := FoI) (fun k0 n0 ks ih => ?_) e
 obtain ⟨e, he⟩ : ∃ e : b9, e = ⟨k0, n0, ks⟩ := ⟨_, rfl⟩
 have hks : ks = e.kids := by rw [he]; rfl
 rw [← he]
 subst hks
 clear he
 intro hgood φ v w h
 obtain ⟨kv, rfl, hk⟩ := h
 obtain ⟨ak, ck, rfl, -, hn, -, hc⟩ := hk.open
 have hl3 : e.kids.length ≤ 3 := by have h1 := as2 hgood; have h2 := a01 e.kind; omega
 obtain ⟨m, hm⟩ : ∃ m, m = e.kids.length := ⟨_, rfl⟩
 rw [← hm] at hn hl3 ⊢
 obtain ⟨W, hW, M⟩ : ∃ W, W = ((w.alloc (.cells #[.int .i64 e.kind, .int .i64 e.value, .slice ak m ck] 104)).alloc (.cells #[.int .i64 0, .int .i64 0, .slice none 0 0] 104)).alloc (.cells #[.int .i64 e.kind, .int .i64 e.value, .slice none 0 0] 104) ∧
   r8 (fun _ => True) (fun _ => True) w W [.box w.heap.size [.int .i64 e.kind, .int .i64 e.value, .slice ak m ck], .box (w.heap.size + 1) [.int .i64 0, .int .i64 0, .slice none 0 0], .box (w.heap.size + 1 + 1) [.int .i64 e.kind, .int .i64 e.value, .slice none 0 0], .row 104 3 (.slice none 0 0) 0 [], .own (fun _ => False) (fun w => l8 w [] (fun _ => False) [])] :=
  ⟨_, rfl, (((((r8.start fun _ _ => trivial).box _ _).box' _ _ (by simp)).box' _ _ (by simp)).nil 104 3).noneE⟩
 have HC0 := show Hid _ from hc
 have HGK := show Hid (∀ x ∈ e.kids, E1 x = true) from (C0 _).1 (J4 hgood)
 have HM := show Hid _ from M
 have HMM := show Hid _ from hm
 have y2 := M.c 0 2 rfl rfl
 rw [hW] at y2
 clear hk hc M hm
 go_enter Tryz.func127, Tryz.ntmps127
 go_wp2_with fail
 rw [← hW]
 clear hW y2
 go_loopw [17] (fun i wr => ∃ (k : Nat) (a : Option Addr) (c : Nat) (S : Nat → Prop) (ys : List Value), k ≤ m ∧ i = .int .i64 k ∧ r8 (fun _ => True) (fun _ => True) w wr [.box w.heap.size [.int .i64 e.kind, .int .i64 e.value, .slice ak m ck], .box (w.heap.size + 1) [.int .i64 0, .int .i64 0, .slice none 0 0], .box (w.heap.size + 1 + 1) [.int .i64 e.kind, .int .i64 e.value, .slice a k c], .row 104 3 (.slice a k c) k ys, .own S (fun w => l8 w ((e.kids.take k).map d8) S ys)]) (fun i _ => m - (intOf i).toNat)
 case atStart => exact ⟨0, none, 0, fun _ => False, [], bU3 _, rfl, HM.out⟩
 case round =>
  clear HM
  obtain ⟨k, a, c, S, ys, hk, rfl, M⟩ := hrel
  by_cases hltm : k < m
  ·have hlt : k < e.kids.length := by have := HMM.out; omega
   obtain ⟨b, off, kv, rfl, hbk, hf, c0, c1, c2, hkv⟩ := HC0.out k hlt
   obtain ⟨ka, kc, rfl, -⟩ := hkv.open
   rw [← (V8 (M.below fun _ _ => trivial)).1 _ _ hbk] at c0 c1 c2
   have HE : Hid (∀ w', Below w.heap.size w w' → Calls Tryz.prog 127 #[.agg #[.int .i64 e.kids[k].kind, .int .i64 e.kids[k].value, .slice ka e.kids[k].kids.length kc]] w' fun x w'' => L9 w' e.kids[k] x w'') := fun w' hw =>
    ih _ (bS7 hlt) (HGK.out _ (bS7 hlt)) φ _ _ ⟨_, rfl, s7.nice _ _ _ _ _ _ (T3.below hw) hkv⟩
   have HM := show Hid _ from M.box [.int .i64 e.kids[k].kind, .int .i64 e.kids[k].value, .slice ka e.kids[k].kids.length kc] 104
   clear M hkv
   go_wp2_with fail
   clear c0 c1 c2
   obtain ⟨g5, hg5⟩ : ∃ g5, g5 = wr.heap.size := ⟨_, rfl⟩
   replace HM : Hid (r8 (fun _ => True) (fun _ => True) w (wr.alloc (.cells #[.int .i64 e.kids[k].kind, .int .i64 e.kids[k].value, .slice ka e.kids[k].kids.length kc] 104)) ([.box w.heap.size [.int .i64 e.kind, .int .i64 e.value, .slice (some ⟨b, off, none⟩) m ck], .box (w.heap.size + 1) [.int .i64 0, .int .i64 0, .slice none 0 0], .box (w.heap.size + 1 + 1) [.int .i64 e.kind, .int .i64 e.value, .slice a k c], .row 104 3 (.slice a k c) k ys, .own S (fun w => l8 w ((e.kids.take k).map d8) S ys), .box g5 [.int .i64 e.kids[k].kind, .int .i64 e.kids[k].value, .slice ka e.kids[k].kids.length kc]])) := by rw [hg5]; exact HM
   rw [← hg5]
   clear hg5
   generalize wr.alloc (.cells #[.int .i64 e.kids[k].kind, .int .i64 e.kids[k].value, .slice ka e.kids[k].kids.length kc] 104) = w5 at *
   have HC : Hid (∀ (s : Nat) (g : Nat → Value) (w' : World), (fun (s : Nat) (g : Nat → Value) (w' : World) => match s with
 | 0 => r8 (fun _ => True) (fun _ => True) w w' ([.box w.heap.size [.int .i64 e.kind, .int .i64 e.value, .slice (some ⟨b, off, none⟩) m ck], .box (w.heap.size + 1) [.int .i64 0, .int .i64 0, .slice none 0 0], .box (w.heap.size + 1 + 1) [.int .i64 e.kind, .int .i64 e.value, .slice a k c], .row 104 3 (.slice a k c) k ys, .own S (fun w => l8 w ((e.kids.take k).map d8) S ys), .box g5 [.int .i64 e.kids[k].kind, .int .i64 e.kids[k].value, .slice ka e.kids[k].kids.length kc]])
 | 1 => ∃ a7 c7 T, g 0 = .agg #[.int .i64 (d8 e.kids[k]).kind, .int .i64 (d8 e.kids[k]).value, .slice a7 (d8 e.kids[k]).kids.length c7] ∧ r8 (fun _ => True) (fun _ => True) w w' ([.box w.heap.size [.int .i64 e.kind, .int .i64 e.value, .slice (some ⟨b, off, none⟩) m ck], .box (w.heap.size + 1) [.int .i64 0, .int .i64 0, .slice none 0 0], .box (w.heap.size + 1 + 1) [.int .i64 e.kind, .int .i64 e.value, .slice a k c], .row 104 3 (.slice a k c) k ys, .own S (fun w => l8 w ((e.kids.take k).map d8) S ys), .box g5 [.int .i64 e.kids[k].kind, .int .i64 e.kids[k].value, .slice ka e.kids[k].kids.length kc], .own T (fun w => m5 w (.slice a7 (d8 e.kids[k]).kids.length c7) (d8 e.kids[k]).kids T)])
 | 2 => ∃ a7 c7 T gb, g 1 = .slice (some ⟨gb, 0, none⟩) 1 1 ∧ r8 (fun _ => True) (fun _ => True) w w' ([.box w.heap.size [.int .i64 e.kind, .int .i64 e.value, .slice (some ⟨b, off, none⟩) m ck], .box (w.heap.size + 1) [.int .i64 0, .int .i64 0, .slice none 0 0], .box (w.heap.size + 1 + 1) [.int .i64 e.kind, .int .i64 e.value, .slice a k c], .row 104 3 (.slice a k c) k ys, .own S (fun w => l8 w ((e.kids.take k).map d8) S ys), .box g5 [.int .i64 e.kids[k].kind, .int .i64 e.kids[k].value, .slice ka e.kids[k].kids.length kc], .own T (fun w => m5 w (.slice a7 (d8 e.kids[k]).kids.length c7) (d8 e.kids[k]).kids T), .box gb [.int .i64 (d8 e.kids[k]).kind, .int .i64 (d8 e.kids[k]).value, .slice a7 (d8 e.kids[k]).kids.length c7]])
 | 3 => ∃ a7 c7 T gb a9 c9, g 2 = .slice a9 (k + 1) c9 ∧ r8 (fun _ => True) (fun _ => True) w w' ([.box w.heap.size [.int .i64 e.kind, .int .i64 e.value, .slice (some ⟨b, off, none⟩) m ck], .box (w.heap.size + 1) [.int .i64 0, .int .i64 0, .slice none 0 0], .box (w.heap.size + 1 + 1) [.int .i64 e.kind, .int .i64 e.value, .slice a k c], .row 104 3 (.slice a9 (k + 1) c9) (k + 1) (ys ++ [.int .i64 (d8 e.kids[k]).kind, .int .i64 (d8 e.kids[k]).value, .slice a7 (d8 e.kids[k]).kids.length c7]), .own S (fun w => l8 w ((e.kids.take k).map d8) S ys), .box g5 [.int .i64 e.kids[k].kind, .int .i64 e.kids[k].value, .slice ka e.kids[k].kids.length kc], .own T (fun w => m5 w (.slice a7 (d8 e.kids[k]).kids.length c7) (d8 e.kids[k]).kids T), .box gb [.int .i64 (d8 e.kids[k]).kind, .int .i64 (d8 e.kids[k]).value, .slice a7 (d8 e.kids[k]).kids.length c7]])
 | _ => False : Nat → (Nat → Value) → World → Prop) s g w' → w'.cell? ⟨w.heap.size + 1 + 1, 2, none⟩ = some (.slice a k c) ∧ w'.cell? ⟨g5, 0, none⟩ = some (.int .i64 e.kids[k].kind) ∧ w'.cell? ⟨g5, 1, none⟩ = some (.int .i64 e.kids[k].value) ∧ w'.cell? ⟨g5, 2, none⟩ = some (.slice ka e.kids[k].kids.length kc)) := by
    intro s g w' h
    have key : ∀ (L : List Q5), r8 (fun _ => True) (fun _ => True) w w' L → L[5]? = some (.box g5 [.int .i64 e.kids[k].kind, .int .i64 e.kids[k].value, .slice ka e.kids[k].kids.length kc]) → L[2]? = some (.box (w.heap.size + 1 + 1) [.int .i64 e.kind, .int .i64 e.value, .slice a k c]) → w'.cell? ⟨w.heap.size + 1 + 1, 2, none⟩ = some (.slice a k c) ∧ w'.cell? ⟨g5, 0, none⟩ = some (.int .i64 e.kids[k].kind) ∧ w'.cell? ⟨g5, 1, none⟩ = some (.int .i64 e.kids[k].value) ∧ w'.cell? ⟨g5, 2, none⟩ = some (.slice ka e.kids[k].kids.length kc) := fun L M h0 h2 =>
     ⟨M.c 2 2 h2 rfl, M.c 5 0 h0 rfl, M.c 5 1 h0 rfl, M.c 5 2 h0 rfl⟩
    match s, h with
    | 0, h => exact key _ h rfl rfl
    | 1, ⟨_, _, _, _, h⟩ => exact key _ h rfl rfl
    | 2, ⟨_, _, _, _, _, h⟩ => exact key _ h rfl rfl
    | 3, ⟨_, _, _, _, _, _, _, h⟩ => exact key _ h rfl rfl
   refine ac4 7 [3, 4, 5] (fun i => [.pointer (some ⟨w.heap.size + 1 + 1, 2, none⟩), .slice a k c, .agg #[.int .i64 e.kids[k].kind, .int .i64 e.kids[k].value, .slice ka e.kids[k].kids.length kc], undef, undef, undef, .pointer (some ⟨w.heap.size + 1 + 1, 2, none⟩)].getD i undef) (fun (s : Nat) (g : Nat → Value) (w' : World) => match s with
    | 0 => r8 (fun _ => True) (fun _ => True) w w' ([.box w.heap.size [.int .i64 e.kind, .int .i64 e.value, .slice (some ⟨b, off, none⟩) m ck], .box (w.heap.size + 1) [.int .i64 0, .int .i64 0, .slice none 0 0], .box (w.heap.size + 1 + 1) [.int .i64 e.kind, .int .i64 e.value, .slice a k c], .row 104 3 (.slice a k c) k ys, .own S (fun w => l8 w ((e.kids.take k).map d8) S ys), .box g5 [.int .i64 e.kids[k].kind, .int .i64 e.kids[k].value, .slice ka e.kids[k].kids.length kc]])
    | 1 => ∃ a7 c7 T, g 0 = .agg #[.int .i64 (d8 e.kids[k]).kind, .int .i64 (d8 e.kids[k]).value, .slice a7 (d8 e.kids[k]).kids.length c7] ∧ r8 (fun _ => True) (fun _ => True) w w' ([.box w.heap.size [.int .i64 e.kind, .int .i64 e.value, .slice (some ⟨b, off, none⟩) m ck], .box (w.heap.size + 1) [.int .i64 0, .int .i64 0, .slice none 0 0], .box (w.heap.size + 1 + 1) [.int .i64 e.kind, .int .i64 e.value, .slice a k c], .row 104 3 (.slice a k c) k ys, .own S (fun w => l8 w ((e.kids.take k).map d8) S ys), .box g5 [.int .i64 e.kids[k].kind, .int .i64 e.kids[k].value, .slice ka e.kids[k].kids.length kc], .own T (fun w => m5 w (.slice a7 (d8 e.kids[k]).kids.length c7) (d8 e.kids[k]).kids T)])
    | 2 => ∃ a7 c7 T gb, g 1 = .slice (some ⟨gb, 0, none⟩) 1 1 ∧ r8 (fun _ => True) (fun _ => True) w w' ([.box w.heap.size [.int .i64 e.kind, .int .i64 e.value, .slice (some ⟨b, off, none⟩) m ck], .box (w.heap.size + 1) [.int .i64 0, .int .i64 0, .slice none 0 0], .box (w.heap.size + 1 + 1) [.int .i64 e.kind, .int .i64 e.value, .slice a k c], .row 104 3 (.slice a k c) k ys, .own S (fun w => l8 w ((e.kids.take k).map d8) S ys), .box g5 [.int .i64 e.kids[k].kind, .int .i64 e.kids[k].value, .slice ka e.kids[k].kids.length kc], .own T (fun w => m5 w (.slice a7 (d8 e.kids[k]).kids.length c7) (d8 e.kids[k]).kids T), .box gb [.int .i64 (d8 e.kids[k]).kind, .int .i64 (d8 e.kids[k]).value, .slice a7 (d8 e.kids[k]).kids.length c7]])
    | 3 => ∃ a7 c7 T gb a9 c9, g 2 = .slice a9 (k + 1) c9 ∧ r8 (fun _ => True) (fun _ => True) w w' ([.box w.heap.size [.int .i64 e.kind, .int .i64 e.value, .slice (some ⟨b, off, none⟩) m ck], .box (w.heap.size + 1) [.int .i64 0, .int .i64 0, .slice none 0 0], .box (w.heap.size + 1 + 1) [.int .i64 e.kind, .int .i64 e.value, .slice a k c], .row 104 3 (.slice a9 (k + 1) c9) (k + 1) (ys ++ [.int .i64 (d8 e.kids[k]).kind, .int .i64 (d8 e.kids[k]).value, .slice a7 (d8 e.kids[k]).kids.length c7]), .own S (fun w => l8 w ((e.kids.take k).map d8) S ys), .box g5 [.int .i64 e.kids[k].kind, .int .i64 e.kids[k].value, .slice ka e.kids[k].kids.length kc], .own T (fun w => m5 w (.slice a7 (d8 e.kids[k]).kids.length c7) (d8 e.kids[k]).kids T), .box gb [.int .i64 (d8 e.kids[k]).kind, .int .i64 (d8 e.kids[k]).value, .slice a7 (d8 e.kids[k]).kids.length c7]])
    | _ => False) (by kernel_rfl) (by kernel_rfl) (by kernel_rfl) (by kernel_rfl) (by decide) (by decide) ?_ ?_ ?_ ?_ ?_
   ·intro s g g' w' hg h
    match s, h with
    | 0, h => exact h
    | 1, ⟨a7, c7, T, h1, h2⟩ => exact ⟨a7, c7, T, (hg 0 (by omega)).symm.trans h1, h2⟩
    | 2, ⟨a7, c7, T, gb, h1, h2⟩ => exact ⟨a7, c7, T, gb, (hg 1 (by omega)).symm.trans h1, h2⟩
    | 3, ⟨a7, c7, T, gb, a9, c9, h1, h2⟩ => exact ⟨a7, c7, T, gb, a9, c9, (hg 2 (by omega)).symm.trans h1, h2⟩
   ·intro g
    exact HM.out.drew
   ·intro i o hi hn ho s f w' hst hdep Q' hQ
    have HQ := show Hid _ from hQ
    clear hQ
    have hc : i = 0 ∨ i = 1 ∨ i = 2 ∨ i = 6 := by simp at hn; omega
    clear hn
    rcases hc with rfl | rfl | rfl | rfl
    all_goals
     simp only [bT0, bT7, Option.some.injEq] at ho
     subst ho
    ·clear hdep hst
     simp only [n4]
     go_wp2_with fail
     exact t8 HQ.out (by kernel_rfl)
    ·have e0 : f 0 = .pointer (some ⟨w.heap.size + 1 + 1, 2, none⟩) := hdep { on := 0, ground := .data } (by simp) (by kernel_rfl) (by simp)
     obtain ⟨x0, x1, x2, x3⟩ := HC.out _ _ _ hst
     clear hdep hst
     obtain ⟨f', rfl⟩ := t2 e0
     clear e0
     simp only [n4, P5, ↓reduceIte, bT1]
     go_wp2_with fail
     exact t8 HQ.out (by kernel_rfl)
    ·obtain ⟨x0, x1, x2, x3⟩ := HC.out _ _ _ hst
     clear hdep hst
     simp only [n4]
     go_wp2_with fail
     exact t8 HQ.out (by kernel_rfl)
    ·clear hdep hst
     simp only [n4]
     go_wp2_with fail
     exact t8 HQ.out (by kernel_rfl)
   ·intro s j o hs ho f w' hst hdep Q' hQ
    have HQ := show Hid _ from hQ
    clear hQ
    match s, hs, hst, HQ with
    | 0, hs, hst, HQ =>
     simp only [bT0, Option.some.injEq] at hs
     subst hs
     simp only [bT0, bT7, Option.some.injEq] at ho
     subst ho
     have M : r8 (fun _ => True) (fun _ => True) w w' ([.box w.heap.size [.int .i64 e.kind, .int .i64 e.value, .slice (some ⟨b, off, none⟩) m ck], .box (w.heap.size + 1) [.int .i64 0, .int .i64 0, .slice none 0 0], .box (w.heap.size + 1 + 1) [.int .i64 e.kind, .int .i64 e.value, .slice a k c], .row 104 3 (.slice a k c) k ys, .own S (fun w => l8 w ((e.kids.take k).map d8) S ys), .box g5 [.int .i64 e.kids[k].kind, .int .i64 e.kids[k].value, .slice ka e.kids[k].kids.length kc]]) := hst
     have HM7 := show Hid _ from M
     have e2 : f 2 = .agg #[.int .i64 e.kids[k].kind, .int .i64 e.kids[k].value, .slice ka e.kids[k].kids.length kc] := hdep { on := 2, ground := .data } (by simp) (by kernel_rfl) (by simp)
     clear hdep hst M
     obtain ⟨f', rfl⟩ := t2 e2
     clear e2
     simp only [n4, P5, ↓reduceIte, bT1]
     go_wp2_with fail
     refine (HE.out w' (HM7.out.below fun _ _ => trivial)).mono ?_
     rintro x w7 ⟨a7, c7, T, rfl, hO, hT, b7⟩
     have HM8 := show Hid _ from HM7.out.callO b7 (S := T) (R := fun w => m5 w (.slice a7 (d8 e.kids[k]).kids.length c7) (d8 e.kids[k]).kids T) (fun _ _ h hs => m5.same h hs) hO hT
     clear hO hT b7
     go_wp2_with fail
     exact t8 (HQ.out (.agg #[.int .i64 (d8 e.kids[k]).kind, .int .i64 (d8 e.kids[k]).value, .slice a7 (d8 e.kids[k]).kids.length c7]) _ ⟨a7, c7, T, rfl, HM8.out⟩) (by kernel_rfl)
    | 1, hs, hst, HQ =>
     simp only [bT0, bT7, Option.some.injEq] at hs
     subst hs
     simp only [bT0, bT7, Option.some.injEq] at ho
     subst ho
     obtain ⟨a7, c7, T, e3, M⟩ := hst
     have e3 : f 3 = .agg #[.int .i64 (d8 e.kids[k]).kind, .int .i64 (d8 e.kids[k]).value, .slice a7 (d8 e.kids[k]).kids.length c7] := e3
     have HM7 := show Hid _ from M.box [.int .i64 (d8 e.kids[k]).kind, .int .i64 (d8 e.kids[k]).value, .slice a7 (d8 e.kids[k]).kids.length c7] 104
     clear hdep M
     obtain ⟨f', rfl⟩ := t2 e3
     clear e3
     simp only [n4, P5, ↓reduceIte, bT1]
     go_wp2_with fail
     exact t8 (HQ.out (.slice (some ⟨w'.heap.size, 0, none⟩) 1 1) _ ⟨a7, c7, T, w'.heap.size, rfl, HM7.out⟩) (by kernel_rfl)
    | 2, hs, hst, HQ =>
     simp only [bT0, bT7, Option.some.injEq] at hs
     subst hs
     simp only [bT0, bT7, Option.some.injEq] at ho
     subst ho
     obtain ⟨a7, c7, T, gb, e4, M⟩ := hst
     have e4 : f 4 = .slice (some ⟨gb, 0, none⟩) 1 1 := e4
     have e1 : f 1 = .slice a k c := hdep { on := 1, ground := .data } (by simp) (by kernel_rfl) (by simp)
     clear hdep
     refine ak3 rfl _ _ rfl Tryz.underlying102 bB9 rfl (by omega) (Eq.trans (by kernel_rfl) e1) (M.r 3 rfl) (Eq.trans (by kernel_rfl) e4) (bd5 (M.blk 7 rfl)) (fun u hu => by simp at hu; rcases hu with rfl | rfl | rfl <;> rfl) (by omega) (by omega) (bU3 _) ?_
     intro a9 c9 w9 o9 _ g9 n9
     exact wpList_nil (HQ.out _ _ ⟨a7, c7, T, gb, a9, c9, rfl, M.app 3 rfl o9 g9 n9⟩)
    | s + 3, hs, _, _ => simp at hs
   ·intro o ho f w' hst hall
    simp only [bT0, bT7, Option.some.injEq] at ho
    subst ho
    obtain ⟨a7, c7, T, gb, a9, c9, e5, M⟩ := hst
    have e5 : f 5 = .slice a9 (k + 1) c9 := e5
    have e6 : f 6 = .pointer (some ⟨w.heap.size + 1 + 1, 2, none⟩) := hall 6 (by omega) (by simp)
    have x0 := M.c 2 2 rfl rfl
    have f0 := M.f 2 rfl
    have M9 : r8 (fun _ => True) (fun _ => True) w _ ([.box w.heap.size [.int .i64 e.kind, .int .i64 e.value, .slice (some ⟨b, off, none⟩) m ck], .box (w.heap.size + 1) [.int .i64 0, .int .i64 0, .slice none 0 0], .box (w.heap.size + 1 + 1) [.int .i64 e.kind, .int .i64 e.value, .slice a9 (k + 1) c9], .row 104 3 (.slice a9 (k + 1) c9) (k + 1) (ys ++ [.int .i64 (d8 e.kids[k]).kind, .int .i64 (d8 e.kids[k]).value, .slice a7 (d8 e.kids[k]).kids.length c7])] ++ [.own S (fun w => l8 w ((e.kids.take k).map d8) S ys), .own T (fun w => m5 w (.slice a7 (d8 e.kids[k]).kids.length c7) (d8 e.kids[k]).kids T)]) := (M.set 2 rfl 2 (.slice a9 (k + 1) c9)).sel [0, 1, 2, 3, 4, 6] _ rfl (by decide)
    have HM9 := show Hid _ from r8.joinE (e := d8 e.kids[k]) M9
    clear M9
    clear hall M HM HC
    obtain ⟨f', rfl⟩ := t2 e5
    clear e5
    simp only [P5, ↓reduceIte, bT1] at e6
    obtain ⟨f'', rfl⟩ := t2 e6
    clear e6
    simp only [n4, P5, ↓reduceIte, bT1]
    go_wp2_with fail
    refine ⟨⟨k + 1, a9, c9, _, _, by omega, by go_num, by rw [s5 _ _ hlt, List.map_append]; exact HM9.out⟩, by simp [intOf]; omega⟩
  ·have hkn : k = m := by omega
   subst hkn
   rw [bS6 (by have := HMM.out; omega)] at M
   obtain ⟨ks', hks'⟩ : ∃ ks', ks' = e.kids.map d8 := ⟨_, rfl⟩
   have HND := show Hid (d8 e = o3 ⟨e.kind, e.value, ks'⟩) from by rw [hks']; exact aa2 e
   have HG2 := show Hid (E1 ⟨e.kind, e.value, ks'⟩ = true) from by rw [hks']; exact aW5 hgood
   have hkl : k = ks'.length := by rw [hks', List.length_map]; exact HMM.out
   rw [← hks'] at M
   clear hks' HMM HC0 HGK
   have M3 : r8 (fun _ => True) (fun _ => True) w wr ([.box w.heap.size [.int .i64 e.kind, .int .i64 e.value, .slice ak k ck], .box (w.heap.size + 1) [.int .i64 0, .int .i64 0, .slice none 0 0], .box (w.heap.size + 1 + 1) [.int .i64 e.kind, .int .i64 e.value, .slice a k c]] ++ [.row 104 3 (.slice a k c) k ys, .own S (fun w => l8 w ks' S ys)]) := M
   have M4 := r8.joinK M3 hkl
   obtain ⟨S', hS'⟩ : ∃ S' : Nat → Prop, S' = fun b => (Value.slice a k c).ownBlock = some b ∨ S b := ⟨_, rfl⟩
   rw [← hS'] at M4
   clear M M3 hS'
   have M : r8 (fun _ => True) (fun _ => True) w wr [.box w.heap.size [.int .i64 e.kind, .int .i64 e.value, .slice ak k ck], .box (w.heap.size + 1) [.int .i64 0, .int .i64 0, .slice none 0 0], .box (w.heap.size + 1 + 1) [.int .i64 e.kind, .int .i64 e.value, .slice a k c], .own S' (fun w => m5 w (.slice a k c) ks' S')] := M4
   clear M4
   have hkind : (e.kind = 11 ∧ ks'.length = 3) ∨ (4 ≤ e.kind ∧ e.kind ≤ 10 ∧ ks'.length = 2) ∨ (e.kind < 4 ∧ 1 ≤ e.kind ∧ ks'.length ≤ 1) := aE2 HG2.out
   rcases hkind with ⟨h1, h2⟩ | ⟨h1, h2, h3⟩ | ⟨h1, h2, h3⟩
   ·obtain ⟨p, q, r, rfl⟩ : ∃ p q r, ks' = [p, q, r] := by
     match ks', h2 with
     | [p, q, r], _ => exact ⟨p, q, r, rfl⟩
    clear h2
    have hkl2 : k = 3 := hkl
    clear hkl
    subst hkl2
    obtain ⟨g, off, cap, av, ac, bv, bc, cv, cc, hv, hg, hs, hcell, k0, k1, k2⟩ := (show m5 _ _ [p, q, r] S' from M.o 3 rfl).three
    have e1 : a = some ⟨g, off, none⟩ := by cases hv; rfl
    have e2 : cap = c := by cases hv; rfl
    subst e1 e2
    clear hv
    replace M := M.turn 3 rfl (C6.refl _ _) (R' := fun w => at8 w S' g off cap av ac bv bc cv cc p q r) (fun _ _ h hs => at8.same h hs) ⟨hs, hcell, k0, k1, k2, M.o 3 rfl⟩
    replace M : r8 (fun _ => True) (fun _ => True) w wr [.box w.heap.size [.int .i64 e.kind, .int .i64 e.value, .slice ak 3 ck], .box (w.heap.size + 1) [.int .i64 0, .int .i64 0, .slice none 0 0], .box (w.heap.size + 1 + 1) [.int .i64 e.kind, .int .i64 e.value, .slice (some ⟨g, off, none⟩) 3 cap], .own S' (fun w => at8 w S' g off cap av ac bv bc cv cc p q r)] := M
    clear hcell k0 k1 k2 hs
    have pk : (e.kind == 11) = true := by simp [h1]
    have HN0 := show Hid (o3 ⟨e.kind, e.value, [p, q, r]⟩ = (if p.kind = 1 ∧ B5 q = true ∧ B5 r = true then (if p.value ≠ 0 then q else r) else ⟨e.kind, e.value, [p, q, r]⟩)) from aC8 _ _ _ _ _
    clear h1
    by_cases qa : p.kind = 1
    case neg =>
     have pa : (p.kind != 1) = true := by simp [qa]
     have HN : Hid (o3 ⟨e.kind, e.value, [p, q, r]⟩ = ⟨e.kind, e.value, [p, q, r]⟩) := by rw [Hid, HN0.out, if_neg (fun h => qa h.1)]
     clear qa HN0
     have y0 := M.c 0 0 rfl rfl
     have d0 := M.c 1 0 rfl rfl
     have d1 := M.c 1 1 rfl rfl
     have d2 := M.c 1 2 rfl rfl
     have ff := M.f 1 rfl
     have o0 := M.c 2 0 rfl rfl
     have o1 := M.c 2 1 rfl rfl
     have o2 := M.c 2 2 rfl rfl
     obtain ⟨-, ⟨c0, c1, c2, c3, c4, c5, c6, c7, c8⟩, -⟩ := M.o 3 rfl
     have HM := show Hid _ from ((M.set 1 rfl 0 (.int .i64 e.kind)).set 1 rfl 1 (.int .i64 e.value)).set 1 rfl 2 (.slice (some ⟨g, off, none⟩) 3 cap)
     clear M
     go_wp2_with fail
     have M2 := HM.out
     have r0 : World.cell? _ ⟨w.heap.size + 1, 0, none⟩ = some (.int .i64 e.kind) := M2.c 1 0 rfl rfl
     have r1 : World.cell? _ ⟨w.heap.size + 1, 1, none⟩ = some (.int .i64 e.value) := M2.c 1 1 rfl rfl
     have r2 : World.cell? _ ⟨w.heap.size + 1, 2, none⟩ = some (.slice (some ⟨g, off, none⟩) 3 cap) := M2.c 1 2 rfl rfl
     refine bodyPost_ret (v := .agg #[.int .i64 e.kind, .int .i64 e.value, .slice (some ⟨g, off, none⟩) 3 cap]) (by simp [results, Tryz.results127, go_sem, r0, r1, r2]) rfl ?_
     show L9 w e _ _
     unfold L9
     rw [HND.out, HN.out]
     exact ⟨_, _, S', rfl, (M2.o 3 rfl).2.2.2.2.2, fun b hb => ⟨(M2.ge _ b (bR3 (i := 3) rfl) hb).elim (fun h => h) fun h => absurd bR2 h, M2.lt (bR3 (i := 3) rfl) hb⟩, M2.below fun _ _ => trivial⟩
    have pa : (p.kind != 1) = false := by simp [qa]
    have HQA := show Hid _ from qa
    clear qa
    have y0 := M.c 0 0 rfl rfl
    have d0 := M.c 1 0 rfl rfl
    have d1 := M.c 1 1 rfl rfl
    have d2 := M.c 1 2 rfl rfl
    have ff := M.f 1 rfl
    have o0 := M.c 2 0 rfl rfl
    have o1 := M.c 2 1 rfl rfl
    have o2 := M.c 2 2 rfl rfl
    obtain ⟨-, ⟨c0, c1, c2, c3, c4, c5, c6, c7, c8⟩, -⟩ := M.o 3 rfl
    have HM := show Hid _ from M
    clear M
    go_wp2_with fail
    have M := HM.out
    clear HM y0 d0 d1 d2 ff o0 o1 o2 c0 c1 c2 c3 c4 c5 c6 c7 c8
    refine (aE1 q S' _ _ ⟨_, rfl, m5.read (M.o 3 rfl).2.2.2.1 fun _ h => h⟩).mono ?_
    rintro x w1 ⟨rfl, b1⟩
    replace M := M.call b1
    clear b1
    cases hb : B5 q
    ·have HN : Hid (o3 ⟨e.kind, e.value, [p, q, r]⟩ = ⟨e.kind, e.value, [p, q, r]⟩) := by rw [Hid, HN0.out, if_neg (fun h => by rw [hb] at h; exact absurd h.2.1 (by simp))]
     clear hb HN0
     have y0 := M.c 0 0 rfl rfl
     have d0 := M.c 1 0 rfl rfl
     have d1 := M.c 1 1 rfl rfl
     have d2 := M.c 1 2 rfl rfl
     have ff := M.f 1 rfl
     have o0 := M.c 2 0 rfl rfl
     have o1 := M.c 2 1 rfl rfl
     have o2 := M.c 2 2 rfl rfl
     obtain ⟨-, ⟨c0, c1, c2, c3, c4, c5, c6, c7, c8⟩, -⟩ := M.o 3 rfl
     have HM := show Hid _ from ((M.set 1 rfl 0 (.int .i64 e.kind)).set 1 rfl 1 (.int .i64 e.value)).set 1 rfl 2 (.slice (some ⟨g, off, none⟩) 3 cap)
     clear M
     go_wp2_with fail
     have M2 := HM.out
     have r0 : World.cell? _ ⟨w.heap.size + 1, 0, none⟩ = some (.int .i64 e.kind) := M2.c 1 0 rfl rfl
     have r1 : World.cell? _ ⟨w.heap.size + 1, 1, none⟩ = some (.int .i64 e.value) := M2.c 1 1 rfl rfl
     have r2 : World.cell? _ ⟨w.heap.size + 1, 2, none⟩ = some (.slice (some ⟨g, off, none⟩) 3 cap) := M2.c 1 2 rfl rfl
     refine bodyPost_ret (v := .agg #[.int .i64 e.kind, .int .i64 e.value, .slice (some ⟨g, off, none⟩) 3 cap]) (by simp [results, Tryz.results127, go_sem, r0, r1, r2]) rfl ?_
     show L9 w e _ _
     unfold L9
     rw [HND.out, HN.out]
     exact ⟨_, _, S', rfl, (M2.o 3 rfl).2.2.2.2.2, fun b hb => ⟨(M2.ge _ b (bR3 (i := 3) rfl) hb).elim (fun h => h) fun h => absurd bR2 h, M2.lt (bR3 (i := 3) rfl) hb⟩, M2.below fun _ _ => trivial⟩
    ·have y0 := M.c 0 0 rfl rfl
     have d0 := M.c 1 0 rfl rfl
     have d1 := M.c 1 1 rfl rfl
     have d2 := M.c 1 2 rfl rfl
     have ff := M.f 1 rfl
     have o0 := M.c 2 0 rfl rfl
     have o1 := M.c 2 1 rfl rfl
     have o2 := M.c 2 2 rfl rfl
     obtain ⟨-, ⟨c0, c1, c2, c3, c4, c5, c6, c7, c8⟩, -⟩ := M.o 3 rfl
     have HM := show Hid _ from M
     clear M
     go_wp2_with fail
     have M := HM.out
     clear HM y0 d0 d1 d2 ff o0 o1 o2 c0 c1 c2 c3 c4 c5 c6 c7 c8
     refine (aE1 r S' _ _ ⟨_, rfl, m5.read (M.o 3 rfl).2.2.2.2.1 fun _ h => h⟩).mono ?_
     rintro x w1 ⟨rfl, b1⟩
     replace M := M.call b1
     clear b1
     cases hc : B5 r
     ·have HN : Hid (o3 ⟨e.kind, e.value, [p, q, r]⟩ = ⟨e.kind, e.value, [p, q, r]⟩) := by rw [Hid, HN0.out, if_neg (fun h => by rw [hc] at h; exact absurd h.2.2 (by simp))]
      clear hb hc HN0
      have y0 := M.c 0 0 rfl rfl
      have d0 := M.c 1 0 rfl rfl
      have d1 := M.c 1 1 rfl rfl
      have d2 := M.c 1 2 rfl rfl
      have ff := M.f 1 rfl
      have o0 := M.c 2 0 rfl rfl
      have o1 := M.c 2 1 rfl rfl
      have o2 := M.c 2 2 rfl rfl
      obtain ⟨-, ⟨c0, c1, c2, c3, c4, c5, c6, c7, c8⟩, -⟩ := M.o 3 rfl
      have HM := show Hid _ from ((M.set 1 rfl 0 (.int .i64 e.kind)).set 1 rfl 1 (.int .i64 e.value)).set 1 rfl 2 (.slice (some ⟨g, off, none⟩) 3 cap)
      clear M
      go_wp2_with fail
      have M2 := HM.out
      have r0 : World.cell? _ ⟨w.heap.size + 1, 0, none⟩ = some (.int .i64 e.kind) := M2.c 1 0 rfl rfl
      have r1 : World.cell? _ ⟨w.heap.size + 1, 1, none⟩ = some (.int .i64 e.value) := M2.c 1 1 rfl rfl
      have r2 : World.cell? _ ⟨w.heap.size + 1, 2, none⟩ = some (.slice (some ⟨g, off, none⟩) 3 cap) := M2.c 1 2 rfl rfl
      refine bodyPost_ret (v := .agg #[.int .i64 e.kind, .int .i64 e.value, .slice (some ⟨g, off, none⟩) 3 cap]) (by simp [results, Tryz.results127, go_sem, r0, r1, r2]) rfl ?_
      show L9 w e _ _
      unfold L9
      rw [HND.out, HN.out]
      exact ⟨_, _, S', rfl, (M2.o 3 rfl).2.2.2.2.2, fun b hb => ⟨(M2.ge _ b (bR3 (i := 3) rfl) hb).elim (fun h => h) fun h => absurd bR2 h, M2.lt (bR3 (i := 3) rfl) hb⟩, M2.below fun _ _ => trivial⟩
     ·by_cases qv : p.value = 0
      ·have pv : (p.value != 0) = false := by simp [qv]
       have HN : Hid (o3 ⟨e.kind, e.value, [p, q, r]⟩ = r) := by rw [Hid, HN0.out, if_pos ⟨HQA.out, hb, hc⟩, if_neg (by simp [qv])]
       clear qv hb hc HN0
       have y0 := M.c 0 0 rfl rfl
       have d0 := M.c 1 0 rfl rfl
       have d1 := M.c 1 1 rfl rfl
       have d2 := M.c 1 2 rfl rfl
       have ff := M.f 1 rfl
       have o0 := M.c 2 0 rfl rfl
       have o1 := M.c 2 1 rfl rfl
       have o2 := M.c 2 2 rfl rfl
       obtain ⟨-, ⟨c0, c1, c2, c3, c4, c5, c6, c7, c8⟩, -⟩ := M.o 3 rfl
       have HM := show Hid _ from ((M.set 1 rfl 0 (.int .i64 r.kind)).set 1 rfl 1 (.int .i64 r.value)).set 1 rfl 2 (.slice cv r.kids.length cc)
       clear M
       go_wp2_with fail
       have M2 := HM.out
       have r0 : World.cell? _ ⟨w.heap.size + 1, 0, none⟩ = some (.int .i64 r.kind) := M2.c 1 0 rfl rfl
       have r1 : World.cell? _ ⟨w.heap.size + 1, 1, none⟩ = some (.int .i64 r.value) := M2.c 1 1 rfl rfl
       have r2 : World.cell? _ ⟨w.heap.size + 1, 2, none⟩ = some (.slice cv r.kids.length cc) := M2.c 1 2 rfl rfl
       refine bodyPost_ret (v := .agg #[.int .i64 r.kind, .int .i64 r.value, .slice cv r.kids.length cc]) (by simp [results, Tryz.results127, go_sem, r0, r1, r2]) rfl ?_
       show L9 w e _ _
       unfold L9
       rw [HND.out, HN.out]
       exact ⟨_, _, S', rfl, (M2.o 3 rfl).2.2.2.2.1, fun b hb => ⟨(M2.ge _ b (bR3 (i := 3) rfl) hb).elim (fun h => h) fun h => absurd bR2 h, M2.lt (bR3 (i := 3) rfl) hb⟩, M2.below fun _ _ => trivial⟩
      ·have pv : (p.value != 0) = true := by simp [qv]
       have HN : Hid (o3 ⟨e.kind, e.value, [p, q, r]⟩ = q) := by rw [Hid, HN0.out, if_pos ⟨HQA.out, hb, hc⟩, if_pos qv]
       clear qv hb hc HN0
       have y0 := M.c 0 0 rfl rfl
       have d0 := M.c 1 0 rfl rfl
       have d1 := M.c 1 1 rfl rfl
       have d2 := M.c 1 2 rfl rfl
       have ff := M.f 1 rfl
       have o0 := M.c 2 0 rfl rfl
       have o1 := M.c 2 1 rfl rfl
       have o2 := M.c 2 2 rfl rfl
       obtain ⟨-, ⟨c0, c1, c2, c3, c4, c5, c6, c7, c8⟩, -⟩ := M.o 3 rfl
       have HM := show Hid _ from ((M.set 1 rfl 0 (.int .i64 q.kind)).set 1 rfl 1 (.int .i64 q.value)).set 1 rfl 2 (.slice bv q.kids.length bc)
       clear M
       go_wp2_with fail
       have M2 := HM.out
       have r0 : World.cell? _ ⟨w.heap.size + 1, 0, none⟩ = some (.int .i64 q.kind) := M2.c 1 0 rfl rfl
       have r1 : World.cell? _ ⟨w.heap.size + 1, 1, none⟩ = some (.int .i64 q.value) := M2.c 1 1 rfl rfl
       have r2 : World.cell? _ ⟨w.heap.size + 1, 2, none⟩ = some (.slice bv q.kids.length bc) := M2.c 1 2 rfl rfl
       refine bodyPost_ret (v := .agg #[.int .i64 q.kind, .int .i64 q.value, .slice bv q.kids.length bc]) (by simp [results, Tryz.results127, go_sem, r0, r1, r2]) rfl ?_
       show L9 w e _ _
       unfold L9
       rw [HND.out, HN.out]
       exact ⟨_, _, S', rfl, (M2.o 3 rfl).2.2.2.1, fun b hb => ⟨(M2.ge _ b (bR3 (i := 3) rfl) hb).elim (fun h => h) fun h => absurd bR2 h, M2.lt (bR3 (i := 3) rfl) hb⟩, M2.below fun _ _ => trivial⟩
   ·obtain ⟨p, q, rfl⟩ : ∃ p q, ks' = [p, q] := by
     match ks', h3 with
     | [p, q], _ => exact ⟨p, q, rfl⟩
    clear h3
    have hkl2 : k = 2 := hkl
    clear hkl
    subst hkl2
    have HPV : Hid (p.kind = 1 → 0 ≤ p.value ∧ p.value ≤ 255) := U3 ((C0 _).1 (J4 HG2.out) p (by simp [b9.kids]))
    have HQV : Hid (q.kind = 1 → 0 ≤ q.value ∧ q.value ≤ 255) := U3 ((C0 _).1 (J4 HG2.out) q (by simp [b9.kids]))
    obtain ⟨g, off, cap, av, ac, bv, bc, hv, hg, hs, hcell, k0, k1⟩ := (show m5 _ _ [p, q] S' from M.o 3 rfl).two
    have e1 : a = some ⟨g, off, none⟩ := by cases hv; rfl
    have e2 : cap = c := by cases hv; rfl
    subst e1 e2
    clear hv
    replace M := M.turn 3 rfl (C6.refl _ _) (R' := fun w => Y8 w S' g off cap av ac bv bc p q) (fun _ _ h hs => Y8.same h hs) ⟨hs, hcell.1, hcell.2.1, hcell.2.2.1, hcell.2.2.2.1, hcell.2.2.2.2.1, hcell.2.2.2.2.2, k0, k1, M.o 3 rfl⟩
    replace M : r8 (fun _ => True) (fun _ => True) w wr [.box w.heap.size [.int .i64 e.kind, .int .i64 e.value, .slice ak 2 ck], .box (w.heap.size + 1) [.int .i64 0, .int .i64 0, .slice none 0 0], .box (w.heap.size + 1 + 1) [.int .i64 e.kind, .int .i64 e.value, .slice (some ⟨g, off, none⟩) 2 cap], .own S' (fun w => Y8 w S' g off cap av ac bv bc p q)] := M
    clear hcell k0 k1 hs
    have pk : (e.kind == 11) = false := by simp; omega
    have pw : (decide (4 ≤ e.kind) && decide (e.kind ≤ 10)) = true := by simp; omega
    have HN0 := show Hid (o3 ⟨e.kind, e.value, [p, q]⟩ = _) from G4 _ _ _ _
    clear h1 h2
    have y0 := M.c 0 0 rfl rfl
    have d0 := M.c 1 0 rfl rfl
    have d1 := M.c 1 1 rfl rfl
    have d2 := M.c 1 2 rfl rfl
    have ff := M.f 1 rfl
    have o0 := M.c 2 0 rfl rfl
    have o1 := M.c 2 1 rfl rfl
    have o2 := M.c 2 2 rfl rfl
    obtain ⟨-, c0, c1, c2, c3, c4, c5, -, -, -⟩ := M.o 3 rfl
    have HM := show Hid _ from M
    clear M
    go_wp2_with fail
    have M := HM.out
    clear HM y0 d0 d1 d2 ff o0 o1 o2 c0 c1 c2 c3 c4 c5
    refine (A7 e.kind 4 10 _).mono ?_
    rintro x w1 ⟨rfl, rfl⟩
    rw [pw]
    clear pw
    have y0 := M.c 0 0 rfl rfl
    have d0 := M.c 1 0 rfl rfl
    have d1 := M.c 1 1 rfl rfl
    have d2 := M.c 1 2 rfl rfl
    have ff := M.f 1 rfl
    have o0 := M.c 2 0 rfl rfl
    have o1 := M.c 2 1 rfl rfl
    have o2 := M.c 2 2 rfl rfl
    obtain ⟨-, c0, c1, c2, c3, c4, c5, -, -, -⟩ := M.o 3 rfl
    have HM := show Hid _ from M
    clear M
    go_wp2_with fail
    have M := HM.out
    clear HM y0 d0 d1 d2 ff o0 o1 o2 c0 c1 c2 c3 c4 c5
    have HC : Hid (∀ (b : Nat → Bool) (gg : Nat → Value) (w' : World), (fun (b : Nat → Bool) (gg : Nat → Value) (w' : World) => Fl3 (b 0) (b 1) (b 2) (r8 (fun _ => True) (fun _ => True) w w' [.box w.heap.size [.int .i64 e.kind, .int .i64 e.value, .slice ak 2 ck], .box (w.heap.size + 1) [.int .i64 0, .int .i64 0, .slice none 0 0], .box (w.heap.size + 1 + 1) [.int .i64 e.kind, .int .i64 e.value, .slice (some ⟨g, off, none⟩) 2 cap], .own S' (fun w => Y8 w S' g off cap av ac bv bc p q)]) (∃ g6, gg 0 = .pointer (some ⟨g6, 0, none⟩) ∧ r8 (fun _ => True) (fun _ => True) w w' [.box w.heap.size [.int .i64 e.kind, .int .i64 e.value, .slice ak 2 ck], .box (w.heap.size + 1) [.int .i64 0, .int .i64 0, .slice none 0 0], .box (w.heap.size + 1 + 1) [.int .i64 e.kind, .int .i64 e.value, .slice (some ⟨g, off, none⟩) 2 cap], .own S' (fun w => Y8 w S' g off cap av ac bv bc p q), .box g6 [.int .i64 0, .int .i64 0, .slice none 0 0]]) (∃ g7, gg 1 = .pointer (some ⟨g7, 0, none⟩) ∧ r8 (fun _ => True) (fun _ => True) w w' [.box w.heap.size [.int .i64 e.kind, .int .i64 e.value, .slice ak 2 ck], .box (w.heap.size + 1) [.int .i64 0, .int .i64 0, .slice none 0 0], .box (w.heap.size + 1 + 1) [.int .i64 e.kind, .int .i64 e.value, .slice (some ⟨g, off, none⟩) 2 cap], .own S' (fun w => Y8 w S' g off cap av ac bv bc p q), .box g7 [.int .i64 0, .int .i64 0, .slice none 0 0]]) (∃ g6 g7, gg 0 = .pointer (some ⟨g6, 0, none⟩) ∧ gg 1 = .pointer (some ⟨g7, 0, none⟩) ∧ r8 (fun _ => True) (fun _ => True) w w' [.box w.heap.size [.int .i64 e.kind, .int .i64 e.value, .slice ak 2 ck], .box (w.heap.size + 1) [.int .i64 0, .int .i64 0, .slice none 0 0], .box (w.heap.size + 1 + 1) [.int .i64 e.kind, .int .i64 e.value, .slice (some ⟨g, off, none⟩) 2 cap], .own S' (fun w => Y8 w S' g off cap av ac bv bc p q), .box g6 [.int .i64 0, .int .i64 0, .slice none 0 0], .box g7 [.int .i64 0, .int .i64 0, .slice none 0 0]]) (∃ g6, gg 0 = .pointer (some ⟨g6, 0, none⟩) ∧ r8 (fun _ => True) (fun _ => True) w w' [.box w.heap.size [.int .i64 e.kind, .int .i64 e.value, .slice ak 2 ck], .box (w.heap.size + 1) [.int .i64 0, .int .i64 0, .slice none 0 0], .box (w.heap.size + 1 + 1) [.int .i64 e.kind, .int .i64 e.value, .slice (some ⟨g, off, none⟩) 2 cap], .own S' (fun w => Y8 w S' g off cap av ac bv bc p q), .box g6 [.int .i64 p.kind, .int .i64 p.value, .slice av p.kids.length ac]]) (∃ g6 g7, gg 0 = .pointer (some ⟨g6, 0, none⟩) ∧ gg 1 = .pointer (some ⟨g7, 0, none⟩) ∧ r8 (fun _ => True) (fun _ => True) w w' [.box w.heap.size [.int .i64 e.kind, .int .i64 e.value, .slice ak 2 ck], .box (w.heap.size + 1) [.int .i64 0, .int .i64 0, .slice none 0 0], .box (w.heap.size + 1 + 1) [.int .i64 e.kind, .int .i64 e.value, .slice (some ⟨g, off, none⟩) 2 cap], .own S' (fun w => Y8 w S' g off cap av ac bv bc p q), .box g6 [.int .i64 p.kind, .int .i64 p.value, .slice av p.kids.length ac], .box g7 [.int .i64 0, .int .i64 0, .slice none 0 0]]) : (Nat → Bool) → (Nat → Value) → World → Prop) b gg w' → w'.cell? ⟨w.heap.size + 1 + 1, 2, none⟩ = some (.slice (some ⟨g, off, none⟩) 2 cap) ∧ w'.cell? ⟨g, off, none⟩ = some (.int .i64 p.kind) ∧ w'.cell? ⟨g, off + 1, none⟩ = some (.int .i64 p.value) ∧ w'.cell? ⟨g, off + 2, none⟩ = some (.slice av p.kids.length ac) ∧ w'.cell? ⟨g, off + 3, none⟩ = some (.int .i64 q.kind) ∧ w'.cell? ⟨g, off + 4, none⟩ = some (.int .i64 q.value) ∧ w'.cell? ⟨g, off + 5, none⟩ = some (.slice bv q.kids.length bc)) := by
     intro b gg w' h
     have key : ∀ (L : List Q5), r8 (fun _ => True) (fun _ => True) w w' L → L[2]? = some (.box (w.heap.size + 1 + 1) [.int .i64 e.kind, .int .i64 e.value, .slice (some ⟨g, off, none⟩) 2 cap]) → L[3]? = some (.own S' (fun w => Y8 w S' g off cap av ac bv bc p q)) → w'.cell? ⟨w.heap.size + 1 + 1, 2, none⟩ = some (.slice (some ⟨g, off, none⟩) 2 cap) ∧ w'.cell? ⟨g, off, none⟩ = some (.int .i64 p.kind) ∧ w'.cell? ⟨g, off + 1, none⟩ = some (.int .i64 p.value) ∧ w'.cell? ⟨g, off + 2, none⟩ = some (.slice av p.kids.length ac) ∧ w'.cell? ⟨g, off + 3, none⟩ = some (.int .i64 q.kind) ∧ w'.cell? ⟨g, off + 4, none⟩ = some (.int .i64 q.value) ∧ w'.cell? ⟨g, off + 5, none⟩ = some (.slice bv q.kids.length bc) := fun L M h2 h3 => by
      obtain ⟨-, c0, c1, c2, c3, c4, c5, -, -, -⟩ := M.o 3 h3
      exact ⟨M.c 2 2 h2 rfl, c0, c1, c2, c3, c4, c5⟩
     cases h0 : b 0 <;> cases h1 : b 1 <;> cases h2 : b 2 <;> simp only [h0, h1, h2, Fl3] at h
     ·exact key _ h rfl rfl
     ·obtain ⟨_, _, h⟩ := h; exact key _ h rfl rfl
     ·obtain ⟨_, _, h⟩ := h; exact key _ h rfl rfl
     ·obtain ⟨_, _, h⟩ := h; exact key _ h rfl rfl
     ·obtain ⟨_, _, _, _, h⟩ := h; exact key _ h rfl rfl
     ·obtain ⟨_, _, _, _, h⟩ := h; exact key _ h rfl rfl
    have HM := show Hid _ from M
    clear M
    refine aw5 11 [8, 9, 10] (fun i => [.pointer (some ⟨w.heap.size + 1 + 1, 2, none⟩), .slice (some ⟨g, off, none⟩) 2 cap, .pointer (some ⟨g, off, none⟩), .agg #[.int .i64 p.kind, .int .i64 p.value, .slice av p.kids.length ac], .pointer (some ⟨w.heap.size + 1 + 1, 2, none⟩), .slice (some ⟨g, off, none⟩) 2 cap, .pointer (some ⟨g, off + 3, none⟩), .agg #[.int .i64 q.kind, .int .i64 q.value, .slice bv q.kids.length bc]].getD i undef) (fun (b : Nat → Bool) (gg : Nat → Value) (w' : World) => Fl3 (b 0) (b 1) (b 2) (r8 (fun _ => True) (fun _ => True) w w' [.box w.heap.size [.int .i64 e.kind, .int .i64 e.value, .slice ak 2 ck], .box (w.heap.size + 1) [.int .i64 0, .int .i64 0, .slice none 0 0], .box (w.heap.size + 1 + 1) [.int .i64 e.kind, .int .i64 e.value, .slice (some ⟨g, off, none⟩) 2 cap], .own S' (fun w => Y8 w S' g off cap av ac bv bc p q)]) (∃ g6, gg 0 = .pointer (some ⟨g6, 0, none⟩) ∧ r8 (fun _ => True) (fun _ => True) w w' [.box w.heap.size [.int .i64 e.kind, .int .i64 e.value, .slice ak 2 ck], .box (w.heap.size + 1) [.int .i64 0, .int .i64 0, .slice none 0 0], .box (w.heap.size + 1 + 1) [.int .i64 e.kind, .int .i64 e.value, .slice (some ⟨g, off, none⟩) 2 cap], .own S' (fun w => Y8 w S' g off cap av ac bv bc p q), .box g6 [.int .i64 0, .int .i64 0, .slice none 0 0]]) (∃ g7, gg 1 = .pointer (some ⟨g7, 0, none⟩) ∧ r8 (fun _ => True) (fun _ => True) w w' [.box w.heap.size [.int .i64 e.kind, .int .i64 e.value, .slice ak 2 ck], .box (w.heap.size + 1) [.int .i64 0, .int .i64 0, .slice none 0 0], .box (w.heap.size + 1 + 1) [.int .i64 e.kind, .int .i64 e.value, .slice (some ⟨g, off, none⟩) 2 cap], .own S' (fun w => Y8 w S' g off cap av ac bv bc p q), .box g7 [.int .i64 0, .int .i64 0, .slice none 0 0]]) (∃ g6 g7, gg 0 = .pointer (some ⟨g6, 0, none⟩) ∧ gg 1 = .pointer (some ⟨g7, 0, none⟩) ∧ r8 (fun _ => True) (fun _ => True) w w' [.box w.heap.size [.int .i64 e.kind, .int .i64 e.value, .slice ak 2 ck], .box (w.heap.size + 1) [.int .i64 0, .int .i64 0, .slice none 0 0], .box (w.heap.size + 1 + 1) [.int .i64 e.kind, .int .i64 e.value, .slice (some ⟨g, off, none⟩) 2 cap], .own S' (fun w => Y8 w S' g off cap av ac bv bc p q), .box g6 [.int .i64 0, .int .i64 0, .slice none 0 0], .box g7 [.int .i64 0, .int .i64 0, .slice none 0 0]]) (∃ g6, gg 0 = .pointer (some ⟨g6, 0, none⟩) ∧ r8 (fun _ => True) (fun _ => True) w w' [.box w.heap.size [.int .i64 e.kind, .int .i64 e.value, .slice ak 2 ck], .box (w.heap.size + 1) [.int .i64 0, .int .i64 0, .slice none 0 0], .box (w.heap.size + 1 + 1) [.int .i64 e.kind, .int .i64 e.value, .slice (some ⟨g, off, none⟩) 2 cap], .own S' (fun w => Y8 w S' g off cap av ac bv bc p q), .box g6 [.int .i64 p.kind, .int .i64 p.value, .slice av p.kids.length ac]]) (∃ g6 g7, gg 0 = .pointer (some ⟨g6, 0, none⟩) ∧ gg 1 = .pointer (some ⟨g7, 0, none⟩) ∧ r8 (fun _ => True) (fun _ => True) w w' [.box w.heap.size [.int .i64 e.kind, .int .i64 e.value, .slice ak 2 ck], .box (w.heap.size + 1) [.int .i64 0, .int .i64 0, .slice none 0 0], .box (w.heap.size + 1 + 1) [.int .i64 e.kind, .int .i64 e.value, .slice (some ⟨g, off, none⟩) 2 cap], .own S' (fun w => Y8 w S' g off cap av ac bv bc p q), .box g6 [.int .i64 p.kind, .int .i64 p.value, .slice av p.kids.length ac], .box g7 [.int .i64 0, .int .i64 0, .slice none 0 0]])) (by kernel_rfl) (by kernel_rfl) (by kernel_rfl) (by decide) (by decide) ?_ ?_ ?_ ?_ ?_
    ·intro b b' gg gg' w' hb hg h
     have e0 := hb 0 (by decide)
     have e1 := hb 1 (by decide)
     have e2 := hb 2 (by decide)
     have i0 := hg 0 (by decide)
     have i1 := hg 1 (by decide)
     clear hb hg HC HM
     show Fl3 (b' 0) (b' 1) (b' 2) _ _ _ _ _ _
     rw [← e0, ← e1, ← e2]
     replace h : Fl3 (b 0) (b 1) (b 2) _ _ _ _ _ _ := h
     cases h0 : b 0 <;> cases h1 : b 1 <;> cases h2 : b 2 <;> simp only [h0, h1, h2, Fl3] at h i0 i1 ⊢
     ·exact h
     ·obtain ⟨g7, k0, M⟩ := h; exact ⟨g7, (i1 bR2).symm.trans k0, M⟩
     ·obtain ⟨g6, k0, M⟩ := h; exact ⟨g6, (i0 bR2).symm.trans k0, M⟩
     ·obtain ⟨g6, k0, M⟩ := h; exact ⟨g6, (i0 bR2).symm.trans k0, M⟩
     ·obtain ⟨g6, g7, k0, k1, M⟩ := h; exact ⟨g6, g7, (i0 bR2).symm.trans k0, (i1 bR2).symm.trans k1, M⟩
     ·obtain ⟨g6, g7, k0, k1, M⟩ := h; exact ⟨g6, g7, (i0 bR2).symm.trans k0, (i1 bR2).symm.trans k1, M⟩
    ·intro gg
     exact HM.out.drew
    ·intro i o hi hn ho b f w' hst hdep Q' hQ
     have HQ := show Hid _ from hQ
     clear hQ
     have hc : i = 0 ∨ i = 1 ∨ i = 2 ∨ i = 3 ∨ i = 4 ∨ i = 5 ∨ i = 6 ∨ i = 7 := by simp at hn; omega
     clear hn
     rcases hc with rfl | rfl | rfl | rfl | rfl | rfl | rfl | rfl
     all_goals
      simp only [bT0, bT7, Option.some.injEq] at ho
      subst ho
     ·clear hdep hst
      simp only [n4]
      go_wp2_with fail
      exact t8 HQ.out (by kernel_rfl)
     ·have e0 : f 0 = .pointer (some ⟨w.heap.size + 1 + 1, 2, none⟩) := hdep { on := 0, ground := .data } (by simp) (by kernel_rfl) (by simp)
      obtain ⟨x0, x1, x2, x3, x4, x5, x6⟩ := HC.out _ _ _ hst
      clear hdep hst
      obtain ⟨f', rfl⟩ := t2 e0
      clear e0
      simp only [n4, P5, ↓reduceIte, bT1]
      go_wp2_with fail
      exact t8 HQ.out (by kernel_rfl)
     ·have e1 : f 1 = .slice (some ⟨g, off, none⟩) 2 cap := hdep { on := 1, ground := .data } (by simp) (by kernel_rfl) (by simp)
      clear hdep hst
      obtain ⟨f', rfl⟩ := t2 e1
      clear e1
      simp only [n4, P5, ↓reduceIte, bT1]
      go_wp2_with fail
      exact t8 HQ.out (by kernel_rfl)
     ·have e2 : f 2 = .pointer (some ⟨g, off, none⟩) := hdep { on := 2, ground := .data } (by simp) (by kernel_rfl) (by simp)
      obtain ⟨x0, x1, x2, x3, x4, x5, x6⟩ := HC.out _ _ _ hst
      clear hdep hst
      obtain ⟨f', rfl⟩ := t2 e2
      clear e2
      simp only [n4, P5, ↓reduceIte, bT1]
      go_wp2_with fail
      exact t8 HQ.out (by kernel_rfl)
     ·clear hdep hst
      simp only [n4]
      go_wp2_with fail
      exact t8 HQ.out (by kernel_rfl)
     ·have e4 : f 4 = .pointer (some ⟨w.heap.size + 1 + 1, 2, none⟩) := hdep { on := 4, ground := .data } (by simp) (by kernel_rfl) (by simp)
      obtain ⟨x0, x1, x2, x3, x4, x5, x6⟩ := HC.out _ _ _ hst
      clear hdep hst
      obtain ⟨f', rfl⟩ := t2 e4
      clear e4
      simp only [n4, P5, ↓reduceIte, bT1]
      go_wp2_with fail
      exact t8 HQ.out (by kernel_rfl)
     ·have e5 : f 5 = .slice (some ⟨g, off, none⟩) 2 cap := hdep { on := 5, ground := .data } (by simp) (by kernel_rfl) (by simp)
      clear hdep hst
      obtain ⟨f', rfl⟩ := t2 e5
      clear e5
      simp only [n4, P5, ↓reduceIte, bT1]
      go_wp2_with fail
      exact t8 HQ.out (by kernel_rfl)
     ·have e6 : f 6 = .pointer (some ⟨g, off + 3, none⟩) := hdep { on := 6, ground := .data } (by simp) (by kernel_rfl) (by simp)
      obtain ⟨x0, x1, x2, x3, x4, x5, x6⟩ := HC.out _ _ _ hst
      clear hdep hst
      obtain ⟨f', rfl⟩ := t2 e6
      clear e6
      simp only [n4, P5, ↓reduceIte, bT1]
      go_wp2_with fail
      exact t8 HQ.out (by kernel_rfl)
    ·intro j i o hj ho b f w' hbj hst hdep hdj Q' hQ
     have HQ := show Hid _ from hQ
     clear hQ
     replace hst : Fl3 (b 0) (b 1) (b 2) _ _ _ _ _ _ := hst
     match j, hj, hbj, HQ with
     | 0, hj, h0, HQ =>
      simp only [bT0, Option.some.injEq] at hj
      subst hj
      simp only [bT0, bT7, Option.some.injEq] at ho
      subst ho
      clear hdep hdj
      cases h1 : b 1 <;> cases h2 : b 2 <;> simp only [h0, h1, h2, Fl3] at hst
      ·have HM1 := show Hid _ from hst.box [.int .i64 0, .int .i64 0, .slice none 0 0] 104
       clear hst
       simp only [n4]
       go_wp2_with fail
       refine t8 (HQ.out (.pointer (some ⟨w'.heap.size, 0, none⟩)) _ ?_) (by kernel_rfl)
       show Fl3 (if 0 = 0 then true else b 0) (if 1 = 0 then true else b 1) (if 2 = 0 then true else b 2) _ _ _ _ _ _
       simp only [h0, h1, h2, bT1, ↓reduceIte]
       exact ⟨_, rfl, HM1.out⟩
      ·obtain ⟨g7, k7, M⟩ := hst
       have K7 := show Hid _ from k7
       have HM1 := show Hid (r8 (fun _ => True) (fun _ => True) w _ [.box w.heap.size [.int .i64 e.kind, .int .i64 e.value, .slice ak 2 ck], .box (w.heap.size + 1) [.int .i64 0, .int .i64 0, .slice none 0 0], .box (w.heap.size + 1 + 1) [.int .i64 e.kind, .int .i64 e.value, .slice (some ⟨g, off, none⟩) 2 cap], .own S' (fun w => Y8 w S' g off cap av ac bv bc p q), .box w'.heap.size [.int .i64 0, .int .i64 0, .slice none 0 0], .box g7 [.int .i64 0, .int .i64 0, .slice none 0 0]]) from (M.box [.int .i64 0, .int .i64 0, .slice none 0 0] 104).sel [0, 1, 2, 3, 5, 4] _ rfl (by decide)
       clear M k7
       simp only [n4]
       go_wp2_with fail
       refine t8 (HQ.out (.pointer (some ⟨w'.heap.size, 0, none⟩)) _ ?_) (by kernel_rfl)
       show Fl3 (if 0 = 0 then true else b 0) (if 1 = 0 then true else b 1) (if 2 = 0 then true else b 2) _ _ _ _ _ _
       simp only [h0, h1, h2, bT1, ↓reduceIte]
       exact ⟨_, _, rfl, K7.out, HM1.out⟩
     | 1, hj, h1, HQ =>
      simp only [bT0, bT7, Option.some.injEq] at hj
      subst hj
      simp only [bT0, bT7, Option.some.injEq] at ho
      subst ho
      clear hdep hdj
      cases h0 : b 0 <;> cases h2 : b 2 <;> simp only [h0, h1, h2, Fl3] at hst
      ·have HM1 := show Hid _ from hst.box [.int .i64 0, .int .i64 0, .slice none 0 0] 104
       clear hst
       simp only [n4]
       go_wp2_with fail
       refine t8 (HQ.out (.pointer (some ⟨w'.heap.size, 0, none⟩)) _ ?_) (by kernel_rfl)
       show Fl3 (if 0 = 1 then true else b 0) (if 1 = 1 then true else b 1) (if 2 = 1 then true else b 2) _ _ _ _ _ _
       simp only [h0, h1, h2, bT1, ↓reduceIte]
       exact ⟨_, rfl, HM1.out⟩
      ·obtain ⟨g6, k6, M⟩ := hst
       have K6 := show Hid _ from k6
       have HM1 := show Hid _ from M.box [.int .i64 0, .int .i64 0, .slice none 0 0] 104
       clear M k6
       simp only [n4]
       go_wp2_with fail
       refine t8 (HQ.out (.pointer (some ⟨w'.heap.size, 0, none⟩)) _ ?_) (by kernel_rfl)
       show Fl3 (if 0 = 1 then true else b 0) (if 1 = 1 then true else b 1) (if 2 = 1 then true else b 2) _ _ _ _ _ _
       simp only [h0, h1, h2, bT1, ↓reduceIte]
       exact ⟨_, _, K6.out, rfl, HM1.out⟩
      ·obtain ⟨g6, k6, M⟩ := hst
       have K6 := show Hid _ from k6
       have HM1 := show Hid _ from M.box [.int .i64 0, .int .i64 0, .slice none 0 0] 104
       clear M k6
       simp only [n4]
       go_wp2_with fail
       refine t8 (HQ.out (.pointer (some ⟨w'.heap.size, 0, none⟩)) _ ?_) (by kernel_rfl)
       show Fl3 (if 0 = 1 then true else b 0) (if 1 = 1 then true else b 1) (if 2 = 1 then true else b 2) _ _ _ _ _ _
       simp only [h0, h1, h2, bT1, ↓reduceIte]
       exact ⟨_, _, K6.out, rfl, HM1.out⟩
     | 2, hj, h2, HQ =>
      simp only [bT0, bT7, Option.some.injEq] at hj
      subst hj
      simp only [bT0, bT7, Option.some.injEq] at ho
      subst ho
      have h0 : b 0 = true := hdj { on := 8, ground := .data } (by simp) (by kernel_rfl) 0 rfl
      have e3 : f 3 = .agg #[.int .i64 p.kind, .int .i64 p.value, .slice av p.kids.length ac] := hdep { on := 3, ground := .data } (by simp) (by kernel_rfl) (by simp)
      clear hdep hdj
      cases h1 : b 1 <;> simp only [h0, h1, h2, Fl3] at hst
      ·obtain ⟨g6, k6, M⟩ := hst
       have e8 : f 8 = .pointer (some ⟨g6, 0, none⟩) := k6
       have K6 := show Hid _ from k6
       have z0 := M.c 4 0 rfl rfl
       have z1 := M.c 4 1 rfl rfl
       have z2 := M.c 4 2 rfl rfl
       have f6 := M.f 4 rfl
       have HM1 := show Hid _ from ((M.set 4 rfl 0 (.int .i64 p.kind)).set 4 rfl 1 (.int .i64 p.value)).set 4 rfl 2 (.slice av p.kids.length ac)
       clear M k6
       obtain ⟨f', rfl⟩ := t2 e3
       clear e3
       simp only [P5, ↓reduceIte, bT1] at e8
       obtain ⟨f'', rfl⟩ := t2 e8
       clear e8
       simp only [n4, P5, ↓reduceIte, bT1]
       go_wp2_with fail
       refine t8 (HQ.out undef _ ?_) (by kernel_rfl)
       show Fl3 (if 0 = 2 then true else b 0) (if 1 = 2 then true else b 1) (if 2 = 2 then true else b 2) _ _ _ _ _ _
       simp only [h0, h1, bT1, ↓reduceIte]
       exact ⟨_, rfl, HM1.out⟩
      ·obtain ⟨g6, g7, k6, k7, M⟩ := hst
       have e8 : f 8 = .pointer (some ⟨g6, 0, none⟩) := k6
       have e9 : f 9 = .pointer (some ⟨g7, 0, none⟩) := k7
       have z0 := M.c 4 0 rfl rfl
       have z1 := M.c 4 1 rfl rfl
       have z2 := M.c 4 2 rfl rfl
       have f6 := M.f 4 rfl
       have HM1 := show Hid _ from ((M.set 4 rfl 0 (.int .i64 p.kind)).set 4 rfl 1 (.int .i64 p.value)).set 4 rfl 2 (.slice av p.kids.length ac)
       clear M k6 k7
       obtain ⟨f', rfl⟩ := t2 e3
       clear e3
       simp only [P5, ↓reduceIte, bT1] at e8 e9
       obtain ⟨f'', rfl⟩ := t2 e8
       clear e8
       simp only [P5, ↓reduceIte, bT1] at e9
       obtain ⟨f3, rfl⟩ := t2 e9
       clear e9
       simp only [n4, P5, ↓reduceIte, bT1]
       go_wp2_with fail
       refine t8 (HQ.out undef _ ?_) (by kernel_rfl)
       show Fl3 (if 0 = 2 then true else b 0) (if 1 = 2 then true else b 1) (if 2 = 2 then true else b 2) _ _ _ _ _ _
       simp only [h0, h1, bT1, ↓reduceIte]
       exact ⟨_, _, rfl, rfl, HM1.out⟩
     | j + 3, hj, _, _ => simp at hj
    ·intro o ho f w' hst hu
     simp only [bT0, bT7, Option.some.injEq] at ho
     subst ho
     obtain ⟨g6, g7, k6, k7, M⟩ := hst
     have e8 : f 8 = .pointer (some ⟨g6, 0, none⟩) := k6
     have e9 : f 9 = .pointer (some ⟨g7, 0, none⟩) := k7
     have e7 : f 7 = .agg #[.int .i64 q.kind, .int .i64 q.value, .slice bv q.kids.length bc] := hu 7 (by omega) (by simp)
     have z0 := M.c 5 0 rfl rfl
     have z1 := M.c 5 1 rfl rfl
     have z2 := M.c 5 2 rfl rfl
     have f6 := M.f 5 rfl
     have HM1 := show Hid _ from ((M.set 5 rfl 0 (.int .i64 q.kind)).set 5 rfl 1 (.int .i64 q.value)).set 5 rfl 2 (.slice bv q.kids.length bc)
     clear M k6 k7 hu HC HM
     obtain ⟨f', rfl⟩ := t2 e8
     clear e8
     simp only [P5, ↓reduceIte, bT1] at e9
     simp only [P5, ↓reduceIte, bT1] at e7
     obtain ⟨f'', rfl⟩ := t2 e9
     clear e9
     simp only [P5, ↓reduceIte, bT1] at e7
     obtain ⟨f''', rfl⟩ := t2 e7
     clear e7
     simp only [n4, P5, ↓reduceIte, bT1]
     apply a09 (fun w'' => r8 (fun _ => True) (fun _ => True) w w'' [.box w.heap.size [.int .i64 e.kind, .int .i64 e.value, .slice ak 2 ck], .box (w.heap.size + 1) [.int .i64 0, .int .i64 0, .slice none 0 0], .box (w.heap.size + 1 + 1) [.int .i64 e.kind, .int .i64 e.value, .slice (some ⟨g, off, none⟩) 2 cap], .own S' (fun w => Y8 w S' g off cap av ac bv bc p q), .box g6 [.int .i64 p.kind, .int .i64 p.value, .slice av p.kids.length ac], .box g7 [.int .i64 q.kind, .int .i64 q.value, .slice bv q.kids.length bc]])
     ·go_wp2_with fail
      first | exact HM1.out | exact ⟨rfl, HM1.out⟩ | exact ⟨rfl, rfl, HM1.out⟩
     clear z0 z1 z2 f6 HM1
     intro w'' M
     by_cases qc : p.kind = 1 ∧ q.kind = 1
     ·have pa : (p.kind == 1) = true := by simp [qc.1]
      have pb : (q.kind == 1) = true := by simp [qc.2]
      have HN : Hid (o3 ⟨e.kind, e.value, [p, q]⟩ = ⟨1, t7 e.kind p.value q.value, []⟩) := by rw [Hid, HN0.out, if_pos qc]; rfl
      have HP := HPV.out qc.1
      have HQV2 := HQV.out qc.2
      clear qc HN0
      have hs : (e.kind == 4) = true ∨ ((e.kind == 4) = false ∧ (e.kind == 8) = true) ∨ ((e.kind == 4) = false ∧ (e.kind == 8) = false) := by
       cases (e.kind == 4) <;> cases (e.kind == 8) <;> simp
      rcases hs with p4 | ⟨p4, p8⟩ | ⟨p4, p8⟩
      all_goals
       have y0 := M.c 0 0 rfl rfl
       have q0 := M.c 4 0 rfl rfl
       have q1 := M.c 4 1 rfl rfl
       have q2 := M.c 4 2 rfl rfl
       have q3 := M.c 5 0 rfl rfl
       have q4 := M.c 5 1 rfl rfl
       have q5 := M.c 5 2 rfl rfl
       have HM := show Hid _ from M
       clear M
       go_wp2_with fail
       have M := HM.out
       clear HM y0 q0 q1 q2 q3 q4 q5
       refine (aP8 e.kind p.value q.value _ HP.1 HP.2 HQV2.1 HQV2.2).mono ?_
       rintro x w1 ⟨rfl, rfl⟩
       have y0 := M.c 0 0 rfl rfl
       have HM := show Hid _ from M
       clear M
       go_wp2_with fail
       have M := HM.out
       clear HM y0
       refine (aW3 _ _).mono ?_
       rintro x w1 ⟨rfl, b1⟩
       replace M := M.call b1
       clear b1
       have y0 := M.c 0 0 rfl rfl
       have d0 := M.c 1 0 rfl rfl
       have d1 := M.c 1 1 rfl rfl
       have d2 := M.c 1 2 rfl rfl
       have ff := M.f 1 rfl
       have HM := show Hid _ from ((M.set 1 rfl 0 (.int .i64 1)).set 1 rfl 1 (.int .i64 (t7 e.kind p.value q.value))).set 1 rfl 2 (.slice none 0 0)
       clear M
       go_wp2_with fail
       have M2 := HM.out
       have r0 : World.cell? _ ⟨w.heap.size + 1, 0, none⟩ = some (.int .i64 1) := M2.c 1 0 rfl rfl
       have r1 : World.cell? _ ⟨w.heap.size + 1, 1, none⟩ = some (.int .i64 (t7 e.kind p.value q.value)) := M2.c 1 1 rfl rfl
       have r2 : World.cell? _ ⟨w.heap.size + 1, 2, none⟩ = some (.slice none 0 0) := M2.c 1 2 rfl rfl
       refine bodyPost_ret (v := .agg #[.int .i64 1, .int .i64 (t7 e.kind p.value q.value), .slice none 0 0]) (by simp [results, Tryz.results127, go_sem, r0, r1, r2]) rfl ?_
       show L9 w e _ _
       unfold L9
       rw [HND.out, HN.out]
       exact ⟨_, _, S', rfl, m5.nil _ _, fun b hb => ⟨(M2.ge _ b (bR3 (i := 3) rfl) hb).elim (fun h => h) fun h => absurd bR2 h, M2.lt (bR3 (i := 3) rfl) hb⟩, M2.below fun _ _ => trivial⟩
     have HCN : Hid (¬ (p.kind = 1 ∧ q.kind = 1)) := qc
     have pab : ((p.kind == 1) = true ∧ (q.kind == 1) = false) ∨ (p.kind == 1) = false := by
      by_cases h : p.kind = 1
      ·exact .inl ⟨by simp [h], by simp; exact fun h' => qc ⟨h, h'⟩⟩
      ·exact .inr (by simp [h])
     clear qc
     rcases pab with ⟨pa, pb⟩ | pa
     ·by_cases hq : e.kind = 4
      ·have p4 : (e.kind == 4) = true := by simp [hq]
       have p8 : (e.kind == 8) = false := by simp [hq]
       have p5 : (e.kind == 5) = false := by simp [hq]
       have p6 : (e.kind == 6) = false := by simp [hq]
       have HQK := show Hid _ from hq
       clear hq
       have y0 := M.c 0 0 rfl rfl
       have q0 := M.c 4 0 rfl rfl
       have q1 := M.c 4 1 rfl rfl
       have q2 := M.c 4 2 rfl rfl
       have q3 := M.c 5 0 rfl rfl
       have q4 := M.c 5 1 rfl rfl
       have q5 := M.c 5 2 rfl rfl
       have HM := show Hid _ from M
       clear M
       go_wp2_with fail
       have M := HM.out
       clear HM y0 q0 q1 q2 q3 q4 q5
       refine (t6 p.kind p.value 0 (.slice av p.kids.length ac) _).mono ?_
       rintro x w1 ⟨rfl, b1⟩
       rw [show (decide (p.kind = 1) && decide (p.value = 0)) = n5 p 0 from rfl]
       replace M := M.call b1
       clear b1
       cases hK : n5 p 0
       ·have y0 := M.c 0 0 rfl rfl
        have q0 := M.c 4 0 rfl rfl
        have q1 := M.c 4 1 rfl rfl
        have q2 := M.c 4 2 rfl rfl
        have q3 := M.c 5 0 rfl rfl
        have q4 := M.c 5 1 rfl rfl
        have q5 := M.c 5 2 rfl rfl
        have HM := show Hid _ from M
        clear M
        go_wp2_with fail
        have M := HM.out
        clear HM y0 q0 q1 q2 q3 q4 q5
        refine (t6 q.kind q.value 0 (.slice bv q.kids.length bc) _).mono ?_
        rintro x w1 ⟨rfl, b1⟩
        rw [show (decide (q.kind = 1) && decide (q.value = 0)) = n5 q 0 from rfl]
        replace M := M.call b1
        clear b1
        cases hK2 : n5 q 0
        ·have HN : Hid (o3 ⟨e.kind, e.value, [p, q]⟩ = ⟨e.kind, e.value, [p, q]⟩) := by have hq := HQK.out; rw [Hid, HN0.out, if_neg HCN.out, if_neg (by simp [hq, hK]), if_neg (by simp [hq, hK2])]
         clear hK2 hK HQK HN0
         have y0 := M.c 0 0 rfl rfl
         have d0 := M.c 1 0 rfl rfl
         have d1 := M.c 1 1 rfl rfl
         have d2 := M.c 1 2 rfl rfl
         have o0 := M.c 2 0 rfl rfl
         have o1 := M.c 2 1 rfl rfl
         have o2 := M.c 2 2 rfl rfl
         have ff := M.f 1 rfl
         have HM := show Hid _ from ((M.set 1 rfl 0 (.int .i64 e.kind)).set 1 rfl 1 (.int .i64 e.value)).set 1 rfl 2 (.slice (some ⟨g, off, none⟩) 2 cap)
         clear M
         go_wp2_with fail
         have M2 := HM.out
         have r0 : World.cell? _ ⟨w.heap.size + 1, 0, none⟩ = some (.int .i64 e.kind) := M2.c 1 0 rfl rfl
         have r1 : World.cell? _ ⟨w.heap.size + 1, 1, none⟩ = some (.int .i64 e.value) := M2.c 1 1 rfl rfl
         have r2 : World.cell? _ ⟨w.heap.size + 1, 2, none⟩ = some (.slice (some ⟨g, off, none⟩) 2 cap) := M2.c 1 2 rfl rfl
         refine bodyPost_ret (v := .agg #[.int .i64 e.kind, .int .i64 e.value, .slice (some ⟨g, off, none⟩) 2 cap]) (by simp [results, Tryz.results127, go_sem, r0, r1, r2]) rfl ?_
         show L9 w e _ _
         unfold L9
         rw [HND.out, HN.out]
         exact ⟨_, _, S', rfl, (M2.o 3 rfl).2.2.2.2.2.2.2.2.2, fun b hb => ⟨(M2.ge _ b (bR3 (i := 3) rfl) hb).elim (fun h => h) fun h => absurd bR2 h, M2.lt (bR3 (i := 3) rfl) hb⟩, M2.below fun _ _ => trivial⟩
        ·have HN : Hid (o3 ⟨e.kind, e.value, [p, q]⟩ = p) := by have hq := HQK.out; rw [Hid, HN0.out, if_neg HCN.out, if_neg (by simp [hq, hK]), if_pos (by simp [hq, hK2])]
         clear hK2 hK HQK HN0
         have y0 := M.c 0 0 rfl rfl
         have d0 := M.c 1 0 rfl rfl
         have d1 := M.c 1 1 rfl rfl
         have d2 := M.c 1 2 rfl rfl
         have q0 := M.c 4 0 rfl rfl
         have q1 := M.c 4 1 rfl rfl
         have q2 := M.c 4 2 rfl rfl
         have ff := M.f 1 rfl
         have HM := show Hid _ from ((M.set 1 rfl 0 (.int .i64 p.kind)).set 1 rfl 1 (.int .i64 p.value)).set 1 rfl 2 (.slice av p.kids.length ac)
         clear M
         go_wp2_with fail
         have M2 := HM.out
         have r0 : World.cell? _ ⟨w.heap.size + 1, 0, none⟩ = some (.int .i64 p.kind) := M2.c 1 0 rfl rfl
         have r1 : World.cell? _ ⟨w.heap.size + 1, 1, none⟩ = some (.int .i64 p.value) := M2.c 1 1 rfl rfl
         have r2 : World.cell? _ ⟨w.heap.size + 1, 2, none⟩ = some (.slice av p.kids.length ac) := M2.c 1 2 rfl rfl
         refine bodyPost_ret (v := .agg #[.int .i64 p.kind, .int .i64 p.value, .slice av p.kids.length ac]) (by simp [results, Tryz.results127, go_sem, r0, r1, r2]) rfl ?_
         show L9 w e _ _
         unfold L9
         rw [HND.out, HN.out]
         exact ⟨_, _, S', rfl, (M2.o 3 rfl).2.2.2.2.2.2.2.1, fun b hb => ⟨(M2.ge _ b (bR3 (i := 3) rfl) hb).elim (fun h => h) fun h => absurd bR2 h, M2.lt (bR3 (i := 3) rfl) hb⟩, M2.below fun _ _ => trivial⟩
       ·have HN : Hid (o3 ⟨e.kind, e.value, [p, q]⟩ = q) := by have hq := HQK.out; rw [Hid, HN0.out, if_neg HCN.out, if_pos (by simp [hq, hK])]
        clear hK HQK HN0
        have y0 := M.c 0 0 rfl rfl
        have d0 := M.c 1 0 rfl rfl
        have d1 := M.c 1 1 rfl rfl
        have d2 := M.c 1 2 rfl rfl
        have q3 := M.c 5 0 rfl rfl
        have q4 := M.c 5 1 rfl rfl
        have q5 := M.c 5 2 rfl rfl
        have ff := M.f 1 rfl
        have HM := show Hid _ from ((M.set 1 rfl 0 (.int .i64 q.kind)).set 1 rfl 1 (.int .i64 q.value)).set 1 rfl 2 (.slice bv q.kids.length bc)
        clear M
        go_wp2_with fail
        have M2 := HM.out
        have r0 : World.cell? _ ⟨w.heap.size + 1, 0, none⟩ = some (.int .i64 q.kind) := M2.c 1 0 rfl rfl
        have r1 : World.cell? _ ⟨w.heap.size + 1, 1, none⟩ = some (.int .i64 q.value) := M2.c 1 1 rfl rfl
        have r2 : World.cell? _ ⟨w.heap.size + 1, 2, none⟩ = some (.slice bv q.kids.length bc) := M2.c 1 2 rfl rfl
        refine bodyPost_ret (v := .agg #[.int .i64 q.kind, .int .i64 q.value, .slice bv q.kids.length bc]) (by simp [results, Tryz.results127, go_sem, r0, r1, r2]) rfl ?_
        show L9 w e _ _
        unfold L9
        rw [HND.out, HN.out]
        exact ⟨_, _, S', rfl, (M2.o 3 rfl).2.2.2.2.2.2.2.2.1, fun b hb => ⟨(M2.ge _ b (bR3 (i := 3) rfl) hb).elim (fun h => h) fun h => absurd bR2 h, M2.lt (bR3 (i := 3) rfl) hb⟩, M2.below fun _ _ => trivial⟩
      have HN4 := show Hid _ from hq
      clear hq
      by_cases hq : e.kind = 8
      ·have p4 : (e.kind == 4) = false := by simp [hq]
       have p8 : (e.kind == 8) = true := by simp [hq]
       have p5 : (e.kind == 5) = false := by simp [hq]
       have p6 : (e.kind == 6) = false := by simp [hq]
       have HQK := show Hid _ from hq
       clear hq
       have y0 := M.c 0 0 rfl rfl
       have q0 := M.c 4 0 rfl rfl
       have q1 := M.c 4 1 rfl rfl
       have q2 := M.c 4 2 rfl rfl
       have q3 := M.c 5 0 rfl rfl
       have q4 := M.c 5 1 rfl rfl
       have q5 := M.c 5 2 rfl rfl
       have HM := show Hid _ from M
       clear M
       go_wp2_with fail
       have M := HM.out
       clear HM y0 q0 q1 q2 q3 q4 q5
       refine (t6 p.kind p.value 0 (.slice av p.kids.length ac) _).mono ?_
       rintro x w1 ⟨rfl, b1⟩
       rw [show (decide (p.kind = 1) && decide (p.value = 0)) = n5 p 0 from rfl]
       replace M := M.call b1
       clear b1
       cases hK : n5 p 0
       ·have y0 := M.c 0 0 rfl rfl
        have q0 := M.c 4 0 rfl rfl
        have q1 := M.c 4 1 rfl rfl
        have q2 := M.c 4 2 rfl rfl
        have q3 := M.c 5 0 rfl rfl
        have q4 := M.c 5 1 rfl rfl
        have q5 := M.c 5 2 rfl rfl
        have HM := show Hid _ from M
        clear M
        go_wp2_with fail
        have M := HM.out
        clear HM y0 q0 q1 q2 q3 q4 q5
        refine (t6 q.kind q.value 0 (.slice bv q.kids.length bc) _).mono ?_
        rintro x w1 ⟨rfl, b1⟩
        rw [show (decide (q.kind = 1) && decide (q.value = 0)) = n5 q 0 from rfl]
        replace M := M.call b1
        clear b1
        cases hK2 : n5 q 0
        ·have HN : Hid (o3 ⟨e.kind, e.value, [p, q]⟩ = ⟨e.kind, e.value, [p, q]⟩) := by have hq := HQK.out; rw [Hid, HN0.out, if_neg HCN.out, if_neg (by simp [hq, hK]), if_neg (by simp [hq, hK2])]
         clear hK2 hK HQK HN0
         have y0 := M.c 0 0 rfl rfl
         have d0 := M.c 1 0 rfl rfl
         have d1 := M.c 1 1 rfl rfl
         have d2 := M.c 1 2 rfl rfl
         have o0 := M.c 2 0 rfl rfl
         have o1 := M.c 2 1 rfl rfl
         have o2 := M.c 2 2 rfl rfl
         have ff := M.f 1 rfl
         have HM := show Hid _ from ((M.set 1 rfl 0 (.int .i64 e.kind)).set 1 rfl 1 (.int .i64 e.value)).set 1 rfl 2 (.slice (some ⟨g, off, none⟩) 2 cap)
         clear M
         go_wp2_with fail
         have M2 := HM.out
         have r0 : World.cell? _ ⟨w.heap.size + 1, 0, none⟩ = some (.int .i64 e.kind) := M2.c 1 0 rfl rfl
         have r1 : World.cell? _ ⟨w.heap.size + 1, 1, none⟩ = some (.int .i64 e.value) := M2.c 1 1 rfl rfl
         have r2 : World.cell? _ ⟨w.heap.size + 1, 2, none⟩ = some (.slice (some ⟨g, off, none⟩) 2 cap) := M2.c 1 2 rfl rfl
         refine bodyPost_ret (v := .agg #[.int .i64 e.kind, .int .i64 e.value, .slice (some ⟨g, off, none⟩) 2 cap]) (by simp [results, Tryz.results127, go_sem, r0, r1, r2]) rfl ?_
         show L9 w e _ _
         unfold L9
         rw [HND.out, HN.out]
         exact ⟨_, _, S', rfl, (M2.o 3 rfl).2.2.2.2.2.2.2.2.2, fun b hb => ⟨(M2.ge _ b (bR3 (i := 3) rfl) hb).elim (fun h => h) fun h => absurd bR2 h, M2.lt (bR3 (i := 3) rfl) hb⟩, M2.below fun _ _ => trivial⟩
        ·have HN : Hid (o3 ⟨e.kind, e.value, [p, q]⟩ = p) := by have hq := HQK.out; rw [Hid, HN0.out, if_neg HCN.out, if_neg (by simp [hq, hK]), if_pos (by simp [hq, hK2])]
         clear hK2 hK HQK HN0
         have y0 := M.c 0 0 rfl rfl
         have d0 := M.c 1 0 rfl rfl
         have d1 := M.c 1 1 rfl rfl
         have d2 := M.c 1 2 rfl rfl
         have q0 := M.c 4 0 rfl rfl
         have q1 := M.c 4 1 rfl rfl
         have q2 := M.c 4 2 rfl rfl
         have ff := M.f 1 rfl
         have HM := show Hid _ from ((M.set 1 rfl 0 (.int .i64 p.kind)).set 1 rfl 1 (.int .i64 p.value)).set 1 rfl 2 (.slice av p.kids.length ac)
         clear M
         go_wp2_with fail
         have M2 := HM.out
         have r0 : World.cell? _ ⟨w.heap.size + 1, 0, none⟩ = some (.int .i64 p.kind) := M2.c 1 0 rfl rfl
         have r1 : World.cell? _ ⟨w.heap.size + 1, 1, none⟩ = some (.int .i64 p.value) := M2.c 1 1 rfl rfl
         have r2 : World.cell? _ ⟨w.heap.size + 1, 2, none⟩ = some (.slice av p.kids.length ac) := M2.c 1 2 rfl rfl
         refine bodyPost_ret (v := .agg #[.int .i64 p.kind, .int .i64 p.value, .slice av p.kids.length ac]) (by simp [results, Tryz.results127, go_sem, r0, r1, r2]) rfl ?_
         show L9 w e _ _
         unfold L9
         rw [HND.out, HN.out]
         exact ⟨_, _, S', rfl, (M2.o 3 rfl).2.2.2.2.2.2.2.1, fun b hb => ⟨(M2.ge _ b (bR3 (i := 3) rfl) hb).elim (fun h => h) fun h => absurd bR2 h, M2.lt (bR3 (i := 3) rfl) hb⟩, M2.below fun _ _ => trivial⟩
       ·have HN : Hid (o3 ⟨e.kind, e.value, [p, q]⟩ = q) := by have hq := HQK.out; rw [Hid, HN0.out, if_neg HCN.out, if_pos (by simp [hq, hK])]
        clear hK HQK HN0
        have y0 := M.c 0 0 rfl rfl
        have d0 := M.c 1 0 rfl rfl
        have d1 := M.c 1 1 rfl rfl
        have d2 := M.c 1 2 rfl rfl
        have q3 := M.c 5 0 rfl rfl
        have q4 := M.c 5 1 rfl rfl
        have q5 := M.c 5 2 rfl rfl
        have ff := M.f 1 rfl
        have HM := show Hid _ from ((M.set 1 rfl 0 (.int .i64 q.kind)).set 1 rfl 1 (.int .i64 q.value)).set 1 rfl 2 (.slice bv q.kids.length bc)
        clear M
        go_wp2_with fail
        have M2 := HM.out
        have r0 : World.cell? _ ⟨w.heap.size + 1, 0, none⟩ = some (.int .i64 q.kind) := M2.c 1 0 rfl rfl
        have r1 : World.cell? _ ⟨w.heap.size + 1, 1, none⟩ = some (.int .i64 q.value) := M2.c 1 1 rfl rfl
        have r2 : World.cell? _ ⟨w.heap.size + 1, 2, none⟩ = some (.slice bv q.kids.length bc) := M2.c 1 2 rfl rfl
        refine bodyPost_ret (v := .agg #[.int .i64 q.kind, .int .i64 q.value, .slice bv q.kids.length bc]) (by simp [results, Tryz.results127, go_sem, r0, r1, r2]) rfl ?_
        show L9 w e _ _
        unfold L9
        rw [HND.out, HN.out]
        exact ⟨_, _, S', rfl, (M2.o 3 rfl).2.2.2.2.2.2.2.2.1, fun b hb => ⟨(M2.ge _ b (bR3 (i := 3) rfl) hb).elim (fun h => h) fun h => absurd bR2 h, M2.lt (bR3 (i := 3) rfl) hb⟩, M2.below fun _ _ => trivial⟩
      have HN8 := show Hid _ from hq
      clear hq
      by_cases hq : e.kind = 5
      ·have p4 : (e.kind == 4) = false := by simp [hq]
       have p8 : (e.kind == 8) = false := by simp [hq]
       have p5 : (e.kind == 5) = true := by simp [hq]
       have p6 : (e.kind == 6) = false := by simp [hq]
       have HQK := show Hid _ from hq
       clear hq
       have y0 := M.c 0 0 rfl rfl
       have q0 := M.c 4 0 rfl rfl
       have q1 := M.c 4 1 rfl rfl
       have q2 := M.c 4 2 rfl rfl
       have q3 := M.c 5 0 rfl rfl
       have q4 := M.c 5 1 rfl rfl
       have q5 := M.c 5 2 rfl rfl
       have HM := show Hid _ from M
       clear M
       go_wp2_with fail
       have M := HM.out
       clear HM y0 q0 q1 q2 q3 q4 q5
       refine (t6 q.kind q.value 0 (.slice bv q.kids.length bc) _).mono ?_
       rintro x w1 ⟨rfl, b1⟩
       rw [show (decide (q.kind = 1) && decide (q.value = 0)) = n5 q 0 from rfl]
       replace M := M.call b1
       clear b1
       cases hK2 : n5 q 0
       ·have HN : Hid (o3 ⟨e.kind, e.value, [p, q]⟩ = ⟨e.kind, e.value, [p, q]⟩) := by have hq := HQK.out; rw [Hid, HN0.out, if_neg HCN.out, if_neg (by simp [hq, hq]), if_neg (by simp [hq, hK2])]
        clear hK2  HQK HN0
        have y0 := M.c 0 0 rfl rfl
        have d0 := M.c 1 0 rfl rfl
        have d1 := M.c 1 1 rfl rfl
        have d2 := M.c 1 2 rfl rfl
        have o0 := M.c 2 0 rfl rfl
        have o1 := M.c 2 1 rfl rfl
        have o2 := M.c 2 2 rfl rfl
        have ff := M.f 1 rfl
        have HM := show Hid _ from ((M.set 1 rfl 0 (.int .i64 e.kind)).set 1 rfl 1 (.int .i64 e.value)).set 1 rfl 2 (.slice (some ⟨g, off, none⟩) 2 cap)
        clear M
        go_wp2_with fail
        have M2 := HM.out
        have r0 : World.cell? _ ⟨w.heap.size + 1, 0, none⟩ = some (.int .i64 e.kind) := M2.c 1 0 rfl rfl
        have r1 : World.cell? _ ⟨w.heap.size + 1, 1, none⟩ = some (.int .i64 e.value) := M2.c 1 1 rfl rfl
        have r2 : World.cell? _ ⟨w.heap.size + 1, 2, none⟩ = some (.slice (some ⟨g, off, none⟩) 2 cap) := M2.c 1 2 rfl rfl
        refine bodyPost_ret (v := .agg #[.int .i64 e.kind, .int .i64 e.value, .slice (some ⟨g, off, none⟩) 2 cap]) (by simp [results, Tryz.results127, go_sem, r0, r1, r2]) rfl ?_
        show L9 w e _ _
        unfold L9
        rw [HND.out, HN.out]
        exact ⟨_, _, S', rfl, (M2.o 3 rfl).2.2.2.2.2.2.2.2.2, fun b hb => ⟨(M2.ge _ b (bR3 (i := 3) rfl) hb).elim (fun h => h) fun h => absurd bR2 h, M2.lt (bR3 (i := 3) rfl) hb⟩, M2.below fun _ _ => trivial⟩
       ·have HN : Hid (o3 ⟨e.kind, e.value, [p, q]⟩ = p) := by have hq := HQK.out; rw [Hid, HN0.out, if_neg HCN.out, if_neg (by simp [hq, hq]), if_pos (by simp [hq, hK2])]
        clear hK2  HQK HN0
        have y0 := M.c 0 0 rfl rfl
        have d0 := M.c 1 0 rfl rfl
        have d1 := M.c 1 1 rfl rfl
        have d2 := M.c 1 2 rfl rfl
        have q0 := M.c 4 0 rfl rfl
        have q1 := M.c 4 1 rfl rfl
        have q2 := M.c 4 2 rfl rfl
        have ff := M.f 1 rfl
        have HM := show Hid _ from ((M.set 1 rfl 0 (.int .i64 p.kind)).set 1 rfl 1 (.int .i64 p.value)).set 1 rfl 2 (.slice av p.kids.length ac)
        clear M
        go_wp2_with fail
        have M2 := HM.out
        have r0 : World.cell? _ ⟨w.heap.size + 1, 0, none⟩ = some (.int .i64 p.kind) := M2.c 1 0 rfl rfl
        have r1 : World.cell? _ ⟨w.heap.size + 1, 1, none⟩ = some (.int .i64 p.value) := M2.c 1 1 rfl rfl
        have r2 : World.cell? _ ⟨w.heap.size + 1, 2, none⟩ = some (.slice av p.kids.length ac) := M2.c 1 2 rfl rfl
        refine bodyPost_ret (v := .agg #[.int .i64 p.kind, .int .i64 p.value, .slice av p.kids.length ac]) (by simp [results, Tryz.results127, go_sem, r0, r1, r2]) rfl ?_
        show L9 w e _ _
        unfold L9
        rw [HND.out, HN.out]
        exact ⟨_, _, S', rfl, (M2.o 3 rfl).2.2.2.2.2.2.2.1, fun b hb => ⟨(M2.ge _ b (bR3 (i := 3) rfl) hb).elim (fun h => h) fun h => absurd bR2 h, M2.lt (bR3 (i := 3) rfl) hb⟩, M2.below fun _ _ => trivial⟩
      have HN5 := show Hid _ from hq
      clear hq
      by_cases hq : e.kind = 6
      ·have p4 : (e.kind == 4) = false := by simp [hq]
       have p8 : (e.kind == 8) = false := by simp [hq]
       have p5 : (e.kind == 5) = false := by simp [hq]
       have p6 : (e.kind == 6) = true := by simp [hq]
       have HQK := show Hid _ from hq
       clear hq
       have y0 := M.c 0 0 rfl rfl
       have q0 := M.c 4 0 rfl rfl
       have q1 := M.c 4 1 rfl rfl
       have q2 := M.c 4 2 rfl rfl
       have q3 := M.c 5 0 rfl rfl
       have q4 := M.c 5 1 rfl rfl
       have q5 := M.c 5 2 rfl rfl
       have HM := show Hid _ from M
       clear M
       go_wp2_with fail
       have M := HM.out
       clear HM y0 q0 q1 q2 q3 q4 q5
       refine (t6 p.kind p.value 1 (.slice av p.kids.length ac) _).mono ?_
       rintro x w1 ⟨rfl, b1⟩
       rw [show (decide (p.kind = 1) && decide (p.value = 1)) = n5 p 1 from rfl]
       replace M := M.call b1
       clear b1
       cases hK : n5 p 1
       ·have y0 := M.c 0 0 rfl rfl
        have q0 := M.c 4 0 rfl rfl
        have q1 := M.c 4 1 rfl rfl
        have q2 := M.c 4 2 rfl rfl
        have q3 := M.c 5 0 rfl rfl
        have q4 := M.c 5 1 rfl rfl
        have q5 := M.c 5 2 rfl rfl
        have HM := show Hid _ from M
        clear M
        go_wp2_with fail
        have M := HM.out
        clear HM y0 q0 q1 q2 q3 q4 q5
        refine (t6 q.kind q.value 1 (.slice bv q.kids.length bc) _).mono ?_
        rintro x w1 ⟨rfl, b1⟩
        rw [show (decide (q.kind = 1) && decide (q.value = 1)) = n5 q 1 from rfl]
        replace M := M.call b1
        clear b1
        cases hK2 : n5 q 1
        ·have HN : Hid (o3 ⟨e.kind, e.value, [p, q]⟩ = ⟨e.kind, e.value, [p, q]⟩) := by have hq := HQK.out; rw [Hid, HN0.out, if_neg HCN.out, if_neg (by simp [hq, hK]), if_neg (by simp [hq, hK2])]
         clear hK2 hK HQK HN0
         have y0 := M.c 0 0 rfl rfl
         have d0 := M.c 1 0 rfl rfl
         have d1 := M.c 1 1 rfl rfl
         have d2 := M.c 1 2 rfl rfl
         have o0 := M.c 2 0 rfl rfl
         have o1 := M.c 2 1 rfl rfl
         have o2 := M.c 2 2 rfl rfl
         have ff := M.f 1 rfl
         have HM := show Hid _ from ((M.set 1 rfl 0 (.int .i64 e.kind)).set 1 rfl 1 (.int .i64 e.value)).set 1 rfl 2 (.slice (some ⟨g, off, none⟩) 2 cap)
         clear M
         go_wp2_with fail
         have M2 := HM.out
         have r0 : World.cell? _ ⟨w.heap.size + 1, 0, none⟩ = some (.int .i64 e.kind) := M2.c 1 0 rfl rfl
         have r1 : World.cell? _ ⟨w.heap.size + 1, 1, none⟩ = some (.int .i64 e.value) := M2.c 1 1 rfl rfl
         have r2 : World.cell? _ ⟨w.heap.size + 1, 2, none⟩ = some (.slice (some ⟨g, off, none⟩) 2 cap) := M2.c 1 2 rfl rfl
         refine bodyPost_ret (v := .agg #[.int .i64 e.kind, .int .i64 e.value, .slice (some ⟨g, off, none⟩) 2 cap]) (by simp [results, Tryz.results127, go_sem, r0, r1, r2]) rfl ?_
         show L9 w e _ _
         unfold L9
         rw [HND.out, HN.out]
         exact ⟨_, _, S', rfl, (M2.o 3 rfl).2.2.2.2.2.2.2.2.2, fun b hb => ⟨(M2.ge _ b (bR3 (i := 3) rfl) hb).elim (fun h => h) fun h => absurd bR2 h, M2.lt (bR3 (i := 3) rfl) hb⟩, M2.below fun _ _ => trivial⟩
        ·have HN : Hid (o3 ⟨e.kind, e.value, [p, q]⟩ = p) := by have hq := HQK.out; rw [Hid, HN0.out, if_neg HCN.out, if_neg (by simp [hq, hK]), if_pos (by simp [hq, hK2])]
         clear hK2 hK HQK HN0
         have y0 := M.c 0 0 rfl rfl
         have d0 := M.c 1 0 rfl rfl
         have d1 := M.c 1 1 rfl rfl
         have d2 := M.c 1 2 rfl rfl
         have q0 := M.c 4 0 rfl rfl
         have q1 := M.c 4 1 rfl rfl
         have q2 := M.c 4 2 rfl rfl
         have ff := M.f 1 rfl
         have HM := show Hid _ from ((M.set 1 rfl 0 (.int .i64 p.kind)).set 1 rfl 1 (.int .i64 p.value)).set 1 rfl 2 (.slice av p.kids.length ac)
         clear M
         go_wp2_with fail
         have M2 := HM.out
         have r0 : World.cell? _ ⟨w.heap.size + 1, 0, none⟩ = some (.int .i64 p.kind) := M2.c 1 0 rfl rfl
         have r1 : World.cell? _ ⟨w.heap.size + 1, 1, none⟩ = some (.int .i64 p.value) := M2.c 1 1 rfl rfl
         have r2 : World.cell? _ ⟨w.heap.size + 1, 2, none⟩ = some (.slice av p.kids.length ac) := M2.c 1 2 rfl rfl
         refine bodyPost_ret (v := .agg #[.int .i64 p.kind, .int .i64 p.value, .slice av p.kids.length ac]) (by simp [results, Tryz.results127, go_sem, r0, r1, r2]) rfl ?_
         show L9 w e _ _
         unfold L9
         rw [HND.out, HN.out]
         exact ⟨_, _, S', rfl, (M2.o 3 rfl).2.2.2.2.2.2.2.1, fun b hb => ⟨(M2.ge _ b (bR3 (i := 3) rfl) hb).elim (fun h => h) fun h => absurd bR2 h, M2.lt (bR3 (i := 3) rfl) hb⟩, M2.below fun _ _ => trivial⟩
       ·have HN : Hid (o3 ⟨e.kind, e.value, [p, q]⟩ = q) := by have hq := HQK.out; rw [Hid, HN0.out, if_neg HCN.out, if_pos (by simp [hq, hK])]
        clear hK HQK HN0
        have y0 := M.c 0 0 rfl rfl
        have d0 := M.c 1 0 rfl rfl
        have d1 := M.c 1 1 rfl rfl
        have d2 := M.c 1 2 rfl rfl
        have q3 := M.c 5 0 rfl rfl
        have q4 := M.c 5 1 rfl rfl
        have q5 := M.c 5 2 rfl rfl
        have ff := M.f 1 rfl
        have HM := show Hid _ from ((M.set 1 rfl 0 (.int .i64 q.kind)).set 1 rfl 1 (.int .i64 q.value)).set 1 rfl 2 (.slice bv q.kids.length bc)
        clear M
        go_wp2_with fail
        have M2 := HM.out
        have r0 : World.cell? _ ⟨w.heap.size + 1, 0, none⟩ = some (.int .i64 q.kind) := M2.c 1 0 rfl rfl
        have r1 : World.cell? _ ⟨w.heap.size + 1, 1, none⟩ = some (.int .i64 q.value) := M2.c 1 1 rfl rfl
        have r2 : World.cell? _ ⟨w.heap.size + 1, 2, none⟩ = some (.slice bv q.kids.length bc) := M2.c 1 2 rfl rfl
        refine bodyPost_ret (v := .agg #[.int .i64 q.kind, .int .i64 q.value, .slice bv q.kids.length bc]) (by simp [results, Tryz.results127, go_sem, r0, r1, r2]) rfl ?_
        show L9 w e _ _
        unfold L9
        rw [HND.out, HN.out]
        exact ⟨_, _, S', rfl, (M2.o 3 rfl).2.2.2.2.2.2.2.2.1, fun b hb => ⟨(M2.ge _ b (bR3 (i := 3) rfl) hb).elim (fun h => h) fun h => absurd bR2 h, M2.lt (bR3 (i := 3) rfl) hb⟩, M2.below fun _ _ => trivial⟩
      have HN6 := show Hid _ from hq
      clear hq
      have p4 : (e.kind == 4) = false := by
       have h : ¬ e.kind = 4 := HN4.out
       simp [h]
      have p8 : (e.kind == 8) = false := by
       have h : ¬ e.kind = 8 := HN8.out
       simp [h]
      have p5 : (e.kind == 5) = false := by
       have h : ¬ e.kind = 5 := HN5.out
       simp [h]
      have p6 : (e.kind == 6) = false := by
       have h : ¬ e.kind = 6 := HN6.out
       simp [h]
      have HN : Hid (o3 ⟨e.kind, e.value, [p, q]⟩ = ⟨e.kind, e.value, [p, q]⟩) := by
       have h4 : ¬ e.kind = 4 := HN4.out
       have h5 : ¬ e.kind = 5 := HN5.out
       have h6 : ¬ e.kind = 6 := HN6.out
       have h8 : ¬ e.kind = 8 := HN8.out
       rw [Hid, HN0.out, if_neg HCN.out, if_neg (by simp [h4, h5, h6, h8]), if_neg (by simp [h4, h5, h6, h8])]
      clear HN4 HN5 HN6 HN8 HN0
      have y0 := M.c 0 0 rfl rfl
      have d0 := M.c 1 0 rfl rfl
      have d1 := M.c 1 1 rfl rfl
      have d2 := M.c 1 2 rfl rfl
      have o0 := M.c 2 0 rfl rfl
      have o1 := M.c 2 1 rfl rfl
      have o2 := M.c 2 2 rfl rfl
      have q0 := M.c 4 0 rfl rfl
      have q1 := M.c 4 1 rfl rfl
      have q2 := M.c 4 2 rfl rfl
      have q3 := M.c 5 0 rfl rfl
      have q4 := M.c 5 1 rfl rfl
      have q5 := M.c 5 2 rfl rfl
      have ff := M.f 1 rfl
      have HM := show Hid _ from ((M.set 1 rfl 0 (.int .i64 e.kind)).set 1 rfl 1 (.int .i64 e.value)).set 1 rfl 2 (.slice (some ⟨g, off, none⟩) 2 cap)
      clear M
      go_wp2_with fail
      have M2 := HM.out
      have r0 : World.cell? _ ⟨w.heap.size + 1, 0, none⟩ = some (.int .i64 e.kind) := M2.c 1 0 rfl rfl
      have r1 : World.cell? _ ⟨w.heap.size + 1, 1, none⟩ = some (.int .i64 e.value) := M2.c 1 1 rfl rfl
      have r2 : World.cell? _ ⟨w.heap.size + 1, 2, none⟩ = some (.slice (some ⟨g, off, none⟩) 2 cap) := M2.c 1 2 rfl rfl
      refine bodyPost_ret (v := .agg #[.int .i64 e.kind, .int .i64 e.value, .slice (some ⟨g, off, none⟩) 2 cap]) (by simp [results, Tryz.results127, go_sem, r0, r1, r2]) rfl ?_
      show L9 w e _ _
      unfold L9
      rw [HND.out, HN.out]
      exact ⟨_, _, S', rfl, (M2.o 3 rfl).2.2.2.2.2.2.2.2.2, fun b hb => ⟨(M2.ge _ b (bR3 (i := 3) rfl) hb).elim (fun h => h) fun h => absurd bR2 h, M2.lt (bR3 (i := 3) rfl) hb⟩, M2.below fun _ _ => trivial⟩
     ·by_cases hq : e.kind = 4
      ·have p4 : (e.kind == 4) = true := by simp [hq]
       have p8 : (e.kind == 8) = false := by simp [hq]
       have p5 : (e.kind == 5) = false := by simp [hq]
       have p6 : (e.kind == 6) = false := by simp [hq]
       have HQK := show Hid _ from hq
       clear hq
       have y0 := M.c 0 0 rfl rfl
       have q0 := M.c 4 0 rfl rfl
       have q1 := M.c 4 1 rfl rfl
       have q2 := M.c 4 2 rfl rfl
       have q3 := M.c 5 0 rfl rfl
       have q4 := M.c 5 1 rfl rfl
       have q5 := M.c 5 2 rfl rfl
       have HM := show Hid _ from M
       clear M
       go_wp2_with fail
       have M := HM.out
       clear HM y0 q0 q1 q2 q3 q4 q5
       refine (t6 p.kind p.value 0 (.slice av p.kids.length ac) _).mono ?_
       rintro x w1 ⟨rfl, b1⟩
       rw [show (decide (p.kind = 1) && decide (p.value = 0)) = n5 p 0 from rfl]
       replace M := M.call b1
       clear b1
       cases hK : n5 p 0
       ·have y0 := M.c 0 0 rfl rfl
        have q0 := M.c 4 0 rfl rfl
        have q1 := M.c 4 1 rfl rfl
        have q2 := M.c 4 2 rfl rfl
        have q3 := M.c 5 0 rfl rfl
        have q4 := M.c 5 1 rfl rfl
        have q5 := M.c 5 2 rfl rfl
        have HM := show Hid _ from M
        clear M
        go_wp2_with fail
        have M := HM.out
        clear HM y0 q0 q1 q2 q3 q4 q5
        refine (t6 q.kind q.value 0 (.slice bv q.kids.length bc) _).mono ?_
        rintro x w1 ⟨rfl, b1⟩
        rw [show (decide (q.kind = 1) && decide (q.value = 0)) = n5 q 0 from rfl]
        replace M := M.call b1
        clear b1
        cases hK2 : n5 q 0
        ·have HN : Hid (o3 ⟨e.kind, e.value, [p, q]⟩ = ⟨e.kind, e.value, [p, q]⟩) := by have hq := HQK.out; rw [Hid, HN0.out, if_neg HCN.out, if_neg (by simp [hq, hK]), if_neg (by simp [hq, hK2])]
         clear hK2 hK HQK HN0
         have y0 := M.c 0 0 rfl rfl
         have d0 := M.c 1 0 rfl rfl
         have d1 := M.c 1 1 rfl rfl
         have d2 := M.c 1 2 rfl rfl
         have o0 := M.c 2 0 rfl rfl
         have o1 := M.c 2 1 rfl rfl
         have o2 := M.c 2 2 rfl rfl
         have ff := M.f 1 rfl
         have HM := show Hid _ from ((M.set 1 rfl 0 (.int .i64 e.kind)).set 1 rfl 1 (.int .i64 e.value)).set 1 rfl 2 (.slice (some ⟨g, off, none⟩) 2 cap)
         clear M
         go_wp2_with fail
         have M2 := HM.out
         have r0 : World.cell? _ ⟨w.heap.size + 1, 0, none⟩ = some (.int .i64 e.kind) := M2.c 1 0 rfl rfl
         have r1 : World.cell? _ ⟨w.heap.size + 1, 1, none⟩ = some (.int .i64 e.value) := M2.c 1 1 rfl rfl
         have r2 : World.cell? _ ⟨w.heap.size + 1, 2, none⟩ = some (.slice (some ⟨g, off, none⟩) 2 cap) := M2.c 1 2 rfl rfl
         refine bodyPost_ret (v := .agg #[.int .i64 e.kind, .int .i64 e.value, .slice (some ⟨g, off, none⟩) 2 cap]) (by simp [results, Tryz.results127, go_sem, r0, r1, r2]) rfl ?_
         show L9 w e _ _
         unfold L9
         rw [HND.out, HN.out]
         exact ⟨_, _, S', rfl, (M2.o 3 rfl).2.2.2.2.2.2.2.2.2, fun b hb => ⟨(M2.ge _ b (bR3 (i := 3) rfl) hb).elim (fun h => h) fun h => absurd bR2 h, M2.lt (bR3 (i := 3) rfl) hb⟩, M2.below fun _ _ => trivial⟩
        ·have HN : Hid (o3 ⟨e.kind, e.value, [p, q]⟩ = p) := by have hq := HQK.out; rw [Hid, HN0.out, if_neg HCN.out, if_neg (by simp [hq, hK]), if_pos (by simp [hq, hK2])]
         clear hK2 hK HQK HN0
         have y0 := M.c 0 0 rfl rfl
         have d0 := M.c 1 0 rfl rfl
         have d1 := M.c 1 1 rfl rfl
         have d2 := M.c 1 2 rfl rfl
         have q0 := M.c 4 0 rfl rfl
         have q1 := M.c 4 1 rfl rfl
         have q2 := M.c 4 2 rfl rfl
         have ff := M.f 1 rfl
         have HM := show Hid _ from ((M.set 1 rfl 0 (.int .i64 p.kind)).set 1 rfl 1 (.int .i64 p.value)).set 1 rfl 2 (.slice av p.kids.length ac)
         clear M
         go_wp2_with fail
         have M2 := HM.out
         have r0 : World.cell? _ ⟨w.heap.size + 1, 0, none⟩ = some (.int .i64 p.kind) := M2.c 1 0 rfl rfl
         have r1 : World.cell? _ ⟨w.heap.size + 1, 1, none⟩ = some (.int .i64 p.value) := M2.c 1 1 rfl rfl
         have r2 : World.cell? _ ⟨w.heap.size + 1, 2, none⟩ = some (.slice av p.kids.length ac) := M2.c 1 2 rfl rfl
         refine bodyPost_ret (v := .agg #[.int .i64 p.kind, .int .i64 p.value, .slice av p.kids.length ac]) (by simp [results, Tryz.results127, go_sem, r0, r1, r2]) rfl ?_
         show L9 w e _ _
         unfold L9
         rw [HND.out, HN.out]
         exact ⟨_, _, S', rfl, (M2.o 3 rfl).2.2.2.2.2.2.2.1, fun b hb => ⟨(M2.ge _ b (bR3 (i := 3) rfl) hb).elim (fun h => h) fun h => absurd bR2 h, M2.lt (bR3 (i := 3) rfl) hb⟩, M2.below fun _ _ => trivial⟩
       ·have HN : Hid (o3 ⟨e.kind, e.value, [p, q]⟩ = q) := by have hq := HQK.out; rw [Hid, HN0.out, if_neg HCN.out, if_pos (by simp [hq, hK])]
        clear hK HQK HN0
        have y0 := M.c 0 0 rfl rfl
        have d0 := M.c 1 0 rfl rfl
        have d1 := M.c 1 1 rfl rfl
        have d2 := M.c 1 2 rfl rfl
        have q3 := M.c 5 0 rfl rfl
        have q4 := M.c 5 1 rfl rfl
        have q5 := M.c 5 2 rfl rfl
        have ff := M.f 1 rfl
        have HM := show Hid _ from ((M.set 1 rfl 0 (.int .i64 q.kind)).set 1 rfl 1 (.int .i64 q.value)).set 1 rfl 2 (.slice bv q.kids.length bc)
        clear M
        go_wp2_with fail
        have M2 := HM.out
        have r0 : World.cell? _ ⟨w.heap.size + 1, 0, none⟩ = some (.int .i64 q.kind) := M2.c 1 0 rfl rfl
        have r1 : World.cell? _ ⟨w.heap.size + 1, 1, none⟩ = some (.int .i64 q.value) := M2.c 1 1 rfl rfl
        have r2 : World.cell? _ ⟨w.heap.size + 1, 2, none⟩ = some (.slice bv q.kids.length bc) := M2.c 1 2 rfl rfl
        refine bodyPost_ret (v := .agg #[.int .i64 q.kind, .int .i64 q.value, .slice bv q.kids.length bc]) (by simp [results, Tryz.results127, go_sem, r0, r1, r2]) rfl ?_
        show L9 w e _ _
        unfold L9
        rw [HND.out, HN.out]
        exact ⟨_, _, S', rfl, (M2.o 3 rfl).2.2.2.2.2.2.2.2.1, fun b hb => ⟨(M2.ge _ b (bR3 (i := 3) rfl) hb).elim (fun h => h) fun h => absurd bR2 h, M2.lt (bR3 (i := 3) rfl) hb⟩, M2.below fun _ _ => trivial⟩
      have HN4 := show Hid _ from hq
      clear hq
      by_cases hq : e.kind = 8
      ·have p4 : (e.kind == 4) = false := by simp [hq]
       have p8 : (e.kind == 8) = true := by simp [hq]
       have p5 : (e.kind == 5) = false := by simp [hq]
       have p6 : (e.kind == 6) = false := by simp [hq]
       have HQK := show Hid _ from hq
       clear hq
       have y0 := M.c 0 0 rfl rfl
       have q0 := M.c 4 0 rfl rfl
       have q1 := M.c 4 1 rfl rfl
       have q2 := M.c 4 2 rfl rfl
       have q3 := M.c 5 0 rfl rfl
       have q4 := M.c 5 1 rfl rfl
       have q5 := M.c 5 2 rfl rfl
       have HM := show Hid _ from M
       clear M
       go_wp2_with fail
       have M := HM.out
       clear HM y0 q0 q1 q2 q3 q4 q5
       refine (t6 p.kind p.value 0 (.slice av p.kids.length ac) _).mono ?_
       rintro x w1 ⟨rfl, b1⟩
       rw [show (decide (p.kind = 1) && decide (p.value = 0)) = n5 p 0 from rfl]
       replace M := M.call b1
       clear b1
       cases hK : n5 p 0
       ·have y0 := M.c 0 0 rfl rfl
        have q0 := M.c 4 0 rfl rfl
        have q1 := M.c 4 1 rfl rfl
        have q2 := M.c 4 2 rfl rfl
        have q3 := M.c 5 0 rfl rfl
        have q4 := M.c 5 1 rfl rfl
        have q5 := M.c 5 2 rfl rfl
        have HM := show Hid _ from M
        clear M
        go_wp2_with fail
        have M := HM.out
        clear HM y0 q0 q1 q2 q3 q4 q5
        refine (t6 q.kind q.value 0 (.slice bv q.kids.length bc) _).mono ?_
        rintro x w1 ⟨rfl, b1⟩
        rw [show (decide (q.kind = 1) && decide (q.value = 0)) = n5 q 0 from rfl]
        replace M := M.call b1
        clear b1
        cases hK2 : n5 q 0
        ·have HN : Hid (o3 ⟨e.kind, e.value, [p, q]⟩ = ⟨e.kind, e.value, [p, q]⟩) := by have hq := HQK.out; rw [Hid, HN0.out, if_neg HCN.out, if_neg (by simp [hq, hK]), if_neg (by simp [hq, hK2])]
         clear hK2 hK HQK HN0
         have y0 := M.c 0 0 rfl rfl
         have d0 := M.c 1 0 rfl rfl
         have d1 := M.c 1 1 rfl rfl
         have d2 := M.c 1 2 rfl rfl
         have o0 := M.c 2 0 rfl rfl
         have o1 := M.c 2 1 rfl rfl
         have o2 := M.c 2 2 rfl rfl
         have ff := M.f 1 rfl
         have HM := show Hid _ from ((M.set 1 rfl 0 (.int .i64 e.kind)).set 1 rfl 1 (.int .i64 e.value)).set 1 rfl 2 (.slice (some ⟨g, off, none⟩) 2 cap)
         clear M
         go_wp2_with fail
         have M2 := HM.out
         have r0 : World.cell? _ ⟨w.heap.size + 1, 0, none⟩ = some (.int .i64 e.kind) := M2.c 1 0 rfl rfl
         have r1 : World.cell? _ ⟨w.heap.size + 1, 1, none⟩ = some (.int .i64 e.value) := M2.c 1 1 rfl rfl
         have r2 : World.cell? _ ⟨w.heap.size + 1, 2, none⟩ = some (.slice (some ⟨g, off, none⟩) 2 cap) := M2.c 1 2 rfl rfl
         refine bodyPost_ret (v := .agg #[.int .i64 e.kind, .int .i64 e.value, .slice (some ⟨g, off, none⟩) 2 cap]) (by simp [results, Tryz.results127, go_sem, r0, r1, r2]) rfl ?_
         show L9 w e _ _
         unfold L9
         rw [HND.out, HN.out]
         exact ⟨_, _, S', rfl, (M2.o 3 rfl).2.2.2.2.2.2.2.2.2, fun b hb => ⟨(M2.ge _ b (bR3 (i := 3) rfl) hb).elim (fun h => h) fun h => absurd bR2 h, M2.lt (bR3 (i := 3) rfl) hb⟩, M2.below fun _ _ => trivial⟩
        ·have HN : Hid (o3 ⟨e.kind, e.value, [p, q]⟩ = p) := by have hq := HQK.out; rw [Hid, HN0.out, if_neg HCN.out, if_neg (by simp [hq, hK]), if_pos (by simp [hq, hK2])]
         clear hK2 hK HQK HN0
         have y0 := M.c 0 0 rfl rfl
         have d0 := M.c 1 0 rfl rfl
         have d1 := M.c 1 1 rfl rfl
         have d2 := M.c 1 2 rfl rfl
         have q0 := M.c 4 0 rfl rfl
         have q1 := M.c 4 1 rfl rfl
         have q2 := M.c 4 2 rfl rfl
         have ff := M.f 1 rfl
         have HM := show Hid _ from ((M.set 1 rfl 0 (.int .i64 p.kind)).set 1 rfl 1 (.int .i64 p.value)).set 1 rfl 2 (.slice av p.kids.length ac)
         clear M
         go_wp2_with fail
         have M2 := HM.out
         have r0 : World.cell? _ ⟨w.heap.size + 1, 0, none⟩ = some (.int .i64 p.kind) := M2.c 1 0 rfl rfl
         have r1 : World.cell? _ ⟨w.heap.size + 1, 1, none⟩ = some (.int .i64 p.value) := M2.c 1 1 rfl rfl
         have r2 : World.cell? _ ⟨w.heap.size + 1, 2, none⟩ = some (.slice av p.kids.length ac) := M2.c 1 2 rfl rfl
         refine bodyPost_ret (v := .agg #[.int .i64 p.kind, .int .i64 p.value, .slice av p.kids.length ac]) (by simp [results, Tryz.results127, go_sem, r0, r1, r2]) rfl ?_
         show L9 w e _ _
         unfold L9
         rw [HND.out, HN.out]
         exact ⟨_, _, S', rfl, (M2.o 3 rfl).2.2.2.2.2.2.2.1, fun b hb => ⟨(M2.ge _ b (bR3 (i := 3) rfl) hb).elim (fun h => h) fun h => absurd bR2 h, M2.lt (bR3 (i := 3) rfl) hb⟩, M2.below fun _ _ => trivial⟩
       ·have HN : Hid (o3 ⟨e.kind, e.value, [p, q]⟩ = q) := by have hq := HQK.out; rw [Hid, HN0.out, if_neg HCN.out, if_pos (by simp [hq, hK])]
        clear hK HQK HN0
        have y0 := M.c 0 0 rfl rfl
        have d0 := M.c 1 0 rfl rfl
        have d1 := M.c 1 1 rfl rfl
        have d2 := M.c 1 2 rfl rfl
        have q3 := M.c 5 0 rfl rfl
        have q4 := M.c 5 1 rfl rfl
        have q5 := M.c 5 2 rfl rfl
        have ff := M.f 1 rfl
        have HM := show Hid _ from ((M.set 1 rfl 0 (.int .i64 q.kind)).set 1 rfl 1 (.int .i64 q.value)).set 1 rfl 2 (.slice bv q.kids.length bc)
        clear M
        go_wp2_with fail
        have M2 := HM.out
        have r0 : World.cell? _ ⟨w.heap.size + 1, 0, none⟩ = some (.int .i64 q.kind) := M2.c 1 0 rfl rfl
        have r1 : World.cell? _ ⟨w.heap.size + 1, 1, none⟩ = some (.int .i64 q.value) := M2.c 1 1 rfl rfl
        have r2 : World.cell? _ ⟨w.heap.size + 1, 2, none⟩ = some (.slice bv q.kids.length bc) := M2.c 1 2 rfl rfl
        refine bodyPost_ret (v := .agg #[.int .i64 q.kind, .int .i64 q.value, .slice bv q.kids.length bc]) (by simp [results, Tryz.results127, go_sem, r0, r1, r2]) rfl ?_
        show L9 w e _ _
        unfold L9
        rw [HND.out, HN.out]
        exact ⟨_, _, S', rfl, (M2.o 3 rfl).2.2.2.2.2.2.2.2.1, fun b hb => ⟨(M2.ge _ b (bR3 (i := 3) rfl) hb).elim (fun h => h) fun h => absurd bR2 h, M2.lt (bR3 (i := 3) rfl) hb⟩, M2.below fun _ _ => trivial⟩
      have HN8 := show Hid _ from hq
      clear hq
      by_cases hq : e.kind = 5
      ·have p4 : (e.kind == 4) = false := by simp [hq]
       have p8 : (e.kind == 8) = false := by simp [hq]
       have p5 : (e.kind == 5) = true := by simp [hq]
       have p6 : (e.kind == 6) = false := by simp [hq]
       have HQK := show Hid _ from hq
       clear hq
       have y0 := M.c 0 0 rfl rfl
       have q0 := M.c 4 0 rfl rfl
       have q1 := M.c 4 1 rfl rfl
       have q2 := M.c 4 2 rfl rfl
       have q3 := M.c 5 0 rfl rfl
       have q4 := M.c 5 1 rfl rfl
       have q5 := M.c 5 2 rfl rfl
       have HM := show Hid _ from M
       clear M
       go_wp2_with fail
       have M := HM.out
       clear HM y0 q0 q1 q2 q3 q4 q5
       refine (t6 q.kind q.value 0 (.slice bv q.kids.length bc) _).mono ?_
       rintro x w1 ⟨rfl, b1⟩
       rw [show (decide (q.kind = 1) && decide (q.value = 0)) = n5 q 0 from rfl]
       replace M := M.call b1
       clear b1
       cases hK2 : n5 q 0
       ·have HN : Hid (o3 ⟨e.kind, e.value, [p, q]⟩ = ⟨e.kind, e.value, [p, q]⟩) := by have hq := HQK.out; rw [Hid, HN0.out, if_neg HCN.out, if_neg (by simp [hq, hq]), if_neg (by simp [hq, hK2])]
        clear hK2  HQK HN0
        have y0 := M.c 0 0 rfl rfl
        have d0 := M.c 1 0 rfl rfl
        have d1 := M.c 1 1 rfl rfl
        have d2 := M.c 1 2 rfl rfl
        have o0 := M.c 2 0 rfl rfl
        have o1 := M.c 2 1 rfl rfl
        have o2 := M.c 2 2 rfl rfl
        have ff := M.f 1 rfl
        have HM := show Hid _ from ((M.set 1 rfl 0 (.int .i64 e.kind)).set 1 rfl 1 (.int .i64 e.value)).set 1 rfl 2 (.slice (some ⟨g, off, none⟩) 2 cap)
        clear M
        go_wp2_with fail
        have M2 := HM.out
        have r0 : World.cell? _ ⟨w.heap.size + 1, 0, none⟩ = some (.int .i64 e.kind) := M2.c 1 0 rfl rfl
        have r1 : World.cell? _ ⟨w.heap.size + 1, 1, none⟩ = some (.int .i64 e.value) := M2.c 1 1 rfl rfl
        have r2 : World.cell? _ ⟨w.heap.size + 1, 2, none⟩ = some (.slice (some ⟨g, off, none⟩) 2 cap) := M2.c 1 2 rfl rfl
        refine bodyPost_ret (v := .agg #[.int .i64 e.kind, .int .i64 e.value, .slice (some ⟨g, off, none⟩) 2 cap]) (by simp [results, Tryz.results127, go_sem, r0, r1, r2]) rfl ?_
        show L9 w e _ _
        unfold L9
        rw [HND.out, HN.out]
        exact ⟨_, _, S', rfl, (M2.o 3 rfl).2.2.2.2.2.2.2.2.2, fun b hb => ⟨(M2.ge _ b (bR3 (i := 3) rfl) hb).elim (fun h => h) fun h => absurd bR2 h, M2.lt (bR3 (i := 3) rfl) hb⟩, M2.below fun _ _ => trivial⟩
       ·have HN : Hid (o3 ⟨e.kind, e.value, [p, q]⟩ = p) := by have hq := HQK.out; rw [Hid, HN0.out, if_neg HCN.out, if_neg (by simp [hq, hq]), if_pos (by simp [hq, hK2])]
        clear hK2  HQK HN0
        have y0 := M.c 0 0 rfl rfl
        have d0 := M.c 1 0 rfl rfl
        have d1 := M.c 1 1 rfl rfl
        have d2 := M.c 1 2 rfl rfl
        have q0 := M.c 4 0 rfl rfl
        have q1 := M.c 4 1 rfl rfl
        have q2 := M.c 4 2 rfl rfl
        have ff := M.f 1 rfl
        have HM := show Hid _ from ((M.set 1 rfl 0 (.int .i64 p.kind)).set 1 rfl 1 (.int .i64 p.value)).set 1 rfl 2 (.slice av p.kids.length ac)
        clear M
        go_wp2_with fail
        have M2 := HM.out
        have r0 : World.cell? _ ⟨w.heap.size + 1, 0, none⟩ = some (.int .i64 p.kind) := M2.c 1 0 rfl rfl
        have r1 : World.cell? _ ⟨w.heap.size + 1, 1, none⟩ = some (.int .i64 p.value) := M2.c 1 1 rfl rfl
        have r2 : World.cell? _ ⟨w.heap.size + 1, 2, none⟩ = some (.slice av p.kids.length ac) := M2.c 1 2 rfl rfl
        refine bodyPost_ret (v := .agg #[.int .i64 p.kind, .int .i64 p.value, .slice av p.kids.length ac]) (by simp [results, Tryz.results127, go_sem, r0, r1, r2]) rfl ?_
        show L9 w e _ _
        unfold L9
        rw [HND.out, HN.out]
        exact ⟨_, _, S', rfl, (M2.o 3 rfl).2.2.2.2.2.2.2.1, fun b hb => ⟨(M2.ge _ b (bR3 (i := 3) rfl) hb).elim (fun h => h) fun h => absurd bR2 h, M2.lt (bR3 (i := 3) rfl) hb⟩, M2.below fun _ _ => trivial⟩
      have HN5 := show Hid _ from hq
      clear hq
      by_cases hq : e.kind = 6
      ·have p4 : (e.kind == 4) = false := by simp [hq]
       have p8 : (e.kind == 8) = false := by simp [hq]
       have p5 : (e.kind == 5) = false := by simp [hq]
       have p6 : (e.kind == 6) = true := by simp [hq]
       have HQK := show Hid _ from hq
       clear hq
       have y0 := M.c 0 0 rfl rfl
       have q0 := M.c 4 0 rfl rfl
       have q1 := M.c 4 1 rfl rfl
       have q2 := M.c 4 2 rfl rfl
       have q3 := M.c 5 0 rfl rfl
       have q4 := M.c 5 1 rfl rfl
       have q5 := M.c 5 2 rfl rfl
       have HM := show Hid _ from M
       clear M
       go_wp2_with fail
       have M := HM.out
       clear HM y0 q0 q1 q2 q3 q4 q5
       refine (t6 p.kind p.value 1 (.slice av p.kids.length ac) _).mono ?_
       rintro x w1 ⟨rfl, b1⟩
       rw [show (decide (p.kind = 1) && decide (p.value = 1)) = n5 p 1 from rfl]
       replace M := M.call b1
       clear b1
       cases hK : n5 p 1
       ·have y0 := M.c 0 0 rfl rfl
        have q0 := M.c 4 0 rfl rfl
        have q1 := M.c 4 1 rfl rfl
        have q2 := M.c 4 2 rfl rfl
        have q3 := M.c 5 0 rfl rfl
        have q4 := M.c 5 1 rfl rfl
        have q5 := M.c 5 2 rfl rfl
        have HM := show Hid _ from M
        clear M
        go_wp2_with fail
        have M := HM.out
        clear HM y0 q0 q1 q2 q3 q4 q5
        refine (t6 q.kind q.value 1 (.slice bv q.kids.length bc) _).mono ?_
        rintro x w1 ⟨rfl, b1⟩
        rw [show (decide (q.kind = 1) && decide (q.value = 1)) = n5 q 1 from rfl]
        replace M := M.call b1
        clear b1
        cases hK2 : n5 q 1
        ·have HN : Hid (o3 ⟨e.kind, e.value, [p, q]⟩ = ⟨e.kind, e.value, [p, q]⟩) := by have hq := HQK.out; rw [Hid, HN0.out, if_neg HCN.out, if_neg (by simp [hq, hK]), if_neg (by simp [hq, hK2])]
         clear hK2 hK HQK HN0
         have y0 := M.c 0 0 rfl rfl
         have d0 := M.c 1 0 rfl rfl
         have d1 := M.c 1 1 rfl rfl
         have d2 := M.c 1 2 rfl rfl
         have o0 := M.c 2 0 rfl rfl
         have o1 := M.c 2 1 rfl rfl
         have o2 := M.c 2 2 rfl rfl
         have ff := M.f 1 rfl
         have HM := show Hid _ from ((M.set 1 rfl 0 (.int .i64 e.kind)).set 1 rfl 1 (.int .i64 e.value)).set 1 rfl 2 (.slice (some ⟨g, off, none⟩) 2 cap)
         clear M
         go_wp2_with fail
         have M2 := HM.out
         have r0 : World.cell? _ ⟨w.heap.size + 1, 0, none⟩ = some (.int .i64 e.kind) := M2.c 1 0 rfl rfl
         have r1 : World.cell? _ ⟨w.heap.size + 1, 1, none⟩ = some (.int .i64 e.value) := M2.c 1 1 rfl rfl
         have r2 : World.cell? _ ⟨w.heap.size + 1, 2, none⟩ = some (.slice (some ⟨g, off, none⟩) 2 cap) := M2.c 1 2 rfl rfl
         refine bodyPost_ret (v := .agg #[.int .i64 e.kind, .int .i64 e.value, .slice (some ⟨g, off, none⟩) 2 cap]) (by simp [results, Tryz.results127, go_sem, r0, r1, r2]) rfl ?_
         show L9 w e _ _
         unfold L9
         rw [HND.out, HN.out]
         exact ⟨_, _, S', rfl, (M2.o 3 rfl).2.2.2.2.2.2.2.2.2, fun b hb => ⟨(M2.ge _ b (bR3 (i := 3) rfl) hb).elim (fun h => h) fun h => absurd bR2 h, M2.lt (bR3 (i := 3) rfl) hb⟩, M2.below fun _ _ => trivial⟩
        ·have HN : Hid (o3 ⟨e.kind, e.value, [p, q]⟩ = p) := by have hq := HQK.out; rw [Hid, HN0.out, if_neg HCN.out, if_neg (by simp [hq, hK]), if_pos (by simp [hq, hK2])]
         clear hK2 hK HQK HN0
         have y0 := M.c 0 0 rfl rfl
         have d0 := M.c 1 0 rfl rfl
         have d1 := M.c 1 1 rfl rfl
         have d2 := M.c 1 2 rfl rfl
         have q0 := M.c 4 0 rfl rfl
         have q1 := M.c 4 1 rfl rfl
         have q2 := M.c 4 2 rfl rfl
         have ff := M.f 1 rfl
         have HM := show Hid _ from ((M.set 1 rfl 0 (.int .i64 p.kind)).set 1 rfl 1 (.int .i64 p.value)).set 1 rfl 2 (.slice av p.kids.length ac)
         clear M
         go_wp2_with fail
         have M2 := HM.out
         have r0 : World.cell? _ ⟨w.heap.size + 1, 0, none⟩ = some (.int .i64 p.kind) := M2.c 1 0 rfl rfl
         have r1 : World.cell? _ ⟨w.heap.size + 1, 1, none⟩ = some (.int .i64 p.value) := M2.c 1 1 rfl rfl
         have r2 : World.cell? _ ⟨w.heap.size + 1, 2, none⟩ = some (.slice av p.kids.length ac) := M2.c 1 2 rfl rfl
         refine bodyPost_ret (v := .agg #[.int .i64 p.kind, .int .i64 p.value, .slice av p.kids.length ac]) (by simp [results, Tryz.results127, go_sem, r0, r1, r2]) rfl ?_
         show L9 w e _ _
         unfold L9
         rw [HND.out, HN.out]
         exact ⟨_, _, S', rfl, (M2.o 3 rfl).2.2.2.2.2.2.2.1, fun b hb => ⟨(M2.ge _ b (bR3 (i := 3) rfl) hb).elim (fun h => h) fun h => absurd bR2 h, M2.lt (bR3 (i := 3) rfl) hb⟩, M2.below fun _ _ => trivial⟩
       ·have HN : Hid (o3 ⟨e.kind, e.value, [p, q]⟩ = q) := by have hq := HQK.out; rw [Hid, HN0.out, if_neg HCN.out, if_pos (by simp [hq, hK])]
        clear hK HQK HN0
        have y0 := M.c 0 0 rfl rfl
        have d0 := M.c 1 0 rfl rfl
        have d1 := M.c 1 1 rfl rfl
        have d2 := M.c 1 2 rfl rfl
        have q3 := M.c 5 0 rfl rfl
        have q4 := M.c 5 1 rfl rfl
        have q5 := M.c 5 2 rfl rfl
        have ff := M.f 1 rfl
        have HM := show Hid _ from ((M.set 1 rfl 0 (.int .i64 q.kind)).set 1 rfl 1 (.int .i64 q.value)).set 1 rfl 2 (.slice bv q.kids.length bc)
        clear M
        go_wp2_with fail
        have M2 := HM.out
        have r0 : World.cell? _ ⟨w.heap.size + 1, 0, none⟩ = some (.int .i64 q.kind) := M2.c 1 0 rfl rfl
        have r1 : World.cell? _ ⟨w.heap.size + 1, 1, none⟩ = some (.int .i64 q.value) := M2.c 1 1 rfl rfl
        have r2 : World.cell? _ ⟨w.heap.size + 1, 2, none⟩ = some (.slice bv q.kids.length bc) := M2.c 1 2 rfl rfl
        refine bodyPost_ret (v := .agg #[.int .i64 q.kind, .int .i64 q.value, .slice bv q.kids.length bc]) (by simp [results, Tryz.results127, go_sem, r0, r1, r2]) rfl ?_
        show L9 w e _ _
        unfold L9
        rw [HND.out, HN.out]
        exact ⟨_, _, S', rfl, (M2.o 3 rfl).2.2.2.2.2.2.2.2.1, fun b hb => ⟨(M2.ge _ b (bR3 (i := 3) rfl) hb).elim (fun h => h) fun h => absurd bR2 h, M2.lt (bR3 (i := 3) rfl) hb⟩, M2.below fun _ _ => trivial⟩
      have HN6 := show Hid _ from hq
      clear hq
      have p4 : (e.kind == 4) = false := by
       have h : ¬ e.kind = 4 := HN4.out
       simp [h]
      have p8 : (e.kind == 8) = false := by
       have h : ¬ e.kind = 8 := HN8.out
       simp [h]
      have p5 : (e.kind == 5) = false := by
       have h : ¬ e.kind = 5 := HN5.out
       simp [h]
      have p6 : (e.kind == 6) = false := by
       have h : ¬ e.kind = 6 := HN6.out
       simp [h]
      have HN : Hid (o3 ⟨e.kind, e.value, [p, q]⟩ = ⟨e.kind, e.value, [p, q]⟩) := by
       have h4 : ¬ e.kind = 4 := HN4.out
       have h5 : ¬ e.kind = 5 := HN5.out
       have h6 : ¬ e.kind = 6 := HN6.out
       have h8 : ¬ e.kind = 8 := HN8.out
       rw [Hid, HN0.out, if_neg HCN.out, if_neg (by simp [h4, h5, h6, h8]), if_neg (by simp [h4, h5, h6, h8])]
      clear HN4 HN5 HN6 HN8 HN0
      have y0 := M.c 0 0 rfl rfl
      have d0 := M.c 1 0 rfl rfl
      have d1 := M.c 1 1 rfl rfl
      have d2 := M.c 1 2 rfl rfl
      have o0 := M.c 2 0 rfl rfl
      have o1 := M.c 2 1 rfl rfl
      have o2 := M.c 2 2 rfl rfl
      have q0 := M.c 4 0 rfl rfl
      have q1 := M.c 4 1 rfl rfl
      have q2 := M.c 4 2 rfl rfl
      have q3 := M.c 5 0 rfl rfl
      have q4 := M.c 5 1 rfl rfl
      have q5 := M.c 5 2 rfl rfl
      have ff := M.f 1 rfl
      have HM := show Hid _ from ((M.set 1 rfl 0 (.int .i64 e.kind)).set 1 rfl 1 (.int .i64 e.value)).set 1 rfl 2 (.slice (some ⟨g, off, none⟩) 2 cap)
      clear M
      go_wp2_with fail
      have M2 := HM.out
      have r0 : World.cell? _ ⟨w.heap.size + 1, 0, none⟩ = some (.int .i64 e.kind) := M2.c 1 0 rfl rfl
      have r1 : World.cell? _ ⟨w.heap.size + 1, 1, none⟩ = some (.int .i64 e.value) := M2.c 1 1 rfl rfl
      have r2 : World.cell? _ ⟨w.heap.size + 1, 2, none⟩ = some (.slice (some ⟨g, off, none⟩) 2 cap) := M2.c 1 2 rfl rfl
      refine bodyPost_ret (v := .agg #[.int .i64 e.kind, .int .i64 e.value, .slice (some ⟨g, off, none⟩) 2 cap]) (by simp [results, Tryz.results127, go_sem, r0, r1, r2]) rfl ?_
      show L9 w e _ _
      unfold L9
      rw [HND.out, HN.out]
      exact ⟨_, _, S', rfl, (M2.o 3 rfl).2.2.2.2.2.2.2.2.2, fun b hb => ⟨(M2.ge _ b (bR3 (i := 3) rfl) hb).elim (fun h => h) fun h => absurd bR2 h, M2.lt (bR3 (i := 3) rfl) hb⟩, M2.below fun _ _ => trivial⟩
   ·have pk : (e.kind == 11) = false := by simp; omega
    have pw : (decide (4 ≤ e.kind) && decide (e.kind ≤ 10)) = false := by simp; omega
    have HN : Hid (o3 ⟨e.kind, e.value, ks'⟩ = ⟨e.kind, e.value, ks'⟩) := by
     match ks', h3 with
     | [], _ => rfl
     | [_], _ => rfl
    have HKL := show Hid _ from hkl
    clear h1 h2 hkl
    have y0 := M.c 0 0 rfl rfl
    have d0 := M.c 1 0 rfl rfl
    have d1 := M.c 1 1 rfl rfl
    have d2 := M.c 1 2 rfl rfl
    have ff := M.f 1 rfl
    have o0 := M.c 2 0 rfl rfl
    have o1 := M.c 2 1 rfl rfl
    have o2 := M.c 2 2 rfl rfl
    have HM := show Hid _ from M
    clear M
    go_wp2_with fail
    have M := HM.out
    clear HM y0 d0 d1 d2 ff o0 o1 o2
    refine (A7 e.kind 4 10 _).mono ?_
    rintro x w1 ⟨rfl, rfl⟩
    rw [pw]
    clear pw pk
    have y0 := M.c 0 0 rfl rfl
    have d0 := M.c 1 0 rfl rfl
    have d1 := M.c 1 1 rfl rfl
    have d2 := M.c 1 2 rfl rfl
    have ff := M.f 1 rfl
    have o0 := M.c 2 0 rfl rfl
    have o1 := M.c 2 1 rfl rfl
    have o2 := M.c 2 2 rfl rfl
    have HM := show Hid _ from ((M.set 1 rfl 0 (.int .i64 e.kind)).set 1 rfl 1 (.int .i64 e.value)).set 1 rfl 2 (.slice a k c)
    clear M
    go_wp2_with fail
    have M2 := HM.out
    have r0 : World.cell? _ ⟨w.heap.size + 1, 0, none⟩ = some (.int .i64 e.kind) := M2.c 1 0 rfl rfl
    have r1 : World.cell? _ ⟨w.heap.size + 1, 1, none⟩ = some (.int .i64 e.value) := M2.c 1 1 rfl rfl
    have r2 : World.cell? _ ⟨w.heap.size + 1, 2, none⟩ = some (.slice a k c) := M2.c 1 2 rfl rfl
    refine bodyPost_ret (v := .agg #[.int .i64 e.kind, .int .i64 e.value, .slice a k c]) (by simp [results, Tryz.results127, go_sem, r0, r1, r2]) rfl ?_
    show L9 w e _ _
    unfold L9
    rw [HND.out, HN.out]
    rw [show (b9.mk e.kind e.value ks').kids.length = k from HKL.out.symm]
    exact ⟨a, c, S', rfl, M2.o 3 rfl, fun b hb => ⟨(M2.ge _ b (bR3 (i := 3) rfl) hb).elim (fun h => h) fun h => absurd bR2 h, M2.lt (bR3 (i := 3) rfl) hb⟩, M2.below fun _ _ => trivial⟩
theorem av6 {f : FuncId} {e : b9} (h : ∀ (φ : Nat → Prop) (v : Value) (w : World), L1 w φ v e → Calls Tryz.prog f #[v] w fun x w' => L9 w e x w') : l7.ok Tryz.prog ⟨f, [eA e 0], eS e, eS e ++ [.tree (.exprs (d8 e).kids)], .agg [iA (d8 e).kind, iA (d8 e).value, .tref 1]⟩ := by
 intro ι φ ψ w0 w F ρ M
 refine (h (X5 φ (s6 F ρ (v5 (eS e)))) _ w ⟨ρ 0, rfl, M.datAt (id := 0) (d := .exprs e.kids) rfl⟩).mono ?_
 rintro x w' ⟨v1, c, S, rfl, hO, hS, hbl⟩
 obtain ⟨z, hz1, hz2⟩ := am2 (.slice v1 (d8 e).kids.length c) S w'.heap.size fun b h => (hS b h).2
 have e0 : F5 z = S := funext fun b => propext (hz2 b)
 refine ⟨fun i => if i = 1 then z else ρ i, fun i hi => if_neg (show ¬ i = 1 by have : i < 1 := hi; omega), by simp [AV.val, AV.vals, hz1], ?_⟩
 refine M.grow hbl (fun k => k = .inr 1) (fun k hk => ?_) ?_ ?_ ?_
 ·cases k with
  | inl i => rfl
  | inr j =>
   match j, hk with
   | 0, _ => rfl
   | 1, h => exact absurd rfl h
   | j + 2, _ => rfl
 ·rintro k rfl b hb
  exact (hS b ((hz2 b).1 hb)).1
 ·rintro j k b hjk rfl rfl; exact absurd rfl hjk
 ·rintro k rfl
  show (Rs.own (F5 z) fun w => E4 w (F5 z) (.exprs (d8 e).kids) (D8 z)).holds _ _
  rw [hz1, e0]
  exact ⟨fun _ _ h hs => h.same hs, E4.kids.2 hO, fun b hb => (hS b hb).2⟩
theorem bs7 (e : b9) (hg : E1 e = true) : l7.ok Tryz.prog (foC 133 e) :=
 l7.datPost (S0 := eS e) (S := eS e) (d := .exprs (d8 e).kids) (av6 fun φ v w h => aT3 e hg φ v w h) (.agg [iA (d8 e).kind, iA (d8 e).value, .ref 1])
theorem bG2 (e : b9) (hg : E1 e = true) : l7.ok Tryz.prog (foC 127 e) :=
 l7.datPost (S0 := eS e) (S := eS e) (d := .exprs (d8 e).kids) (av6 fun φ v w h => bf7 e hg φ v w h) (.agg [iA (d8 e).kind, iA (d8 e).value, .ref 1])
theorem aH9 (p : f5) (hb : p.size ≤ 1048576) : l7.ok Tryz.prog ⟨17, [pA 0], pS p, pS p ++ pS (l6 p), .tup [pA 3, bA (m0 p)]⟩ := aG9 p hb fun ss h1 h2 => bp6 _ _ bs7 5 ss h1 h2
theorem aF8 (p : f5) (hb : p.size ≤ 1048576) : l7.ok Tryz.prog ⟨16, [pA 0], pS p, pS p ++ oP (l6 p), .tup [oA 3, bA (m0 p)]⟩ := aB7 p hb fun ss h1 h2 => a50 _ _ bG2 5 ss h1 h2
def pkX (b : List UInt8) (k : Int) : Int := ((b.getD (k.tmod b.length).toNat 0).toNat : Int) * 131 + ((b.getD ((k * 7 + 3).tmod b.length).toNat 0).toNat : Int) * 1117 + k * 29 + k.tdiv b.length * 53
def pk (b : List UInt8) (k n : Int) : Int :=
 if n < 1 ∨ b.length = 0 then 0 else if k < b.length then ((b.getD k.toNat 0).toNat : Int).tmod n else (a08 (pkX b k) ((pkX b k).tdiv 64)).tmod n
def nm (b : List UInt8) (k : Int) (l : List Int) : Int := l.getD (pk b k l.length).toNat 0
theorem bv0 {x y : Int} (hx : 0 ≤ x) (hx2 : x < 9223372036854775808) (hy : 0 ≤ y) (hy2 : y < 9223372036854775808) : 0 ≤ a08 x y := by
 obtain ⟨a, rfl⟩ := Int.eq_ofNat_of_zero_le hx
 obtain ⟨c, rfl⟩ := Int.eq_ofNat_of_zero_le hy
 have ha : a < 2 ^ 63 := by omega
 have hc : c < 2 ^ 63 := by omega
 have h : (BitVec.ofInt (IntKind.bits .i64) (a : Int) ^^^ BitVec.ofInt (IntKind.bits .i64) (c : Int)).toNat < 2 ^ 63 := by
  rw [BitVec.toNat_xor]
  refine Nat.xor_lt_two_pow ?_ ?_
  ·simp only [BitVec.ofInt_natCast, BitVec.toNat_ofNat, IntKind.bits]; omega
  ·simp only [BitVec.ofInt_natCast, BitVec.toNat_ofNat, IntKind.bits]; omega
 unfold a08
 generalize (BitVec.ofInt (IntKind.bits .i64) (a : Int) ^^^ BitVec.ofInt (IntKind.bits .i64) (c : Int)).toNat = z at h ⊢
 rw [w64 (by omega) (by omega)]
 omega
theorem aJ4 (x : UInt8) : ((x.toNat : Nat) : Int) ≤ 255 := by have := x.toNat_lt; omega
theorem aS7 {k n : Int} (hk : 0 ≤ k) (hn : 1 ≤ n) : 0 ≤ k.tdiv n ∧ k.tdiv n ≤ k := by
 refine ⟨Int.tdiv_nonneg hk (by omega), ?_⟩
 rw [Int.tdiv_eq_ediv_of_nonneg hk]
 exact Int.ediv_le_self _ hk
theorem aU8 {b : List UInt8} {k : Int} (hk : 0 ≤ k) (hk2 : k ≤ 1000000000) (hb : b.length ≠ 0) : 0 ≤ pkX b k ∧ pkX b k ≤ 100000000000 := by
 unfold pkX
 have h1 := aJ4 (b.getD (k.tmod b.length).toNat 0)
 have h2 := aJ4 (b.getD ((k * 7 + 3).tmod b.length).toNat 0)
 have h3 := aS7 (n := b.length) hk (by omega)
 omega
theorem a12 {x n : Int} (hx : 0 ≤ x) (hn : 1 ≤ n) : 0 ≤ x.tmod n ∧ x.tmod n < n := ⟨Int.tmod_nonneg _ hx, Int.tmod_lt_of_pos _ (by omega)⟩
theorem ac6 {b : List UInt8} {k : Int} (hk : 0 ≤ k) (hk2 : k ≤ 1000000000) (hb : b.length ≠ 0) : 0 ≤ (pkX b k).tdiv 64 ∧ (pkX b k).tdiv 64 ≤ 100000000000 := by
 have h := aU8 hk hk2 hb
 have h2 := aS7 (n := 64) h.1 (by omega)
 omega
theorem bO1 (b : List UInt8) {k n : Int} (hk : 0 ≤ k) (hk2 : k ≤ 1000000000) (hn : 1 ≤ n) : 0 ≤ pk b k n ∧ pk b k n < n := by
 unfold pk
 split
 ·omega
 ·split
  ·exact a12 (by omega) hn
  ·have h := aU8 hk hk2 (show b.length ≠ 0 by omega)
   have h2 := ac6 hk hk2 (show b.length ≠ 0 by omega)
   exact a12 (bv0 h.1 (by omega) h2.1 (by omega)) hn
theorem ba6 (b : List UInt8) {k : Int} (hk : 0 ≤ k) (hk2 : k ≤ 1000000000) {l : List Int} (hl : l ≠ []) : 0 ≤ pk b k l.length ∧ pk b k l.length < l.length ∧ (pk b k l.length).toNat < l.length := by
 have h0 : 0 < l.length := List.length_pos_iff.2 hl
 have h := bO1 b (n := l.length) hk hk2 (by omega)
 omega
theorem aP0 (b : List UInt8) {k : Int} (hk : 0 ≤ k) (hk2 : k ≤ 1000000000) {l : List Int} (hl : l ≠ []) : nm b k l ∈ l := by
 unfold nm
 rw [s4 (ba6 b hk hk2 hl).2.2]
 exact bS7 _
abbrev l1L : List Int := [-1] ++ ([4] ++ ([9223372036854775807] ++ ([-9223372036854775808] ++ [])))
def l1D (b : List UInt8) (k : Int) : Int := if pk b k 12 = 0 then nm b (k + 1) l1L else pk b (k + 1) 4
def G7 {α : Type} (f : Int → α × Int) : Nat → Int → List α × Int
 | 0, k => ([], k)
 | n + 1, k => ((G7 f n k).1 ++ [(f (G7 f n k).2).1], (f (G7 f n k).2).2)
theorem aQ3 {α : Type} (f : Int → α × Int) (n : Nat) (k : Int) : (G7 f n k).1.length = n := by
 induction n with
 | zero => rfl
 | succ n ih => simp [G7, ih]
theorem bs3 {α : Type} {f : Int → α × Int} {c : Int} (hc : 0 ≤ c) {m : Nat} : ∀ (n : Nat) (k : Int), n ≤ m → (∀ j, k ≤ j → j ≤ k + m * c → j ≤ (f j).2 ∧ (f j).2 ≤ j + c) → k ≤ (G7 f n k).2 ∧ (G7 f n k).2 ≤ k + n * c := by
 intro n
 induction n with
 | zero => intro k _ _; simp [G7]
 | succ n ih =>
  intro k hm h
  have h1 := ih k (by omega) h
  have e : ((n + 1 : Nat) : Int) * c = n * c + c := by rw [Int.natCast_add, Int.add_mul]; simp
  have h3 : ((n + 1 : Nat) : Int) * c ≤ m * c := bV3 (by omega) hc
  have h2 := h (G7 f n k).2 h1.1 (by omega)
  simp only [G7]
  rw [e]
  omega
theorem bz0 {α : Type} {f : Int → α × Int} {Q : α → Prop} (h : ∀ j, Q (f j).1) (n : Nat) (k : Int) : ∀ x ∈ (G7 f n k).1, Q x := by
 induction n with
 | zero => intro x hx; cases hx
 | succ n ih =>
  intro x hx
  simp only [G7, bT2, bV0] at hx
  rcases hx with hx | rfl
  ·exact ih x hx
  ·exact h _
abbrev atL : List Int := [1] ++ ([0] ++ ([2] ++ ([3] ++ ([255] ++ ([7] ++ ([128] ++ []))))))
def s0 (b : List UInt8) (nv : Int) (k : Int) : b9 := if pk b k 3 = 0 then ⟨1, nm b (k + 1) atL, []⟩ else ⟨2, pk b (k + 1) nv, []⟩
abbrev N4 : List Int := [4] ++ ([10] ++ ([8] ++ ([9] ++ ([3] ++ ([6] ++ ([7] ++ ([5] ++ ([11] ++ []))))))))
def L6 (b : List UInt8) (nv na : Int) : Nat → Int → b9 × Int
 | 0, k => (s0 b nv k, k + 2)
 | d + 1, k => if d = 0 then (s0 b nv k, k + 2) else if pk b k 4 = 0 then (s0 b nv (k + 1), k + 3)
  else if nm b (k + 1) N4 = 3 then (if na = 0 then (s0 b nv (k + 2), k + 4) else (⟨3, pk b (k + 2) na, [s0 b nv (k + 3)]⟩, k + 5))
  else (⟨nm b (k + 1) N4, 0, (G7 (L6 b nv na d) (o6 (nm b (k + 1) N4)).toNat (k + 2)).1⟩, (G7 (L6 b nv na d) (o6 (nm b (k + 1) N4)).toNat (k + 2)).2)
def cE : Nat → Int
 | 0 => 2
 | d + 1 => 5 + 3 * cE d
theorem aG0 (d : Nat) : 2 ≤ cE d := by
 induction d with
 | zero => exact Int.le_refl _
 | succ d ih => simp only [cE]; omega
theorem ar3 (k : Int) : (o6 k).toNat ≤ 3 := by unfold o6; (repeat' split) <;> decide
theorem aX9 (b : List UInt8) (nv na : Int) : ∀ (d : Nat) (k : Int), k ≤ (L6 b nv na d k).2 ∧ (L6 b nv na d k).2 ≤ k + cE d
 | 0, k => by simp only [L6, cE]; omega
 | d + 1, k => by
  have hc := aG0 d
  rw [L6]
  simp only [cE]
  split
  ·simp only; omega
  ·split
   ·simp only; omega
   ·split
    ·split <;> (simp only; omega)
    ·have h3 := ar3 (nm b (k + 1) N4)
     have h := bs3 (f := L6 b nv na d) (c := cE d) (m := 3) (by omega) (o6 (nm b (k + 1) N4)).toNat (k + 2) h3 fun j _ _ => aX9 b nv na d j
     have h4 : ((o6 (nm b (k + 1) N4)).toNat : Int) * cE d ≤ 3 * cE d := bV3 (by omega) (by omega)
     simp only
     omega
theorem a89 {c : Nat} : ∀ {l : List b9}, (∀ x ∈ l, L4 x ≤ c) → s8 l ≤ l.length * (1 + c)
 | [], _ => bU3 _
 | e :: r, h => by
  have h1 := h e (bS4 ..)
  have h2 := a89 (l := r) fun x hx => h x (bS9 _ hx)
  simp only [s8, bR7]
  rw [Nat.add_mul]
  omega
theorem bs4 (b : List UInt8) (nv na : Int) : ∀ (d : Nat) (k : Int), (L4 (L6 b nv na d k).1 : Int) ≤ cE d
 | 0, k => by
  simp only [L6, cE, s0]
  split <;> simp [L4, s8]
 | d + 1, k => by
  have hc := aG0 d
  have ha : ∀ j, L4 (s0 b nv j) = 0 := fun j => by unfold s0; split <;> rfl
  rw [L6]
  simp only [cE]
  split
  ·simp only [ha]; omega
  ·split
   ·simp only [ha]; omega
   ·split
    ·split
     ·simp only [ha]; omega
     ·simp only [L4, s8, ha]; omega
    ·have h3 := ar3 (nm b (k + 1) N4)
     have h1 := bz0 (f := L6 b nv na d) (Q := fun x => L4 x ≤ (cE d).toNat) (fun j => by have := bs4 b nv na d j; omega) (o6 (nm b (k + 1) N4)).toNat (k + 2)
     have h2 := a89 h1
     rw [aQ3] at h2
     simp only [L4]
     have h4 := bV1 (1 + (cE d).toNat) h3
     omega
abbrev dpL : List Int := [2] ++ ([3] ++ ([2] ++ ([1] ++ ([4] ++ []))))
def y5 (b : List UInt8) (nv na : Nat) (k : Int) : b9 × Int :=
 if i9 nv na (L6 b nv na (nm b k dpL).toNat (k + 1)).1 = true then L6 b nv na (nm b k dpL).toNat (k + 1)
 else (s0 b nv (L6 b nv na (nm b k dpL).toNat (k + 1)).2, (L6 b nv na (nm b k dpL).toNat (k + 1)).2 + 2)
theorem cE4 {d : Nat} (h : d ≤ 4) : cE d ≤ 364 := by
 match d, h with
 | 0, _ => decide
 | 1, _ => decide
 | 2, _ => decide
 | 3, _ => decide
 | 4, _ => decide
theorem dp4 (b : List UInt8) {k : Int} (hk : 0 ≤ k) (hk2 : k ≤ 1000000000) : 1 ≤ nm b k dpL ∧ nm b k dpL ≤ 4 ∧ (nm b k dpL).toNat ≤ 4 := by
 have h := aP0 b hk hk2 (l := dpL) (by simp)
 simp only [bT2, bU8, List.not_mem_nil, or_false] at h
 omega
theorem bF9 (b : List UInt8) {k : Int} (hk : 0 ≤ k) (hk2 : k ≤ 1000000000) : nm b k dpL = ((nm b k dpL).toNat : Int) := by have := dp4 b hk hk2; omega
theorem a93 (b : List UInt8) (nv na : Nat) {k : Int} (hk : 0 ≤ k) (hk2 : k ≤ 1000000000) : k ≤ (y5 b nv na k).2 ∧ (y5 b nv na k).2 ≤ k + 367 := by
 have h := aX9 b nv na (nm b k dpL).toNat (k + 1)
 have h2 := cE4 (dp4 b hk hk2).2.2
 unfold y5
 split
 ·omega
 ·simp only; omega
theorem a00 (b : List UInt8) (nv j : Int) : L4 (s0 b nv j) = 0 := by unfold s0; split <;> rfl
theorem a21 (b : List UInt8) (nv na : Nat) {k : Int} (hk : 0 ≤ k) (hk2 : k ≤ 1000000000) : L4 (y5 b nv na k).1 ≤ 364 := by
 have h := bs4 b nv na (nm b k dpL).toNat (k + 1)
 have h2 := cE4 (dp4 b hk hk2).2.2
 unfold y5
 split
 ·omega
 ·rw [a00]; omega
abbrev noE : b9 := ⟨0, 0, []⟩
abbrev J8 : List Int := [1] ++ ([1] ++ ([2] ++ ([3] ++ ([4] ++ ([1] ++ ([3] ++ ([5] ++ [])))))))
abbrev ibL : List Int := [1] ++ ([2] ++ ([1] ++ ([0] ++ [])))
abbrev ieL : List Int := [0] ++ ([1] ++ ([0] ++ ([2] ++ [])))
abbrev rcL : List Int := [2] ++ ([1] ++ ([3] ++ []))
abbrev rbL : List Int := [1] ++ ([2] ++ ([1] ++ []))
def dfS (b : List UInt8) (nv na : Nat) (kd k : Int) : b6 × Int := (⟨if kd = 5 then 5 else 1, pk b k nv, noE, (y5 b nv na (k + 1)).1, 0, [], []⟩, (y5 b nv na (k + 1)).2)
def soS (b : List UInt8) (nv na : Nat) (k : Int) : b6 × Int := (⟨2, pk b k na, s0 b nv (k + 1), (y5 b nv na (k + 1 + 2)).1, 0, [], []⟩, (y5 b nv na (k + 1 + 2)).2)
def mnD (b : List UInt8) (f : Int → b6 × Int) (l : List Int) (k : Int) : List b6 × Int := G7 f (nm b k l).toNat (k + 1)
def ifS (b : List UInt8) (nv na : Nat) (f : Int → b6 × Int) (k : Int) : b6 × Int :=
 (⟨3, 0, noE, (y5 b nv na k).1, 0, (mnD b f ibL (y5 b nv na k).2).1, (mnD b f ieL (mnD b f ibL (y5 b nv na k).2).2).1⟩, (mnD b f ieL (mnD b f ibL (y5 b nv na k).2).2).2)
def rpS (b : List UInt8) (f : Int → b6 × Int) (k : Int) : b6 × Int := (⟨4, 0, noE, noE, nm b k rcL, (mnD b f rbL (k + 1)).1, []⟩, (mnD b f rbL (k + 1)).2)
def D0 (b : List UInt8) (nv na : Nat) : Nat → Int → b6 × Int
 | 0, k => if nm b k J8 = 2 ∧ na ≠ 0 then soS b nv na (k + 1) else dfS b nv na (nm b k J8) (k + 1)
 | d + 1, k => if nm b k J8 = 2 ∧ na ≠ 0 then soS b nv na (k + 1) else if nm b k J8 = 3 ∧ d ≠ 0 then ifS b nv na (D0 b nv na d) (k + 1) else if nm b k J8 = 4 ∧ d ≠ 0 then rpS b (D0 b nv na d) (k + 1)
  else dfS b nv na (nm b k J8) (k + 1)
def cS : Nat → Int
 | 0 => 402
 | d + 1 => 402 + 4 * cS d
theorem aw1 (d : Nat) : 402 ≤ cS d := by
 induction d with
 | zero => exact Int.le_refl _
 | succ d ih => simp only [cS]; omega
section
variable (b : List UInt8) (nv na : Nat) {k : Int}
theorem bC3 (kd : Int) (hk : 0 ≤ k) (hk2 : k + 400 ≤ 1000000000) : k ≤ (dfS b nv na kd k).2 ∧ (dfS b nv na kd k).2 ≤ k + 368 := by
 have h := a93 b nv na (k := k + 1) (by omega) (by omega)
 simp only [dfS]; omega
theorem bB4 (hk : 0 ≤ k) (hk2 : k + 400 ≤ 1000000000) : k ≤ (soS b nv na k).2 ∧ (soS b nv na k).2 ≤ k + 370 := by
 have h := a93 b nv na (k := k + 1 + 2) (by omega) (by omega)
 simp only [soS]; omega
theorem nm2 {l : List Int} (hl : l ≠ []) (h : ∀ x ∈ l, 0 ≤ x ∧ x ≤ 2) (hk : 0 ≤ k) (hk2 : k ≤ 1000000000) : (nm b k l).toNat ≤ 2 ∧ nm b k l = ((nm b k l).toNat : Int) := by
 have := h _ (aP0 b hk hk2 hl); omega
theorem bo6 {f : Int → b6 × Int} {c : Int} {l : List Int} (hl : l ≠ []) (h : ∀ x ∈ l, 0 ≤ x ∧ x ≤ 2) (hc : 0 ≤ c) (hk : 0 ≤ k) (hk2 : k + 1 + 2 * c ≤ 1000000000) (hf : ∀ j, 0 ≤ j → j + c ≤ 1000000000 → j ≤ (f j).2 ∧ (f j).2 ≤ j + c) : k ≤ (mnD b f l k).2 ∧ (mnD b f l k).2 ≤ k + 1 + 2 * c := by
 have h2 := (nm2 b hl h hk (by omega)).1
 have h3 : ∀ m : Nat, m ≤ 2 → k + 1 ≤ (G7 f m (k + 1)).2 ∧ (G7 f m (k + 1)).2 ≤ k + 1 + m * c := by
  intro m
  induction m with
  | zero => intro _; simp [G7]
  | succ m ih =>
   intro hm
   have h4 := ih (by omega)
   have h6 : (m : Int) * c ≤ 1 * c := bV3 (by omega) hc
   have h5 := hf (G7 f m (k + 1)).2 (by omega) (by omega)
   have e : ((m + 1 : Nat) : Int) * c = m * c + c := by rw [Int.natCast_add, Int.add_mul]; simp
   simp only [G7]
   rw [e]
   omega
 have h4 := h3 _ h2
 have h6 : ((nm b k l).toNat : Int) * c ≤ 2 * c := bV3 (by omega) hc
 unfold mnD
 omega
theorem a48 : ∀ x : Int, x ∈ ibL → 0 ≤ x ∧ x ≤ 2 := by intro x hx; simp only [bT2, bU8, List.not_mem_nil, or_false] at hx; omega
theorem a46 : ∀ x : Int, x ∈ ieL → 0 ≤ x ∧ x ≤ 2 := by intro x hx; simp only [bT2, bU8, List.not_mem_nil, or_false] at hx; omega
theorem a28 : ∀ x : Int, x ∈ rbL → 0 ≤ x ∧ x ≤ 2 := by intro x hx; simp only [bT2, bU8, List.not_mem_nil, or_false] at hx; omega
theorem bC0 {f : Int → b6 × Int} {c : Int} (hc : 0 ≤ c) (hk : 0 ≤ k) (hk2 : k + 380 + 4 * c ≤ 1000000000) (hf : ∀ j, 0 ≤ j → j + c ≤ 1000000000 → j ≤ (f j).2 ∧ (f j).2 ≤ j + c) : k ≤ (y5 b nv na k).2 ∧ (y5 b nv na k).2 ≤ k + 367 ∧ (y5 b nv na k).2 ≤ (mnD b f ibL (y5 b nv na k).2).2 ∧ (mnD b f ibL (y5 b nv na k).2).2 ≤ k + 370 + 2 * c ∧ k ≤ (ifS b nv na f k).2 ∧ (ifS b nv na f k).2 ≤ k + 380 + 4 * c := by
 have h1 := a93 b nv na (k := k) (by omega) (by omega)
 have h2 := bo6 b (k := (y5 b nv na k).2) (f := f) (c := c) (l := ibL) (by simp) a48 hc (by omega) (by omega) hf
 have h3 := bo6 b (k := (mnD b f ibL (y5 b nv na k).2).2) (f := f) (c := c) (l := ieL) (by simp) a46 hc (by omega) (by omega) hf
 simp only [ifS]
 omega
theorem bI9 {f : Int → b6 × Int} {c : Int} (hc : 0 ≤ c) (hk : 0 ≤ k) (hk2 : k + 10 + 2 * c ≤ 1000000000) (hf : ∀ j, 0 ≤ j → j + c ≤ 1000000000 → j ≤ (f j).2 ∧ (f j).2 ≤ j + c) : k ≤ (rpS b f k).2 ∧ (rpS b f k).2 ≤ k + 10 + 2 * c := by
 have h2 := bo6 b (k := k + 1) (f := f) (c := c) (l := rbL) (by simp) a28 hc (by omega) (by omega) hf
 simp only [rpS]; omega
theorem aT1 : ∀ (d : Nat) (k : Int), 0 ≤ k → k + cS d ≤ 1000000000 → k ≤ (D0 b nv na d k).2 ∧ (D0 b nv na d k).2 ≤ k + cS d
 | 0, k, hk, hk2 => by
  rw [D0]
  simp only [cS] at hk2 ⊢
  have h1 := bB4 b nv na (k := k + 1) (by omega) (by omega)
  have h2 := bC3 b nv na (k := k + 1) (nm b k J8) (by omega) (by omega)
  split <;> omega
 | d + 1, k, hk, hk2 => by
  rw [D0]
  simp only [cS] at hk2 ⊢
  have hc := aw1 d
  have ih := aT1 d
  have h1 := bB4 b nv na (k := k + 1) (by omega) (by omega)
  have h2 := bC3 b nv na (k := k + 1) (nm b k J8) (by omega) (by omega)
  have h3 := bC0 b nv na (k := k + 1) (f := D0 b nv na d) (c := cS d) (by omega) (by omega) (by omega) ih
  have h4 := bI9 b (k := k + 1) (f := D0 b nv na d) (c := cS d) (by omega) (by omega) (by omega) ih
  (repeat' split) <;> omega
theorem a39 : L4 noE = 0 := rfl
theorem bs5 (kd : Int) (hk : 0 ≤ k) (hk2 : k + 400 ≤ 1000000000) : V9 (dfS b nv na kd k).1 ≤ 364 := by
 have h := a21 b nv na (k := k + 1) (by omega) (by omega)
 simp only [dfS, V9, r6, a39]; omega
theorem bl1 (hk : 0 ≤ k) (hk2 : k + 400 ≤ 1000000000) : V9 (soS b nv na k).1 ≤ 364 := by
 have h := a21 b nv na (k := k + 1 + 2) (by omega) (by omega)
 simp only [soS, V9, r6, a00]; omega
def Drw (f : Int → b6 × Int) (c : Int) : Prop := ∀ j, 0 ≤ j → j + c ≤ 1000000000 → j ≤ (f j).2 ∧ (f j).2 ≤ j + c ∧ (V9 (f j).1 : Int) ≤ c
theorem aQ2 {f : Int → b6 × Int} {c : Int} (hc : 0 ≤ c) (hf : Drw f c) : ∀ (m : Nat) (k : Int), 0 ≤ k → k + m * c ≤ 1000000000 → k ≤ (G7 f m k).2 ∧ (G7 f m k).2 ≤ k + m * c ∧ (r6 (G7 f m k).1 : Int) ≤ m * (1 + c) := by
 intro m
 induction m with
 | zero => intro k _ _; simp [G7, r6]
 | succ m ih =>
  intro k hk hk2
  have e : ((m + 1 : Nat) : Int) * c = m * c + c := by rw [Int.natCast_add, Int.add_mul]; simp
  have e2 : ((m + 1 : Nat) : Int) * (1 + c) = m * (1 + c) + (1 + c) := by rw [Int.natCast_add, Int.add_mul]; simp
  rw [e] at hk2
  have h4 := ih k hk (by omega)
  have h5 := hf (G7 f m k).2 (by omega) (by omega)
  have h6 : r6 ((G7 f m k).1 ++ [(f (G7 f m k).2).1]) = r6 (G7 f m k).1 + (1 + V9 (f (G7 f m k).2).1) := by
   generalize (G7 f m k).1 = l
   induction l with
   | nil => simp [r6]
   | cons a r ih => simp only [List.cons_append, r6]; omega
  simp only [G7]
  rw [e, e2, h6]
  omega
theorem a41 {f : Int → b6 × Int} {c : Int} {l : List Int} (hl : l ≠ []) (h : ∀ x ∈ l, 0 ≤ x ∧ x ≤ 2) (hc : 0 ≤ c) (hk : 0 ≤ k) (hk2 : k + 1 + 2 * c ≤ 1000000000) (hf : Drw f c) : (r6 (mnD b f l k).1 : Int) ≤ 2 * (1 + c) := by
 have h2 := (nm2 b hl h hk (by omega)).1
 have h6 : ((nm b k l).toNat : Int) * c ≤ 2 * c := bV3 (by omega) hc
 have h7 : ((nm b k l).toNat : Int) * (1 + c) ≤ 2 * (1 + c) := bV3 (by omega) (by omega)
 have h3 := (aQ2 hc hf (nm b k l).toNat (k + 1) (by omega) (by omega)).2.2
 unfold mnD
 omega
theorem a17 : ∀ (d : Nat) (k : Int), 0 ≤ k → k + cS d ≤ 1000000000 → (V9 (D0 b nv na d k).1 : Int) ≤ cS d
 | 0, k, hk, hk2 => by
  rw [D0]
  simp only [cS] at hk2 ⊢
  have h1 := bl1 b nv na (k := k + 1) (by omega) (by omega)
  have h2 := bs5 b nv na (k := k + 1) (nm b k J8) (by omega) (by omega)
  split <;> omega
 | d + 1, k, hk, hk2 => by
  rw [D0]
  simp only [cS] at hk2 ⊢
  have hc := aw1 d
  have ih := aT1 b nv na d
  have hf : Drw (D0 b nv na d) (cS d) := fun j h1 h2 => ⟨(ih j h1 h2).1, (ih j h1 h2).2, a17 d j h1 h2⟩
  have h1 := bl1 b nv na (k := k + 1) (by omega) (by omega)
  have h2 := bs5 b nv na (k := k + 1) (nm b k J8) (by omega) (by omega)
  have h3 := bC0 b nv na (k := k + 1) (f := D0 b nv na d) (c := cS d) (by omega) (by omega) (by omega) ih
  have h4 := a21 b nv na (k := k + 1) (by omega) (by omega)
  have h5 := a41 b (k := (y5 b nv na (k + 1)).2) (l := ibL) (by simp) a48 (by omega) (by omega) (by omega) hf
  have h6 := a41 b (k := (mnD b (D0 b nv na d) ibL (y5 b nv na (k + 1)).2).2) (l := ieL) (by simp) a46 (by omega) (by omega) (by omega) hf
  have h7 := a41 b (k := k + 1 + 1) (l := rbL) (by simp) a28 (by omega) (by omega) (by omega) hf
  split
  ·omega
  ·split
   ·simp only [ifS, V9, a39]; omega
   ·split
    ·simp only [rpS, V9, a39, r6]; omega
    ·omega
theorem bL2 (d : Nat) : Drw (D0 b nv na d) (cS d) := fun j h1 h2 => ⟨(aT1 b nv na d j h1 h2).1, (aT1 b nv na d j h1 h2).2, a17 b nv na d j h1 h2⟩
theorem bC5 {d m i : Nat} {B : Int} (hB : (m : Int) * cS d ≤ B) (hi : i ≤ m) (hk : 0 ≤ k) (hk2 : k + B ≤ 1000000000) : k ≤ (G7 (D0 b nv na d) i k).2 ∧ (G7 (D0 b nv na d) i k).2 ≤ k + B := by
 have hc := aw1 d
 have h6 : (i : Int) * cS d ≤ m * cS d := bV3 (by omega) (by omega)
 have h := aQ2 (by omega) (bL2 b nv na d) i k hk (by omega)
 omega
theorem bd6 {d m i : Nat} {B : Int} (hB : (m : Int) * cS d ≤ B) (hi : i < m) (hk : 0 ≤ k) (hk2 : k + B ≤ 1000000000) : (G7 (D0 b nv na d) i k).2 + cS d ≤ k + B := by
 have hc := aw1 d
 have h6 : ((i + 1 : Nat) : Int) * cS d ≤ m * cS d := bV3 (by omega) (by omega)
 have e : ((i + 1 : Nat) : Int) * cS d = i * cS d + cS d := by rw [Int.natCast_add, Int.add_mul]; simp
 have h := aQ2 (by omega) (bL2 b nv na d) i k hk (by omega)
 omega
theorem bK1 {m : Int} {c : Int} (h0 : 0 ≤ m) (hm : m ≤ 2) (hc : 0 ≤ c) : (m.toNat : Int) * c ≤ 2 * c := bV3 (by omega) hc
theorem bO8 {m : Int} {c : Int} (h0 : 0 ≤ m) (hm : m ≤ 4) (hc : 0 ≤ c) : (m.toNat : Int) * c ≤ 4 * c := bV3 (by omega) hc
end
theorem aK2 (b : List UInt8) {k : Int} {l : List Int} {m : Int} (hl : l ≠ []) (h : ∀ x ∈ l, 0 ≤ x ∧ x ≤ m) (hk : 0 ≤ k) (hk2 : k ≤ 1000000000) : 0 ≤ nm b k l ∧ nm b k l ≤ m := h _ (aP0 b hk hk2 hl)
abbrev nvL : List Int := [3] ++ ([4] ++ ([2] ++ ([5] ++ [])))
abbrev viL : List Int := [0] ++ ([1] ++ ([0] ++ ([1] ++ ([2] ++ ([3] ++ [])))))
abbrev naL : List Int := [1] ++ ([2] ++ ([0] ++ ([1] ++ [])))
abbrev aiL : List Int := [0] ++ ([1] ++ ([0] ++ ([1] ++ ([3] ++ []))))
abbrev nbL : List Int := [2] ++ ([3] ++ ([1] ++ ([4] ++ [])))
def nsD (b : List UInt8) (l : List Int) (n : Nat) (k : Int) : List Int := (bT4 n).map fun (i : Nat) => nm b (k + (i : Int)) l
theorem ah8 (b : List UInt8) (l : List Int) (n : Nat) (k : Int) : (nsD b l n k).length = n := by simp [nsD]
theorem bo4 (b : List UInt8) (l : List Int) (n : Nat) (k : Int) : nsD b l (n + 1) k = nsD b l n k ++ [nm b (k + (n : Int)) l] := by
 unfold nsD; rw [List.range_succ, List.map_append]; rfl
def H8 (b : List UInt8) (k : Int) : Int := k + 1 + nm b k nvL
def kp2 (b : List UInt8) (k : Int) : Int := H8 b k + 1 + nm b (H8 b k) naL
def vsD (b : List UInt8) (k : Int) : List Int := nsD b viL (nm b k nvL).toNat (k + 1)
def asD (b : List UInt8) (k : Int) : List Int := nsD b aiL (nm b (H8 b k) naL).toNat (H8 b k + 1)
def bdD (b : List UInt8) (k : Int) : List b6 × Int := G7 (D0 b (vsD b k).length (asD b k).length 3) (nm b (kp2 b k) nbL).toNat (kp2 b k + 1)
def rwD (b : List UInt8) (k : Int) : f5 := ⟨vsD b k, asD b k, (bdD b k).1⟩
def fbP : f5 := ⟨[0, 1], [], [⟨1, 1, noE, ⟨2, 0, []⟩, 0, [], []⟩]⟩
def pgD (b : List UInt8) (k : Int) : f5 := if m0 (rwD b k) = true then rwD b k else fbP
section
variable (b : List UInt8) {k : Int}
theorem bE7 (hk : 0 ≤ k) (hk2 : k ≤ 1000000000) : 0 ≤ nm b k nvL ∧ nm b k nvL ≤ 5 := aK2 b (by simp) (by simp) hk hk2
theorem bK0 (hk : 0 ≤ k) (hk2 : k ≤ 1000000000) : 0 ≤ nm b k nbL ∧ nm b k nbL ≤ 4 := aK2 b (by simp) (by simp) hk hk2
theorem bF0 (hk : 0 ≤ k) (hk2 : k ≤ 1000000000) : 0 ≤ nm b k naL ∧ nm b k naL ≤ 2 := aK2 b (by simp) (by simp) hk hk2
theorem bp7 (hk : 0 ≤ k) (hk2 : k ≤ 10000000) : k + 1 ≤ H8 b k ∧ H8 b k ≤ k + 6 := by
 have := bE7 b hk (by omega); unfold H8; omega
theorem ba8 (hk : 0 ≤ k) (hk2 : k ≤ 10000000) : k + 2 ≤ kp2 b k ∧ kp2 b k ≤ k + 9 := by
 have h1 := bp7 b hk hk2
 have := bF0 b (k := H8 b k) (by omega) (by omega); unfold kp2; omega
theorem cS3 : cS 3 = 34170 ∧ cS 2 = 8442 := by decide
theorem bQ7 (nv na : Nat) : Drw (D0 b nv na 3) 34170 := fun j h1 h2 => by
 have e := cS3.1
 have h3 := aT1 b nv na 3 j h1 (by omega)
 have h4 := a17 b nv na 3 j h1 (by omega)
 omega
theorem bd7 (hk : 0 ≤ k) (hk2 : k ≤ 10000000) : kp2 b k ≤ (bdD b k).2 ∧ (bdD b k).2 ≤ k + 150000 ∧ r6 (bdD b k).1 ≤ 150000 := by
 have h1 := ba8 b hk hk2
 have h2 := bK0 b (k := kp2 b k) (by omega) (by omega)
 have h3 := aQ2 (f := D0 b (vsD b k).length (asD b k).length 3) (by omega) (bQ7 b _ _) (nm b (kp2 b k) nbL).toNat (kp2 b k + 1) (by omega) (by omega)
 unfold bdD
 omega
theorem bj4 (hk : 0 ≤ k) (hk2 : k ≤ 10000000) : (vsD b k).length ≤ 5 := by
 have := bE7 b hk (by omega); unfold vsD; rw [ah8]; omega
theorem bu5 (hk : 0 ≤ k) (hk2 : k ≤ 10000000) : (asD b k).length ≤ 2 := by
 have h1 := bp7 b hk hk2
 have := bF0 b (k := H8 b k) (by omega) (by omega); unfold asD; rw [ah8]; omega
theorem bn2 (hk : 0 ≤ k) (hk2 : k ≤ 10000000) : (pgD b k).size ≤ 160000 := by
 have h1 := bd7 b hk hk2
 have h2 := bj4 b hk hk2
 have h3 := bu5 b hk hk2
 unfold pgD; split
 ·show (vsD b k).length + (asD b k).length + r6 (bdD b k).1 ≤ 160000
  omega
 ·decide
end
abbrev m2L : List Int := [0] ++ ([6] ++ ([1] ++ ([5] ++ ([2] ++ []))))
abbrev m3L : List Int := [-1] ++ ([12] ++ ([1] ++ ([9223372036854775807] ++ [])))
abbrev m4L : List Int := [-1] ++ ([256] ++ ([12] ++ ([1] ++ [])))
abbrev m5L : List Int := [1] ++ ([4] ++ ([-1] ++ ([2] ++ [])))
def kdS (s : b6) (x : Int) : b6 := ⟨x, s.target, s.index, s.value, s.count, s.body, s.els⟩
def tgS (s : b6) (x : Int) : b6 := ⟨s.kind, x, s.index, s.value, s.count, s.body, s.els⟩
def vvS (s : b6) (x : Int) : b6 := ⟨s.kind, s.target, s.index, ⟨s.value.kind, x, s.value.kids⟩, s.count, s.body, s.els⟩
def ctS (s : b6) (x : Int) : b6 := ⟨s.kind, s.target, s.index, s.value, x, s.body, s.els⟩
def mtD (b : List UInt8) (p : f5) (k : Int) : f5 × Int :=
 if pk b k 60 = 0 then (if 0 < p.vars.length then (⟨p.vars.set 0 (l1D b (k + 1)), p.arrays, p.body⟩, k + 1 + 2) else (p, k + 1))
 else if pk b k 60 = 1 then (⟨p.vars ++ bT6 (13 - p.vars.length) 1, p.arrays, p.body⟩, k + 1)
 else if pk b k 60 = 2 then (if 0 < p.body.length then (⟨p.vars, p.arrays, p.body.set 0 (kdS (p.body.getD 0 bR0) (nm b (k + 1) m2L))⟩, k + 1 + 1) else (p, k + 1))
 else if pk b k 60 = 3 then (if 0 < p.body.length then (⟨p.vars, p.arrays, p.body.set ((p.body.length : Int) - 1).toNat (tgS (p.body.getD ((p.body.length : Int) - 1).toNat bR0) (nm b (k + 1) m3L))⟩, k + 1 + 1) else (p, k + 1))
 else if pk b k 60 = 4 then (if 0 < p.body.length then (⟨p.vars, p.arrays, p.body.set 0 (vvS (p.body.getD 0 bR0) (nm b (k + 1) m4L))⟩, k + 1 + 1) else (p, k + 1))
 else if pk b k 60 = 5 then (if 0 < p.body.length then (⟨p.vars, p.arrays, p.body.set 0 (ctS (p.body.getD 0 bR0) (nm b (k + 1) m5L))⟩, k + 1 + 1) else (p, k + 1))
 else if pk b k 60 = 6 then (⟨[], [], []⟩, k + 1)
 else (p, k + 1)
theorem bk1 {l : List b6} {i : Nat} {s : b6} (h : V9 s ≤ V9 (l.getD i bR0)) : r6 (l.set i s) ≤ r6 l := by
 induction l generalizing i with
 | nil => simp [r6]
 | cons a r ih =>
  cases i with
  | zero => simp only [List.set_cons_zero, r6]; simp at h; omega
  | succ i =>
   simp only [List.set_cons_succ, r6]
   have := ih (i := i) (by simpa using h)
   omega
theorem bF3 (s : b6) (x : Int) : V9 (kdS s x) = V9 s := by cases s; rfl
theorem bC8 (s : b6) (x : Int) : V9 (tgS s x) = V9 s := by cases s; rfl
theorem bC7 (s : b6) (x : Int) : V9 (vvS s x) = V9 s := by obtain ⟨_, _, _, ⟨_, _, _⟩, _, _, _⟩ := s; rfl
theorem bG4 (s : b6) (x : Int) : V9 (ctS s x) = V9 s := by cases s; rfl
theorem bF1 (b : List UInt8) (p : f5) (k : Int) : (mtD b p k).1.size ≤ p.size + 13 ∧ k ≤ (mtD b p k).2 ∧ (mtD b p k).2 ≤ k + 3 := by
 have hs : ∀ i s, V9 s = V9 (p.body.getD i bR0) → r6 (p.body.set i s) ≤ r6 p.body := fun i s h => bk1 (by omega)
 have h2 := hs 0 _ (bF3 (p.body.getD 0 bR0) (nm b (k + 1) m2L))
 have h3 := hs ((p.body.length : Int) - 1).toNat _ (bC8 (p.body.getD ((p.body.length : Int) - 1).toNat bR0) (nm b (k + 1) m3L))
 have h4 := hs 0 _ (bC7 (p.body.getD 0 bR0) (nm b (k + 1) m4L))
 have h5 := hs 0 _ (bG4 (p.body.getD 0 bR0) (nm b (k + 1) m5L))
 unfold mtD
 simp only [f5.size]
 (repeat' split) <;> (simp only [List.length_set, bS5, bT5, bS2, r6]; omega)
def tyD (b : List UInt8) (k : Int) : f5 := if pk b (bdD b k).2 4 = 0 then pgD b k else if okI (pgD b k) = true then ad3 (pgD b k) else pgD b k
theorem by2 {p : f5} : (ad3 p).size ≤ p.size := by
 unfold ad3
 split
 ·have h := (aD8 (p := p) (by rename_i h; unfold okI at h; simp at h; exact h.1)).1
  show (as1 p).1.length + (as1 p).2.length + r6 p.body ≤ _
  unfold f5.size
  have h1 : (as1 p).1.length = p.vars.length := h.1
  have h2 : (as1 p).2.length = p.arrays.length := h.2
  omega
 ·simp [f5.size, r6]
theorem bj8 (b : List UInt8) {k : Int} (hk : 0 ≤ k) (hk2 : k ≤ 10000000) : (tyD b k).size ≤ 160000 := by
 have h1 := bn2 b hk hk2
 have h2 := by2 (p := pgD b k)
 unfold tyD
 (repeat' split) <;> omega
def bsD (c : List UInt8) : List UInt8 := c.take 2000
def t3 (c : List UInt8) : f5 := (mtD (bsD c) (tyD (bsD c) 0) ((bdD (bsD c) 0).2 + 1)).1
theorem bF8 (c : List UInt8) : (t3 c).size ≤ 200000 := by
 have h1 := bj8 (bsD c) (k := 0) (by omega) (by omega)
 have h2 := (bF1 (bsD c) (tyD (bsD c) 0) ((bdD (bsD c) 0).2 + 1)).1
 unfold t3; omega
theorem bO5 {b : List UInt8} {j n : Int} (h : n < 1) : pk b j n = 0 := by unfold pk; rw [if_pos (.inl h)]
theorem bO4 {b : List UInt8} {j n : Int} (h : (b.length : Int) = 0) : pk b j n = 0 := by unfold pk; rw [if_pos (.inr (by omega))]
theorem bO3 {b : List UInt8} {j n : Int} (h : ¬ n < 1) (h1 : ¬ (b.length : Int) = 0) (h2 : j + 1 - 1 < b.length) : pk b j n = ((b.getD (j + 1 - 1).toNat 0).toNat : Int).tmod n := by
 unfold pk; rw [if_neg (by omega), if_pos (by omega), Int.add_sub_cancel]
theorem bO2 {b : List UInt8} {j n : Int} (h : ¬ n < 1) (h1 : ¬ (b.length : Int) = 0) (h2 : ¬ j + 1 - 1 < b.length) : pk b j n = (a08 (pkX b (j + 1 - 1)) ((pkX b (j + 1 - 1)).tdiv 64)).tmod n := by
 unfold pk; rw [if_neg (by omega), if_neg (by omega), Int.add_sub_cancel]
theorem bf3 {x : Int} {n : Nat} (hx : 0 ≤ x) (hn : ¬ (n : Int) = 0) : 0 ≤ x.tmod n ∧ x.tmod n < n ∧ (x.tmod n).toNat < n := by
 have := a12 (x := x) (n := n) hx (by omega); omega
theorem N0 (b : List UInt8) (j n : Int) (r0 : 0 ≤ j) (r1 : j ≤ 1000000000) : l7.ok Tryz.prog ⟨120, [.ptr 0 0, iA n], [.box [.ref 1, iA j], dY b], [.box [.ref 1, iA (j + 1)], dY b], iA (pk b j n)⟩ := by
  refine G3 99 Tryz.func120 [.box [.ref 1, iA j], dY b] [(0, .ptr 0 0), (1, iA n)] fun G => ?_; have hu1 := aJ4 (b.getD ((j + 1 - 1).tmod b.length).toNat 0); have hu2 := aJ4 (b.getD (((j + 1 - 1) * 7 + 3).tmod b.length).toNat 0); refine wp_seq (l5 G f9 [(4, iA 0)] fun G => b5 (wp_seq (M7 G f9 [0, 1] [.box [.ref 1, iA (j + 1)], dY b] [(0, .ptr 0 0), (1, iA n), (4, iA 0)] [wO (j + 1)] ⟨(by have := aJ4 (b.getD (j + 1 - 1).toNat 0); exact w64 (by omega) (by omega)), bR2⟩ fun G => b5 (wp_seq (wp_seq ?_))))); cases h0 : (decide (n < 1))
  ·
   have q0 := dFf h0; refine l5 G (F8 (fc h0 fz) (us [(3, 8, 0), (1009, 1009, 0)])) [(24, bA ((b.length : Int) == 0))] fun G => b5 (U9 G (fun h1 q1 => ?_) fun h1 q1 => ?_)
   ·
    refine wp_skip (b5 (wp_seq (H0 G f9 [(5, iA (j + 1 - 1))] [wO (j + 1 - 1)] ⟨(by have := ac6 (b := b) (k := j + 1 - 1) (by omega) (by omega) (by omega); exact w64 (by unfold pkX at this; omega) (by unfold pkX at this; omega)), bR2⟩ fun G => b5 (wp_seq (wp_seq (l5 G f9 [(36, bA (decide (j + 1 - 1 < (b.length : Int))))] fun G => b5 (W0 G (fun h2 q2 => ?_) fun h2 q2 => ?_)))))))
    ·
     refine wp_skip (b5 (wp_seq (ar8 G f9 [0, 1, 3, 7, 0, 0, 32, 96, 224, 480, 1008, 2047, 4095, 8191, 16383, 0, 32768, 98304, 229376, 0, 524288, 1572864, 0, 4194304, 12582912, 29360128, 62914560, 133693440, 268402688, 536838144, 1073709056, 2147450880, 4294967295, 0, 8589934592, 34359738367, 0, 0, 137438953472, 412316860416, 962072674304, 2061584302080, 4329327034368, 8727373545472, 17592186044415, 35184372088831] [(6, iA (((b.getD ((j + 1 - 1).tmod (b.length : Int)).toNat 0).toNat : Int) * 131 + ((b.getD (((j + 1 - 1) * 7 + 3).tmod (b.length : Int)).toNat 0).toNat : Int) * 1117 + (j + 1 - 1) * 29 + (j + 1 - 1).tdiv (b.length : Int) * 53))] [(b.length : Int) ≠ 0, (0 : Int) ≤ (j + 1 - 1).tmod (b.length : Int), (j + 1 - 1).tmod (b.length : Int) < b.length, ((j + 1 - 1).tmod (b.length : Int)).toNat < b.length, IntKind.i64.wrap ((b.getD ((j + 1 - 1).tmod (b.length : Int)).toNat (0 : UInt8)).toNat : Int) = ((b.getD ((j + 1 - 1).tmod (b.length : Int)).toNat (0 : UInt8)).toNat : Int), wO (((b.getD ((j + 1 - 1).tmod (b.length : Int)).toNat (0 : UInt8)).toNat : Int) * 131), wO ((j + 1 - 1) * 7), wO ((j + 1 - 1) * 7 + 3), (b.length : Int) ≠ 0, (0 : Int) ≤ ((j + 1 - 1) * 7 + 3).tmod (b.length : Int), ((j + 1 - 1) * 7 + 3).tmod (b.length : Int) < b.length, (((j + 1 - 1) * 7 + 3).tmod (b.length : Int)).toNat < b.length, IntKind.i64.wrap ((b.getD (((j + 1 - 1) * 7 + 3).tmod (b.length : Int)).toNat (0 : UInt8)).toNat : Int) = ((b.getD (((j + 1 - 1) * 7 + 3).tmod (b.length : Int)).toNat (0 : UInt8)).toNat : Int), wO (((b.getD (((j + 1 - 1) * 7 + 3).tmod (b.length : Int)).toNat (0 : UInt8)).toNat : Int) * 1117), wO (((b.getD ((j + 1 - 1).tmod (b.length : Int)).toNat (0 : UInt8)).toNat : Int) * 131 + ((b.getD (((j + 1 - 1) * 7 + 3).tmod (b.length : Int)).toNat (0 : UInt8)).toNat : Int) * 1117), wO ((j + 1 - 1) * 29), wO (((b.getD ((j + 1 - 1).tmod (b.length : Int)).toNat (0 : UInt8)).toNat : Int) * 131 + ((b.getD (((j + 1 - 1) * 7 + 3).tmod (b.length : Int)).toNat (0 : UInt8)).toNat : Int) * 1117 + (j + 1 - 1) * 29), (b.length : Int) ≠ 0, wO ((j + 1 - 1).tdiv (b.length : Int)), wO ((j + 1 - 1).tdiv (b.length : Int) * 53), wO (((b.getD ((j + 1 - 1).tmod (b.length : Int)).toNat (0 : UInt8)).toNat : Int) * 131 + ((b.getD (((j + 1 - 1) * 7 + 3).tmod (b.length : Int)).toNat (0 : UInt8)).toNat : Int) * 1117 + (j + 1 - 1) * 29 + (j + 1 - 1).tdiv (b.length : Int) * 53)] ⟨(by assumption), ((bf3 (by omega) (by omega)).1), ((bf3 (by omega) (by omega)).2.1), ((bf3 (by omega) (by omega)).2.2), (by have := ac6 (b := b) (k := j + 1 - 1) (by omega) (by omega) (by omega); exact w64 (by unfold pkX at this; omega) (by unfold pkX at this; omega)), (by have := ac6 (b := b) (k := j + 1 - 1) (by omega) (by omega) (by omega); exact w64 (by unfold pkX at this; omega) (by unfold pkX at this; omega)), (by have := ac6 (b := b) (k := j + 1 - 1) (by omega) (by omega) (by omega); exact w64 (by unfold pkX at this; omega) (by unfold pkX at this; omega)), (by have := ac6 (b := b) (k := j + 1 - 1) (by omega) (by omega) (by omega); exact w64 (by unfold pkX at this; omega) (by unfold pkX at this; omega)), (by assumption), ((bf3 (by omega) (by omega)).1), ((bf3 (by omega) (by omega)).2.1), ((bf3 (by omega) (by omega)).2.2), (by have := ac6 (b := b) (k := j + 1 - 1) (by omega) (by omega) (by omega); exact w64 (by unfold pkX at this; omega) (by unfold pkX at this; omega)), (by have := ac6 (b := b) (k := j + 1 - 1) (by omega) (by omega) (by omega); exact w64 (by unfold pkX at this; omega) (by unfold pkX at this; omega)), (by have := ac6 (b := b) (k := j + 1 - 1) (by omega) (by omega) (by omega); exact w64 (by unfold pkX at this; omega) (by unfold pkX at this; omega)), (by have := ac6 (b := b) (k := j + 1 - 1) (by omega) (by omega) (by omega); exact w64 (by unfold pkX at this; omega) (by unfold pkX at this; omega)), (by have := ac6 (b := b) (k := j + 1 - 1) (by omega) (by omega) (by omega); exact w64 (by unfold pkX at this; omega) (by unfold pkX at this; omega)), (by assumption), (by have := aU8 (b := b) (k := j + 1 - 1) (by omega) (by omega) (by omega); exact w64 (by unfold pkX at this; omega) (by unfold pkX at this; omega)), (by have := aU8 (b := b) (k := j + 1 - 1) (by omega) (by omega) (by omega); exact w64 (by unfold pkX at this; omega) (by unfold pkX at this; omega)), (by have := aU8 (b := b) (k := j + 1 - 1) (by omega) (by omega) (by omega); exact w64 (by unfold pkX at this; omega) (by unfold pkX at this; omega)), bR2⟩ fun G => ?_)))
     refine b5 (wp_seq (H0 G f9 [(6, iA (a08 (((b.getD ((j + 1 - 1).tmod (b.length : Int)).toNat 0).toNat : Int) * 131 + ((b.getD (((j + 1 - 1) * 7 + 3).tmod (b.length : Int)).toNat 0).toNat : Int) * 1117 + (j + 1 - 1) * 29 + (j + 1 - 1).tdiv (b.length : Int) * 53) ((((b.getD ((j + 1 - 1).tmod (b.length : Int)).toNat 0).toNat : Int) * 131 + ((b.getD (((j + 1 - 1) * 7 + 3).tmod (b.length : Int)).toNat 0).toNat : Int) * 1117 + (j + 1 - 1) * 29 + (j + 1 - 1).tdiv (b.length : Int) * 53).tdiv 64)))] [(64 : Int) ≠ 0, wO ((((b.getD ((j + 1 - 1).tmod (b.length : Int)).toNat (0 : UInt8)).toNat : Int) * 131 + ((b.getD (((j + 1 - 1) * 7 + 3).tmod (b.length : Int)).toNat (0 : UInt8)).toNat : Int) * 1117 + (j + 1 - 1) * 29 + (j + 1 - 1).tdiv (b.length : Int) * 53).tdiv (64 : Int))] ⟨(by simp [h0, h1, h2]), (by have := ac6 (b := b) (k := j + 1 - 1) (by omega) (by omega) (by omega); exact w64 (by unfold pkX at this; omega) (by unfold pkX at this; omega)), bR2⟩ fun G => b5 (wp_seq (H0 G f9 [(4, iA ((a08 (((b.getD ((j + 1 - 1).tmod (b.length : Int)).toNat 0).toNat : Int) * 131 + ((b.getD (((j + 1 - 1) * 7 + 3).tmod (b.length : Int)).toNat 0).toNat : Int) * 1117 + (j + 1 - 1) * 29 + (j + 1 - 1).tdiv (b.length : Int) * 53) ((((b.getD ((j + 1 - 1).tmod (b.length : Int)).toNat 0).toNat : Int) * 131 + ((b.getD (((j + 1 - 1) * 7 + 3).tmod (b.length : Int)).toNat 0).toNat : Int) * 1117 + (j + 1 - 1) * 29 + (j + 1 - 1).tdiv (b.length : Int) * 53).tdiv 64)).tmod n))] [n ≠ 0] ⟨(by omega), bR2⟩ fun G => b5 (wp_ret ?_))))); exact N1 ((a08 (((b.getD ((j + 1 - 1).tmod (b.length : Int)).toNat 0).toNat : Int) * 131 + ((b.getD (((j + 1 - 1) * 7 + 3).tmod (b.length : Int)).toNat 0).toNat : Int) * 1117 + (j + 1 - 1) * 29 + (j + 1 - 1).tdiv (b.length : Int) * 53) ((((b.getD ((j + 1 - 1).tmod (b.length : Int)).toNat 0).toNat : Int) * 131 + ((b.getD (((j + 1 - 1) * 7 + 3).tmod (b.length : Int)).toNat 0).toNat : Int) * 1117 + (j + 1 - 1) * 29 + (j + 1 - 1).tdiv (b.length : Int) * 53).tdiv 64)).tmod n) G [0, 1] (bO2 (by omega) (by omega) (by omega))
    · refine wp_seq (H0 G f9 [(4, iA (((b.getD (j + 1 - 1).toNat 0).toNat : Int).tmod n))] (iX (j + 1 - 1) ((j + 1 - 1).toNat) b.length ((IntKind.i64.wrap ((b.getD (j + 1 - 1).toNat (0 : UInt8)).toNat : Int) = ((b.getD (j + 1 - 1).toNat (0 : UInt8)).toNat : Int)) :: ((n ≠ 0) :: []))) (iK (by omega) ⟨(by have := aJ4 (b.getD (j + 1 - 1).toNat 0); exact w64 (by omega) (by omega)), ⟨(by omega), bR2⟩⟩) fun G => b5 (wp_ret (m8 ?_))); exact N1 (((b.getD (j + 1 - 1).toNat 0).toNat : Int).tmod n) G [0, 1] (bO3 (by omega) (by omega) (by omega))
   · refine wp_seq (l5 G f9 [] fun G => b5 (wp_ret (m8 ?_))); exact N1 0 G [0, 1] (bO4 (by omega))
  · have q0 := dTt h0; refine l5 G (F8 (fc h0 fz) (us [(3, 8, 0), (1009, 1009, 0)])) [(24, bA true)] fun G => b5 (rT G true (by kernel_rfl) (wp_seq (l5 G f9 [] fun G => b5 (wp_ret (m8 ?_))))); exact N1 0 G [0, 1] (bO5 (by omega))
theorem P3 (b : List UInt8) (j : Int) (l : List Int) (hl : l ≠ []) (r0 : 0 ≤ j) (r1 : j ≤ 1000000000) : l7.ok Tryz.prog ⟨122, [.ptr 0 0, .ref 2], [.box [.ref 1, iA j], dY b, dI l], [.box [.ref 1, iA (j + 1)], dY b, dI l], iA (nm b j l)⟩ := by
 refine G3 12 Tryz.func122 [.box [.ref 1, iA j], dY b, dI l] [(0, .ptr 0 0), (1, .ref 2)] fun G => ?_; refine wp_seq (l5 G f9 [(4, iA 0)] fun G => b5 (wp_seq (M7 G (A0 4 [0, 1] (N0 b j ((l.length : Int)) (by assumption) (by assumption))) [0, 1, 2] [.box [.ref 1, iA (j + 1)], dY b, dI l] [(4, iA (l.getD (pk b j (l.length : Int)).toNat 0))] [(0 : Int) ≤ pk b j (l.length : Int), pk b j (l.length : Int) < l.length, (pk b j (l.length : Int)).toNat < l.length] ⟨((ba6 b r0 r1 hl).1), ((ba6 b r0 r1 hl).2.1), ((ba6 b r0 r1 hl).2.2), bR2⟩ fun G => b5 (wp_ret ?_)))); exact M6 G [0, 1, 2]
theorem bt8 (b : List UInt8) (j : Int) (r0 : 0 ≤ j) (r1 : j ≤ 900000000) : l7.ok Tryz.prog ⟨121, [.ptr 0 0], [.box [.ref 1, iA j], dY b], [.box [.ref 1, iA (j + 2)], dY b], iA (l1D b j)⟩ := by
 refine G3 11 Tryz.func121 [.box [.ref 1, iA j], dY b] [(0, .ptr 0 0)] fun G => ?_; refine wp_seq (l5 G f9 [(2, iA 0)] fun G => b5 (wp_seq (wp_seq (m6 G (A0 1 [0, 1] (N0 b j 12 (by assumption) (by omega))) [0, 1] [.box [.ref 1, iA (j + 1)], dY b] [(0, .ptr 0 0), (2, iA 0), (5, bA (pk b j 12 == 0))] fun G => b5 (U9 G (fun h0 q0 => ?_) fun h0 q0 => ?_)))))
 ·refine wp_skip (b5 (wp_seq (m6 G (A0 1 [0, 1] (N0 b (j + 1) 4 (by omega) (by omega))) [0, 1] [.box [.ref 1, iA (j + 1 + 1)], dY b] [(2, iA (pk b (j + 1) 4))] fun G => b5 (wp_ret ?_)))); exact N1 (pk b (j + 1) 4) G [0, 1] (by unfold l1D; rw [if_neg (by omega)]; done) (by show _ = mR [0, 1] [.box [.ref 1, iA (j + 2)], dY b]; have e1 : (j + 2 : Int) = (j + 1 + 1) := (by omega); (first | rw [e1] | simp only [e1]) <;> rfl)
 ·refine wp_seq (m6 G (A0 2 [0, 1, 10] (l7.lend (P3 b (j + 1) l1L (by simp [h0]) (by omega) (by omega)) [.no, .no, .row 3])) [0, 1] [.box [.ref 1, iA (j + 1 + 1)], dY b] [(0, .ptr 0 0), (2, iA (nm b (j + 1) l1L))] fun G => b5 (wp_ret (m8 ?_))); exact N1 (nm b (j + 1) l1L) G [0, 1] (by unfold l1D; rw [if_pos (by omega)]; done) (by show _ = mR [0, 1] [.box [.ref 1, iA (j + 2)], dY b]; have e1 : (j + 2 : Int) = (j + 1 + 1) := (by omega); (first | rw [e1] | simp only [e1]) <;> rfl)
theorem a68 (c : List UInt8) (hc : c.length ≤ 2000) : l7.ok Tryz.prog ⟨54, [.ref 0], [dY c], [dY c, .box [.ref 0, iA 0]], .ptr 1 0⟩ := by
 refine G3 11 Tryz.func54 [dY c] [(0, .ref 0)] fun G => ?_; refine wp_seq (l5 G f9 [(2, .v (.pointer none))] fun G => b5 (wp_seq (wp_seq (J3 G f9 [(0, .ref 0), (2, .v (.pointer none)), (5, bA (decide ((c.length : Int) > 2000)))] fun G => b5 ?_)))); cases h0 : (decide ((c.length : Int) > 2000))
 ·have q0 := dFf h0; refine rF G _ h0 (wp_skip (b5 (wp_seq (m6 G f9 [0, 17] [dY c, .box [.ref 0, iA 0]] [(2, .ptr 1 0)] fun G => b5 (wp_ret ?_))))); exact M6 G [0, 1]
 ·have q0 := dTt h0; exact False.elim (by omega)
theorem a67 (c : List UInt8) (hc : 2000 < c.length) : l7.ok Tryz.prog ⟨54, [.ref 0], [dY c], [dY c, .box [.ref 2, iA 0], dY ((c.take 2000).drop 0)], .ptr 1 0⟩ := by
 refine G3 11 Tryz.func54 [dY c] [(0, .ref 0)] fun G => ?_; refine wp_seq (l5 G f9 [(2, .v (.pointer none))] fun G => b5 (wp_seq (wp_seq (J3 G f9 [(0, .ref 0), (2, .v (.pointer none)), (5, bA (decide ((c.length : Int) > 2000)))] fun G => b5 ?_)))); cases h0 : (decide ((c.length : Int) > 2000))
 ·have q0 := dFf h0; exact False.elim (by omega)
 ·have q0 := dTt h0; refine rT G _ h0 (M7 G f9 [0, 9] [dY c, dY (List.drop 0 (bR4 (Int.toNat 2000) c))] [(0, .ref 1), (2, .v (.pointer none))] [(0 : Int) ≤ 2000, (2000 : Int) ≤ c.length] ⟨(by simp [h0]), (by omega), bR2⟩ fun G => b5 (wp_seq (m6 G f9 [0, 1, 18] [dY c, dY (List.drop 0 (bR4 (Int.toNat 2000) c)), .box [.ref 1, iA 0]] [(2, .ptr 2 0)] fun G => b5 (wp_ret ?_)))); exact M6 G [0, 2, 1]
abbrev dwS (b : List UInt8) (j : Int) (vs ars : List Int) (bd : List b6) : List It := [.box [.ref 1, iA j], dY b, dI vs, dI ars, dT bd]
abbrev exO (e : b9) : List It := [.tree (.exprs e.kids)]
abbrev exA (e : b9) (r : Nat) : AV := .agg [iA e.kind, iA e.value, .tref r]
theorem bM8 {b : List UInt8} {nv j : Int} (h : pk b j 3 = 0) : s0 b nv j = ⟨1, nm b (j + 1) atL, []⟩ := if_pos h
theorem bM7 {b : List UInt8} {nv j : Int} (h : ¬ pk b j 3 = 0) : s0 b nv j = ⟨2, pk b (j + 1) nv, []⟩ := if_neg h
theorem at3 (b : List UInt8) (j : Int) (vs ars : List Int) (bd : List b6) (r0 : 0 ≤ j) (r1 : j ≤ 900000000) : l7.ok Tryz.prog ⟨246, [.ptr 0 0, pA 2], dwS b j vs ars bd, dwS b (j + 2) vs ars bd ++ exO (s0 b vs.length j), exA (s0 b vs.length j) 5⟩ := by
 refine G3 18 Tryz.func246 [.box [.ref 1, iA j], dY b, dI vs, dI ars, dT bd] [(0, .ptr 0 0), (1, pA 2)] fun G => ?_; refine wp_seq (m6 G f9 [0, 1, 2, 3, 4, 5, 13] [.box [.ref 1, iA j], dY b, dI vs, dI ars, dT bd, .box (pL 2), .box [iA 0, iA 0, .v (.slice none 0 0)]] [(0, .ptr 0 0), (3, .ptr 5 0), (4, .ptr 6 0)] fun G => b5 (wp_seq (wp_seq (m6 G (A0 1 [0, 1] (N0 b j 3 (by assumption) (by omega))) (rg 7) [.box [.ref 1, iA (j + 1)], dY b, dI vs, dI ars, dT bd, .box (pL 2), .box [iA 0, iA 0, .v (.slice none 0 0)]] [(0, .ptr 0 0), (3, .ptr 5 0), (4, .ptr 6 0), (7, bA (pk b j 3 == 0))] fun G => b5 (U9 G (fun h0 q0 => ?_) fun h0 q0 => ?_)))))
 ·refine wp_skip (b5 (wp_seq (m6 G (A0 4 [0, 1] (N0 b (j + 1) ((vs.length : Int)) (by omega) (by omega))) [0, 1, 2, 3, 4, 6] [.box [.ref 1, iA (j + 1 + 1)], dY b, dI vs, dI ars, dT bd, .box [iA 2, iA (pk b (j + 1) (vs.length : Int)), .v (.slice none 0 0)]] [(4, .ptr 5 0)] fun G => b5 (wp_ret ?_)))); obtain ⟨ρ, G⟩ := G.nilT 6 (.exprs []) [.box [.ref 1, iA (j + 1 + 1)], dY b, dI vs, dI ars, dT bd, .box [iA 2, iA (pk b (j + 1) (vs.length : Int)), .tref 6]] [(4, .ptr 5 0)]; exact rxv (.agg [iA 2, iA (pk b (j + 1) (vs.length : Int)), .tref 6]) G [0, 1, 2, 3, 4, 6] (by show _ = AV.ren (nth [0, 1, 2, 3, 4, 6]) (.agg [iA (s0 b (vs.length : Int) j).kind, iA (s0 b (vs.length : Int) j).value, .tref 5]); rw [bM7 (by omega)] <;> rfl) (by show _ = mR [0, 1, 2, 3, 4, 6] [.box [.ref 1, iA (j + 2)], dY b, dI vs, dI ars, dT bd, .tree (D.exprs (s0 b (vs.length : Int) j).kids)]; have e1 : (j + 2 : Int) = (j + 1 + 1) := (by omega); rw [e1, bM7 (by omega)] <;> rfl)
 ·refine wp_seq (m6 G (A0 2 [0, 1, 15] (l7.lend (P3 b (j + 1) atL (by simp [h0]) (by omega) (by omega)) [.no, .no, .row 3])) (rg 7) [.box [.ref 1, iA (j + 1 + 1)], dY b, dI vs, dI ars, dT bd, .box (pL 2), .box [iA 1, iA (nm b (j + 1) atL), .v (.slice none 0 0)]] [(0, .ptr 0 0), (3, .ptr 5 0), (4, .ptr 6 0)] fun G => b5 (wp_ret (m8 ?_))); obtain ⟨ρ, G⟩ := G.nilT 7 (.exprs []) [.box [.ref 1, iA (j + 1 + 1)], dY b, dI vs, dI ars, dT bd, .box (pL 2), .box [iA 1, iA (nm b (j + 1) atL), .tref 7]] [(0, .ptr 0 0), (3, .ptr 5 0), (4, .ptr 6 0)]; exact rxv (.agg [iA 1, iA (nm b (j + 1) atL), .tref 7]) G [0, 1, 2, 3, 4, 7] (by show _ = AV.ren (nth [0, 1, 2, 3, 4, 7]) (.agg [iA (s0 b (vs.length : Int) j).kind, iA (s0 b (vs.length : Int) j).value, .tref 5]); rw [bM8 (by omega)] <;> rfl) (by show _ = mR [0, 1, 2, 3, 4, 7] [.box [.ref 1, iA (j + 2)], dY b, dI vs, dI ars, dT bd, .tree (D.exprs (s0 b (vs.length : Int) j).kids)]; have e1 : (j + 2 : Int) = (j + 1 + 1) := (by omega); rw [e1, bM8 (by omega)] <;> rfl)
theorem a66 (vs ars : List Int) (bd : List b6) (e : b9) : l7.ok Tryz.prog (I7 233 [pA 0, eA e 3] ([dI vs, dI ars, dT bd] ++ eS e) (bA (i9 vs.length ars.length e))) := bh5 ⟨vs, ars, bd⟩ e
abbrev drC (b : List UInt8) (vs ars : List Int) (bd : List b6) (d : Nat) (j n : Int) : l7 := ⟨258, [.ptr 0 0, pA 2, iA n], dwS b j vs ars bd, dwS b (L6 b vs.length ars.length d j).2 vs ars bd ++ exO (L6 b vs.length ars.length d j).1, exA (L6 b vs.length ars.length d j).1 5⟩
section
variable {b : List UInt8} {nv na : Int} {d : Nat} {j : Int}
theorem bL4 (h : d < 2) : L6 b nv na d j = (s0 b nv j, j + 2) := by
 match d, h with
 | 0, _ => rfl
 | 1, _ => simp [L6]
theorem bF7 (h : 0 < d) (h1 : pk b j 4 = 0) : L6 b nv na (d + 1) j = (s0 b nv (j + 1), j + 3) := by rw [L6, if_neg (by omega), if_pos h1]
theorem by9 (h : 0 < d) (h1 : ¬ pk b j 4 = 0) (h2 : nm b (j + 1) N4 = 3) (h3 : na = 0) : L6 b nv na (d + 1) j = (s0 b nv (j + 2), j + 4) := by rw [L6, if_neg (by omega), if_neg h1, if_pos h2, if_pos h3]
theorem by8 (h : 0 < d) (h1 : ¬ pk b j 4 = 0) (h2 : nm b (j + 1) N4 = 3) (h3 : ¬ na = 0) : L6 b nv na (d + 1) j = (⟨3, pk b (j + 2) na, [s0 b nv (j + 3)]⟩, j + 5) := by rw [L6, if_neg (by omega), if_neg h1, if_pos h2, if_neg h3]
abbrev drK (b : List UInt8) (nv na : Int) (d : Nat) (j : Int) (k : Nat) : List b9 × Int := G7 (L6 b nv na d) k (j + 2)
theorem bL3 (h : 0 < d) (h1 : ¬ pk b j 4 = 0) (h2 : ¬ nm b (j + 1) N4 = 3) {m : Int} (h3 : 0 ≤ m) (h4 : ¬ m > 0) : L6 b nv na (d + 1) j = (⟨nm b (j + 1) N4, 0, (drK b nv na d j (o6 (nm b (j + 1) N4) - m).toNat).1⟩, (drK b nv na d j (o6 (nm b (j + 1) N4) - m).toNat).2) := by
 have e : m = 0 := by omega
 rw [e, Int.sub_zero, L6, if_neg (by omega), if_neg h1, if_neg h2]
theorem bc3 {x m : Int} (h3 : m > 0) (h4 : m ≤ x) : drK b nv na d j (x - (m - 1)).toNat = ((drK b nv na d j (x - m).toNat).1 ++ [(L6 b nv na d (drK b nv na d j (x - m).toNat).2).1], (L6 b nv na d (drK b nv na d j (x - m).toNat).2).2) := by
 rw [show (x - (m - 1)).toNat = (x - m).toNat + 1 by omega]; rfl
theorem bM9 (r0 : 0 ≤ j) (r1 : j ≤ 900000000) : 0 ≤ o6 (nm b (j + 1) N4) ∧ o6 (nm b (j + 1) N4) ≤ 3 := by
 have h := aP0 b (k := j + 1) (l := N4) (by omega) (by omega) (by simp)
 simp only [bT2, bU8, List.not_mem_nil, or_false] at h
 rcases h with h | h | h | h | h | h | h | h | h <;> rw [h] <;> decide
theorem bL6 (r0 : 0 ≤ j) {k : Nat} (hk : k ≤ 3) : j + 2 ≤ (drK b nv na d j k).2 ∧ (drK b nv na d j k).2 ≤ j + 2 + 3 * cE d := by
 have hc := aG0 d
 have h := bs3 (f := L6 b nv na d) (c := cE d) (m := 3) (by omega) k (j + 2) hk fun i _ _ => aX9 b nv na d i
 have h4 : (k : Int) * cE d ≤ 3 * cE d := bV3 (by omega) (by omega)
 unfold drK; omega
theorem bL5 {x m : Int} (r0 : 0 ≤ j) (h3 : m > 0) (h4 : m ≤ x) (h5 : x ≤ 3) (r1 : j + cE (d + 1) ≤ 800000000) : (drK b nv na d j (x - m).toNat).2 + cE d ≤ 800000000 := by
 have hc := aG0 d
 have hce : cE (d + 1) = 5 + 3 * cE d := rfl
 have hm : (x - m).toNat ≤ 2 := by omega
 have h := bs3 (f := L6 b nv na d) (c := cE d) (m := 2) (by omega) (x - m).toNat (j + 2) hm fun i _ _ => aX9 b nv na d i
 have h4 : ((x - m).toNat : Int) * cE d ≤ 2 * cE d := bV3 (by omega) (by omega)
 unfold drK; omega
end
theorem a96 (b : List UInt8) (vs ars : List Int) (bd : List b6) (d : Nat) (hd : d < 2) (j n : Int) (hn : n = d) (r0 : 0 ≤ j) (r1 : j ≤ 900000000) : l7.ok Tryz.prog (drC b vs ars bd d j n) := by
 refine G3 62 Tryz.func258 [.box [.ref 1, iA j], dY b, dI vs, dI ars, dT bd] [(0, .ptr 0 0), (1, pA 2), (2, iA n)] fun G => ?_; refine wp_seq (m6 G f9 [0, 1, 2, 3, 4, 5, 13] [.box [.ref 1, iA j], dY b, dI vs, dI ars, dT bd, .box (pL 2), .box [iA 0, iA 0, .v (.slice none 0 0)]] [(0, .ptr 0 0), (2, iA n), (4, .ptr 5 0), (6, .ptr 6 0)] fun G => b5 (wp_seq (wp_seq ?_))); cases h0 : (decide (n < 2))
 ·have q0 := dFf h0; exact False.elim (by omega)
 ·have q0 := dTt h0; refine l5 G (F8 (fc h0 fz) [(3, 0), (4, 0), (5, 0), (1006, 0)]) [(16, bA true)] fun G => b5 (rT G true (by kernel_rfl) (wp_seq (m6 G (A0 2 (rg 5) (at3 b j vs ars bd (by assumption) (by assumption))) [0, 1, 2, 3, 4, 5, 6, 23] [.box [.ref 1, iA (j + 2)], dY b, dI vs, dI ars, dT bd, .box (pL 2), .box [iA (s0 b (vs.length : Int) j).kind, iA (s0 b (vs.length : Int) j).value, .tref 7], .tree (D.exprs (s0 b (vs.length : Int) j).kids)] [(0, .ptr 0 0), (2, iA n), (4, .ptr 5 0), (6, .ptr 6 0)] fun G => b5 (wp_ret (m8 ?_))))); exact rxv (.agg [iA (s0 b (vs.length : Int) j).kind, iA (s0 b (vs.length : Int) j).value, .tref 7]) G [0, 1, 2, 3, 4, 7] (by show _ = AV.ren (nth [0, 1, 2, 3, 4, 7]) (.agg [iA (L6 b (vs.length : Int) (ars.length : Int) d j).fst.kind, iA (L6 b (vs.length : Int) (ars.length : Int) d j).fst.value, .tref 5]); rw [bL4 hd] <;> rfl) (by show _ = mR [0, 1, 2, 3, 4, 7] [.box [.ref 1, iA (L6 b (vs.length : Int) (ars.length : Int) d j).snd], dY b, dI vs, dI ars, dT bd, .tree (D.exprs (L6 b (vs.length : Int) (ars.length : Int) d j).fst.kids)]; rw [bL4 hd] <;> rfl)
abbrev aA1 (b : List UInt8) (vs : List Int) (ars : List Int) (d : Nat) (j : Int) (k : Int) := drK b (vs.length : Int) (ars.length : Int) d j (o6 (nm b (j + 1) N4) - k).toNat
abbrev au4 (b : List UInt8) (vs : List Int) (ars : List Int) (d : Nat) (j : Int) : AV := (.agg [iA (L6 b (vs.length : Int) (ars.length : Int) (d + 1) j).fst.kind, iA (L6 b (vs.length : Int) (ars.length : Int) (d + 1) j).fst.value, .tref 5])
abbrev au3 (b : List UInt8) (vs : List Int) (ars : List Int) (bd : List b6) (d : Nat) (j : Int) : List It := [.box [.ref 1, iA (L6 b (vs.length : Int) (ars.length : Int) (d + 1) j).snd], dY b, dI vs, dI ars, dT bd, .tree (D.exprs (L6 b (vs.length : Int) (ars.length : Int) (d + 1) j).fst.kids)]
abbrev aJ3 : It := .box [iA 0, iA 0, .v (.slice none 0 0)]
abbrev ac3 (n : Int) (r0 : List (Nat × AV)) : List (Nat × AV) := (0, .ptr 0 0) :: (2, iA n) :: (4, .ptr 5 0) :: (6, .ptr 6 0) :: r0
theorem bw1 (b : List UInt8) (vs ars : List Int) (bd : List b6) (d : Nat) (hd : 0 < d) (hd2 : d ≤ 100) (ih : ∀ (j n : Int), n = d → 0 ≤ j → j + cE d ≤ 800000000 → l7.ok Tryz.prog (drC b vs ars bd d j n)) (j n : Int) (hn : n = ((d + 1 : Nat) : Int)) (r0 : 0 ≤ j) (r1 : j + cE (d + 1) ≤ 800000000) : l7.ok Tryz.prog (drC b vs ars bd (d + 1) j n) := by
  refine G3 62 Tryz.func258 [.box [.ref 1, iA j], dY b, dI vs, dI ars, dT bd] [(0, .ptr 0 0), (1, pA 2), (2, iA n)] fun G => ?_; have hc := aG0 d; have hce : cE (d + 1) = 5 + 3 * cE d := rfl; have har := bM9 (b := b) (j := j) r0 (by omega); refine wp_seq (m6 G f9 [0, 1, 2, 3, 4, 5, 13] [.box [.ref 1, iA j], dY b, dI vs, dI ars, dT bd, .box (pL 2), aJ3] (ac3 n []) fun G => b5 (wp_seq (wp_seq ?_))); cases h0 : (decide (n < 2))
  ·
   have q0 := dFf h0; refine m6 G (B1 ⟨[(4, _, [0, 1])], [(decide (n < 2), false)], [(3, 0), (4, 0), (5, 0), (1006, 0)]⟩ (b8 (N0 b j 4 (by assumption) (by omega)) d7) ⟨(by assumption), bR2⟩) (rg 7) [.box [.ref 1, iA (j + 1)], dY b, dI vs, dI ars, dT bd, .box (pL 2), aJ3] (ac3 n [(16, bA (pk b j 4 == 0))]) fun G => b5 (U9 G (fun h1 q1 => ?_) fun h1 q1 => ?_)
   ·
    refine wp_skip (b5 (wp_seq (m6 G (A0 2 [0, 1, 15] (l7.lend (P3 b (j + 1) N4 (by simp [h0, h1]) (by omega) (by omega)) [.no, .no, .row 3])) (rg 7) [.box [.ref 1, iA (j + 1 + 1)], dY b, dI vs, dI ars, dT bd, .box (pL 2), aJ3] (ac3 n [(7, iA (nm b (j + 1) N4))]) fun G => b5 (wp_seq (wp_seq (l5 G f9 [(24, bA (nm b (j + 1) N4 == 3))] fun G => b5 (U9 G (fun h2 q2 => ?_) fun h2 q2 => ?_)))))))
    ·
     refine wp_skip (b5 (wp_seq (m6 G f9 [0, 1, 2, 3, 4, 5, 6, 23] [.box [.ref 1, iA (j + 1 + 1)], dY b, dI vs, dI ars, dT bd, .box (pL 2), aJ3, .box [iA (nm b (j + 1) N4), iA 0, .v (.slice none 0 0)]] (ac3 n [(7, iA (nm b (j + 1) N4)), (8, .ptr 7 0)]) fun G => b5 (wp_seq (wp_seq (J3 G (A0 1 [] (bh7 (nm b (j + 1) N4))) (ac3 n [(8, .ptr 7 0), (9, iA (o6 (nm b (j + 1) N4)))]) fun G => b5 (wp_block ?_))))))); obtain ⟨ρ, G⟩ := G.nilT 8 (.exprs []) [.box [.ref 1, iA (j + 1 + 1)], dY b, dI vs, dI ars, dT bd, .box (pL 2), .box [iA 0, iA 0, .v (.slice none 0 0)], .box [iA (nm b (j + 1) N4), iA 0, .tref 8]] (ac3 n [(8, .ptr 7 0), (9, iA (o6 (nm b (j + 1) N4)))]); replace G := G.as [.box [.ref 1, iA (drK b (vs.length : Int) (ars.length : Int) d j (o6 (nm b (j + 1) N4) - o6 (nm b (j + 1) N4)).toNat).snd], dY b, dI vs, dI ars, dT bd, .box (pL 2), .box [iA 0, iA 0, .v (.slice none 0 0)], .box [iA (nm b (j + 1) N4), iA 0, .tref 8], .tree (D.exprs (drK b (vs.length : Int) (ars.length : Int) d j (o6 (nm b (j + 1) N4) - o6 (nm b (j + 1) N4)).toNat).fst)] (ac3 n [(8, .ptr 7 0), (9, iA (o6 (nm b (j + 1) N4)))]) (by have e1 : ((drK b (vs.length : Int) (ars.length : Int) d j (o6 (nm b (j + 1) N4) - o6 (nm b (j + 1) N4)).toNat).snd : Int) = (j + 1 + 1) := (by rw [Int.sub_self]; show j + 2 = j + 1 + 1; omega); have e2 : ((drK b (vs.length : Int) (ars.length : Int) d j (o6 (nm b (j + 1) N4) - o6 (nm b (j + 1) N4)).toNat).fst : List b9) = ([]) := (by rw [Int.sub_self]; rfl); (first | rw [e1, e2] | simp only [e1, e2]) <;> rfl) (by kernel_rfl); refine x7 (κ := Int) (fun k => 0 ≤ k ∧ k ≤ o6 (nm b (j + 1) N4)) (fun k => k.toNat) (fun k => [.box [.ref 1, iA (drK b vs.length ars.length d j (o6 (nm b (j + 1) N4) - k).toNat).2], dY b, dI vs, dI ars, dT bd, .box (pL 2), .box [iA 0, iA 0, .v (.slice none 0 0)], .box [iA (nm b (j + 1) N4), iA 0, .tref 8], .tree (.exprs (drK b vs.length ars.length d j (o6 (nm b (j + 1) N4) - k).toNat).1)]) (fun k => [(0, .ptr 0 0), (2, iA n), (4, .ptr 5 0), (6, .ptr 6 0), (8, .ptr 7 0), (9, iA k)]) (o6 (nm b (j + 1) N4)) (by omega) (x9.at G _ _) ?_; clear G; intro k ρ a w hp G; replace G := x9.at G [.box [.ref 1, iA (aA1 b vs ars d j k).snd], dY b, dI vs, dI ars, dT bd, .box (pL 2), aJ3, .box [iA (nm b (j + 1) N4), iA 0, .tref 8], .tree (D.exprs (aA1 b vs ars d j k).fst)] (ac3 n [(8, .ptr 7 0), (9, iA k)]); have hkb := bL6 (b := b) (nv := vs.length) (na := ars.length) (d := d) (j := j) r0 (k := (o6 (nm b (j + 1) N4) - k).toNat) (by omega); have hkl : (drK b vs.length ars.length d j (o6 (nm b (j + 1) N4) - k).toNat).1.length = (o6 (nm b (j + 1) N4) - k).toNat := aQ3 _ _ _; refine wp_seq (wp_seq (l5 G f9 [(48, bA (decide (k > 0)))] fun G => b5 (W0 G (fun h4 q4 => ?_) fun h4 q4 => ?_)))
     · refine wp_exit (v8 (v8 (v7 (b5 (wp_seq (m6 G f9 [0, 1, 2, 3, 4, 6, 8] [.box [.ref 1, iA (aA1 b vs ars d j k).snd], dY b, dI vs, dI ars, dT bd, .box [iA (nm b (j + 1) N4), iA 0, .tref 6], .tree (D.exprs (aA1 b vs ars d j k).fst)] [(6, .ptr 5 0)] fun G => b5 (wp_ret ?_))))))); exact rxv (.agg [iA (nm b (j + 1) N4), iA 0, .tref 6]) G [0, 1, 2, 3, 4, 6] (by show _ = AV.ren (nth [0, 1, 2, 3, 4, 6]) (au4 b vs ars d j); unfold au4; rw [bL3 (m := k) hd (by omega) (by omega) (by omega) (by omega)] <;> rfl) (by show _ = mR [0, 1, 2, 3, 4, 6] (au3 b vs ars bd d j); unfold au3; rw [bL3 (m := k) hd (by omega) (by omega) (by omega) (by omega)] <;> rfl)
     · refine wp_skip (b5 (wp_seq (wp_block (Y2 G (A0 6 (rg 5) (ih ((drK b (vs.length : Int) (ars.length : Int) d j (o6 (nm b (j + 1) N4) - k).toNat).snd) (n - 1) (by omega) (by omega) (bL5 (by omega) (by omega) (by omega) (by omega) r1))) [0, 1, 0, 0, 0, 16, 60, 124, 255, 511, 1023] [0, 1, 2, 3, 4, 5, 6, 7, 73] [.box [.ref 1, iA (L6 b (vs.length : Int) (ars.length : Int) d (aA1 b vs ars d j k).snd).snd], dY b, dI vs, dI ars, dT bd, .box (pL 2), aJ3, .box [iA (nm b (j + 1) N4), iA 0, .tref 8], .tree (D.exprs ((aA1 b vs ars d j k).fst ++ [qzE (L6 b (vs.length : Int) (ars.length : Int) d (aA1 b vs ars d j k).snd).fst]))] (ac3 n [(8, .ptr 7 0), (9, iA k)]) ((wO (n - 1)) :: (aP ((drK b (vs.length : Int) (ars.length : Int) d j (o6 (nm b (j + 1) N4) - k).toNat).fst.length + 1) 40 [])) ⟨oW (by omega), (aK (by omega) bR2)⟩ fun G => o5 (b5 (H0 G f9 [(9, iA (k - 1))] [wO (k - 1)] (o1 (by omega)) fun G => b5 ?_)))))); exact Q6 G (k - 1) (by omega) (by omega) (rg 9) (by have e1 : ((drK b (vs.length : Int) (ars.length : Int) d j (o6 (nm b (j + 1) N4) - (k - 1)).toNat).snd : Int) = ((L6 b (vs.length : Int) (ars.length : Int) d (drK b (vs.length : Int) (ars.length : Int) d j (o6 (nm b (j + 1) N4) - k).toNat).snd).snd) := (by rw [bc3 (by omega) (by omega)]; done); have e2 : ((drK b (vs.length : Int) (ars.length : Int) d j (o6 (nm b (j + 1) N4) - (k - 1)).toNat).fst : List b9) = ((drK b (vs.length : Int) (ars.length : Int) d j (o6 (nm b (j + 1) N4) - k).toNat).fst ++ [qzE (L6 b (vs.length : Int) (ars.length : Int) d (drK b (vs.length : Int) (ars.length : Int) d j (o6 (nm b (j + 1) N4) - k).toNat).snd).fst]) := (by rw [bc3 (by omega) (by omega)]; (simp only [b9.eta]; done)); (first | rw [e1, e2] | simp only [e1, e2]) <;> rfl)
    ·
     refine wp_seq (wp_seq (l5 G f9 [(28, bA ((ars.length : Int) == 0))] fun G => b5 (U9 G (fun h3 q3 => ?_) fun h3 q3 => ?_)))
     · refine wp_skip (b5 (wp_seq (aC1 G (B1 ⟨[(5, _, [0, 1]), (8, _, (rg 5))], [], []⟩ (b8 (N0 b (j + 1 + 1) ((ars.length : Int)) (by omega) (by omega)) (b8 (at3 b (j + 1 + 1 + 1) vs ars bd (by omega) (by omega)) d7)) bR2) [0, 0, 0, 4, 12, 30, 0, 0, 254, 510, 1023, 2047] [0, 1, 2, 3, 4, 5, 6, 79] [.box [.ref 1, iA (j + 1 + 1 + 1 + 2)], dY b, dI vs, dI ars, dT bd, .box (pL 2), .box [iA (nm b (j + 1) N4), iA (pk b (j + 1 + 1) (ars.length : Int)), .tref 7], .tree (D.exprs [qzE (s0 b (vs.length : Int) (j + 1 + 1 + 1))])] (ac3 n [(7, iA (nm b (j + 1) N4))]) fun G => b5 (wp_ret (m8 ?_))))); exact rxv (.agg [iA (nm b (j + 1) N4), iA (pk b (j + 1 + 1) (ars.length : Int)), .tref 7]) G [0, 1, 2, 3, 4, 7] (by show _ = AV.ren (nth [0, 1, 2, 3, 4, 7]) (au4 b vs ars d j); unfold au4; have e1 : ((L6 b (vs.length : Int) (ars.length : Int) (d + 1) j).fst.kind : Int) = (nm b (j + 1) N4) := (by rw [by8 hd (by omega) (by omega) (by omega)]; (simp only [Int.add_assoc, Int.reduceAdd, b9.eta, b9.kids, b9.kind, b9.value]; omega)); have e2 : ((L6 b (vs.length : Int) (ars.length : Int) (d + 1) j).fst.value : Int) = (pk b (j + 1 + 1) (ars.length : Int)) := (by rw [by8 hd (by omega) (by omega) (by omega)]; (simp only [Int.add_assoc, Int.reduceAdd, b9.eta, b9.kids, b9.kind, b9.value]; done)); (first | rw [e1, e2] | simp only [e1, e2]) <;> rfl) (by show _ = mR [0, 1, 2, 3, 4, 7] (au3 b vs ars bd d j); unfold au3; have e1 : ((L6 b (vs.length : Int) (ars.length : Int) (d + 1) j).snd : Int) = (j + 1 + 1 + 1 + 2) := (by rw [by8 hd (by omega) (by omega) (by omega)]; (simp only [Int.add_assoc, Int.reduceAdd, b9.eta, b9.kids, b9.kind, b9.value]; done)); have e2 : ((L6 b (vs.length : Int) (ars.length : Int) (d + 1) j).fst.kids : List b9) = ([qzE (s0 b (vs.length : Int) (j + 1 + 1 + 1))]) := (by rw [by8 hd (by omega) (by omega) (by omega)]; show [_] = _; simp only [Int.add_assoc, Int.reduceAdd, b9.eta]; done); (first | rw [e1, e2] | simp only [e1, e2]) <;> rfl)
     · refine wp_seq (m6 G (A0 2 (rg 5) (at3 b (j + 1 + 1) vs ars bd (by omega) (by omega))) [0, 1, 2, 3, 4, 5, 6, 23] [.box [.ref 1, iA (j + 1 + 1 + 2)], dY b, dI vs, dI ars, dT bd, .box (pL 2), .box [iA (s0 b (vs.length : Int) (j + 1 + 1)).kind, iA (s0 b (vs.length : Int) (j + 1 + 1)).value, .tref 7], .tree (D.exprs (s0 b (vs.length : Int) (j + 1 + 1)).kids)] (ac3 n [(7, iA (nm b (j + 1) N4))]) fun G => b5 (wp_ret (m8 (m8 ?_)))); exact rxv (.agg [iA (s0 b (vs.length : Int) (j + 1 + 1)).kind, iA (s0 b (vs.length : Int) (j + 1 + 1)).value, .tref 7]) G [0, 1, 2, 3, 4, 7] (by show _ = AV.ren (nth [0, 1, 2, 3, 4, 7]) (au4 b vs ars d j); unfold au4; have e1 : ((L6 b (vs.length : Int) (ars.length : Int) (d + 1) j).fst.kind : Int) = ((s0 b (vs.length : Int) (j + 1 + 1)).kind) := (by rw [by9 hd (by omega) (by omega) (by omega)]; (simp only [Int.add_assoc, Int.reduceAdd, b9.eta, b9.kids, b9.kind, b9.value]; done)); have e2 : ((L6 b (vs.length : Int) (ars.length : Int) (d + 1) j).fst.value : Int) = ((s0 b (vs.length : Int) (j + 1 + 1)).value) := (by rw [by9 hd (by omega) (by omega) (by omega)]; (simp only [Int.add_assoc, Int.reduceAdd, b9.eta, b9.kids, b9.kind, b9.value]; done)); (first | rw [e1, e2] | simp only [e1, e2]) <;> rfl) (by show _ = mR [0, 1, 2, 3, 4, 7] (au3 b vs ars bd d j); unfold au3; have e1 : ((L6 b (vs.length : Int) (ars.length : Int) (d + 1) j).snd : Int) = (j + 1 + 1 + 2) := (by rw [by9 hd (by omega) (by omega) (by omega)]; (simp only [Int.add_assoc, Int.reduceAdd, b9.eta, b9.kids, b9.kind, b9.value]; done)); have e2 : ((L6 b (vs.length : Int) (ars.length : Int) (d + 1) j).fst : b9) = (s0 b (vs.length : Int) (j + 1 + 1)) := (by rw [by9 hd (by omega) (by omega) (by omega)]; (simp only [Int.add_assoc, Int.reduceAdd, b9.eta, b9.kids, b9.kind, b9.value]; done)); (first | rw [e1, e2] | simp only [e1, e2]) <;> rfl)
   · refine wp_seq (m6 G (A0 2 (rg 5) (at3 b (j + 1) vs ars bd (by omega) (by omega))) [0, 1, 2, 3, 4, 5, 6, 23] [.box [.ref 1, iA (j + 1 + 2)], dY b, dI vs, dI ars, dT bd, .box (pL 2), .box [iA (s0 b (vs.length : Int) (j + 1)).kind, iA (s0 b (vs.length : Int) (j + 1)).value, .tref 7], .tree (D.exprs (s0 b (vs.length : Int) (j + 1)).kids)] (ac3 n []) fun G => b5 (wp_ret (m8 ?_))); exact rxv (.agg [iA (s0 b (vs.length : Int) (j + 1)).kind, iA (s0 b (vs.length : Int) (j + 1)).value, .tref 7]) G [0, 1, 2, 3, 4, 7] (by show _ = AV.ren (nth [0, 1, 2, 3, 4, 7]) (au4 b vs ars d j); unfold au4; rw [bF7 hd (by omega)] <;> rfl) (by show _ = mR [0, 1, 2, 3, 4, 7] (au3 b vs ars bd d j); unfold au3; have e1 : ((L6 b (vs.length : Int) (ars.length : Int) (d + 1) j).snd : Int) = (j + 1 + 2) := (by rw [bF7 hd (by omega)]; (simp only [Int.add_assoc, Int.reduceAdd, b9.eta, b9.kids, b9.kind, b9.value]; done)); rw [e1, bF7 hd (by omega)] <;> rfl)
  · have q0 := dTt h0; exact False.elim (by omega)
theorem bu3 (b : List UInt8) (vs ars : List Int) (bd : List b6) : ∀ (d : Nat) (j n : Int), d ≤ 100 → n = d → 0 ≤ j → j + cE d ≤ 800000000 → l7.ok Tryz.prog (drC b vs ars bd d j n)
 | 0, j, n, _, hn, r0, r1 => a96 b vs ars bd 0 (by omega) j n hn r0 (by have := aG0 0; omega)
 | 1, j, n, _, hn, r0, r1 => a96 b vs ars bd 1 (by omega) j n hn r0 (by have := aG0 1; omega)
 | d + 2, j, n, hd, hn, r0, r1 => bw1 b vs ars bd (d + 1) (by omega) (by omega) (fun j n => bu3 b vs ars bd (d + 1) j n (by omega)) j n hn r0 r1
abbrev smC (b : List UInt8) (vs ars : List Int) (bd : List b6) (j : Int) : l7 := ⟨247, [.ptr 0 0, pA 2], dwS b j vs ars bd, dwS b (y5 b vs.length ars.length j).2 vs ars bd ++ exO (y5 b vs.length ars.length j).1, exA (y5 b vs.length ars.length j).1 5⟩
section
variable {b : List UInt8} {nv na : Nat} {j : Int}
theorem bI3 (h : i9 nv na (L6 b nv na (nm b j dpL).toNat (j + 1)).1 = true) : y5 b nv na j = L6 b nv na (nm b j dpL).toNat (j + 1) := if_pos h
theorem bI2 (h : i9 nv na (L6 b nv na (nm b j dpL).toNat (j + 1)).1 = false) : y5 b nv na j = (s0 b nv (L6 b nv na (nm b j dpL).toNat (j + 1)).2, (L6 b nv na (nm b j dpL).toNat (j + 1)).2 + 2) := if_neg (by rw [h]; decide)
theorem bN7 (r0 : 0 ≤ j) (r1 : j ≤ 700000000) : cE (nm b j dpL).toNat ≤ 364 := cE4 (dp4 b r0 (by omega)).2.2
end
abbrev Z2 (b : List UInt8) (vs : List Int) (ars : List Int) (j : Int) := L6 b (vs.length : Int) (ars.length : Int) (nm b j dpL).toNat (j + 1)
theorem ab9 (b : List UInt8) (vs ars : List Int) (bd : List b6) (j : Int) (r0 : 0 ≤ j) (r1 : j ≤ 700000000) : l7.ok Tryz.prog (smC b vs ars bd j) := by
 have hdr := fun (i n : Int) => bu3 b vs ars bd (nm b j dpL).toNat i n (bU1 (dp4 b r0 (by omega)).2.2 (by omega))
 refine G3 19 Tryz.func247 [.box [.ref 1, iA j], dY b, dI vs, dI ars, dT bd] [(0, .ptr 0 0), (1, pA 2)] fun G => ?_; have hd4 := bN7 (b := b) r0 r1; have hdb := aX9 b vs.length ars.length (nm b j dpL).toNat (j + 1); refine wp_seq (m6 G f9 [0, 1, 2, 3, 4, 5, 13] [.box [.ref 1, iA j], dY b, dI vs, dI ars, dT bd, .box (pL 2), .box [iA 0, iA 0, .v (.slice none 0 0)]] [(0, .ptr 0 0), (3, .ptr 5 0), (4, .ptr 6 0)] fun G => b5 (wp_seq (aC1 G (B1 ⟨[(4, _, [0, 1, 31]), (5, _, (rg 5))], [], []⟩ (b8 (l7.lend (P3 b j dpL (List.cons_ne_nil _ _) (by assumption) (by omega)) [.no, .no, .row 3]) (b8 (hdr (j + 1) (nm b j dpL) (bF9 b (by omega) (by omega)) (by omega) (by omega)) d7)) bR2) [0, 0, 0, 0, 12, 31, 0, 127] [0, 1, 2, 3, 4, 5, 6, 47, 55] [.box [.ref 1, iA (Z2 b vs ars j).snd], dY b, dI vs, dI ars, dT bd, .box (pL 2), .box [iA 0, iA 0, .v (.slice none 0 0)], .tree (D.exprs (Z2 b vs ars j).fst.kids), .box [iA (Z2 b vs ars j).fst.kind, iA (Z2 b vs ars j).fst.value, .tref 7]] [(0, .ptr 0 0), (3, .ptr 5 0), (4, .ptr 6 0), (5, .ptr 8 0)] fun G => b5 (wp_seq (wp_seq (l5 G (A0 2 [2, 3, 4, 7] (l7.lend (a66 vs ars bd ((L6 b (vs.length : Int) (ars.length : Int) (nm b j dpL).toNat (j + 1)).fst)) [.no, .no, .no, .tree])) [(14, bA (i9 vs.length ars.length (Z2 b vs ars j).fst))] fun G => b5 (rcB (b := i9 vs.length ars.length (L6 b (vs.length : Int) (ars.length : Int) (nm b j dpL).toNat (j + 1)).fst) G (fun h0 => ?_) fun h0 => ?_)))))))
 ·refine wp_skip (b5 (wp_seq (m6 G (A0 2 (rg 5) (at3 b ((L6 b (vs.length : Int) (ars.length : Int) (nm b j dpL).toNat (j + 1)).snd) vs ars bd (by omega) (by omega))) [0, 1, 2, 3, 4, 6, 25] [.box [.ref 1, iA ((Z2 b vs ars j).snd + 2)], dY b, dI vs, dI ars, dT bd, .box [iA (s0 b (vs.length : Int) (Z2 b vs ars j).snd).kind, iA (s0 b (vs.length : Int) (Z2 b vs ars j).snd).value, .tref 6], .tree (D.exprs (s0 b (vs.length : Int) (Z2 b vs ars j).snd).kids)] [(4, .ptr 5 0)] fun G => b5 (wp_ret ?_)))); exact rxv (.agg [iA (s0 b (vs.length : Int) (L6 b (vs.length : Int) (ars.length : Int) (nm b j dpL).toNat (j + 1)).snd).kind, iA (s0 b (vs.length : Int) (L6 b (vs.length : Int) (ars.length : Int) (nm b j dpL).toNat (j + 1)).snd).value, .tref 6]) G [0, 1, 2, 3, 4, 6] (by show _ = AV.ren (nth [0, 1, 2, 3, 4, 6]) (.agg [iA (y5 b vs.length ars.length j).fst.kind, iA (y5 b vs.length ars.length j).fst.value, .tref 5]); rw [bI2 (by with_reducible assumption)] <;> rfl) (by show _ = mR [0, 1, 2, 3, 4, 6] [.box [.ref 1, iA (y5 b vs.length ars.length j).snd], dY b, dI vs, dI ars, dT bd, .tree (D.exprs (y5 b vs.length ars.length j).fst.kids)]; rw [bI2 (by with_reducible assumption)] <;> rfl)
 ·refine wp_seq (m6 G f9 (rg 8) [.box [.ref 1, iA (Z2 b vs ars j).snd], dY b, dI vs, dI ars, dT bd, .box (pL 2), .box [iA (Z2 b vs ars j).fst.kind, iA (Z2 b vs ars j).fst.value, .tref 7], .tree (D.exprs (Z2 b vs ars j).fst.kids)] [(0, .ptr 0 0), (3, .ptr 5 0), (4, .ptr 6 0)] fun G => b5 (wp_ret (m8 ?_))); exact rxv (.agg [iA (L6 b (vs.length : Int) (ars.length : Int) (nm b j dpL).toNat (j + 1)).fst.kind, iA (L6 b (vs.length : Int) (ars.length : Int) (nm b j dpL).toNat (j + 1)).fst.value, .tref 7]) G [0, 1, 2, 3, 4, 7] (by show _ = AV.ren (nth [0, 1, 2, 3, 4, 7]) (.agg [iA (y5 b vs.length ars.length j).fst.kind, iA (y5 b vs.length ars.length j).fst.value, .tref 5]); rw [bI3 (by with_reducible assumption)] <;> rfl) (by show _ = mR [0, 1, 2, 3, 4, 7] [.box [.ref 1, iA (y5 b vs.length ars.length j).snd], dY b, dI vs, dI ars, dT bd, .tree (D.exprs (y5 b vs.length ars.length j).fst.kids)]; rw [bI3 (by with_reducible assumption)] <;> rfl)
abbrev stO (s : b6) : List It := [.tree (.exprs s.index.kids), .tree (.exprs s.value.kids), .tree (.stmts s.body), .tree (.stmts s.els)]
abbrev stA (s : b6) (r : Nat) : AV := .agg [iA s.kind, iA s.target, iA s.index.kind, iA s.index.value, .tref r, iA s.value.kind, iA s.value.value, .tref (r + 1), iA s.count, .tref (r + 2), .tref (r + 3)]
abbrev dsC (b : List UInt8) (vs ars : List Int) (bd : List b6) (d : Nat) (j n : Int) : l7 := ⟨224, [.ptr 0 0, pA 2, iA n], dwS b j vs ars bd, dwS b (D0 b vs.length ars.length d j).2 vs ars bd ++ stO (D0 b vs.length ars.length d j).1, stA (D0 b vs.length ars.length d j).1 5⟩
abbrev dbC (b : List UInt8) (vs ars : List Int) (bd : List b6) (d : Nat) (m : Nat) (j n c : Int) : l7 := ⟨183, [.ptr 0 0, pA 2, iA n, iA c], dwS b j vs ars bd, dwS b (G7 (D0 b vs.length ars.length d) m j).2 vs ars bd ++ [.tree (.stmts (G7 (D0 b vs.length ars.length d) m j).1)], .tref 5⟩
section
variable {b : List UInt8} {nv na d : Nat} {j : Int}
theorem bl0 (h : nm b j J8 = 2) (h1 : 0 < (na : Int)) : D0 b nv na d j = soS b nv na (j + 1) := by
 cases d <;> (rw [D0, if_pos ⟨h, by omega⟩])
theorem bH6 (h : nm b j J8 = 3) (h1 : 0 < d) : D0 b nv na (d + 1) j = ifS b nv na (D0 b nv na d) (j + 1) := by
 rw [D0, if_neg (by omega), if_pos ⟨h, by omega⟩]
theorem bH5 (h : nm b j J8 = 4) (h1 : 0 < d) : D0 b nv na (d + 1) j = rpS b (D0 b nv na d) (j + 1) := by
 rw [D0, if_neg (by omega), if_neg (by omega), if_pos ⟨h, by omega⟩]
theorem ae7 (h : ¬ (nm b j J8 = 2 ∧ 0 < (na : Int))) (h1 : d < 2 ∨ (¬ nm b j J8 = 3 ∧ ¬ nm b j J8 = 4)) : D0 b nv na d j = dfS b nv na (nm b j J8) (j + 1) := by
 match d, h1 with
 | 0, _ => rw [D0, if_neg (by omega)]
 | d + 1, h1 => rw [D0, if_neg (by omega), if_neg (by omega), if_neg (by omega)]
theorem bG0 {kd : Int} (h : kd = 5) : dfS b nv na kd j = (⟨5, pk b j nv, noE, (y5 b nv na (j + 1)).1, 0, [], []⟩, (y5 b nv na (j + 1)).2) := by rw [dfS, if_pos h]
theorem aY0 {kd : Int} (h : ¬ kd = 5) : dfS b nv na kd j = (⟨1, pk b j nv, noE, (y5 b nv na (j + 1)).1, 0, [], []⟩, (y5 b nv na (j + 1)).2) := by rw [dfS, if_neg h]
end
section
variable (b : List UInt8) {j : Int}
theorem bQ4 (r0 : 0 ≤ j) (r1 : j ≤ 1000000000) : 0 ≤ nm b j ibL ∧ nm b j ibL ≤ 2 := aK2 b (by simp) a48 r0 r1
theorem bQ3 (r0 : 0 ≤ j) (r1 : j ≤ 1000000000) : 0 ≤ nm b j ieL ∧ nm b j ieL ≤ 2 := aK2 b (by simp) a46 r0 r1
theorem bO0 (r0 : 0 ≤ j) (r1 : j ≤ 1000000000) : 0 ≤ nm b j rbL ∧ nm b j rbL ≤ 2 := aK2 b (by simp) a28 r0 r1
theorem bA2 (d : Nat) : (d = 0 ∧ cS (d - 1) = 402 ∧ cS d ≤ 2010) ∨ cS d = 402 + 4 * cS (d - 1) := by
 cases d with
 | zero => exact .inl ⟨rfl, rfl, by decide⟩
 | succ d => exact .inr rfl
end
section
variable {b : List UInt8} {nv na d : Nat} {j : Int}
theorem a16 (h : nm b j J8 = 3) (h1 : 1 < d) : D0 b nv na d j = ifS b nv na (D0 b nv na (d - 1)) (j + 1) := by
 match d, h1 with
 | d + 1, h1 => exact bH6 h (by omega)
theorem a15 (h : nm b j J8 = 4) (h1 : 1 < d) : D0 b nv na d j = rpS b (D0 b nv na (d - 1)) (j + 1) := by
 match d, h1 with
 | d + 1, h1 => exact bH5 h (by omega)
end
abbrev bB1 (b : List UInt8) (vs : List Int) (ars : List Int) (d : Nat) (j : Int) (k : Nat) := D0 b vs.length ars.length d (G7 (D0 b vs.length ars.length d) k j).snd
abbrev aR8 (n : Int) (c : Int) (r0 : List (Nat × AV)) : List (Nat × AV) := (0, .ptr 0 0) :: (2, iA n) :: (3, iA c) :: (5, .ptr 5 0) :: (8, .v (.slice none 0 0)) :: r0
theorem bw2 (b : List UInt8) (vs ars : List Int) (bd : List b6) (d m : Nat) (ih : ∀ (j n : Int), n = d → 0 ≤ j → j + cS d ≤ 600000000 → l7.ok Tryz.prog (dsC b vs ars bd d j n)) (j n c : Int) (hn : n = d) (hm : c = m) (hm2 : m ≤ 4) (B : Int) (hB : (m : Int) * cS d ≤ B) (r0 : 0 ≤ j) (r1 : j + B ≤ 600000000) : l7.ok Tryz.prog (dbC b vs ars bd d m j n c) := by
 refine G3 25 Tryz.func183 [.box [.ref 1, iA j], dY b, dI vs, dI ars, dT bd] [(0, .ptr 0 0), (1, pA 2), (2, iA n), (3, iA c)] fun G => ?_; have hc := aw1 d; refine wp_seq (m6 G f9 (rg 6) [.box [.ref 1, iA j], dY b, dI vs, dI ars, dT bd, .box (pL 2)] (aR8 n c []) fun G => b5 (wp_seq (m6 G f9 (rg 7) [.box [.ref 1, iA j], dY b, dI vs, dI ars, dT bd, .box (pL 2), .tree (D.stmts [])] (aR8 n c [(9, .tref 6)]) fun G => b5 (wp_seq (wp_seq (J3 G f9 (aR8 n c [(9, .tref 6), (10, iA 0)]) fun G => b5 (wp_block ?_))))))); refine x7 (κ := Nat) (fun k => k ≤ m) (fun k => m - k) (fun k => [.box [.ref 1, iA (G7 (D0 b vs.length ars.length d) k j).2], dY b, dI vs, dI ars, dT bd, .box (pL 2), .tree (.stmts (G7 (D0 b vs.length ars.length d) k j).1)]) (fun k => [(0, .ptr 0 0), (2, iA n), (3, iA c), (5, .ptr 5 0), (8, .v (.slice none 0 0)), (9, .tref 6), (10, iA k)]) 0 (by omega) (x9.at G _ _) ?_; clear G; intro k ρ a w hp G; replace G := x9.at G [.box [.ref 1, iA (G7 (D0 b vs.length ars.length d) k j).snd], dY b, dI vs, dI ars, dT bd, .box (pL 2), .tree (D.stmts (G7 (D0 b vs.length ars.length d) k j).fst)] (aR8 n c [(9, .tref 6), (10, iA k)]); have hkb := bC5 b vs.length ars.length (k := j) (i := k) hB (by omega) r0 (by omega); have hkl : (G7 (D0 b vs.length ars.length d) k j).1.length = k := aQ3 _ _ _; refine wp_seq (wp_seq (l5 G f9 [(14, bA (decide ((k : Int) < c)))] fun G => b5 (W0 G (fun h0 q0 => ?_) fun h0 q0 => ?_)))
 ·refine wp_exit (v8 (v8 (v7 (b5 (wp_seq (m6 G f9 [0, 1, 2, 3, 4, 6] [.box [.ref 1, iA (G7 (D0 b vs.length ars.length d) k j).snd], dY b, dI vs, dI ars, dT bd, .tree (D.stmts (G7 (D0 b vs.length ars.length d) k j).fst)] [(8, .tref 5)] fun G => b5 (wp_ret ?_))))))); exact M6 G (rg 6) (by show _ = mR (rg 6) [.box [.ref 1, iA (G7 (D0 b vs.length ars.length d) m j).snd], dY b, dI vs, dI ars, dT bd, .tree (D.stmts (G7 (D0 b vs.length ars.length d) m j).fst)]; rw [show m = k by omega] <;> rfl)
 ·refine wp_skip (b5 (wp_seq (wp_block (M7 G (A0 4 (rg 5) (ih ((G7 (D0 b vs.length ars.length d) k j).snd) n (by assumption) (by have := bd6 b vs.length ars.length (k := j) (i := k) hB (by omega) r0 (by omega); omega) (by have := bd6 b vs.length ars.length (k := j) (i := k) hB (by omega) r0 (by omega); omega))) [0, 1, 2, 3, 4, 5, 55] [.box [.ref 1, iA (bB1 b vs ars d j k).snd], dY b, dI vs, dI ars, dT bd, .box (pL 2), .tree (D.stmts ((G7 (D0 b vs.length ars.length d) k j).fst ++ [qzS (bB1 b vs ars d j k).fst]))] (aR8 n c [(9, .tref 6), (10, iA k)]) (aP ((G7 (D0 b vs.length ars.length d) k j).fst.length + 1) 152 []) (aK (by omega) bR2) fun G => o5 (b5 (H0 G f9 [(10, iA ((k : Int) + 1))] [wO ((k : Int) + 1)] (o1 (by omega)) fun G => b5 ?_)))))); exact Q6 G (k + 1) (by have := bd6 b vs.length ars.length (k := j) (i := k) hB (by omega) r0 (by omega); omega) (by have := bd6 b vs.length ars.length (k := j) (i := k) hB (by omega) r0 (by omega); omega) (rg 7) (by have e1 : ((G7 (D0 b vs.length ars.length d) (k + 1) j).fst : List b6) = ((G7 (D0 b vs.length ars.length d) k j).fst ++ [qzS (D0 b vs.length ars.length d (G7 (D0 b vs.length ars.length d) k j).snd).fst]) := (by show _ ++ [_] = _ ++ [_]; unfold qzS; rw [b9.eta, b9.eta, b6.eta]; done); (first | rw [e1] | simp only [e1]) <;> rfl)
abbrev aJ2 (b : List UInt8) (vs : List Int) (ars : List Int) (d : Nat) (j : Int) := G7 (D0 b vs.length ars.length (d - 1)) (nm b (y5 b vs.length ars.length (j + 1)).snd ibL).toNat ((y5 b vs.length ars.length (j + 1)).snd + 1)
abbrev a87 (b : List UInt8) (vs : List Int) (ars : List Int) (d : Nat) (j : Int) := G7 (D0 b vs.length ars.length (d - 1)) (nm b (aJ2 b vs ars d j).snd ieL).toNat ((aJ2 b vs ars d j).snd + 1)
abbrev S7 (b : List UInt8) (vs : List Int) (ars : List Int) (d : Nat) (j : Int) : AV := (.agg [iA (D0 b vs.length ars.length d j).fst.kind, iA (D0 b vs.length ars.length d j).fst.target, iA (D0 b vs.length ars.length d j).fst.index.kind, iA (D0 b vs.length ars.length d j).fst.index.value, .tref 5, iA (D0 b vs.length ars.length d j).fst.value.kind, iA (D0 b vs.length ars.length d j).fst.value.value, .tref 6, iA (D0 b vs.length ars.length d j).fst.count, .tref 7, .tref 8])
abbrev S6 (b : List UInt8) (vs : List Int) (ars : List Int) (bd : List b6) (d : Nat) (j : Int) : List It := [.box [.ref 1, iA (D0 b vs.length ars.length d j).snd], dY b, dI vs, dI ars, dT bd, .tree (D.exprs (D0 b vs.length ars.length d j).fst.index.kids), .tree (D.exprs (D0 b vs.length ars.length d j).fst.value.kids), .tree (D.stmts (D0 b vs.length ars.length d j).fst.body), .tree (D.stmts (D0 b vs.length ars.length d j).fst.els)]
abbrev an5 : It := .box [iA 0, iA 0, iA 0, iA 0, .v (.slice none 0 0), iA 0, iA 0, .v (.slice none 0 0), iA 0, .v (.slice none 0 0), .v (.slice none 0 0)]
abbrev a86 (b : List UInt8) (vs : List Int) (ars : List Int) (j : Int) : It := .box [iA 1, iA (pk b (j + 1) (vs.length : Int)), iA 0, iA 0, .v (.slice none 0 0), iA (y5 b vs.length ars.length (j + 1 + 1)).fst.kind, iA (y5 b vs.length ars.length (j + 1 + 1)).fst.value, .tref 7, iA 0, .v (.slice none 0 0), .v (.slice none 0 0)]
abbrev a85 (b : List UInt8) (vs : List Int) (ars : List Int) (j : Int) : It := .box [iA 1, iA (pk b (j + 1) (vs.length : Int)), iA 0, iA 0, .v (.slice none 0 0), iA (y5 b vs.length ars.length (j + 1 + 1)).fst.kind, iA (y5 b vs.length ars.length (j + 1 + 1)).fst.value, .tref 6, iA 0, .v (.slice none 0 0), .v (.slice none 0 0)]
abbrev a84 (b : List UInt8) (vs : List Int) (j : Int) : It := .box [iA 1, iA (pk b (j + 1) (vs.length : Int)), iA 0, iA 0, .v (.slice none 0 0), iA 0, iA 0, .v (.slice none 0 0), iA 0, .v (.slice none 0 0), .v (.slice none 0 0)]
abbrev aj5 (b : List UInt8) (vs : List Int) (ars : List Int) (j : Int) : It := .tree (D.exprs (y5 b vs.length ars.length (j + 1 + 1)).fst.kids)
abbrev X8 (b : List UInt8) (vs : List Int) (ars : List Int) (j : Int) : It := .box [.ref 1, iA (y5 b vs.length ars.length (j + 1 + 1)).snd]
abbrev aL8 : It := .box [iA 1, iA 0, iA 0, iA 0, .v (.slice none 0 0), iA 0, iA 0, .v (.slice none 0 0), iA 0, .v (.slice none 0 0), .v (.slice none 0 0)]
abbrev a79 (b : List UInt8) (vs : List Int) (ars : List Int) (bd : List b6) (j : Int) (r0 : List It) : List It := .box [.ref 1, iA (y5 b vs.length ars.length (j + 1 + 1)).snd] :: dY b :: dI vs :: dI ars :: dT bd :: .box [iA 1, iA (pk b (j + 1) (vs.length : Int)), iA 0, iA 0, .tref 7, iA (y5 b vs.length ars.length (j + 1 + 1)).fst.kind, iA (y5 b vs.length ars.length (j + 1 + 1)).fst.value, .tref 6, iA 0, .tref 8, .tref 9] :: .tree (D.exprs (y5 b vs.length ars.length (j + 1 + 1)).fst.kids) :: .tree (D.exprs []) :: .tree (D.stmts []) :: r0
abbrev a78 (b : List UInt8) (vs : List Int) (ars : List Int) (bd : List b6) (j : Int) (r0 : List It) : List It := .box [.ref 1, iA (y5 b vs.length ars.length (j + 1 + 1)).snd] :: dY b :: dI vs :: dI ars :: dT bd :: .box [iA 1, iA (pk b (j + 1) (vs.length : Int)), iA 0, iA 0, .tref 7, iA (y5 b vs.length ars.length (j + 1 + 1)).fst.kind, iA (y5 b vs.length ars.length (j + 1 + 1)).fst.value, .tref 6, iA 0, .tref 8, .v (.slice none 0 0)] :: .tree (D.exprs (y5 b vs.length ars.length (j + 1 + 1)).fst.kids) :: .tree (D.exprs []) :: r0
abbrev a77 (b : List UInt8) (vs : List Int) (ars : List Int) (bd : List b6) (j : Int) (r0 : List It) : List It := .box [.ref 1, iA (y5 b vs.length ars.length (j + 1 + 1)).snd] :: dY b :: dI vs :: dI ars :: dT bd :: .box [iA 1, iA (pk b (j + 1) (vs.length : Int)), iA 0, iA 0, .tref 7, iA (y5 b vs.length ars.length (j + 1 + 1)).fst.kind, iA (y5 b vs.length ars.length (j + 1 + 1)).fst.value, .tref 6, iA 0, .v (.slice none 0 0), .v (.slice none 0 0)] :: .tree (D.exprs (y5 b vs.length ars.length (j + 1 + 1)).fst.kids) :: r0
abbrev W3 (r0 : List (Nat × AV)) : List (Nat × AV) := (0, .ptr 0 0) :: (4, .ptr 5 0) :: (6, .ptr 6 0) :: (8, .ptr 7 0) :: r0
abbrev aR7 (b : List UInt8) (vs : List Int) (ars : List Int) (d : Nat) (j : Int) (r0 : List It) : List It := .box [.ref 1, iA (G7 (D0 b vs.length ars.length (d - 1)) (nm b (j + 1 + 1) rbL).toNat (j + 1 + 1 + 1)).snd] :: dY b :: dI vs :: dI ars :: r0
abbrev an1 (n : Int) (r0 : List (Nat × AV)) : List (Nat × AV) := (0, .ptr 0 0) :: (2, iA n) :: (4, .ptr 5 0) :: (6, .ptr 6 0) :: r0
abbrev Q9 (b : List UInt8) (vs : List Int) (ars : List Int) (bd : List b6) (r0 : List It) : List It := dY b :: dI vs :: dI ars :: dT bd :: .box (pL 2) :: an5 :: r0
abbrev a76 (b : List UInt8) (vs : List Int) (ars : List Int) (j : Int) (r0 : List It) : List It := .tree (D.exprs (s0 b (vs.length : Int) (j + 1 + 1)).kids) :: .tree (D.exprs (y5 b vs.length ars.length (j + 1 + 1 + 2)).fst.kids) :: r0
theorem bl6 (b : List UInt8) (vs ars : List Int) (bd : List b6) (d : Nat) (hd : d ≤ 3) (ih : ∀ (j n c : Int), 1 < d → n = (d : Int) - 1 → 0 ≤ c → c ≤ 2 → 0 ≤ j → j + 2 * cS (d - 1) ≤ 600000000 → l7.ok Tryz.prog (dbC b vs ars bd (d - 1) c.toNat j n c)) (j n : Int) (hn : n = d) (r0 : 0 ≤ j) (r1 : j + cS d ≤ 600000000) : l7.ok Tryz.prog (dsC b vs ars bd d j n) := by
  refine G3 100 Tryz.func224 [.box [.ref 1, iA j], dY b, dI vs, dI ars, dT bd] [(0, .ptr 0 0), (1, pA 2), (2, iA n)] fun G => ?_; have hc := aw1 (d - 1); have hcd := bA2 d; have hcn := aw1 d; have hsm := a93 b vs.length ars.length (k := j + 1) (by omega) (by omega); have hib := bQ4 b (j := (y5 b vs.length ars.length (j + 1)).2) (by omega) (by omega); have hbb := bC5 b vs.length ars.length (k := (y5 b vs.length ars.length (j + 1)).2 + 1) (i := (nm b (y5 b vs.length ars.length (j + 1)).2 ibL).toNat) (bK1 hib.1 hib.2 (show 0 ≤ cS (d - 1) by omega)) (bS8 _) (by omega) (by omega); have hie := bQ3 b (j := (G7 (D0 b vs.length ars.length (d - 1)) (nm b (y5 b vs.length ars.length (j + 1)).2 ibL).toNat ((y5 b vs.length ars.length (j + 1)).2 + 1)).2) (by omega) (by omega); have hrb := bO0 b (j := j + 1 + 1) (by omega) (by omega); refine wp_seq (m6 G f9 [0, 1, 2, 3, 4, 5, 13] (.box [.ref 1, iA j] :: (Q9 b vs ars bd [])) (an1 n []) fun G => b5 (wp_seq (m6 G (A0 2 [0, 1, 15] (l7.lend (P3 b j J8 (List.cons_ne_nil _ _) (by assumption) (by omega)) [.no, .no, .row 3])) (rg 7) (.box [.ref 1, iA (j + 1)] :: (Q9 b vs ars bd [])) (an1 n [(7, iA (nm b j J8))]) fun G => b5 (wp_seq (m6 G f9 [0, 1, 2, 3, 4, 5, 6, 23] (.box [.ref 1, iA (j + 1)] :: (Q9 b vs ars bd [.box [iA (nm b j J8), iA 0, iA 0, iA 0, .v (.slice none 0 0), iA 0, iA 0, .v (.slice none 0 0), iA 0, .v (.slice none 0 0), .v (.slice none 0 0)]])) (an1 n [(7, iA (nm b j J8)), (8, .ptr 7 0)]) fun G => b5 (wp_seq (wp_block (wp_seq ?_)))))))); cases h0 : (nm b j J8 == 2)
  ·
   have q0 := ne_of_beq_false h0; refine l5 G (F8 (fc h0 fz) (us [(3, 6, 0), (1007, 1007, 0)])) [(27, bA false)] fun G => b5 (rF G false (by kernel_rfl) (wp_seq ?_)); cases h1 : (nm b j J8 == 3)
   ·
    have q1 := ne_of_beq_false h1; refine l5 G (F8 (fc h1 fz) [(3, 0), (4, 0), (1005, 0)]) [(50, bA false)] fun G => b5 (rF G false (by kernel_rfl) (wp_seq ?_)); cases h2 : (nm b j J8 == 4)
    ·
     have q2 := ne_of_beq_false h2; refine l5 G (F8 (fc h2 fz) [(3, 0), (4, 0), (1005, 0)]) [(79, bA false)] fun G => b5 (rF G false (by kernel_rfl) (wp_seq (wp_seq (l5 G f9 [(15, bA (nm b j J8 != 5))] fun G => b5 (rcN G (fun h3 q3 => ?_) fun h3 q3 => ?_)))))
     · refine wp_skip (b5 (wp_seq (m6 G (A0 4 [0, 1] (N0 b (j + 1) ((vs.length : Int)) (by omega) (by omega))) (rg 8) (.box [.ref 1, iA (j + 1 + 1)] :: (Q9 b vs ars bd [.box [iA (nm b j J8), iA (pk b (j + 1) (vs.length : Int)), iA 0, iA 0, .v (.slice none 0 0), iA 0, iA 0, .v (.slice none 0 0), iA 0, .v (.slice none 0 0), .v (.slice none 0 0)]])) (W3 []) fun G => b5 (m6 G (A0 2 (rg 5) (ab9 b vs ars bd (j + 1 + 1) (by omega) (by omega))) [0, 1, 2, 3, 4, 6, 7, 24] [X8 b vs ars j, dY b, dI vs, dI ars, dT bd, an5, .box [iA (nm b j J8), iA (pk b (j + 1) (vs.length : Int)), iA 0, iA 0, .v (.slice none 0 0), iA (y5 b vs.length ars.length (j + 1 + 1)).fst.kind, iA (y5 b vs.length ars.length (j + 1 + 1)).fst.value, .tref 7, iA 0, .v (.slice none 0 0), .v (.slice none 0 0)], aj5 b vs ars j] [(6, .ptr 5 0), (8, .ptr 6 0)] fun G => o5 (b5 (wp_seq (m6 G f9 [0, 1, 2, 3, 4, 5, 7] [X8 b vs ars j, dY b, dI vs, dI ars, dT bd, .box [iA (nm b j J8), iA (pk b (j + 1) (vs.length : Int)), iA 0, iA 0, .v (.slice none 0 0), iA (y5 b vs.length ars.length (j + 1 + 1)).fst.kind, iA (y5 b vs.length ars.length (j + 1 + 1)).fst.value, .tref 6, iA 0, .v (.slice none 0 0), .v (.slice none 0 0)], aj5 b vs ars j] [(6, .ptr 5 0)] fun G => b5 (wp_ret ?_)))))))); obtain ⟨ρ, G⟩ := G.nilT 7 (.exprs []) [.box [.ref 1, iA (y5 b vs.length ars.length (j + 1 + 1)).snd], dY b, dI vs, dI ars, dT bd, .box [iA (nm b j J8), iA (pk b (j + 1) (vs.length : Int)), iA 0, iA 0, .tref 7, iA (y5 b vs.length ars.length (j + 1 + 1)).fst.kind, iA (y5 b vs.length ars.length (j + 1 + 1)).fst.value, .tref 6, iA 0, .v (.slice none 0 0), .v (.slice none 0 0)], .tree (D.exprs (y5 b vs.length ars.length (j + 1 + 1)).fst.kids)] [(6, .ptr 5 0)]; obtain ⟨ρ, G⟩ := G.nilT 8 (.stmts []) [.box [.ref 1, iA (y5 b vs.length ars.length (j + 1 + 1)).snd], dY b, dI vs, dI ars, dT bd, .box [iA (nm b j J8), iA (pk b (j + 1) (vs.length : Int)), iA 0, iA 0, .tref 7, iA (y5 b vs.length ars.length (j + 1 + 1)).fst.kind, iA (y5 b vs.length ars.length (j + 1 + 1)).fst.value, .tref 6, iA 0, .tref 8, .v (.slice none 0 0)], .tree (D.exprs (y5 b vs.length ars.length (j + 1 + 1)).fst.kids), .tree (D.exprs [])] [(6, .ptr 5 0)]; obtain ⟨ρ, G⟩ := G.nilT 9 (.stmts []) [.box [.ref 1, iA (y5 b vs.length ars.length (j + 1 + 1)).snd], dY b, dI vs, dI ars, dT bd, .box [iA (nm b j J8), iA (pk b (j + 1) (vs.length : Int)), iA 0, iA 0, .tref 7, iA (y5 b vs.length ars.length (j + 1 + 1)).fst.kind, iA (y5 b vs.length ars.length (j + 1 + 1)).fst.value, .tref 6, iA 0, .tref 8, .tref 9], .tree (D.exprs (y5 b vs.length ars.length (j + 1 + 1)).fst.kids), .tree (D.exprs []), .tree (D.stmts [])] [(6, .ptr 5 0)]; exact rxv (.agg [iA (nm b j J8), iA (pk b (j + 1) (vs.length : Int)), iA 0, iA 0, .tref 7, iA (y5 b vs.length ars.length (j + 1 + 1)).fst.kind, iA (y5 b vs.length ars.length (j + 1 + 1)).fst.value, .tref 6, iA 0, .tref 8, .tref 9]) G [0, 1, 2, 3, 4, 7, 6, 8, 9] (by show _ = AV.ren (nth [0, 1, 2, 3, 4, 7, 6, 8, 9]) (S7 b vs ars d j); unfold S7; have e1 : ((D0 b vs.length ars.length d j).fst.kind : Int) = (nm b j J8) := (by rw [ae7 (by omega) (by omega), bG0 (by omega)]; show (5 : Int) = _; omega); rw [e1, ae7 (by omega) (by omega), bG0 (by omega)] <;> rfl) (by show _ = mR [0, 1, 2, 3, 4, 7, 6, 8, 9] (S6 b vs ars bd d j); unfold S6; rw [ae7 (by omega) (by omega), bG0 (by omega)] <;> rfl)
     · refine m6 G f9 (rg 8) (.box [.ref 1, iA (j + 1)] :: (Q9 b vs ars bd [aL8])) (W3 []) fun G => b5 (wp_seq (m6 G (A0 4 [0, 1] (N0 b (j + 1) ((vs.length : Int)) (by omega) (by omega))) (rg 8) (.box [.ref 1, iA (j + 1 + 1)] :: (Q9 b vs ars bd [a84 b vs j])) (W3 []) fun G => b5 (m6 G (A0 2 (rg 5) (ab9 b vs ars bd (j + 1 + 1) (by omega) (by omega))) [0, 1, 2, 3, 4, 6, 7, 24] [X8 b vs ars j, dY b, dI vs, dI ars, dT bd, an5, a86 b vs ars j, aj5 b vs ars j] [(6, .ptr 5 0), (8, .ptr 6 0)] fun G => o5 (b5 (wp_seq (m6 G f9 [0, 1, 2, 3, 4, 5, 7] [X8 b vs ars j, dY b, dI vs, dI ars, dT bd, a85 b vs ars j, aj5 b vs ars j] [(6, .ptr 5 0)] fun G => b5 (wp_ret ?_))))))); obtain ⟨ρ, G⟩ := G.nilT 7 (.exprs []) (a77 b vs ars bd j []) [(6, .ptr 5 0)]; obtain ⟨ρ, G⟩ := G.nilT 8 (.stmts []) (a78 b vs ars bd j []) [(6, .ptr 5 0)]; obtain ⟨ρ, G⟩ := G.nilT 9 (.stmts []) (a79 b vs ars bd j []) [(6, .ptr 5 0)]; exact rxv (.agg [iA 1, iA (pk b (j + 1) (vs.length : Int)), iA 0, iA 0, .tref 7, iA (y5 b vs.length ars.length (j + 1 + 1)).fst.kind, iA (y5 b vs.length ars.length (j + 1 + 1)).fst.value, .tref 6, iA 0, .tref 8, .tref 9]) G [0, 1, 2, 3, 4, 7, 6, 8, 9] (by show _ = AV.ren (nth [0, 1, 2, 3, 4, 7, 6, 8, 9]) (S7 b vs ars d j); unfold S7; rw [ae7 (by omega) (by omega), aY0 (by omega)] <;> rfl) (by show _ = mR [0, 1, 2, 3, 4, 7, 6, 8, 9] (S6 b vs ars bd d j); unfold S6; rw [ae7 (by omega) (by omega), aY0 (by omega)] <;> rfl)
    ·
     have q2 := eq_of_beq h2; refine l5 G (F8 (fc h2 fz) [(3, 0), (4, 0), (1005, 0)]) [(79, bA (decide (n > 1)))] fun G => b5 (W0 G (fun h4 q4 => ?_) fun h4 q4 => ?_)
     ·
      refine wp_seq (wp_seq (J3 G f9 (W3 [(15, bA (nm b j J8 != 5))]) fun G => b5 ?_)); cases h5 : (nm b j J8 != 5)
      · have q5 := bne_eq_false_iff_eq.1 h5; exact False.elim (by omega)
      · have q5 := bne_iff_ne.1 h5; refine rT G _ h5 (m6 G f9 (rg 8) (.box [.ref 1, iA (j + 1)] :: (Q9 b vs ars bd [aL8])) (W3 []) fun G => b5 (wp_seq (m6 G (A0 4 [0, 1] (N0 b (j + 1) ((vs.length : Int)) (by omega) (by omega))) (rg 8) (.box [.ref 1, iA (j + 1 + 1)] :: (Q9 b vs ars bd [a84 b vs j])) (W3 []) fun G => b5 (m6 G (A0 2 (rg 5) (ab9 b vs ars bd (j + 1 + 1) (by omega) (by omega))) [0, 1, 2, 3, 4, 6, 7, 24] [X8 b vs ars j, dY b, dI vs, dI ars, dT bd, an5, a86 b vs ars j, aj5 b vs ars j] [(6, .ptr 5 0), (8, .ptr 6 0)] fun G => o5 (b5 (wp_seq (m6 G f9 [0, 1, 2, 3, 4, 5, 7] [X8 b vs ars j, dY b, dI vs, dI ars, dT bd, a85 b vs ars j, aj5 b vs ars j] [(6, .ptr 5 0)] fun G => b5 (wp_ret ?_)))))))); obtain ⟨ρ, G⟩ := G.nilT 7 (.exprs []) (a77 b vs ars bd j []) [(6, .ptr 5 0)]; obtain ⟨ρ, G⟩ := G.nilT 8 (.stmts []) (a78 b vs ars bd j []) [(6, .ptr 5 0)]; obtain ⟨ρ, G⟩ := G.nilT 9 (.stmts []) (a79 b vs ars bd j []) [(6, .ptr 5 0)]; exact rxv (.agg [iA 1, iA (pk b (j + 1) (vs.length : Int)), iA 0, iA 0, .tref 7, iA (y5 b vs.length ars.length (j + 1 + 1)).fst.kind, iA (y5 b vs.length ars.length (j + 1 + 1)).fst.value, .tref 6, iA 0, .tref 8, .tref 9]) G [0, 1, 2, 3, 4, 7, 6, 8, 9] (by show _ = AV.ren (nth [0, 1, 2, 3, 4, 7, 6, 8, 9]) (S7 b vs ars d j); unfold S7; rw [ae7 (by omega) (by omega), aY0 (by omega)] <;> rfl) (by show _ = mR [0, 1, 2, 3, 4, 7, 6, 8, 9] (S6 b vs ars bd d j); unfold S6; rw [ae7 (by omega) (by omega), aY0 (by omega)] <;> rfl)
     · refine wp_seq (m6 G (A0 2 [0, 1, 16] (l7.lend (P3 b (j + 1) rcL (by simp [h0, h1, h2, h4]) (by omega) (by omega)) [.no, .no, .row 3])) (rg 8) (.box [.ref 1, iA (j + 1 + 1)] :: (Q9 b vs ars bd [.box [iA (nm b j J8), iA 0, iA 0, iA 0, .v (.slice none 0 0), iA 0, iA 0, .v (.slice none 0 0), iA (nm b (j + 1) rcL), .v (.slice none 0 0), .v (.slice none 0 0)]])) (an1 n [(8, .ptr 7 0)]) fun G => b5 (Y2 G (B1 ⟨[(6, _, [0, 1, 48]), (7, _, (rg 5))], [], []⟩ (b8 (l7.lend (P3 b (j + 1 + 1) rbL (by simp [h0, h1, h2, h4]) (by omega) (by omega)) [.no, .no, .row 3]) (b8 (ih (j + 1 + 1 + 1) (n - 1) (nm b (j + 1 + 1) rbL) (by omega) (by omega) (by omega) (by omega) (by omega) (by omega)) d7)) bR2) [0, 0, 0, 4, 0, 0, 48, 127, 255, 511] [0, 1, 2, 3, 4, 6, 7, 64] (aR7 b vs ars d j [dT bd, an5, .box [iA (nm b j J8), iA 0, iA 0, iA 0, .v (.slice none 0 0), iA 0, iA 0, .v (.slice none 0 0), iA (nm b (j + 1) rcL), .tref 7, .v (.slice none 0 0)], .tree (D.stmts (G7 (D0 b vs.length ars.length (d - 1)) (nm b (j + 1 + 1) rbL).toNat (j + 1 + 1 + 1)).fst)]) [(6, .ptr 5 0), (8, .ptr 6 0)] [wO (n - 1)] (o1 (by omega)) fun G => o5 (b5 (wp_seq (m6 G f9 [0, 1, 2, 3, 4, 5, 7] (aR7 b vs ars d j [dT bd, .box [iA (nm b j J8), iA 0, iA 0, iA 0, .v (.slice none 0 0), iA 0, iA 0, .v (.slice none 0 0), iA (nm b (j + 1) rcL), .tref 6, .v (.slice none 0 0)], .tree (D.stmts (G7 (D0 b vs.length ars.length (d - 1)) (nm b (j + 1 + 1) rbL).toNat (j + 1 + 1 + 1)).fst)]) [(6, .ptr 5 0)] fun G => b5 (wp_ret ?_)))))); obtain ⟨ρ, G⟩ := G.nilT 7 (.exprs []) (aR7 b vs ars d j [dT bd, .box [iA (nm b j J8), iA 0, iA 0, iA 0, .tref 7, iA 0, iA 0, .v (.slice none 0 0), iA (nm b (j + 1) rcL), .tref 6, .v (.slice none 0 0)], .tree (D.stmts (G7 (D0 b vs.length ars.length (d - 1)) (nm b (j + 1 + 1) rbL).toNat (j + 1 + 1 + 1)).fst)]) [(6, .ptr 5 0)]; obtain ⟨ρ, G⟩ := G.nilT 8 (.exprs []) (aR7 b vs ars d j [dT bd, .box [iA (nm b j J8), iA 0, iA 0, iA 0, .tref 7, iA 0, iA 0, .tref 8, iA (nm b (j + 1) rcL), .tref 6, .v (.slice none 0 0)], .tree (D.stmts (G7 (D0 b vs.length ars.length (d - 1)) (nm b (j + 1 + 1) rbL).toNat (j + 1 + 1 + 1)).fst), .tree (D.exprs [])]) [(6, .ptr 5 0)]; obtain ⟨ρ, G⟩ := G.nilT 9 (.stmts []) (aR7 b vs ars d j [dT bd, .box [iA (nm b j J8), iA 0, iA 0, iA 0, .tref 7, iA 0, iA 0, .tref 8, iA (nm b (j + 1) rcL), .tref 6, .tref 9], .tree (D.stmts (G7 (D0 b vs.length ars.length (d - 1)) (nm b (j + 1 + 1) rbL).toNat (j + 1 + 1 + 1)).fst), .tree (D.exprs []), .tree (D.exprs [])]) [(6, .ptr 5 0)]; exact rxv (.agg [iA (nm b j J8), iA 0, iA 0, iA 0, .tref 7, iA 0, iA 0, .tref 8, iA (nm b (j + 1) rcL), .tref 6, .tref 9]) G [0, 1, 2, 3, 4, 7, 8, 6, 9] (by show _ = AV.ren (nth [0, 1, 2, 3, 4, 7, 8, 6, 9]) (S7 b vs ars d j); unfold S7; have e1 : ((D0 b vs.length ars.length d j).fst.kind : Int) = (nm b j J8) := (by rw [a15 (by omega) (by omega)]; show (4 : Int) = _; omega); rw [e1, a15 (by omega) (by omega)] <;> rfl) (by show _ = mR [0, 1, 2, 3, 4, 7, 8, 6, 9] (S6 b vs ars bd d j); unfold S6; rw [a15 (by omega) (by omega)] <;> rfl)
   ·
    have q1 := eq_of_beq h1; refine J3 G (F8 (fc h1 fz) [(3, 0), (4, 0), (1005, 0)]) (an1 n [(7, iA (nm b j J8)), (8, .ptr 7 0), (50, bA (decide (n > 1)))]) fun G => b5 (W0 G (fun h6 q6 => ?_) fun h6 q6 => ?_)
    ·
     refine wp_seq ?_; cases h7 : (nm b j J8 == 4)
     ·
      have q7 := ne_of_beq_false h7; refine l5 G (F8 (fc h7 fz) [(3, 0), (4, 0), (1005, 0)]) [(79, bA false)] fun G => b5 (rF G false (by kernel_rfl) (wp_seq (wp_seq (J3 G f9 (W3 [(15, bA (nm b j J8 != 5))]) fun G => b5 ?_)))); cases h8 : (nm b j J8 != 5)
      · have q8 := bne_eq_false_iff_eq.1 h8; exact False.elim (by omega)
      · have q8 := bne_iff_ne.1 h8; refine rT G _ h8 (m6 G f9 (rg 8) (.box [.ref 1, iA (j + 1)] :: (Q9 b vs ars bd [aL8])) (W3 []) fun G => b5 (wp_seq (m6 G (A0 4 [0, 1] (N0 b (j + 1) ((vs.length : Int)) (by omega) (by omega))) (rg 8) (.box [.ref 1, iA (j + 1 + 1)] :: (Q9 b vs ars bd [a84 b vs j])) (W3 []) fun G => b5 (m6 G (A0 2 (rg 5) (ab9 b vs ars bd (j + 1 + 1) (by omega) (by omega))) [0, 1, 2, 3, 4, 6, 7, 24] [X8 b vs ars j, dY b, dI vs, dI ars, dT bd, an5, a86 b vs ars j, aj5 b vs ars j] [(6, .ptr 5 0), (8, .ptr 6 0)] fun G => o5 (b5 (wp_seq (m6 G f9 [0, 1, 2, 3, 4, 5, 7] [X8 b vs ars j, dY b, dI vs, dI ars, dT bd, a85 b vs ars j, aj5 b vs ars j] [(6, .ptr 5 0)] fun G => b5 (wp_ret ?_)))))))); obtain ⟨ρ, G⟩ := G.nilT 7 (.exprs []) (a77 b vs ars bd j []) [(6, .ptr 5 0)]; obtain ⟨ρ, G⟩ := G.nilT 8 (.stmts []) (a78 b vs ars bd j []) [(6, .ptr 5 0)]; obtain ⟨ρ, G⟩ := G.nilT 9 (.stmts []) (a79 b vs ars bd j []) [(6, .ptr 5 0)]; exact rxv (.agg [iA 1, iA (pk b (j + 1) (vs.length : Int)), iA 0, iA 0, .tref 7, iA (y5 b vs.length ars.length (j + 1 + 1)).fst.kind, iA (y5 b vs.length ars.length (j + 1 + 1)).fst.value, .tref 6, iA 0, .tref 8, .tref 9]) G [0, 1, 2, 3, 4, 7, 6, 8, 9] (by show _ = AV.ren (nth [0, 1, 2, 3, 4, 7, 6, 8, 9]) (S7 b vs ars d j); unfold S7; rw [ae7 (by omega) (by omega), aY0 (by omega)] <;> rfl) (by show _ = mR [0, 1, 2, 3, 4, 7, 6, 8, 9] (S6 b vs ars bd d j); unfold S6; rw [ae7 (by omega) (by omega), aY0 (by omega)] <;> rfl)
     · have q7 := eq_of_beq h7; exact False.elim (by omega)
    ·
     refine wp_seq (m6 G (A0 2 (rg 5) (ab9 b vs ars bd (j + 1) (by omega) (by omega))) [0, 1, 2, 3, 4, 5, 6, 7, 24] (.box [.ref 1, iA (y5 b vs.length ars.length (j + 1)).snd] :: (Q9 b vs ars bd [.box [iA (nm b j J8), iA 0, iA 0, iA 0, .v (.slice none 0 0), iA (y5 b vs.length ars.length (j + 1)).fst.kind, iA (y5 b vs.length ars.length (j + 1)).fst.value, .tref 8, iA 0, .v (.slice none 0 0), .v (.slice none 0 0)], .tree (D.exprs (y5 b vs.length ars.length (j + 1)).fst.kids)])) (an1 n [(8, .ptr 7 0)]) fun G => b5 (wp_seq (Y2 G (B1 ⟨[(6, _, [0, 1, 49]), (7, _, (rg 5))], [], []⟩ (b8 (l7.lend (P3 b ((y5 b vs.length ars.length (j + 1)).snd) ibL (by simp [h0, h1, h6]) (by omega) (by omega)) [.no, .no, .row 3]) (b8 (ih ((y5 b vs.length ars.length (j + 1)).snd + 1) (n - 1) (nm b (y5 b vs.length ars.length (j + 1)).snd ibL) (by omega) (by omega) (by omega) (by omega) (by omega) (by omega)) d7)) bR2) [0, 0, 0, 4, 0, 0, 48, 127, 255, 511] [0, 1, 2, 3, 4, 5, 6, 7, 8, 65] (.box [.ref 1, iA (aJ2 b vs ars d j).snd] :: (Q9 b vs ars bd [.box [iA (nm b j J8), iA 0, iA 0, iA 0, .v (.slice none 0 0), iA (y5 b vs.length ars.length (j + 1)).fst.kind, iA (y5 b vs.length ars.length (j + 1)).fst.value, .tref 8, iA 0, .tref 9, .v (.slice none 0 0)], .tree (D.exprs (y5 b vs.length ars.length (j + 1)).fst.kids), .tree (D.stmts (aJ2 b vs ars d j).fst)])) (an1 n [(8, .ptr 7 0)]) [wO (n - 1)] (o1 (by omega)) fun G => b5 (Y2 G (B1 ⟨[(6, _, [0, 1, 50]), (7, _, (rg 5))], [], []⟩ (b8 (l7.lend (P3 b ((G7 (D0 b vs.length ars.length (d - 1)) (nm b (y5 b vs.length ars.length (j + 1)).snd ibL).toNat ((y5 b vs.length ars.length (j + 1)).snd + 1)).snd) ieL (by simp [h0, h1, h6]) (by omega) (by omega)) [.no, .no, .row 3]) (b8 (ih ((G7 (D0 b vs.length ars.length (d - 1)) (nm b (y5 b vs.length ars.length (j + 1)).snd ibL).toNat ((y5 b vs.length ars.length (j + 1)).snd + 1)).snd + 1) (n - 1) (nm b (G7 (D0 b vs.length ars.length (d - 1)) (nm b (y5 b vs.length ars.length (j + 1)).snd ibL).toNat ((y5 b vs.length ars.length (j + 1)).snd + 1)).snd ieL) (by omega) (by omega) (by omega) (by omega) (by omega) (by omega)) d7)) bR2) [0, 0, 0, 4, 0, 0, 48, 127, 255, 511] [0, 1, 2, 3, 4, 6, 7, 8, 9, 66] [.box [.ref 1, iA (a87 b vs ars d j).snd], dY b, dI vs, dI ars, dT bd, an5, .box [iA (nm b j J8), iA 0, iA 0, iA 0, .v (.slice none 0 0), iA (y5 b vs.length ars.length (j + 1)).fst.kind, iA (y5 b vs.length ars.length (j + 1)).fst.value, .tref 7, iA 0, .tref 8, .tref 9], .tree (D.exprs (y5 b vs.length ars.length (j + 1)).fst.kids), .tree (D.stmts (aJ2 b vs ars d j).fst), .tree (D.stmts (a87 b vs ars d j).fst)] [(6, .ptr 5 0), (8, .ptr 6 0)] [wO (n - 1)] (o1 (by omega)) fun G => o5 (b5 (wp_seq (m6 G f9 [0, 1, 2, 3, 4, 5, 7, 8, 9] [.box [.ref 1, iA (a87 b vs ars d j).snd], dY b, dI vs, dI ars, dT bd, .box [iA (nm b j J8), iA 0, iA 0, iA 0, .v (.slice none 0 0), iA (y5 b vs.length ars.length (j + 1)).fst.kind, iA (y5 b vs.length ars.length (j + 1)).fst.value, .tref 6, iA 0, .tref 7, .tref 8], .tree (D.exprs (y5 b vs.length ars.length (j + 1)).fst.kids), .tree (D.stmts (aJ2 b vs ars d j).fst), .tree (D.stmts (a87 b vs ars d j).fst)] [(6, .ptr 5 0)] fun G => b5 (wp_ret ?_)))))))); obtain ⟨ρ, G⟩ := G.nilT 9 (.exprs []) [.box [.ref 1, iA (G7 (D0 b vs.length ars.length (d - 1)) (nm b (G7 (D0 b vs.length ars.length (d - 1)) (nm b (y5 b vs.length ars.length (j + 1)).snd ibL).toNat ((y5 b vs.length ars.length (j + 1)).snd + 1)).snd ieL).toNat ((G7 (D0 b vs.length ars.length (d - 1)) (nm b (y5 b vs.length ars.length (j + 1)).snd ibL).toNat ((y5 b vs.length ars.length (j + 1)).snd + 1)).snd + 1)).snd], dY b, dI vs, dI ars, dT bd, .box [iA (nm b j J8), iA 0, iA 0, iA 0, .tref 9, iA (y5 b vs.length ars.length (j + 1)).fst.kind, iA (y5 b vs.length ars.length (j + 1)).fst.value, .tref 6, iA 0, .tref 7, .tref 8], .tree (D.exprs (y5 b vs.length ars.length (j + 1)).fst.kids), .tree (D.stmts (G7 (D0 b vs.length ars.length (d - 1)) (nm b (y5 b vs.length ars.length (j + 1)).snd ibL).toNat ((y5 b vs.length ars.length (j + 1)).snd + 1)).fst), .tree (D.stmts (G7 (D0 b vs.length ars.length (d - 1)) (nm b (G7 (D0 b vs.length ars.length (d - 1)) (nm b (y5 b vs.length ars.length (j + 1)).snd ibL).toNat ((y5 b vs.length ars.length (j + 1)).snd + 1)).snd ieL).toNat ((G7 (D0 b vs.length ars.length (d - 1)) (nm b (y5 b vs.length ars.length (j + 1)).snd ibL).toNat ((y5 b vs.length ars.length (j + 1)).snd + 1)).snd + 1)).fst)] [(6, .ptr 5 0)]
     exact rxv (.agg [iA (nm b j J8), iA 0, iA 0, iA 0, .tref 9, iA (y5 b vs.length ars.length (j + 1)).fst.kind, iA (y5 b vs.length ars.length (j + 1)).fst.value, .tref 6, iA 0, .tref 7, .tref 8]) G [0, 1, 2, 3, 4, 9, 6, 7, 8] (by show _ = AV.ren (nth [0, 1, 2, 3, 4, 9, 6, 7, 8]) (S7 b vs ars d j); unfold S7; have e1 : ((D0 b vs.length ars.length d j).fst.kind : Int) = (nm b j J8) := (by rw [a16 (by omega) (by omega)]; show (3 : Int) = _; omega); rw [e1, a16 (by omega) (by omega)] <;> rfl) (by show _ = mR [0, 1, 2, 3, 4, 9, 6, 7, 8] (S6 b vs ars bd d j); unfold S6; rw [a16 (by omega) (by omega)] <;> rfl)
  ·
   have q0 := eq_of_beq h0; refine J3 G (F8 (fc h0 fz) (us [(3, 6, 0), (1007, 1007, 0)])) (an1 n [(7, iA (nm b j J8)), (8, .ptr 7 0), (27, bA (decide ((ars.length : Int) > 0)))]) fun G => b5 (W0 G (fun h9 q9 => ?_) fun h9 q9 => ?_)
   ·
    refine wp_seq ?_; cases h10 : (nm b j J8 == 3)
    ·
     have q10 := ne_of_beq_false h10; refine J3 G (F8 (fc h10 fz) [(3, 0), (4, 0), (1005, 0)]) (an1 n [(7, iA (nm b j J8)), (8, .ptr 7 0), (50, bA false)]) fun G => b5 (rF G false (by kernel_rfl) (wp_seq ?_)); cases h11 : (nm b j J8 == 4)
     ·
      have q11 := ne_of_beq_false h11; refine l5 G (F8 (fc h11 fz) [(3, 0), (4, 0), (1005, 0)]) [(79, bA false)] fun G => b5 (rF G false (by kernel_rfl) (wp_seq (wp_seq (J3 G f9 (W3 [(15, bA (nm b j J8 != 5))]) fun G => b5 ?_)))); cases h12 : (nm b j J8 != 5)
      · have q12 := bne_eq_false_iff_eq.1 h12; exact False.elim (by omega)
      · have q12 := bne_iff_ne.1 h12; refine rT G _ h12 (m6 G f9 (rg 8) (.box [.ref 1, iA (j + 1)] :: (Q9 b vs ars bd [aL8])) (W3 []) fun G => b5 (wp_seq (m6 G (A0 4 [0, 1] (N0 b (j + 1) ((vs.length : Int)) (by omega) (by omega))) (rg 8) (.box [.ref 1, iA (j + 1 + 1)] :: (Q9 b vs ars bd [a84 b vs j])) (W3 []) fun G => b5 (m6 G (A0 2 (rg 5) (ab9 b vs ars bd (j + 1 + 1) (by omega) (by omega))) [0, 1, 2, 3, 4, 6, 7, 24] [X8 b vs ars j, dY b, dI vs, dI ars, dT bd, an5, a86 b vs ars j, aj5 b vs ars j] [(6, .ptr 5 0), (8, .ptr 6 0)] fun G => o5 (b5 (wp_seq (m6 G f9 [0, 1, 2, 3, 4, 5, 7] [X8 b vs ars j, dY b, dI vs, dI ars, dT bd, a85 b vs ars j, aj5 b vs ars j] [(6, .ptr 5 0)] fun G => b5 (wp_ret ?_)))))))); obtain ⟨ρ, G⟩ := G.nilT 7 (.exprs []) (a77 b vs ars bd j []) [(6, .ptr 5 0)]; obtain ⟨ρ, G⟩ := G.nilT 8 (.stmts []) (a78 b vs ars bd j []) [(6, .ptr 5 0)]; obtain ⟨ρ, G⟩ := G.nilT 9 (.stmts []) (a79 b vs ars bd j []) [(6, .ptr 5 0)]; exact rxv (.agg [iA 1, iA (pk b (j + 1) (vs.length : Int)), iA 0, iA 0, .tref 7, iA (y5 b vs.length ars.length (j + 1 + 1)).fst.kind, iA (y5 b vs.length ars.length (j + 1 + 1)).fst.value, .tref 6, iA 0, .tref 8, .tref 9]) G [0, 1, 2, 3, 4, 7, 6, 8, 9] (by show _ = AV.ren (nth [0, 1, 2, 3, 4, 7, 6, 8, 9]) (S7 b vs ars d j); unfold S7; rw [ae7 (by omega) (by omega), aY0 (by omega)] <;> rfl) (by show _ = mR [0, 1, 2, 3, 4, 7, 6, 8, 9] (S6 b vs ars bd d j); unfold S6; rw [ae7 (by omega) (by omega), aY0 (by omega)] <;> rfl)
     · have q11 := eq_of_beq h11; exact False.elim (by omega)
    · have q10 := eq_of_beq h10; exact False.elim (by omega)
   ·
    refine wp_seq (m6 G (A0 4 [0, 1] (N0 b (j + 1) ((ars.length : Int)) (by omega) (by omega))) (rg 8) (.box [.ref 1, iA (j + 1 + 1)] :: (Q9 b vs ars bd [.box [iA (nm b j J8), iA (pk b (j + 1) (ars.length : Int)), iA 0, iA 0, .v (.slice none 0 0), iA 0, iA 0, .v (.slice none 0 0), iA 0, .v (.slice none 0 0), .v (.slice none 0 0)]])) (W3 []) fun G => b5 (wp_seq (m6 G (A0 2 (rg 5) (at3 b (j + 1 + 1) vs ars bd (by omega) (by omega))) [0, 1, 2, 3, 4, 5, 6, 7, 24] (.box [.ref 1, iA (j + 1 + 1 + 2)] :: (Q9 b vs ars bd [.box [iA (nm b j J8), iA (pk b (j + 1) (ars.length : Int)), iA (s0 b (vs.length : Int) (j + 1 + 1)).kind, iA (s0 b (vs.length : Int) (j + 1 + 1)).value, .tref 8, iA 0, iA 0, .v (.slice none 0 0), iA 0, .v (.slice none 0 0), .v (.slice none 0 0)], .tree (D.exprs (s0 b (vs.length : Int) (j + 1 + 1)).kids)])) (W3 []) fun G => b5 (m6 G (A0 2 (rg 5) (ab9 b vs ars bd (j + 1 + 1 + 2) (by omega) (by omega))) [0, 1, 2, 3, 4, 6, 7, 8, 25] (.box [.ref 1, iA (y5 b vs.length ars.length (j + 1 + 1 + 2)).snd] :: dY b :: dI vs :: dI ars :: dT bd :: an5 :: .box [iA (nm b j J8), iA (pk b (j + 1) (ars.length : Int)), iA (s0 b (vs.length : Int) (j + 1 + 1)).kind, iA (s0 b (vs.length : Int) (j + 1 + 1)).value, .tref 7, iA (y5 b vs.length ars.length (j + 1 + 1 + 2)).fst.kind, iA (y5 b vs.length ars.length (j + 1 + 1 + 2)).fst.value, .tref 8, iA 0, .v (.slice none 0 0), .v (.slice none 0 0)] :: (a76 b vs ars j [])) [(6, .ptr 5 0), (8, .ptr 6 0)] fun G => o5 (b5 (wp_seq (m6 G f9 [0, 1, 2, 3, 4, 5, 7, 8] (.box [.ref 1, iA (y5 b vs.length ars.length (j + 1 + 1 + 2)).snd] :: dY b :: dI vs :: dI ars :: dT bd :: .box [iA (nm b j J8), iA (pk b (j + 1) (ars.length : Int)), iA (s0 b (vs.length : Int) (j + 1 + 1)).kind, iA (s0 b (vs.length : Int) (j + 1 + 1)).value, .tref 6, iA (y5 b vs.length ars.length (j + 1 + 1 + 2)).fst.kind, iA (y5 b vs.length ars.length (j + 1 + 1 + 2)).fst.value, .tref 7, iA 0, .v (.slice none 0 0), .v (.slice none 0 0)] :: (a76 b vs ars j [])) [(6, .ptr 5 0)] fun G => b5 (wp_ret ?_)))))))); obtain ⟨ρ, G⟩ := G.nilT 8 (.stmts []) (.box [.ref 1, iA (y5 b vs.length ars.length (j + 1 + 1 + 2)).snd] :: dY b :: dI vs :: dI ars :: dT bd :: .box [iA (nm b j J8), iA (pk b (j + 1) (ars.length : Int)), iA (s0 b (vs.length : Int) (j + 1 + 1)).kind, iA (s0 b (vs.length : Int) (j + 1 + 1)).value, .tref 6, iA (y5 b vs.length ars.length (j + 1 + 1 + 2)).fst.kind, iA (y5 b vs.length ars.length (j + 1 + 1 + 2)).fst.value, .tref 7, iA 0, .tref 8, .v (.slice none 0 0)] :: (a76 b vs ars j [])) [(6, .ptr 5 0)]; obtain ⟨ρ, G⟩ := G.nilT 9 (.stmts []) (.box [.ref 1, iA (y5 b vs.length ars.length (j + 1 + 1 + 2)).snd] :: dY b :: dI vs :: dI ars :: dT bd :: .box [iA (nm b j J8), iA (pk b (j + 1) (ars.length : Int)), iA (s0 b (vs.length : Int) (j + 1 + 1)).kind, iA (s0 b (vs.length : Int) (j + 1 + 1)).value, .tref 6, iA (y5 b vs.length ars.length (j + 1 + 1 + 2)).fst.kind, iA (y5 b vs.length ars.length (j + 1 + 1 + 2)).fst.value, .tref 7, iA 0, .tref 8, .tref 9] :: (a76 b vs ars j [.tree (D.stmts [])])) [(6, .ptr 5 0)]
    exact rxv (.agg [iA (nm b j J8), iA (pk b (j + 1) (ars.length : Int)), iA (s0 b (vs.length : Int) (j + 1 + 1)).kind, iA (s0 b (vs.length : Int) (j + 1 + 1)).value, .tref 6, iA (y5 b vs.length ars.length (j + 1 + 1 + 2)).fst.kind, iA (y5 b vs.length ars.length (j + 1 + 1 + 2)).fst.value, .tref 7, iA 0, .tref 8, .tref 9]) G [0, 1, 2, 3, 4, 6, 7, 8, 9] (by show _ = AV.ren (nth [0, 1, 2, 3, 4, 6, 7, 8, 9]) (S7 b vs ars d j); unfold S7; have e1 : ((D0 b vs.length ars.length d j).fst.kind : Int) = (nm b j J8) := (by rw [bl0 (by omega) (by omega)]; show (2 : Int) = _; omega); rw [e1, bl0 (by omega) (by omega)] <;> rfl) (by show _ = mR [0, 1, 2, 3, 4, 6, 7, 8, 9] (S6 b vs ars bd d j); unfold S6; rw [bl0 (by omega) (by omega)] <;> rfl)
theorem aZ4 (b : List UInt8) (vs ars : List Int) (bd : List b6) (d : Nat) (h : ∀ (j n : Int), n = d → 0 ≤ j → j + cS d ≤ 600000000 → l7.ok Tryz.prog (dsC b vs ars bd d j n)) (m : Nat) (j n c B : Int) (hn : n = d) (hm : c = m) (hm2 : m ≤ 4) (hB : (m : Int) * cS d ≤ B) (r0 : 0 ≤ j) (r1 : j + B ≤ 600000000) : l7.ok Tryz.prog (dbC b vs ars bd d m j n c) :=
 bw2 b vs ars bd d m h j n c hn hm hm2 B hB r0 r1
theorem bs6 (b : List UInt8) (vs ars : List Int) (bd : List b6) : ∀ (d : Nat), d ≤ 3 → ∀ (j n : Int), n = d → 0 ≤ j → j + cS d ≤ 600000000 → l7.ok Tryz.prog (dsC b vs ars bd d j n)
 | 0, hd, j, n, hn, r0, r1 => bl6 b vs ars bd 0 (by omega) (fun j n c h => absurd h (by omega)) j n hn r0 r1
 | d + 1, hd, j, n, hn, r0, r1 => bl6 b vs ars bd (d + 1) hd (fun j n c h hn h0 h2 r0 r1 => aZ4 b vs ars bd d (bs6 b vs ars bd d (by omega)) c.toNat j n c (2 * cS d) (by omega) (by omega) (by omega) (bK1 h0 h2 (Int.le_trans (by decide) (aw1 d))) r0 (by simpa using r1)) j n hn r0 r1
theorem bM6 : cS 3 = 34170 := by decide
theorem bG8 (b : List UInt8) (vs ars : List Int) (bd : List b6) (j n c : Int) (hn : n = 3) (h0 : 0 ≤ c) (h4 : c ≤ 4) (r0 : 0 ≤ j) (r1 : j ≤ 100000000) : l7.ok Tryz.prog (dbC b vs ars bd 3 c.toNat j n c) :=
 aZ4 b vs ars bd 3 (bs6 b vs ars bd 3 (by omega)) c.toNat j n c (4 * cS 3) (by omega) (by omega) (by omega) (bO8 h0 h4 (by rw [bM6]; decide)) r0 (by rw [bM6]; omega)
abbrev pgC (b : List UInt8) (j : Int) : l7 := ⟨123, [.ptr 0 0], [.box [.ref 1, iA j], dY b], [.box [.ref 1, iA (bdD b j).2], dY b] ++ oP (pgD b j), oA 2⟩
theorem ba4 {b : List UInt8} {l : List Int} {n i p : Int} (h : i > 0) (h2 : i ≤ n) : nsD b l (n - (i - 1)).toNat p = nsD b l (n - i).toNat p ++ [nm b (p + (n - i)) l] := by
 rw [show (n - (i - 1)).toNat = (n - i).toNat + 1 by omega, bo4, show (((n - i).toNat : Nat) : Int) = n - i by omega]
theorem ba3 {b : List UInt8} {l : List Int} {n p : Int} : nsD b l (n - n).toNat p = [] := by rw [Int.sub_self]; rfl
theorem aw8 (vs ars : List Int) (bd : List b6) (hb : r6 bd ≤ 1048576) : l7.ok Tryz.prog (I7 62 [pA 0] [dI vs, dI ars, dT bd] (bA (m0 ⟨vs, ars, bd⟩))) := O6 ⟨vs, ars, bd⟩ hb
theorem bO7 {b : List UInt8} {j : Int} (h : m0 ⟨vsD b j, asD b j, (G7 (D0 b (vsD b j).length (asD b j).length 3) (nm b (kp2 b j) nbL).toNat (kp2 b j + 1)).1⟩ = true) : pgD b j = ⟨vsD b j, asD b j, (bdD b j).1⟩ := if_pos h
theorem bO6 {b : List UInt8} {j : Int} (h : m0 ⟨vsD b j, asD b j, (G7 (D0 b (vsD b j).length (asD b j).length 3) (nm b (kp2 b j) nbL).toNat (kp2 b j + 1)).1⟩ = false) : pgD b j = fbP := if_neg (by intro h2; have h3 : m0 ⟨vsD b j, asD b j, (G7 (D0 b (vsD b j).length (asD b j).length 3) (nm b (kp2 b j) nbL).toNat (kp2 b j + 1)).1⟩ = true := h2; rw [h] at h3; cases h3)
theorem bJ4 (b : List UInt8) (j : Int) : j + 1 + (nm b j nvL - 0) = H8 b j := by unfold H8; omega
theorem bJ3 (b : List UInt8) (j : Int) : nsD b viL (nm b j nvL - 0).toNat (j + 1) = vsD b j := by unfold vsD; rw [Int.sub_zero]
theorem bJ2 (b : List UInt8) (j : Int) : H8 b j + 1 + (nm b (H8 b j) naL - 0) = kp2 b j := by unfold kp2; omega
theorem bJ1 (b : List UInt8) (j : Int) : nsD b aiL (nm b (H8 b j) naL - 0).toNat (H8 b j + 1) = asD b j := by unfold asD; rw [Int.sub_zero]
abbrev au2 (b : List UInt8) (j : Int) := G7 (D0 b (vsD b j).length (asD b j).length 3) (nm b (kp2 b j) nbL).toNat (kp2 b j + 1)
abbrev a83 (b : List UInt8) (j : Int) : List It := [.box [.ref 1, iA (bdD b j).snd], dY b, .row 3 (D.ints (pgD b j).vars), .row 3 (D.ints (pgD b j).arrays), .tree (D.stmts (pgD b j).body)]
abbrev R0 : It := .box [.v (.slice none 0 0), .v (.slice none 0 0), .v (.slice none 0 0)]
abbrev aS2 : It := .box [.ref 4, .v (.slice none 0 0), .v (.slice none 0 0)]
abbrev bj2 : It := .tree (D.stmts [b6.mk 1 1 (b9.mk 0 0 []) (b9.mk 2 0 []) 0 [] []])
theorem aY8 (b : List UInt8) (j : Int) (r0 : 0 ≤ j) (r1 : j ≤ 10000000) : l7.ok Tryz.prog (pgC b j) := by
  refine G3 52 Tryz.func123 [.box [.ref 1, iA j], dY b] [(0, .ptr 0 0)] fun G => ?_; have hnv := bE7 b r0 (by omega); have hk1 := bp7 b r0 r1; have hk2 := ba8 b r0 r1; have hna := bF0 b (k := H8 b j) (by omega) (by omega); have hnb := bK0 b (k := kp2 b j) (by omega) (by omega); have hvl := bj4 b r0 r1; have hal := bu5 b r0 r1; have hbd := bd7 b r0 r1; have hbs : r6 (G7 (D0 b (vsD b j).length (asD b j).length 3) (nm b (kp2 b j) nbL).toNat (kp2 b j + 1)).1 ≤ 1048576 := bU1 hbd.2.2 (by omega); refine wp_seq (m6 G f9 [0, 1, 2] [.box [.ref 1, iA j], dY b, R0] [(0, .ptr 0 0), (2, .ptr 2 0)] fun G => b5 (wp_seq (m6 G f9 [0, 1, 2, 11] [.box [.ref 1, iA j], dY b, R0, R0] [(0, .ptr 0 0), (2, .ptr 2 0), (3, .ptr 3 0)] fun G => b5 (wp_seq (wp_seq (m6 G (A0 2 [0, 1, 12] (l7.lend (P3 b j nvL (List.cons_ne_nil _ _) (by assumption) (by omega)) [.no, .no, .row 3])) (rg 4) [.box [.ref 1, iA (j + 1)], dY b, R0, R0] [(0, .ptr 0 0), (2, .ptr 2 0), (3, .ptr 3 0), (4, iA (nm b j nvL))] fun G => b5 (wp_block ?_))))))); have Gx := G.nil 4 3 (.ints []) 1 [.box [.ref 1, iA (j + 1)], dY b, R0, aS2] [(0, .ptr 0 0), (2, .ptr 2 0), (3, .ptr 3 0), (4, iA (nm b j nvL))]; clear G; obtain ⟨ρ, G⟩ := Gx; replace G := x9.at G [.box [.ref 1, iA (j + 1)], dY b, R0, aS2, .row 3 (D.ints [])] [(0, .ptr 0 0), (2, .ptr 2 0), (3, .ptr 3 0), (4, iA (nm b j nvL))]; replace G := G.as [.box [.ref 1, iA (j + 1 + (nm b j nvL - nm b j nvL))], dY b, .box [.v (.slice none 0 0), .v (.slice none 0 0), .v (.slice none 0 0)], .box [.ref 4, .v (.slice none 0 0), .v (.slice none 0 0)], .row 3 (D.ints (nsD b viL (nm b j nvL - nm b j nvL).toNat (j + 1)))] [(0, .ptr 0 0), (2, .ptr 2 0), (3, .ptr 3 0), (4, iA (nm b j nvL))] (by have e1 : (j + 1 + (nm b j nvL - nm b j nvL) : Int) = (j + 1) := (by omega); have e2 : (nsD b viL (nm b j nvL - nm b j nvL).toNat (j + 1) : List Int) = ([]) := ba3; (first | rw [e1, e2] | simp only [e1, e2]) <;> rfl) (by kernel_rfl); refine x7 (κ := Int) (fun i => 0 ≤ i ∧ i ≤ nm b j nvL) (fun i => i.toNat) (fun i => [.box [.ref 1, iA (j + 1 + (nm b j nvL - i))], dY b, .box [.v (.slice none 0 0), .v (.slice none 0 0), .v (.slice none 0 0)], .box [.ref 4, .v (.slice none 0 0), .v (.slice none 0 0)], .row 3 (.ints (nsD b viL (nm b j nvL - i).toNat (j + 1)))]) (fun i => [(0, .ptr 0 0), (2, .ptr 2 0), (3, .ptr 3 0), (4, iA i)]) (nm b j nvL) (by omega) (x9.at G _ _) ?_; clear G; intro i ρ a w hp G; replace G := x9.at G [.box [.ref 1, iA (j + 1 + (nm b j nvL - i))], dY b, R0, aS2, .row 3 (D.ints (nsD b viL (nm b j nvL - i).toNat (j + 1)))] [(0, .ptr 0 0), (2, .ptr 2 0), (3, .ptr 3 0), (4, iA i)]; have hlen : (nsD b viL (nm b j nvL - i).toNat (j + 1)).length = (nm b j nvL - i).toNat := ah8 _ _ _ _; refine wp_seq (wp_seq (J3 G f9 [(0, .ptr 0 0), (2, .ptr 2 0), (3, .ptr 3 0), (4, iA i), (11, bA (decide (i > 0)))] fun G => b5 ?_)); cases h0 : (decide (i > 0))
  ·
   have q0 := dFf h0
   obtain rfl : i = 0 := by omega
   rw [bJ4, bJ3] at G; refine rF G false (by kernel_rfl) (wp_exit (v8 (v8 (v7 (b5 (wp_seq (wp_seq (m6 G (A0 2 [0, 1, 13] (l7.lend (P3 b (H8 b j) naL (by simp [h0]) (by omega) (by omega)) [.no, .no, .row 3])) (rg 5) [.box [.ref 1, iA (H8 b j + 1)], dY b, R0, aS2, .row 3 (D.ints (vsD b j))] [(0, .ptr 0 0), (2, .ptr 2 0), (3, .ptr 3 0), (5, iA (nm b (H8 b j) naL))] fun G => b5 (wp_block ?_))))))))); have Gx := G.nil 5 3 (.ints []) 1 [.box [.ref 1, iA (H8 b j + 1)], dY b, R0, .box [.ref 4, .ref 5, .v (.slice none 0 0)], .row 3 (D.ints (vsD b j))] [(0, .ptr 0 0), (2, .ptr 2 0), (3, .ptr 3 0), (5, iA (nm b (H8 b j) naL))]; clear G; obtain ⟨ρ, G⟩ := Gx; replace G := x9.at G [.box [.ref 1, iA (H8 b j + 1)], dY b, R0, .box [.ref 4, .ref 5, .v (.slice none 0 0)], .row 3 (D.ints (vsD b j)), .row 3 (D.ints [])] [(0, .ptr 0 0), (2, .ptr 2 0), (3, .ptr 3 0), (5, iA (nm b (H8 b j) naL))]; have Gx := G.nilT 6 (.stmts []) [.box [.ref 1, iA (H8 b j + 1)], dY b, R0, .box [.ref 4, .ref 5, .tref 6], .row 3 (D.ints (vsD b j)), .row 3 (D.ints [])] [(0, .ptr 0 0), (2, .ptr 2 0), (3, .ptr 3 0), (5, iA (nm b (H8 b j) naL))]; clear G; obtain ⟨ρ, G⟩ := Gx; replace G := x9.at G [.box [.ref 1, iA (H8 b j + 1)], dY b, R0, .box [.ref 4, .ref 5, .tref 6], .row 3 (D.ints (vsD b j)), .row 3 (D.ints []), .tree (D.stmts [])] [(0, .ptr 0 0), (2, .ptr 2 0), (3, .ptr 3 0), (5, iA (nm b (H8 b j) naL))]; replace G := G.as [.box [.ref 1, iA (H8 b j + 1 + (nm b (H8 b j) naL - nm b (H8 b j) naL))], dY b, .box [.v (.slice none 0 0), .v (.slice none 0 0), .v (.slice none 0 0)], .box [.ref 4, .ref 5, .tref 6], .row 3 (D.ints (vsD b j)), .row 3 (D.ints (nsD b aiL (nm b (H8 b j) naL - nm b (H8 b j) naL).toNat (H8 b j + 1))), .tree (D.stmts [])] [(0, .ptr 0 0), (2, .ptr 2 0), (3, .ptr 3 0), (5, iA (nm b (H8 b j) naL))] (by have e1 : (H8 b j + 1 + (nm b (H8 b j) naL - nm b (H8 b j) naL) : Int) = (H8 b j + 1) := (by simp [h0]); have e2 : (nsD b aiL (nm b (H8 b j) naL - nm b (H8 b j) naL).toNat (H8 b j + 1) : List Int) = ([]) := ba3; (first | rw [e1, e2] | simp only [e1, e2]) <;> rfl) (by kernel_rfl); refine x7 (κ := Int) (fun i2 => 0 ≤ i2 ∧ i2 ≤ nm b (H8 b j) naL) (fun i2 => i2.toNat) (fun i2 => [.box [.ref 1, iA (H8 b j + 1 + (nm b (H8 b j) naL - i2))], dY b, .box [.v (.slice none 0 0), .v (.slice none 0 0), .v (.slice none 0 0)], .box [.ref 4, .ref 5, .tref 6], .row 3 (D.ints (vsD b j)), .row 3 (.ints (nsD b aiL (nm b (H8 b j) naL - i2).toNat (H8 b j + 1))), .tree (D.stmts [])]) (fun i2 => [(0, .ptr 0 0), (2, .ptr 2 0), (3, .ptr 3 0), (5, iA i2)]) (nm b (H8 b j) naL) (by omega) (x9.at G _ _) ?_; clear G; intro i2 ρ a w hp G; replace G := x9.at G [.box [.ref 1, iA (H8 b j + 1 + (nm b (H8 b j) naL - i2))], dY b, R0, .box [.ref 4, .ref 5, .tref 6], .row 3 (D.ints (vsD b j)), .row 3 (D.ints (nsD b aiL (nm b (H8 b j) naL - i2).toNat (H8 b j + 1))), .tree (D.stmts [])] [(0, .ptr 0 0), (2, .ptr 2 0), (3, .ptr 3 0), (5, iA i2)]; have hlen : (nsD b aiL (nm b (H8 b j) naL - i2).toNat (H8 b j + 1)).length = (nm b (H8 b j) naL - i2).toNat := ah8 _ _ _ _; refine wp_seq (wp_seq (J3 G f9 [(0, .ptr 0 0), (2, .ptr 2 0), (3, .ptr 3 0), (5, iA i2), (26, bA (decide (i2 > 0)))] fun G => b5 ?_)); cases h1 : (decide (i2 > 0))
   ·
    have q1 := dFf h1
    obtain rfl : i2 = 0 := by omega
    rw [bJ2, bJ1] at G; refine rF G false (by kernel_rfl) (wp_exit (v8 (v8 (v7 (b5 (wp_seq (aC1 G (B1 ⟨[(4, _, [0, 1, 31]), (5, _, [0, 1, 4, 5, 6])], [], []⟩ (b8 (l7.lend (P3 b (kp2 b j) nbL (by simp [h0, h1]) (by omega) (by omega)) [.no, .no, .row 3]) (b8 (l7.lend (bG8 b (vsD b j) (asD b j) ([]) (kp2 b j + 1) 3 (nm b (kp2 b j) nbL) (by kernel_rfl) (by omega) (by omega) (by omega) (by omega)) [.no, .no, .row 3, .row 3, .tree]) d7)) bR2) [0, 0, 0, 0, 12, 31, 63, 127] [0, 1, 2, 3, 4, 5, 47] [.box [.ref 1, iA (au2 b j).snd], dY b, R0, .box [.ref 4, .ref 5, .tref 6], .row 3 (D.ints (vsD b j)), .row 3 (D.ints (asD b j)), .tree (D.stmts (au2 b j).fst)] [(2, .ptr 2 0), (3, .ptr 3 0)] fun G => b5 (wp_seq (wp_seq (l5 G (A0 1 [4, 5, 6] (l7.lend (aw8 (vsD b j) (asD b j) ((G7 (D0 b (vsD b j).length (asD b j).length 3) (nm b (kp2 b j) nbL).toNat (kp2 b j + 1)).fst) (by assumption)) [.row 3, .row 3, .tree])) [(45, bA (m0 (f5.mk (vsD b j) (asD b j) (au2 b j).fst)))] fun G => b5 (rcB (b := m0 (f5.mk (vsD b j) (asD b j) (G7 (D0 b (vsD b j).length (asD b j).length (3 : Nat)) (nm b (kp2 b j) nbL).toNat (kp2 b j + 1)).fst)) G (fun h2 => ?_) fun h2 => ?_)))))))))))
    · refine wp_skip (b5 (wp_seq (m6 G f9 [0, 1, 2, 7, 31] [.box [.ref 1, iA (au2 b j).snd], dY b, .box [.ref 3, .v (.slice none 0 0), .tref 4], .row 3 (D.ints ([0] ++ ([1] ++ []))), bj2] [(2, .ptr 2 0)] fun G => b5 (wp_ret ?_)))); have Gx := G.nil 5 3 (.ints []) 1 [.box [.ref 1, iA (au2 b j).snd], dY b, .box [.ref 3, .ref 5, .tref 4], .row 3 (D.ints ([0] ++ ([1] ++ []))), bj2] [(2, .ptr 2 0)]; clear G; obtain ⟨ρ, G⟩ := Gx; replace G := x9.at G [.box [.ref 1, iA (au2 b j).snd], dY b, .box [.ref 3, .ref 5, .tref 4], .row 3 (D.ints ([0] ++ ([1] ++ []))), bj2, .row 3 (D.ints [])] [(2, .ptr 2 0)]; exact M6 G [0, 1, 3, 5, 4] (by show _ = mR [0, 1, 3, 5, 4] (a83 b j); unfold a83; rw [bO6 (by with_reducible assumption)] <;> rfl)
    · refine wp_seq (m6 G f9 [0, 1, 2, 4, 5, 6] [.box [.ref 1, iA (au2 b j).snd], dY b, .box [.ref 3, .ref 4, .tref 5], .row 3 (D.ints (vsD b j)), .row 3 (D.ints (asD b j)), .tree (D.stmts (au2 b j).fst)] [(2, .ptr 2 0)] fun G => b5 (wp_ret (m8 ?_))); exact M6 G [0, 1, 3, 4, 5] (by show _ = mR [0, 1, 3, 4, 5] (a83 b j); unfold a83; rw [bO7 (by with_reducible assumption)] <;> rfl)
   · have q1 := dTt h1; refine rT G _ h1 (wp_skip (b5 (wp_seq (wp_block (Y2 G (A0 4 [0, 1, 31] (l7.lend (P3 b (H8 b j + 1 + (nm b (H8 b j) naL - i2)) aiL (by simp [h0, h1]) (by omega) (by omega)) [.no, .no, .row 3])) [0, 1, 0, 0, 12, 28, 63, 127, 255] [0, 1, 2, 3, 4, 6, 55] [.box [.ref 1, iA (H8 b j + 1 + (nm b (H8 b j) naL - i2) + 1)], dY b, R0, .box [.ref 4, .ref 6, .tref 5], .row 3 (D.ints (vsD b j)), .tree (D.stmts []), .row 3 (D.ints (nsD b aiL (nm b (H8 b j) naL - i2).toNat (H8 b j + 1) ++ ([nm b (H8 b j + 1 + (nm b (H8 b j) naL - i2)) aiL] ++ [])))] [(0, .ptr 0 0), (2, .ptr 2 0), (3, .ptr 3 0), (5, iA i2)] (aP ((nsD b aiL (nm b (H8 b j) naL - i2).toNat (H8 b j + 1)).length + ([nm b (H8 b j + 1 + (nm b (H8 b j) naL - i2)) aiL] ++ []).length) 8 []) (aK (by simp only [bS5, bR7, bS2, ah8]; omega) bR2) fun G => o5 (b5 (H0 G f9 [(5, iA (i2 - 1))] [wO (i2 - 1)] (o1 (by omega)) fun G => b5 ?_))))))); exact Q6 G (i2 - 1) (by omega) (by omega) [0, 1, 2, 3, 4, 6, 5] (by have e1 : (H8 b j + 1 + (nm b (H8 b j) naL - (i2 - 1)) : Int) = (H8 b j + 1 + (nm b (H8 b j) naL - i2) + 1) := (by omega); have e2 : (nsD b aiL (nm b (H8 b j) naL - (i2 - 1)).toNat (H8 b j + 1) : List Int) = (nsD b aiL (nm b (H8 b j) naL - i2).toNat (H8 b j + 1) ++ ([nm b (H8 b j + 1 + (nm b (H8 b j) naL - i2)) aiL] ++ [])) := (ba4 (by omega) (by omega)); (first | rw [e1, e2] | simp only [e1, e2]) <;> rfl)
  · have q0 := dTt h0; refine rT G _ h0 (wp_skip (b5 (wp_seq (wp_block (Y2 G (A0 4 [0, 1, 29] (l7.lend (P3 b (j + 1 + (nm b j nvL - i)) viL (by simp [h0]) (by omega) (by omega)) [.no, .no, .row 3])) [0, 1, 0, 0, 12, 28, 63, 127, 255] [0, 1, 2, 3, 53] [.box [.ref 1, iA (j + 1 + (nm b j nvL - i) + 1)], dY b, R0, aS2, .row 3 (D.ints (nsD b viL (nm b j nvL - i).toNat (j + 1) ++ ([nm b (j + 1 + (nm b j nvL - i)) viL] ++ [])))] [(0, .ptr 0 0), (2, .ptr 2 0), (3, .ptr 3 0), (4, iA i)] (aP ((nsD b viL (nm b j nvL - i).toNat (j + 1)).length + ([nm b (j + 1 + (nm b j nvL - i)) viL] ++ []).length) 8 []) (aK (by simp only [bS5, bR7, bS2, ah8]; omega) bR2) fun G => o5 (b5 (H0 G f9 [(4, iA (i - 1))] [wO (i - 1)] (o1 (by omega)) fun G => b5 ?_))))))); exact Q6 G (i - 1) (by omega) (by omega) (rg 5) (by have e1 : (j + 1 + (nm b j nvL - (i - 1)) : Int) = (j + 1 + (nm b j nvL - i) + 1) := (by omega); have e2 : (nsD b viL (nm b j nvL - (i - 1)).toNat (j + 1) : List Int) = (nsD b viL (nm b j nvL - i).toNat (j + 1) ++ ([nm b (j + 1 + (nm b j nvL - i)) viL] ++ [])) := (ba4 (by omega) (by omega)); (first | rw [e1, e2] | simp only [e1, e2]) <;> rfl)
abbrev mtC (b : List UInt8) (p : f5) (j : Int) : l7 := ⟨55, [.ptr 0 0, pA 2], [.box [.ref 1, iA j], dY b] ++ pS p, [.box [.ref 1, iA (mtD b p j).2], dY b] ++ pS p ++ oP (mtD b p j).1, oA 5⟩
section
variable {b : List UInt8} {p : f5} {j : Int}
theorem bO9 (h : pk b j 60 = 0) (h1 : (p.vars.length : Int) > 0) : mtD b p j = (⟨p.vars.set 0 (l1D b (j + 1)), p.arrays, p.body⟩, j + 1 + 2) := by
 rw [mtD, if_pos h, if_pos (by omega)]
theorem bP0 (h : pk b j 60 = 1) : mtD b p j = (⟨p.vars ++ bT6 (13 - p.vars.length) 1, p.arrays, p.body⟩, j + 1) := by
 rw [mtD, if_neg (by omega), if_pos h]
theorem bP5 (h : pk b j 60 = 2) (h1 : (p.body.length : Int) > 0) : mtD b p j = (⟨p.vars, p.arrays, p.body.set 0 (kdS (p.body.getD 0 bR0) (nm b (j + 1) m2L))⟩, j + 1 + 1) := by
 rw [mtD, if_neg (by omega), if_neg (by omega), if_pos h, if_pos (by omega)]
theorem bP4 (h : pk b j 60 = 3) (h1 : (p.body.length : Int) > 0) : mtD b p j = (⟨p.vars, p.arrays, p.body.set ((p.body.length : Int) - 1).toNat (tgS (p.body.getD ((p.body.length : Int) - 1).toNat bR0) (nm b (j + 1) m3L))⟩, j + 1 + 1) := by
 rw [mtD, if_neg (by omega), if_neg (by omega), if_neg (by omega), if_pos h, if_pos (by omega)]
theorem bP3 (h : pk b j 60 = 4) (h1 : (p.body.length : Int) > 0) : mtD b p j = (⟨p.vars, p.arrays, p.body.set 0 (vvS (p.body.getD 0 bR0) (nm b (j + 1) m4L))⟩, j + 1 + 1) := by
 rw [mtD, if_neg (by omega), if_neg (by omega), if_neg (by omega), if_neg (by omega), if_pos h, if_pos (by omega)]
theorem bP2 (h : pk b j 60 = 5) (h1 : (p.body.length : Int) > 0) : mtD b p j = (⟨p.vars, p.arrays, p.body.set 0 (ctS (p.body.getD 0 bR0) (nm b (j + 1) m5L))⟩, j + 1 + 1) := by
 rw [mtD, if_neg (by omega), if_neg (by omega), if_neg (by omega), if_neg (by omega), if_neg (by omega), if_pos h, if_pos (by omega)]
theorem bP1 (h : pk b j 60 = 6) : mtD b p j = (⟨[], [], []⟩, j + 1) := by
 rw [mtD, if_neg (by omega), if_neg (by omega), if_neg (by omega), if_neg (by omega), if_neg (by omega), if_neg (by omega), if_pos h]
theorem bf1 (h : (pk b j 60 = 0 ∧ ¬ (p.vars.length : Int) > 0) ∨ ((pk b j 60 = 2 ∨ pk b j 60 = 3 ∨ pk b j 60 = 4 ∨ pk b j 60 = 5) ∧ ¬ (p.body.length : Int) > 0) ∨ (¬ pk b j 60 = 0 ∧ ¬ pk b j 60 = 1 ∧ ¬ pk b j 60 = 2 ∧ ¬ pk b j 60 = 3 ∧ ¬ pk b j 60 = 4 ∧ ¬ pk b j 60 = 5 ∧ ¬ pk b j 60 = 6)) : mtD b p j = (p, j + 1) := by
 unfold mtD
 (repeat' split) <;> first | rfl | (exfalso; omega)
theorem bm7 {k : Nat} : p.vars ++ bT6 (k + 1) 1 = (p.vars ++ bT6 k 1) ++ [1] := by
 rw [List.replicate_succ', List.append_assoc]
theorem bK2 {k : Nat} (h : pk b j 60 = 1) (h1 : k ≤ 13 - p.vars.length) (h2 : ¬ (((p.vars ++ bT6 k (1 : Int)).length : Nat) : Int) ≤ 12) : mtD b p j = (⟨p.vars ++ bT6 k 1, p.arrays, p.body⟩, j + 1) := by
 simp only [bS5, bT5] at h2
 rw [bP0 h, show 13 - p.vars.length = k by omega]
end
abbrev aJ1 (p : f5) := p.body.getD ((p.body.length : Int) - 1).toNat bR0
abbrev G6 (b : List UInt8) (p : f5) (j : Int) : List It := [.box [.ref 1, iA (mtD b p j).snd], dY b, dI p.vars, dI p.arrays, dT p.body, .row 3 (D.ints (mtD b p j).fst.vars), .row 3 (D.ints (mtD b p j).fst.arrays), .tree (D.stmts (mtD b p j).fst.body)]
abbrev aS1 : It := .box [.v (.slice none 0 0), .v (.slice none 0 0), .v (.slice none 0 0)]
abbrev bB0 (b : List UInt8) (p : f5) (j : Int) : It := .tree (D.stmts (p.body.set 0 (b6.mk (p.body.getD 0 bR0).kind (p.body.getD 0 bR0).target (p.body.getD 0 bR0).index (b9.mk (p.body.getD 0 bR0).value.kind (nm b (j + 1) m4L) (p.body.getD 0 bR0).value.kids) (p.body.getD 0 bR0).count (p.body.getD 0 bR0).body (p.body.getD 0 bR0).els)))
abbrev ad9 : It := .box [.ref 6, .ref 7, .tref 8]
abbrev bA9 (b : List UInt8) (p : f5) (j : Int) : It := .tree (D.stmts (p.body.set 0 (b6.mk (nm b (j + 1) m2L) (p.body.getD 0 bR0).target (p.body.getD 0 bR0).index (p.body.getD 0 bR0).value (p.body.getD 0 bR0).count (p.body.getD 0 bR0).body (p.body.getD 0 bR0).els)))
abbrev bA8 (b : List UInt8) (p : f5) (j : Int) : It := .tree (D.stmts (p.body.set 0 (b6.mk (p.body.getD 0 bR0).kind (p.body.getD 0 bR0).target (p.body.getD 0 bR0).index (p.body.getD 0 bR0).value (nm b (j + 1) m5L) (p.body.getD 0 bR0).body (p.body.getD 0 bR0).els)))
abbrev bA7 (b : List UInt8) (p : f5) (j : Int) : It := .tree (D.stmts (p.body.set ((p.body.length : Int) - 1).toNat (b6.mk (aJ1 p).kind (nm b (j + 1) m3L) (aJ1 p).index (aJ1 p).value (aJ1 p).count (aJ1 p).body (aJ1 p).els)))
abbrev aj0 (b : List UInt8) (p : f5) (r0 : List It) : List It := dY b :: dI p.vars :: dI p.arrays :: dT p.body :: ad9 :: .row 3 (D.ints p.vars) :: .row 3 (D.ints p.arrays) :: r0
abbrev aI3 (p : f5) (r0 : List It) : List It := dI p.vars :: dI p.arrays :: dT p.body :: aS1 :: .row 3 (D.ints p.vars) :: .row 3 (D.ints p.arrays) :: r0
abbrev an0 (p : f5) (r0 : List It) : List It := .row 3 (D.ints p.arrays) :: .tree (D.stmts p.body) :: r0
abbrev az6 (b : List UInt8) (p : f5) (j : Int) (r0 : List It) : List It := .box [.ref 1, iA (j + 1)] :: dY b :: dI p.vars :: dI p.arrays :: dT p.body :: r0
abbrev a75 (b : List UInt8) (p : f5) (j : Int) (r0 : List (Nat × AV)) : List (Nat × AV) := (0, .ptr 0 0) :: (4, .ptr 5 0) :: (5, .ptr 9 0) :: (6, iA (p.body.length : Int)) :: (13, iA (pk b j 60)) :: r0
theorem aF7 (b : List UInt8) (p : f5) (j : Int) (hb : p.size ≤ 1000000) (r0 : 0 ≤ j) (r1 : j ≤ 100000000) : l7.ok Tryz.prog (mtC b p j) := by
  refine G3 87 Tryz.func55 [.box [.ref 1, iA j], dY b, dI p.vars, dI p.arrays, dT p.body] [(0, .ptr 0 0), (1, pA 2)] fun G => ?_
  have hb1 : p.vars.length ≤ 1048576 ∧ p.arrays.length ≤ 1048576 ∧ r6 p.body ≤ 1048576 := by unfold f5.size at hb; omega
  have hb2 : p.body.length ≤ 1048576 := bU1 (Z3 _) hb1.2.2; refine wp_seq (m6 G f9 [0, 1, 2, 3, 4, 5, 13] [.box [.ref 1, iA j], dY b, dI p.vars, dI p.arrays, dT p.body, .box (pL 2), aS1] [(0, .ptr 0 0), (3, .ptr 5 0), (4, .ptr 6 0)] fun G => b5 (wp_seq (m6 G (A0 1 [2, 3, 4] (at1 p.vars p.arrays p.body (bU1 hb (by omega)))) [0, 1, 2, 3, 4, 6, 15, 16, 17, 23] (.box [.ref 1, iA j] :: dY b :: (aI3 p [.tree (D.stmts p.body), ad9])) [(0, .ptr 0 0), (4, .ptr 5 0), (5, .ptr 9 0)] fun G => b5 (wp_seq (l5 G f9 [(6, iA (p.body.length : Int))] fun G => b5 (wp_seq (wp_seq (m6 G (A0 1 [0, 1] (N0 b j 60 (by assumption) (by simp only [bS5, bT5, bR7, bS2] at *; omega))) (rg 10) (.box [.ref 1, iA (j + 1)] :: dY b :: (aI3 p [.tree (D.stmts p.body), ad9])) (a75 b p j []) fun G => b5 (wp_block (wp_seq (l5 G f9 [(14, bA (pk b j 60 == 0))] fun G => b5 (U9 G (fun h0 q0 => ?_) fun h0 q0 => ?_))))))))))))
  ·
   refine wp_seq (J3 G f9 (a75 b p j [(25, bA (pk b j 60 == 1))]) fun G => b5 (U9 G (fun h1 q1 => ?_) fun h1 q1 => ?_))
   ·
    refine wp_seq (l5 G f9 [(36, bA (pk b j 60 == 2))] fun G => b5 (U9 G (fun h2 q2 => ?_) fun h2 q2 => ?_))
    ·
     refine wp_seq (l5 G f9 [(47, bA (pk b j 60 == 3))] fun G => b5 (U9 G (fun h3 q3 => ?_) fun h3 q3 => ?_))
     ·
      refine wp_seq (l5 G f9 [(60, bA (pk b j 60 == 4))] fun G => b5 (U9 G (fun h4 q4 => ?_) fun h4 q4 => ?_))
      ·
       refine wp_seq (l5 G f9 [(72, bA (pk b j 60 == 5))] fun G => b5 (U9 G (fun h5 q5 => ?_) fun h5 q5 => ?_))
       ·
        refine wp_seq (l5 G f9 [(83, bA (pk b j 60 == 6))] fun G => b5 (U9 G (fun h6 q6 => ?_) fun h6 q6 => ?_))
        · refine wp_skip (o5 (b5 (wp_seq (m6 G f9 (rg 9) (.box [.ref 1, iA (j + 1)] :: (aj0 b p [.tree (D.stmts p.body)])) [(4, .ptr 5 0)] fun G => b5 (wp_ret ?_))))); exact M6 G [0, 1, 2, 3, 4, 6, 7, 8] (by show _ = mR [0, 1, 2, 3, 4, 6, 7, 8] (G6 b p j); unfold G6; rw [bf1 (by omega)] <;> rfl)
        · refine wp_seq (J3 G f9 [(4, .ptr 5 0), (5, .ptr 9 0)] fun G => b5 (wp_ret (C9 (m8 ?_)))); obtain ⟨ρ, G⟩ := G.nil 10 3 (.ints []) 1 (az6 b p j (.box [.ref 10, .v (.slice none 0 0), .v (.slice none 0 0)] :: .row 3 (D.ints p.vars) :: (an0 p [.box [.ref 6, .ref 7, .tref 8]]))) [(4, .ptr 5 0), (5, .ptr 9 0)]; obtain ⟨ρ, G⟩ := G.nil 11 3 (.ints []) 1 (az6 b p j (.box [.ref 10, .ref 11, .v (.slice none 0 0)] :: .row 3 (D.ints p.vars) :: (an0 p [.box [.ref 6, .ref 7, .tref 8], .row 3 (D.ints [])]))) [(4, .ptr 5 0), (5, .ptr 9 0)]; obtain ⟨ρ, G⟩ := G.nilT 12 (.stmts []) (az6 b p j (.box [.ref 10, .ref 11, .tref 12] :: .row 3 (D.ints p.vars) :: (an0 p [.box [.ref 6, .ref 7, .tref 8], .row 3 (D.ints []), .row 3 (D.ints [])]))) [(4, .ptr 5 0), (5, .ptr 9 0)]; exact M6 G [0, 1, 2, 3, 4, 10, 11, 12] (by show _ = mR [0, 1, 2, 3, 4, 10, 11, 12] (G6 b p j); unfold G6; rw [bP1 (by omega)] <;> rfl)
       ·
        refine wp_seq (l5 G f9 [(75, bA (decide ((p.body.length : Int) > 0)))] fun G => b5 (W0 G (fun h7 q7 => ?_) fun h7 q7 => ?_))
        · refine wp_skip (o5 (b5 (wp_seq (m6 G f9 (rg 9) (.box [.ref 1, iA (j + 1)] :: (aj0 b p [.tree (D.stmts p.body)])) [(4, .ptr 5 0)] fun G => b5 (wp_ret ?_))))); exact M6 G [0, 1, 2, 3, 4, 6, 7, 8] (by show _ = mR [0, 1, 2, 3, 4, 6, 7, 8] (G6 b p j); unfold G6; rw [bf1 (by omega)] <;> rfl)
        · refine Y2 G (A0 4 [0, 1, 34] (l7.lend (P3 b (j + 1) m5L (by simp [h0, h1, h2, h3, h4, h5, h7]) (by simp only [bS5, bT5, bR7, bS2] at *; omega) (by simp only [bS5, bT5, bR7, bS2] at *; omega)) [.no, .no, .row 3])) [0, 1, 0, 0, 12, 31, 63, 127] (rg 10) (.box [.ref 1, iA (j + 1 + 1)] :: dY b :: (aI3 p [bA8 b p j, ad9])) [(4, .ptr 5 0), (5, .ptr 9 0)] [(0 : Int) ≤ 0, (0 : Int) < p.body.length, (0 : Nat) < p.body.length] ⟨(by simp [h0, h1, h2, h3, h4, h5, h7]), (by assumption), (by simp only [bS5, bT5, bR7, bS2] at *; omega), bR2⟩ fun G => o5 (b5 (wp_seq (m6 G f9 (rg 9) (.box [.ref 1, iA (j + 1 + 1)] :: (aj0 b p [bA8 b p j])) [(4, .ptr 5 0)] fun G => b5 (wp_ret ?_)))); exact M6 G [0, 1, 2, 3, 4, 6, 7, 8] (by show _ = mR [0, 1, 2, 3, 4, 6, 7, 8] (G6 b p j); unfold G6; rw [bP2 (by omega) (by omega)] <;> rfl)
      ·
       refine wp_seq (l5 G f9 [(63, bA (decide ((p.body.length : Int) > 0)))] fun G => b5 (W0 G (fun h8 q8 => ?_) fun h8 q8 => ?_))
       · refine wp_skip (o5 (b5 (wp_seq (m6 G f9 (rg 9) (.box [.ref 1, iA (j + 1)] :: (aj0 b p [.tree (D.stmts p.body)])) [(4, .ptr 5 0)] fun G => b5 (wp_ret ?_))))); exact M6 G [0, 1, 2, 3, 4, 6, 7, 8] (by show _ = mR [0, 1, 2, 3, 4, 6, 7, 8] (G6 b p j); unfold G6; rw [bf1 (by omega)] <;> rfl)
       · refine Y2 G (A0 4 [0, 1, 34] (l7.lend (P3 b (j + 1) m4L (by simp [h0, h1, h2, h3, h4, h8]) (by simp only [bS5, bT5, bR7, bS2] at *; omega) (by simp only [bS5, bT5, bR7, bS2] at *; omega)) [.no, .no, .row 3])) [0, 1, 0, 0, 12, 31, 63, 127, 255] (rg 10) (.box [.ref 1, iA (j + 1 + 1)] :: dY b :: (aI3 p [bB0 b p j, ad9])) [(4, .ptr 5 0), (5, .ptr 9 0)] [(0 : Int) ≤ 0, (0 : Int) < p.body.length, (0 : Nat) < p.body.length] ⟨(by simp [h0, h1, h2, h3, h4, h8]), (by assumption), (by simp only [bS5, bT5, bR7, bS2] at *; omega), bR2⟩ fun G => o5 (b5 (wp_seq (m6 G f9 (rg 9) (.box [.ref 1, iA (j + 1 + 1)] :: (aj0 b p [bB0 b p j])) [(4, .ptr 5 0)] fun G => b5 (wp_ret ?_)))); exact M6 G [0, 1, 2, 3, 4, 6, 7, 8] (by show _ = mR [0, 1, 2, 3, 4, 6, 7, 8] (G6 b p j); unfold G6; rw [bP3 (by omega) (by omega)] <;> rfl)
     ·
      refine wp_seq (l5 G f9 [(50, bA (decide ((p.body.length : Int) > 0)))] fun G => b5 (W0 G (fun h9 q9 => ?_) fun h9 q9 => ?_))
      · refine wp_skip (o5 (b5 (wp_seq (m6 G f9 (rg 9) (.box [.ref 1, iA (j + 1)] :: (aj0 b p [.tree (D.stmts p.body)])) [(4, .ptr 5 0)] fun G => b5 (wp_ret ?_))))); exact M6 G [0, 1, 2, 3, 4, 6, 7, 8] (by show _ = mR [0, 1, 2, 3, 4, 6, 7, 8] (G6 b p j); unfold G6; rw [bf1 (by omega)] <;> rfl)
      · refine Y2 G (A0 6 [0, 1, 50] (l7.lend (P3 b (j + 1) m3L (by simp [h0, h1, h2, h3, h9]) (by simp only [bS5, bT5, bR7, bS2] at *; omega) (by simp only [bS5, bT5, bR7, bS2] at *; omega)) [.no, .no, .row 3])) [0, 1, 0, 4, 0, 0, 48, 127, 255, 511] (rg 10) (.box [.ref 1, iA (j + 1 + 1)] :: dY b :: (aI3 p [bA7 b p j, ad9])) [(4, .ptr 5 0), (5, .ptr 9 0)] [wO ((p.body.length : Int) - 1), (0 : Int) ≤ p.body.length - 1, (p.body.length : Int) - 1 < (p.body.length : Int), ((p.body.length : Int) - 1).toNat < p.body.length] ⟨oW (by omega), (by simp only [bS5, bT5, bR7, bS2] at *; omega), (by simp only [bS5, bT5, bR7, bS2] at *; omega), (by simp only [bS5, bT5, bR7, bS2] at *; omega), bR2⟩ fun G => o5 (b5 (wp_seq (m6 G f9 (rg 9) (.box [.ref 1, iA (j + 1 + 1)] :: (aj0 b p [bA7 b p j])) [(4, .ptr 5 0)] fun G => b5 (wp_ret ?_)))); exact M6 G [0, 1, 2, 3, 4, 6, 7, 8] (by show _ = mR [0, 1, 2, 3, 4, 6, 7, 8] (G6 b p j); unfold G6; rw [bP4 (by omega) (by omega)] <;> rfl)
    ·
     refine wp_seq (l5 G f9 [(39, bA (decide ((p.body.length : Int) > 0)))] fun G => b5 (W0 G (fun h10 q10 => ?_) fun h10 q10 => ?_))
     · refine wp_skip (o5 (b5 (wp_seq (m6 G f9 (rg 9) (.box [.ref 1, iA (j + 1)] :: (aj0 b p [.tree (D.stmts p.body)])) [(4, .ptr 5 0)] fun G => b5 (wp_ret ?_))))); exact M6 G [0, 1, 2, 3, 4, 6, 7, 8] (by show _ = mR [0, 1, 2, 3, 4, 6, 7, 8] (G6 b p j); unfold G6; rw [bf1 (by omega)] <;> rfl)
     · refine Y2 G (A0 4 [0, 1, 34] (l7.lend (P3 b (j + 1) m2L (by simp [h0, h1, h2, h10]) (by simp only [bS5, bT5, bR7, bS2] at *; omega) (by simp only [bS5, bT5, bR7, bS2] at *; omega)) [.no, .no, .row 3])) [0, 1, 0, 0, 12, 31, 63, 127] (rg 10) (.box [.ref 1, iA (j + 1 + 1)] :: dY b :: (aI3 p [bA9 b p j, ad9])) [(4, .ptr 5 0), (5, .ptr 9 0)] [(0 : Int) ≤ 0, (0 : Int) < p.body.length, (0 : Nat) < p.body.length] ⟨(by simp [h0, h1, h2, h10]), (by assumption), (by simp only [bS5, bT5, bR7, bS2] at *; omega), bR2⟩ fun G => o5 (b5 (wp_seq (m6 G f9 (rg 9) (.box [.ref 1, iA (j + 1 + 1)] :: (aj0 b p [bA9 b p j])) [(4, .ptr 5 0)] fun G => b5 (wp_ret ?_)))); exact M6 G [0, 1, 2, 3, 4, 6, 7, 8] (by show _ = mR [0, 1, 2, 3, 4, 6, 7, 8] (G6 b p j); unfold G6; rw [bP5 (by omega) (by omega)] <;> rfl)
   ·
    refine wp_block ?_; replace G := G.as (az6 b p j (.box [.v (.slice none 0 0), .v (.slice none 0 0), .v (.slice none 0 0)] :: .row 3 (D.ints (p.vars ++ bT6 0 1)) :: (an0 p [.box [.ref 6, .ref 7, .tref 8]]))) (a75 b p j [(25, bA (pk b j 60 == 1))]) (by have e1 : (p.vars ++ bT6 0 1 : List Int) = (p.vars) := (by simp [h0, h1]); (first | rw [e1] | simp only [e1]) <;> rfl) (by kernel_rfl); refine x7 (κ := Nat) (fun k => k ≤ 13 - p.vars.length) (fun k => 13 - p.vars.length - k) (fun k => [.box [.ref 1, iA (j + 1)], dY b, dI p.vars, dI p.arrays, dT p.body, .box [.v (.slice none 0 0), .v (.slice none 0 0), .v (.slice none 0 0)], .row 3 (.ints (p.vars ++ bT6 k 1)), .row 3 (D.ints p.arrays), .tree (D.stmts p.body), .box [.ref 6, .ref 7, .tref 8]]) (fun k => [(0, .ptr 0 0), (4, .ptr 5 0), (5, .ptr 9 0), (6, iA (p.body.length : Int)), (13, iA (pk b j 60)), (25, bA (pk b j 60 == 1))]) 0 (by simp [h0, h1]) (x9.at G _ _) ?_; clear G; intro k ρ a w hp G; replace G := x9.at G (az6 b p j (aS1 :: .row 3 (D.ints (p.vars ++ bT6 k 1)) :: (an0 p [ad9]))) (a75 b p j [(25, bA (pk b j 60 == 1))]); refine wp_seq (wp_seq (l5 G f9 [(30, bA (decide (((p.vars ++ bT6 k 1).length : Int) ≤ 12)))] fun G => b5 (W0 G (fun h12 q12 => ?_) fun h12 q12 => ?_)))
    · refine wp_exit (v8 (v8 (v7 (o5 (b5 (wp_seq (m6 G f9 (rg 9) (az6 b p j (ad9 :: .row 3 (D.ints (p.vars ++ bT6 k 1)) :: (an0 p []))) [(4, .ptr 5 0)] fun G => b5 (wp_ret ?_)))))))); exact M6 G [0, 1, 2, 3, 4, 6, 7, 8] (by show _ = mR [0, 1, 2, 3, 4, 6, 7, 8] (G6 b p j); unfold G6; rw [bK2 (k := k) (by omega) (by omega) (by omega)] <;> rfl)
    · refine wp_skip (b5 (wp_block (M7 G f9 [0, 1, 2, 3, 4, 5, 7, 8, 9, 34] (az6 b p j (aS1 :: (an0 p [.box [.ref 9, .ref 6, .tref 7], .row 3 (D.ints (p.vars ++ bT6 k 1 ++ ([1] ++ [])))]))) [(0, .ptr 0 0), (4, .ptr 5 0), (5, .ptr 8 0), (6, iA (p.body.length : Int)), (13, iA (pk b j 60)), (25, bA (pk b j 60 == 1))] (aP ((p.vars ++ bT6 k (1 : Int)).length + ([(1 : Int)] ++ []).length) 8 []) (aK (by simp only [bS5, bT5, bR7, bS2] at *; omega) bR2) fun G => o5 (b5 ?_)))); exact Q6 G (k + 1) (by simp only [bS5, bT5, bR7, bS2] at *; omega) (by simp only [bS5, bT5, bR7, bS2] at *; omega) [0, 1, 2, 3, 4, 5, 9, 6, 7, 8] (by have e1 : (p.vars ++ bT6 (k + 1) 1 : List Int) = (p.vars ++ bT6 k 1 ++ ([1] ++ [])) := bm7; (first | rw [e1] | simp only [e1]) <;> rfl)
  ·
   refine wp_seq (l5 G f9 [(19, bA (decide ((p.vars.length : Int) > 0)))] fun G => b5 (W0 G (fun h11 q11 => ?_) fun h11 q11 => ?_))
   · refine wp_skip (o5 (b5 (wp_seq (m6 G f9 (rg 9) (.box [.ref 1, iA (j + 1)] :: (aj0 b p [.tree (D.stmts p.body)])) [(4, .ptr 5 0)] fun G => b5 (wp_ret ?_))))); exact M6 G [0, 1, 2, 3, 4, 6, 7, 8] (by show _ = mR [0, 1, 2, 3, 4, 6, 7, 8] (G6 b p j); unfold G6; rw [bf1 (by omega)] <;> rfl)
   · refine Y2 G (A0 3 [0, 1] (bt8 b (j + 1) (by simp only [bS5, bT5, bR7, bS2] at *; omega) (by simp only [bS5, bT5, bR7, bS2] at *; omega))) [0, 1, 0, 4, 15, 31] (rg 10) (.box [.ref 1, iA (j + 1 + 2)] :: dY b :: dI p.vars :: dI p.arrays :: dT p.body :: aS1 :: .row 3 (D.ints (p.vars.set 0 (l1D b (j + 1)))) :: (an0 p [ad9])) [(4, .ptr 5 0), (5, .ptr 9 0)] [(0 : Int) ≤ 0, (0 : Int) < p.vars.length, (0 : Nat) < p.vars.length] ⟨(by simp [h0, h11]), (by assumption), (by simp only [bS5, bT5, bR7, bS2] at *; omega), bR2⟩ fun G => o5 (b5 (wp_seq (m6 G f9 (rg 9) (.box [.ref 1, iA (j + 1 + 2)] :: dY b :: dI p.vars :: dI p.arrays :: dT p.body :: ad9 :: .row 3 (D.ints (p.vars.set 0 (l1D b (j + 1)))) :: (an0 p [])) [(4, .ptr 5 0)] fun G => b5 (wp_ret ?_)))); exact M6 G [0, 1, 2, 3, 4, 6, 7, 8] (by show _ = mR [0, 1, 2, 3, 4, 6, 7, 8] (G6 b p j); unfold G6; rw [bO9 (by omega) (by omega)] <;> rfl)
abbrev tyC (b : List UInt8) (j : Int) : l7 := ⟨56, [.ptr 0 0], [.box [.ref 1, iA j], dY b], [.box [.ref 1, iA ((bdD b j).2 + 1)], dY b] ++ oP (tyD b j), oA 2⟩
section
variable {b : List UInt8} {j : Int}
theorem bN6 (h : pk b (bdD b j).2 4 = 0) : tyD b j = pgD b j := if_pos h
theorem bN5 (h : ¬ pk b (bdD b j).2 4 = 0) (h2 : okI (pgD b j) = true) : tyD b j = ad3 (pgD b j) := by rw [tyD, if_neg h, if_pos h2]
theorem bN4 (h : ¬ pk b (bdD b j).2 4 = 0) (h2 : okI (pgD b j) = false) : tyD b j = pgD b j := by rw [tyD, if_neg h, if_neg (by rw [h2]; decide)]
end
abbrev aJ0 (b : List UInt8) (j : Int) : List It := [.box [.ref 1, iA ((bdD b j).snd + 1)], dY b, .row 3 (D.ints (tyD b j).vars), .row 3 (D.ints (tyD b j).arrays), .tree (D.stmts (tyD b j).body)]
abbrev a82 : It := .box [.v (.slice none 0 0), .v (.slice none 0 0), .v (.slice none 0 0)]
abbrev aA0 : It := .box [.ref 3, .ref 4, .tref 5]
abbrev aI2 (b : List UInt8) (j : Int) (r0 : List It) : List It := .row 3 (D.ints (pgD b j).vars) :: .row 3 (D.ints (pgD b j).arrays) :: .tree (D.stmts (pgD b j).body) :: r0
theorem aL3 (b : List UInt8) (j : Int) (r0 : 0 ≤ j) (r1 : j ≤ 10000000) : l7.ok Tryz.prog (tyC b j) := by
  refine G3 20 Tryz.func56 [.box [.ref 1, iA j], dY b] [(0, .ptr 0 0)] fun G => ?_; have hk2 := ba8 b r0 r1; have hbd := bd7 b r0 r1; have hsz := bn2 b r0 r1; refine wp_seq (m6 G f9 [0, 1, 2] [.box [.ref 1, iA j], dY b, a82] [(0, .ptr 0 0), (2, .ptr 2 0)] fun G => b5 (wp_seq (m6 G (A0 1 [0, 1] (aY8 b j (by assumption) (by assumption))) [0, 1, 2, 11, 12, 13, 19] (.box [.ref 1, iA (bdD b j).snd] :: dY b :: a82 :: (aI2 b j [aA0])) [(0, .ptr 0 0), (2, .ptr 2 0), (3, .ptr 6 0)] fun G => b5 (wp_seq (wp_seq (m6 G (A0 1 [0, 1] (N0 b ((bdD b j).snd) 4 (by omega) (by omega))) (rg 7) (.box [.ref 1, iA ((bdD b j).snd + 1)] :: dY b :: a82 :: (aI2 b j [aA0])) [(2, .ptr 2 0), (3, .ptr 6 0), (10, bA (pk b (bdD b j).snd 4 == 0))] fun G => b5 (U9 G (fun h0 q0 => ?_) fun h0 q0 => ?_)))))))
  ·
   refine wp_skip (b5 (wp_seq (m6 G (A0 1 [3, 4, 5] (l7.lend (aH8 (pgD b j) (by omega)) [.row 3, .row 3, .tree])) [0, 1, 2, 3, 4, 5, 6, 15, 16, 17, 47] (.box [.ref 1, iA ((bdD b j).snd + 1)] :: dY b :: a82 :: (aI2 b j [aA0, .row 3 (D.ints (ad3 (pgD b j)).vars), .row 3 (D.ints (ad3 (pgD b j)).arrays), .tree (D.stmts (ad3 (pgD b j)).body), .box [.ref 7, .ref 8, .tref 9]])) [(2, .ptr 2 0), (3, .ptr 6 0), (4, .ptr 10 0), (5, bA (okI (pgD b j)))] fun G => b5 (wp_seq (wp_seq (l5 G f9 [(17, bA (okI (pgD b j)))] fun G => b5 (rcB G (fun h1 => ?_) fun h1 => ?_)))))))
   · refine wp_skip (b5 (wp_seq (m6 G f9 (rg 6) (.box [.ref 1, iA ((bdD b j).snd + 1)] :: dY b :: aA0 :: (aI2 b j [])) [(2, .ptr 2 0)] fun G => b5 (wp_ret ?_)))); exact M6 G [0, 1, 3, 4, 5] (by show _ = mR [0, 1, 3, 4, 5] (aJ0 b j); unfold aJ0; rw [bN4 (by omega) (by with_reducible assumption)] <;> rfl)
   · refine wp_seq (m6 G f9 (rg 10) (.box [.ref 1, iA ((bdD b j).snd + 1)] :: dY b :: .box [.ref 7, .ref 8, .tref 9] :: (aI2 b j [aA0, .row 3 (D.ints (ad3 (pgD b j)).vars), .row 3 (D.ints (ad3 (pgD b j)).arrays), .tree (D.stmts (ad3 (pgD b j)).body)])) [(2, .ptr 2 0), (3, .ptr 6 0)] fun G => b5 (wp_ret (m8 ?_))); exact M6 G [0, 1, 7, 8, 9] (by show _ = mR [0, 1, 7, 8, 9] (aJ0 b j); unfold aJ0; rw [bN5 (by omega) (by with_reducible assumption)] <;> rfl)
  · refine wp_seq (m6 G f9 (rg 7) (.box [.ref 1, iA ((bdD b j).snd + 1)] :: dY b :: aA0 :: (aI2 b j [aA0])) [(2, .ptr 2 0), (3, .ptr 6 0)] fun G => b5 (wp_ret (m8 ?_))); exact M6 G [0, 1, 3, 4, 5] (by show _ = mR [0, 1, 3, 4, 5] (aJ0 b j); unfold aJ0; rw [bN6 (by omega)] <;> rfl)
def dfX (b : List UInt8) : f5 := (mtD b (tyD b 0) ((bdD b 0).2 + 1)).1
theorem bd0 (b : List UInt8) : 0 ≤ (bdD b 0).2 ∧ (bdD b 0).2 ≤ 150000 := by
 have h := bd7 b (k := 0) (by omega) (by omega)
 have h2 := ba8 b (k := 0) (by omega) (by omega)
 omega
theorem ty0 (b : List UInt8) : (tyD b 0).size ≤ 1000000 := bU1 (bj8 b (by omega) (by omega)) (by omega)
theorem ar7 (c : List UInt8) (hc : c.length ≤ 2000) : l7.ok Tryz.prog ⟨15, [.ref 0], [dY c], [dY c] ++ oP (dfX c), oA 1⟩ := by
 refine G3 10 Tryz.func15 [dY c] [(0, .ref 0)] fun G => ?_; have hbd := bd0 c; refine wp_seq (m6 G f9 [0, 1] [dY c, .box [.v (.slice none 0 0), .v (.slice none 0 0), .v (.slice none 0 0)]] [(0, .ref 0), (2, .ptr 1 0)] fun G => b5 (wp_seq (m6 G (A0 1 [0] (a68 c (by assumption))) [0, 1, 10] [dY c, .box [.v (.slice none 0 0), .v (.slice none 0 0), .v (.slice none 0 0)], .box [.ref 0, iA 0]] [(2, .ptr 1 0), (3, .ptr 2 0)] fun G => b5 (wp_seq (m6 G (B1 ⟨[(2, _, [2, 0]), (3, _, [2, 0, 19, 20, 21])], [], []⟩ (b8 (aL3 c 0 (by omega) (by omega)) (b8 (l7.lend (aF7 c (tyD c 0) ((bdD c 0).snd + 1) (ty0 c) (by omega) (by omega)) [.no, .no, .row 3, .row 3, .tree]) d7)) bR2) [0, 1, 27, 28, 29] [dY c, .box [.ref 2, .ref 3, .tref 4], .row 3 (D.ints (mtD c (tyD c 0) ((bdD c 0).snd + 1)).fst.vars), .row 3 (D.ints (mtD c (tyD c 0) ((bdD c 0).snd + 1)).fst.arrays), .tree (D.stmts (mtD c (tyD c 0) ((bdD c 0).snd + 1)).fst.body)] [(2, .ptr 1 0)] fun G => b5 (wp_ret ?_)))))); exact M6 G [0, 2, 3, 4]
abbrev bj1 (c : List UInt8) := mtD (List.drop 0 (bR4 2000 c)) (tyD (List.drop 0 (bR4 2000 c)) 0) ((bdD (List.drop 0 (bR4 2000 c)) 0).snd + 1)
theorem ar6 (c : List UInt8) (hc : 2000 < c.length) : l7.ok Tryz.prog ⟨15, [.ref 0], [dY c], [dY c] ++ oP (dfX ((c.take 2000).drop 0)), oA 1⟩ := by
 refine G3 10 Tryz.func15 [dY c] [(0, .ref 0)] fun G => ?_; have hbd := bd0 ((c.take 2000).drop 0); refine wp_seq (m6 G f9 [0, 1] [dY c, .box [.v (.slice none 0 0), .v (.slice none 0 0), .v (.slice none 0 0)]] [(0, .ref 0), (2, .ptr 1 0)] fun G => b5 (wp_seq (m6 G (A0 1 [0] (a67 c (by assumption))) [0, 1, 10, 11] [dY c, .box [.v (.slice none 0 0), .v (.slice none 0 0), .v (.slice none 0 0)], .box [.ref 3, iA 0], dY (List.drop 0 (bR4 2000 c))] [(2, .ptr 1 0), (3, .ptr 2 0)] fun G => b5 (wp_seq (m6 G (B1 ⟨[(2, _, [2, 3]), (3, _, [2, 3, 20, 21, 22])], [], []⟩ (b8 (aL3 (List.drop 0 (bR4 2000 c)) 0 (by omega) (by omega)) (b8 (l7.lend (aF7 (List.drop 0 (bR4 2000 c)) (tyD (List.drop 0 (bR4 2000 c)) 0) ((bdD (List.drop 0 (bR4 2000 c)) 0).snd + 1) (ty0 ((c.take 2000).drop 0)) (by omega) (by omega)) [.no, .no, .row 3, .row 3, .tree]) d7)) bR2) [0, 1, 28, 29, 30] [dY c, .box [.ref 2, .ref 3, .tref 4], .row 3 (D.ints (bj1 c).fst.vars), .row 3 (D.ints (bj1 c).fst.arrays), .tree (D.stmts (bj1 c).fst.body)] [(2, .ptr 1 0)] fun G => b5 (wp_ret ?_)))))); exact M6 G [0, 2, 3, 4]
theorem aw9 (c : List UInt8) : l7.ok Tryz.prog ⟨15, [.ref 0], [dY c], [dY c] ++ oP (t3 c), oA 1⟩ := by
 by_cases h : c.length ≤ 2000
 ·have e : t3 c = dfX c := by unfold t3 dfX bsD; rw [bS6 h]
  rw [e]; exact ar7 c h
 ·exact ar6 c (by omega)
theorem bf2 (w : World) : n6 (fun _ => True) (fun _ => True) w w (s6 (fun _ : Empty => Rs.none) (fun _ => undef) (v5 [])) := by
 refine (n6.start (ι := Empty ⊕ Nat) (w0 := w) (φ := fun _ => True) (ψ := fun _ => True) fun _ _ => trivial).map (fun k => some k) (fun k k' i a b => by cases a; cases b; rfl) fun k => ?_
 cases k with
 | inl e => exact e.elim
 | inr j => exact .inr rfl
theorem bi6 (w : World) : T3 (fun _ => True) (X5 (fun _ => True) (s6 (fun _ : Empty => Rs.none) (fun _ => undef) (v5 []))) w w := T3.mono fun b _ _ => ⟨bR2, fun i => by
 cases i with
 | inl e => exact e.elim
 | inr j => exact fun h => h.elim⟩
abbrev u8s (c : List UInt8) : List Value := c.map fun b => Value.int .u8 (b.toNat : Int)
theorem bh8 {P : Program} {f : FuncId} {x : Value} {c : List UInt8} {post : List It} (hc : l7.ok P ⟨f, [.ref 0], [dY c], post, .v x⟩) (u : Value) (w : World) (hp : B9 w (fun _ => True) u c.length 1 (u8s c)) :
  Calls P f #[u] w fun e w' => e = .returned x ∧ Below w.heap.size w w' := by
 obtain ⟨ρ', g1, M2, g2⟩ := n6.dats [.sl (.bytes c)] [u] 0 (bf2 w) ⟨RD.nice (.bytes c) _ _ _ _ _ (bi6 w) hp, bR2⟩ (fun _ _ => rfl) (fun _ _ _ => rfl)
 have e : s3 (v5 []) (R7 [.sl (.bytes c)] 0) = v5 [dY c] := by
  funext j
  match j with
  | 0 => rfl
  | j + 1 => simp [R7, s3, v5]
 rw [e] at M2
 simp only [xav, AV.vals, AV.val, List.cons.injEq, and_true] at g2
 subst g2
 refine (hc Empty _ _ w w _ ρ' M2).mono ?_
 rintro e w' ⟨ρ2, -, rfl, M3⟩
 exact ⟨rfl, M3.below fun _ _ => trivial⟩
end Go.Proofs.YthikdkjjdeehoaaGreat

namespace Go.Proofs.YthikdkjjdeehoaaGreat
set_option linter.unusedVariables false
set_option linter.unusedSimpArgs false
open Go Go.RowKit
section
variable (vs ars : List Int) (bd : List b6)
theorem aZ1 (hb : r6 bd ≤ 1048576) : l7.ok Tryz.prog (I7 19 [pA 0] [dI vs, dI ars, dT bd] (.tup [iA (H3 ⟨vs, ars, bd⟩ false).1, iA (H3 ⟨vs, ars, bd⟩ false).2])) := aq0 ⟨vs, ars, bd⟩ hb
theorem aZ0 (hb : r6 bd ≤ 1048576) : l7.ok Tryz.prog (I7 20 [pA 0] [dI vs, dI ars, dT bd] (.tup [iA (ctR ⟨vs, ars, bd⟩).1, iA (ctR ⟨vs, ars, bd⟩).2])) := ag5 ⟨vs, ars, bd⟩ hb
end
end Go.Proofs.YthikdkjjdeehoaaGreat

namespace Go.Proofs.YthikdkjjdeehoaaGreat
set_option linter.unusedVariables false
set_option linter.unusedSimpArgs false
open Go Go.RowKit Go.ChangeShapes Go.WideShapes Go.Deep
section
variable {H : Type} {enc : TypeId × Value → H} {W : World}
theorem aI0 {fuel : Nat} {t : TypeId} {v : Value} {x : DataW H × List MemPlace} (ht : Tryz.prog.underlying t = some (.slice 5))
  (h : DataW.trod enc Tryz.prog W 0 (fun _ => true) true fuel t [v] = some x) : ∃ l : List UInt8, X4 W v l.length 1 (l.map fun b => Value.int .u8 (b.toNat : Int)) := by
 obtain ⟨n, m, C, hr, hC, hx⟩ := aU2 ht (sz := 1) (by kernel_rfl) (by omega) h
 obtain ⟨g, hg⟩ := choose_lt (α := UInt8) (n := n) (p := fun i b => C i = [.int .u8 (b.toNat : Int)]) (fun i hi => by
  obtain ⟨y, hy⟩ := hx i hi
  obtain ⟨z, hz, _, hw⟩ := DataW.trod_int Tryz.underlying5 hy
  simp only [Lit.wf, bR1, decide_eq_true_eq] at hw
  have h0 : (0 : Int) ≤ z := hw.1
  have h1 : z ≤ 255 := hw.2
  refine ⟨UInt8.ofNat z.toNat, ?_⟩
  rw [hz]
  have e : (UInt8.ofNat z.toNat).toNat = z.toNat := by
   rw [UInt8.toNat_ofNat']; omega
  rw [e, Int.toNat_of_nonneg h0])
 refine ⟨(bT4 n).map g, ?_⟩
 rw [List.length_map, List.length_range, ← aD1 n C (fun b => Value.int .u8 (b.toNat : Int)) g hg]
 exact hr
end
end Go.Proofs.YthikdkjjdeehoaaGreat
