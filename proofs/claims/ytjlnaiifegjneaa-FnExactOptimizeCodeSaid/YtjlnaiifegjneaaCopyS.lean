/-
  A copy of code, the reference's. Conditions: the argument is code.
-/
import Derived.Test.YtjlnaiifegjneaaCopy
import Derived.Test.YtjlnaiifegjneaaRInv
namespace Go.Proofs.Ytjlnaiifegjneaa
open Go Go.RowKit

/-- append onto an owned empty slice without room: the slice itself, or a new block. -/
theorem wpList_own0 {P : Program} {w : World} {ops : Array Oper} {rest : List Oper} {o : Oper} {a : Act} {Q : Exit → Act → World → Prop} {t e : TypeId} {z : Value} {size bytes lo : Nat} {u v : Value} {m : Nat} {news : List Value}
    (hgd : o.guard = none) (s x : Operand) (ho : o.op = .call { callee := .builtin .append, args := #[s, x], argTypes := #[t, t] })
    (ht : P.underlying t = some (.slice e)) (hi : (P.info? e).map (fun i => (i.zero, i.size, i.bytes)) = some (some z, size, bytes))
    (hzs : z.cells.size = size) (hsz : 0 < size) (hv : ∃ b, v = .slice (some b) 0 0) (hown : w.ownsRow lo e size v 0 []) (hs : a.eval s = v) (hx : a.eval x = u) (hr : Row w u m size news) (hbytes : m * bytes ≤ 140737488355328) (hlo : lo ≤ w.heap.size)
    (h : ∀ x w', w'.ownsRow lo e size x m news → Below w.heap.size w w' → (x = v ∨ ∀ g, x.ownBlock = some g → w.heap.size ≤ g) → wpList P ops Q rest (a.put o.dst x) w') : wpList P ops Q (o :: rest) a w := by
  obtain ⟨b, rfl⟩ := hv
  refine wpList_plain hgd fun K hK => ?_
  have hrun : ∃ x w', (Builtin.append_ #[t, t] o.type #[.slice (some b) 0 0, u]).run P w = .ok x w' ∧ w'.ownsRow lo e size x m news ∧ Below w.heap.size w w' ∧ (x = .slice (some b) 0 0 ∨ ∀ g, x.ownBlock = some g → w.heap.size ≤ g) := by
    obtain ⟨i, g1, g2, g3, g4⟩ := info_parts hi
    obtain ⟨hl, A, c, rfl, hmc, hc, hA⟩ := hr
    rcases Nat.eq_zero_or_pos m with h0 | h0
    · subst h0
      have hn : news = [] := List.eq_nil_of_length_eq_zero (by simpa using hl)
      subst hn
      refine ⟨.slice (some b) 0 0, w, ?_, hown, Below.refl _ _, .inl rfl⟩
      have hz : ∀ a' : Addr, (loadCells a' 0).run P w = .ok #[] w := fun a' => by simpa using run_loadCells_list (P := P) w a' [] (by simp)
      cases A <;> simp [Builtin.append_, run_underlying ht, sizeOf, typeInfo, g1, Builtin.lenOf, Builtin.firstCells, storeCells, hz]
    · obtain ⟨bk, off, rfl, hbk, hx⟩ := hA h0
      obtain ⟨v', w', h1, h2, h3⟩ := run_append_arg_grows (P := P) (w := w) t o.type e i z size bytes ht g1 g2 g3 g4 hzs hsz b 0 0 [] (by simp) (by simp) ⟨bk, off, none⟩ m c news hl
        (fun j u hj => by
          have hadd : (⟨bk, off, none⟩ : Addr).add j = ⟨bk, off + j, none⟩ := by unfold Addr.add; split <;> simp_all
          rw [hadd]; exact hx j u hj) (by omega) (by omega) (by simpa using hbytes)
      refine ⟨v', w', h1, owns_base (by simpa using h2) hlo, ⟨h3.os, h3.tape, h3.output, h3.size, fun k hk => h3.block k hk (by simp)⟩, .inr fun g hg => (h2.lt g hg).1⟩
  obtain ⟨y, w', hrun, h2, h3, h4⟩ := hrun
  unfold Oper.wp execOp
  simp only [ho, resolve, invoke, builtin, Sem.run_bind, Sem.run_pure, Result.andThen_ok, List.map_toArray, List.map_cons, List.map_nil, hs, hx, hrun]
  exact hK _ _ (h y w' h2 h3 h4)

def ownable (i : Nat) : Prop := i % 4 = 0 ∨ i % 4 = 3
/-- What an operation has handed. -/
def Pv (n : Nat) (v1 v2 v3 : Value) (c : LCode) (i : Nat) (x : Value) (w : World) : Prop :=
  match i with
  | 0 => (∃ b, x = .slice (some b) 0 0) ∧ w.ownsRow (n + 1 + 1) 3 1 x 0 []
  | 1 => x = .pointer (some ⟨n, 0, none⟩)
  | 2 => x = v1
  | 3 => w.ownsRow (n + 1 + 1) 3 1 x c.vars.length (ints c.vars)
  | 4 => (∃ b, x = .slice (some b) 0 0) ∧ w.ownsRow (n + 1 + 1) 3 1 x 0 []
  | 5 => x = .pointer (some ⟨n, 1, none⟩)
  | 6 => x = v2
  | 7 => w.ownsRow (n + 1 + 1) 3 1 x c.arrays.length (ints c.arrays)
  | 8 => (∃ b, x = .slice (some b) 0 0) ∧ w.ownsRow (n + 1 + 1) 66 5 x 0 []
  | 9 => x = .pointer (some ⟨n, 2, none⟩)
  | 10 => x = v3
  | 11 => w.ownsRow (n + 1 + 1) 66 5 x c.list.length (ints (insF c.list))
  | 12 => ∃ y1 y2 y3, x = .agg #[y1, y2, y3] ∧ w.ownsRow (n + 1 + 1) 3 1 y1 c.vars.length (ints c.vars) ∧ w.ownsRow (n + 1 + 1) 3 1 y2 c.arrays.length (ints c.arrays) ∧ w.ownsRow (n + 1 + 1) 66 5 y3 c.list.length (ints (insF c.list)) ∧ Disj y1 y2 ∧ Disj y1 y3 ∧ Disj y2 y3
  | _ => True
theorem Pv.next {n : Nat} {v1 v2 v3 : Value} {c : LCode} {i : Nat} {x : Value} {w w' : World} (h : Pv n v1 v2 v3 c i x w) (hb : Below w.heap.size w w') : Pv n v1 v2 v3 c i x w' := by
  have k := fun {e : TypeId} {sz : Nat} {v : Value} {m : Nat} {xs : List Value} (g : w.ownsRow (n + 1 + 1) e sz v m xs) => owns_below g hb (Nat.le_refl _)
  unfold Pv at *
  split at h <;> first | exact h | exact k h | exact ⟨h.1, k h.2⟩ | (obtain ⟨y1, y2, y3, e, g1, g2, g3, d⟩ := h; exact ⟨y1, y2, y3, e, k g1, k g2, k g3, d⟩)
theorem Pv.lt {n : Nat} {v1 v2 v3 : Value} {c : LCode} {i : Nat} {x : Value} {w : World} (h : Pv n v1 v2 v3 c i x w) (hi : i < 12) (ho : ownable i) : ∀ g, x.ownBlock = some g → g < w.heap.size := by
  intro g hg
  unfold ownable at ho
  have : i = 0 ∨ i = 3 ∨ i = 4 ∨ i = 7 ∨ i = 8 ∨ i = 11 := by omega
  rcases this with rfl | rfl | rfl | rfl | rfl | rfl
  · exact (h.2.lt g hg).2
  · exact (World.ownsRow.lt h g hg).2
  · exact (h.2.lt g hg).2
  · exact (World.ownsRow.lt h g hg).2
  · exact (h.2.lt g hg).2
  · exact (World.ownsRow.lt h g hg).2

def actOf (v : Value) (n : Nat) (f : Nat → Value) : Act := ⟨#[v, .pointer (some ⟨n, 0, none⟩), .pointer (some ⟨n + 1, 0, none⟩), f 0, f 1, f 2, f 3, f 4, f 5, f 6, f 7, f 8, f 9, f 10, f 11, f 12], []⟩

structure CopyI (n : Nat) (v1 v2 v3 : Value) (c : LCode) (W : World) (listed : Array Bool) (f : Nat → Value) (w : World) : Prop where
  size : listed.size = 14
  val : ∀ i, i < 13 → listed.getD i false = true → Pv n v1 v2 v3 c i (f i) w
  dis : ∀ i j, i < 12 → j < 12 → ownable i → ownable j → i / 4 ≠ j / 4 → listed.getD i false = true → listed.getD j false = true → Disj (f i) (f j)
  box : Below (n + 1) W w
  big : n + 1 + 1 ≤ w.heap.size
  pre : listed.getD 13 false = false → Below (n + 1 + 1) W w
  post : listed.getD 13 false = true → ∃ y1 y2 y3, Blk w (n + 1) [y1, y2, y3] ∧ w.ownsRow (n + 1 + 1) 3 1 y1 c.vars.length (ints c.vars) ∧ w.ownsRow (n + 1 + 1) 3 1 y2 c.arrays.length (ints c.arrays) ∧ w.ownsRow (n + 1 + 1) 66 5 y3 c.list.length (ints (insF c.list)) ∧ Disj y1 y2 ∧ Disj y1 y3 ∧ Disj y2 y3

def CopyIA (n : Nat) (v1 v2 v3 : Value) (c : LCode) (W : World) (listed : Array Bool) (a : Act) (w : World) : Prop := ∃ f : Nat → Value, a = actOf (.agg #[v1, v2, v3]) n f ∧ CopyI n v1 v2 v3 c W listed f w

theorem CopyI.step {n : Nat} {v1 v2 v3 : Value} {c : LCode} {W : World} {listed : Array Bool} {f : Nat → Value} {w w' : World} (h : CopyI n v1 v2 v3 c W listed f w) {i : Nat} (hi : i < 13) {x : Value} (hb : Below w.heap.size w w') (hx : Pv n v1 v2 v3 c i x w')
    (hd : ownable i → ∀ j, j < 12 → ownable j → i / 4 ≠ j / 4 → listed.getD j false = true → Disj x (f j)) : CopyI n v1 v2 v3 c W (listed.setIfInBounds i true) (fun k => if k = i then x else f k) w' := by
  have hs := hb.size
  have hbig := h.big
  have get : ∀ j, j ≠ i → (listed.setIfInBounds i true).getD j false = true → listed.getD j false = true := fun j hj g => by rwa [getD_set_ne false (fun e => hj e.symm)] at g
  refine ⟨by simpa using h.size, fun j hj g => ?_, fun j k hj hk oj ok hjk gj gk => ?_, h.box.trans (hb.mono (by omega)), by omega, fun g => ?_, fun g => ?_⟩
  · by_cases e : j = i
    · subst e; simpa using hx
    · simp only [if_neg e]; exact (h.val j hj (get j e g)).next hb
  · by_cases e1 : j = i
    · subst e1
      have e2 : k ≠ j := fun e => hjk (by rw [e])
      simp only [if_pos, if_neg e2]
      exact hd oj k hk ok hjk (get k e2 gk)
    · by_cases e2 : k = i
      · subst e2
        simp only [if_pos, if_neg e1]
        exact (hd ok j hj oj (fun e => hjk e.symm) (get j e1 gj)).symm
      · simp only [if_neg e1, if_neg e2]
        exact h.dis j k hj hk oj ok hjk (get j e1 gj) (get k e2 gk)
  · rw [getD_set_ne false (by omega)] at g
    exact (h.pre g).trans (hb.mono (by omega))
  · rw [getD_set_ne false (by omega)] at g
    obtain ⟨y1, y2, y3, k0, k1, k2, k3, k4⟩ := h.post g
    exact ⟨y1, y2, y3, k0.below hb k0.lt, owns_below k1 hb (Nat.le_refl _), owns_below k2 hb (Nat.le_refl _), owns_below k3 hb (Nat.le_refl _), k4⟩
/-- A new block is disjoint from what there was. -/
theorem CopyI.new {n : Nat} {v1 v2 v3 : Value} {c : LCode} {W : World} {listed : Array Bool} {f : Nat → Value} {w : World} (h : CopyI n v1 v2 v3 c W listed f w) {x : Value} (hx : ∀ g, x.ownBlock = some g → w.heap.size ≤ g) : ∀ j, j < 12 → ownable j → listed.getD j false = true → Disj x (f j) := by
  intro j hj oj gj g h1 h2
  have := hx g h1
  have := (h.val j (by omega) gj).lt hj oj g h2
  omega

theorem owns_set {w : World} {base : Nat} {e : TypeId} {sz : Nat} {v : Value} {m : Nat} {xs : List Value} (h : w.ownsRow base e sz v m xs) {b : Nat} (hb : b < base) (j : Nat) (u : Value) : (w.setCell ⟨b, j, none⟩ u).ownsRow base e sz v m xs :=
  ((Own.mk' h).other (b := b) (.inl hb) j u).1
theorem Pv.store {n : Nat} {v1 v2 v3 : Value} {c : LCode} {i : Nat} {x : Value} {w : World} (h : Pv n v1 v2 v3 c i x w) (j : Nat) (u : Value) : Pv n v1 v2 v3 c i x (w.setCell ⟨n + 1, j, none⟩ u) := by
  have k := fun {e : TypeId} {sz : Nat} {v : Value} {m : Nat} {xs : List Value} (g : w.ownsRow (n + 1 + 1) e sz v m xs) => owns_set g (Nat.lt_succ_self (n + 1)) j u
  unfold Pv at *
  split at h <;> first | exact h | exact k h | exact ⟨h.1, k h.2⟩ | (obtain ⟨y1, y2, y3, e, g1, g2, g3, d⟩ := h; exact ⟨y1, y2, y3, e, k g1, k g2, k g3, d⟩)
theorem CopyI.stored {n : Nat} {v1 v2 v3 : Value} {c : LCode} {W : World} {listed : Array Bool} {f : Nat → Value} {w : World} (h : CopyI n v1 v2 v3 c W listed f w) {u0 u1 u2 : Value}
    (L : Blk (((w.setCell ⟨n + 1, 0, none⟩ u0).setCell ⟨n + 1, 1, none⟩ u1).setCell ⟨n + 1, 2, none⟩ u2) (n + 1) [u0, u1, u2]) (g1 : w.ownsRow (n + 1 + 1) 3 1 u0 c.vars.length (ints c.vars)) (g2 : w.ownsRow (n + 1 + 1) 3 1 u1 c.arrays.length (ints c.arrays)) (g3 : w.ownsRow (n + 1 + 1) 66 5 u2 c.list.length (ints (insF c.list))) (dd : Disj u0 u1 ∧ Disj u0 u2 ∧ Disj u1 u2) :
    CopyI n v1 v2 v3 c W (listed.setIfInBounds 13 true) f (((w.setCell ⟨n + 1, 0, none⟩ u0).setCell ⟨n + 1, 1, none⟩ u1).setCell ⟨n + 1, 2, none⟩ u2) := by
  have get : ∀ j, j < 13 → (listed.setIfInBounds 13 true).getD j false = true → listed.getD j false = true := fun j hj g => by rwa [getD_set_ne false (by omega)] at g
  have hsz : (((w.setCell ⟨n + 1, 0, none⟩ u0).setCell ⟨n + 1, 1, none⟩ u1).setCell ⟨n + 1, 2, none⟩ u2).heap.size = w.heap.size := by simp
  have k := fun {e : TypeId} {sz : Nat} {v : Value} {m : Nat} {xs : List Value} (g : w.ownsRow (n + 1 + 1) e sz v m xs) => owns_set (owns_set (owns_set g (Nat.lt_succ_self (n + 1)) 0 u0) (Nat.lt_succ_self (n + 1)) 1 u1) (Nat.lt_succ_self (n + 1)) 2 u2
  refine ⟨by simpa using h.size, fun j hj g => (((h.val j hj (get j hj g)).store 0 u0).store 1 u1).store 2 u2, fun i j hi hj oi oj hij gi gj => h.dis i j hi hj oi oj hij (get i (by omega) gi) (get j (by omega) gj), ?_, by rw [hsz]; exact h.big, fun g => ?_, fun _ => ⟨u0, u1, u2, L, k g1, k g2, k g3, dd⟩⟩
  · exact ((h.box.setCell (p := ⟨n + 1, 0, none⟩) (Nat.le_refl _) u0).setCell (p := ⟨n + 1, 1, none⟩) (Nat.le_refl _) u1).setCell (p := ⟨n + 1, 2, none⟩) (Nat.le_refl _) u2
  · have h14 := h.size
    simp [h14] at g

set_option maxRecDepth 100000 in
set_option maxHeartbeats 4000000 in
theorem spec_l8Copy (v : Value) (c : LCode) (w : World) (h : CodeRow w v c) (hs : c.size ≤ 1048576) :
    Calls Try.prog 94 #[v] w fun e w' => ∃ u, e = .returned u ∧ CodeOwn w' w.heap.size w'.heap.size u c ∧ Below w.heap.size w w' := by
  obtain ⟨v1, v2, v3, rfl, h1, h2, h3⟩ := h
  unfold LCode.size at hs
  obtain ⟨n, hn⟩ : ∃ n, n = w.heap.size := ⟨_, rfl⟩
  obtain ⟨W, hW⟩ : ∃ W, W = (w.alloc (.cells #[v1, v2, v3] 36)).alloc (.cells #[.slice none 0 0, .slice none 0 0, .slice none 0 0] 36) := ⟨_, rfl⟩
  have B0 : Below n w W := by rw [hW, hn]; go_grown
  have sW : W.heap.size = n + 1 + 1 := by rw [hW, hn]; simp
  have L1 : Blk W n [v1, v2, v3] := by rw [hW, hn]; exact (Blk.new w [v1, v2, v3] _).alloc _
  have L2 : Blk W (n + 1) [.slice none 0 0, .slice none 0 0, .slice none 0 0] := by rw [hW, hn]; exact Blk.new' (w.alloc _) [.slice none 0 0, .slice none 0 0, .slice none 0 0] _ (by simp)
  have HB := show Hid (∀ W', Below (n + 1) W W' → (W'.cell? ⟨n, 0, none⟩ = some v1 ∧ W'.cell? ⟨n, 1, none⟩ = some v2 ∧ W'.cell? ⟨n, 2, none⟩ = some v3)) from by
    intro W' hb
    have L' := L1.below hb (by omega)
    exact ⟨by simpa using L'.cell 0, by simpa using L'.cell 1, by simpa using L'.cell 2⟩
  have hA : ∀ W', Below (n + 1) W W' → Below n w W' := fun W' g => B0.trans (g.mono (by omega))
  have HR1 := show Hid (∀ W', Below (n + 1) W W' → Row W' v1 c.vars.length 1 (ints c.vars)) from fun W' g => h1.below (by rw [← hn]; exact hA _ g)
  have HR2 := show Hid (∀ W', Below (n + 1) W W' → Row W' v2 c.arrays.length 1 (ints c.arrays)) from fun W' g => h2.below (by rw [← hn]; exact hA _ g)
  have HR3 := show Hid (∀ W', Below (n + 1) W W' → InsRow W' v3 c.list) from fun W' g => h3.below (by rw [← hn]; exact hA _ g)
  have HA := show Hid _ from hA
  have HL2 := show Hid _ from L2
  have HN := show Hid (n = w.heap.size) from hn
  clear hA h1 h2 h3 L1 L2
  go_enter Try.func94, Try.ntmps94
  go_wp2_with fail
  rw [← HN.out]
  rw [← hW]
  clear hn hW B0
  refine wp_region_inv (CopyIA n v1 v2 v3 c W) (by kernel_rfl) (by kernel_rfl) ?_ ?_ ?_
  · refine ⟨fun _ => undef, rfl, ⟨by simp, fun i hi g => ?_, fun i j _ _ _ _ _ g => ?_, (Below.refl _ _).drew, ?_, fun _ => (Below.refl _ _).drew, fun g => ?_⟩⟩
    · rw [getD_replicate_false] at g; cases g
    · rw [getD_replicate_false] at g; cases g
    · exact Nat.le_of_eq sW.symm
    · rw [getD_replicate_false] at g; cases g
  · rintro listed a w ⟨f, rfl, hI⟩ i o ho hun hdep Q' hQ
    have HQ := show Hid _ from hQ
    clear hQ
    have hi : i < 14 := by simpa using (List.getElem?_eq_some_iff.1 ho).1
    have hc : i = 0 ∨ i = 1 ∨ i = 2 ∨ i = 3 ∨ i = 4 ∨ i = 5 ∨ i = 6 ∨ i = 7 ∨ i = 8 ∨ i = 9 ∨ i = 10 ∨ i = 11 ∨ i = 12 ∨ i = 13 := by omega
    rcases hc with rfl | rfl | rfl | rfl | rfl | rfl | rfl | rfl | rfl | rfl | rfl | rfl | rfl | rfl
    · simp only [List.getElem?_cons_zero, Option.some.injEq] at ho
      subst ho
      unfold actOf
      go_wp2_with fail
      exact HQ.out _ _ ⟨_, rfl, hI.step (i := 0) (by omega) (by go_grown) ⟨⟨_, rfl⟩, owns_base (own_built w #[] 0 1 3 rfl rfl (by omega)).1 hI.big⟩ fun _ j hj oj _ gj => hI.new (fun g hg => by cases hg; exact Nat.le_refl _) j hj oj gj⟩
    · simp only [List.getElem?_cons_zero, List.getElem?_cons_succ, Option.some.injEq] at ho
      subst ho
      unfold actOf
      go_wp2_with fail
      exact HQ.out _ _ ⟨_, rfl, hI.step (i := 1) (by omega) (Below.refl _ _) rfl fun h => absurd h (by unfold ownable; omega)⟩
    · simp only [List.getElem?_cons_zero, List.getElem?_cons_succ, Option.some.injEq] at ho
      subst ho
      have e1 : f 1 = .pointer (some ⟨n, 0, none⟩) := hI.val 1 (by omega) (hdep { on := 1, ground := .data } (by simp) (by kernel_rfl))
      have cc := (HB.out w hI.box).1
      unfold actOf
      go_wp2_with fail
      exact HQ.out _ _ ⟨_, by simp [actOf, e1], hI.step (i := 2) (by omega) (Below.refl _ _) rfl fun h => absurd h (by unfold ownable; omega)⟩
    · simp only [List.getElem?_cons_zero, List.getElem?_cons_succ, Option.some.injEq] at ho
      subst ho
      have d0 : listed.getD 0 false = true := hdep { on := 0, ground := .data } (by simp) (by kernel_rfl)
      have e0 := hI.val 0 (by omega) d0
      have e2 : f 2 = v1 := hI.val 2 (by omega) (hdep { on := 2, ground := .data } (by simp) (by kernel_rfl))
      refine wpList_own0 rfl _ _ rfl Try.underlying28 infoI rfl (by omega) e0.1 e0.2 rfl e2 (HR1.out w hI.box) (by omega) hI.big ?_
      intro x w' ox bx hx
      refine wpList_nil (HQ.out _ _ ⟨_, rfl, hI.step (i := 3) (by omega) bx ox fun _ j hj oj hjk gj => ?_⟩)
      rcases hx with rfl | hx
      · exact hI.dis 0 j (by omega) hj (.inl rfl) oj hjk d0 gj
      · exact hI.new hx j hj oj gj
    · simp only [List.getElem?_cons_zero, List.getElem?_cons_succ, Option.some.injEq] at ho
      subst ho
      unfold actOf
      go_wp2_with fail
      exact HQ.out _ _ ⟨_, rfl, hI.step (i := 4) (by omega) (by go_grown) ⟨⟨_, rfl⟩, owns_base (own_built w #[] 0 1 3 rfl rfl (by omega)).1 hI.big⟩ fun _ j hj oj _ gj => hI.new (fun g hg => by cases hg; exact Nat.le_refl _) j hj oj gj⟩
    · simp only [List.getElem?_cons_zero, List.getElem?_cons_succ, Option.some.injEq] at ho
      subst ho
      unfold actOf
      go_wp2_with fail
      exact HQ.out _ _ ⟨_, rfl, hI.step (i := 5) (by omega) (Below.refl _ _) rfl fun h => absurd h (by unfold ownable; omega)⟩
    · simp only [List.getElem?_cons_zero, List.getElem?_cons_succ, Option.some.injEq] at ho
      subst ho
      have e1 : f 5 = .pointer (some ⟨n, 1, none⟩) := hI.val 5 (by omega) (hdep { on := 5, ground := .data } (by simp) (by kernel_rfl))
      have cc := (HB.out w hI.box).2.1
      unfold actOf
      go_wp2_with fail
      exact HQ.out _ _ ⟨_, by simp [actOf, e1], hI.step (i := 6) (by omega) (Below.refl _ _) rfl fun h => absurd h (by unfold ownable; omega)⟩
    · simp only [List.getElem?_cons_zero, List.getElem?_cons_succ, Option.some.injEq] at ho
      subst ho
      have d0 : listed.getD 4 false = true := hdep { on := 4, ground := .data } (by simp) (by kernel_rfl)
      have e0 := hI.val 4 (by omega) d0
      have e2 : f 6 = v2 := hI.val 6 (by omega) (hdep { on := 6, ground := .data } (by simp) (by kernel_rfl))
      refine wpList_own0 rfl _ _ rfl Try.underlying28 infoI rfl (by omega) e0.1 e0.2 rfl e2 (HR2.out w hI.box) (by omega) hI.big ?_
      intro x w' ox bx hx
      refine wpList_nil (HQ.out _ _ ⟨_, rfl, hI.step (i := 7) (by omega) bx ox fun _ j hj oj hjk gj => ?_⟩)
      rcases hx with rfl | hx
      · exact hI.dis 4 j (by omega) hj (.inl rfl) oj hjk d0 gj
      · exact hI.new hx j hj oj gj
    · simp only [List.getElem?_cons_zero, List.getElem?_cons_succ, Option.some.injEq] at ho
      subst ho
      unfold actOf
      go_wp2_with fail
      exact HQ.out _ _ ⟨_, rfl, hI.step (i := 8) (by omega) (by go_grown) ⟨⟨_, rfl⟩, owns_base (own_built w #[] 0 5 66 rfl rfl (by omega)).1 hI.big⟩ fun _ j hj oj _ gj => hI.new (fun g hg => by cases hg; exact Nat.le_refl _) j hj oj gj⟩
    · simp only [List.getElem?_cons_zero, List.getElem?_cons_succ, Option.some.injEq] at ho
      subst ho
      unfold actOf
      go_wp2_with fail
      exact HQ.out _ _ ⟨_, rfl, hI.step (i := 9) (by omega) (Below.refl _ _) rfl fun h => absurd h (by unfold ownable; omega)⟩
    · simp only [List.getElem?_cons_zero, List.getElem?_cons_succ, Option.some.injEq] at ho
      subst ho
      have e1 : f 9 = .pointer (some ⟨n, 2, none⟩) := hI.val 9 (by omega) (hdep { on := 9, ground := .data } (by simp) (by kernel_rfl))
      have cc := (HB.out w hI.box).2.2
      unfold actOf
      go_wp2_with fail
      exact HQ.out _ _ ⟨_, by simp [actOf, e1], hI.step (i := 10) (by omega) (Below.refl _ _) rfl fun h => absurd h (by unfold ownable; omega)⟩
    · simp only [List.getElem?_cons_zero, List.getElem?_cons_succ, Option.some.injEq] at ho
      subst ho
      have d0 : listed.getD 8 false = true := hdep { on := 8, ground := .data } (by simp) (by kernel_rfl)
      have e0 := hI.val 8 (by omega) d0
      have e2 : f 10 = v3 := hI.val 10 (by omega) (hdep { on := 10, ground := .data } (by simp) (by kernel_rfl))
      refine wpList_own0 rfl _ _ rfl Try.underlying34 infoN rfl (by omega) e0.1 e0.2 rfl e2 (HR3.out w hI.box) (by omega) hI.big ?_
      intro x w' ox bx hx
      refine wpList_nil (HQ.out _ _ ⟨_, rfl, hI.step (i := 11) (by omega) bx ox fun _ j hj oj hjk gj => ?_⟩)
      rcases hx with rfl | hx
      · exact hI.dis 8 j (by omega) hj (.inl rfl) oj hjk d0 gj
      · exact hI.new hx j hj oj gj
    · simp only [List.getElem?_cons_zero, List.getElem?_cons_succ, Option.some.injEq] at ho
      subst ho
      have d3 : listed.getD 3 false = true := hdep { on := 3, ground := .data } (by simp) (by kernel_rfl)
      have d7 : listed.getD 7 false = true := hdep { on := 7, ground := .data } (by simp) (by kernel_rfl)
      have d11 : listed.getD 11 false = true := hdep { on := 11, ground := .data } (by simp) (by kernel_rfl)
      have g3 : w.ownsRow (n + 1 + 1) 3 1 (f 3) c.vars.length (ints c.vars) := hI.val 3 (by omega) d3
      have g7 : w.ownsRow (n + 1 + 1) 3 1 (f 7) c.arrays.length (ints c.arrays) := hI.val 7 (by omega) d7
      have g11 : w.ownsRow (n + 1 + 1) 66 5 (f 11) c.list.length (ints (insF c.list)) := hI.val 11 (by omega) d11
      have hD := show Pv n v1 v2 v3 c 12 (.agg #[f 3, f 7, f 11]) w from ⟨_, _, _, rfl, g3, g7, g11, hI.dis 3 7 (by omega) (by omega) (.inr rfl) (.inr rfl) (by omega) d3 d7, hI.dis 3 11 (by omega) (by omega) (.inr rfl) (.inr rfl) (by omega) d3 d11, hI.dis 7 11 (by omega) (by omega) (.inr rfl) (.inr rfl) (by omega) d7 d11⟩
      obtain ⟨a3, k3, e3⟩ := owns_form g3
      obtain ⟨a7, k7, e7⟩ := owns_form g7
      obtain ⟨a11, k11, e11⟩ := owns_form g11
      rw [e3, e7, e11] at hD
      clear g3 g7 g11
      unfold actOf
      go_wp2_with fail
      exact HQ.out _ _ ⟨_, by simp [actOf, e3, e7, e11], hI.step (i := 12) (by omega) (Below.refl _ _) hD fun _ j _ _ _ _ g hg => by cases hg⟩
    · simp only [List.getElem?_cons_zero, List.getElem?_cons_succ, Option.some.injEq] at ho
      subst ho
      obtain ⟨y1, y2, y3, e12, g1, g2, g3, dd⟩ : Pv n v1 v2 v3 c 12 (f 12) w := hI.val 12 (by omega) (hdep { on := 12, ground := .data } (by simp) (by kernel_rfl))
      have hpre := hI.pre (by have h14 := hI.size; simp [h14] at hun ⊢; exact hun)
      have L2 := Blk.below HL2.out hpre (by omega)
      have c0 := L2.cell 0
      have c1 := L2.cell 1
      have c2 := L2.cell 2
      have f0 := L2.free 0
      have f1 := L2.free 1
      have f2 := L2.free 2
      simp only [List.getElem?_cons_zero, List.getElem?_cons_succ] at c0 c1 c2
      obtain ⟨a1, k1, rfl⟩ := owns_form g1
      obtain ⟨a2, k2, rfl⟩ := owns_form g2
      obtain ⟨a3, k3, rfl⟩ := owns_form g3
      have L3 := ((L2.set (j := 0) (.slice a1 c.vars.length k1)).set (j := 1) (.slice a2 c.arrays.length k2)).set (j := 2) (.slice a3 c.list.length k3)
      have hst := hI.stored (u0 := .slice a1 c.vars.length k1) (u1 := .slice a2 c.arrays.length k2) (u2 := .slice a3 c.list.length k3) L3 g1 g2 g3 dd
      clear g1 g2 g3 L3 L2 hpre
      unfold actOf
      go_wp2_with fail
      exact HQ.out _ _ ⟨_, by simp [actOf, e12], hst⟩
  · rintro listed a w ⟨f, rfl, hI⟩ hall
    obtain ⟨y1, y2, y3, L, g1, g2, g3, d12, d13, d23⟩ := hI.post (by have := hall 13 (by simp); have h14 := hI.size; simp [h14] at this ⊢; exact this)
    have BF := HA.out w hI.box
    have hbig := hI.big
    have r0 := L.cell 0
    have r1 := L.cell 1
    have r2 := L.cell 2
    simp only [List.getElem?_cons_zero, List.getElem?_cons_succ] at r0 r1 r2
    obtain ⟨a1, k1, rfl⟩ := owns_form g1
    obtain ⟨a2, k2, rfl⟩ := owns_form g2
    obtain ⟨a3, k3, rfl⟩ := owns_form g3
    have hn' := HN.out
    unfold actOf
    go_wp2_with fail
    refine bodyPost_ret (v := .agg #[.slice a1 c.vars.length k1, .slice a2 c.arrays.length k2, .slice a3 c.list.length k3]) (by simp [results, Try.results94, go_sem, r0, r1, r2]) rfl ⟨_, rfl, ⟨_, _, _, rfl, (Own.mk' g1).wide (by omega) (Nat.le_refl _), (Own.mk' g2).wide (by omega) (Nat.le_refl _), (Own.mk' g3).wide (by omega) (Nat.le_refl _), d12, d13, d23⟩, by rw [← hn']; exact BF⟩

end Go.Proofs.Ytjlnaiifegjneaa
