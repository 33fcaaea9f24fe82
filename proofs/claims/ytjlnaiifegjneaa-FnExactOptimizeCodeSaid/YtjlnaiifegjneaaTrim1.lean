/-
  Code with another list, the program's. Conditions: code; the list is the caller's own.
-/
import Derived.Test.YtjlnaiifegjneaaCopy
import Derived.Test.YtjlnaiifegjneaaThread1
import Derived.Test.YtjlnaiifegjneaaPure10
namespace Go.Proofs.Ytjlnaiifegjneaa
open Go Go.RowKit

set_option maxRecDepth 100000 in
set_option maxHeartbeats 4000000 in
theorem impl_with (v : Value) (c : LCode) (p : Option Addr) (m k : Nat) (l : List LIns) (lo hi : Nat) (w : World) (h : CodeRow w v c) (hs : c.size ≤ 1048576) (hl : Own w lo hi 66 5 (.slice p m k) l.length (ints (insF l))) (hlo : lo ≤ w.heap.size) (hhi : hi ≤ w.heap.size) :
    Calls Try.prog 122 #[v, .slice p m k] w fun e w' => ∃ u, e = .returned u ∧ CodeOwn w' lo w'.heap.size u { c with list := l } ∧ Below w.heap.size w w' := by
  obtain ⟨v1, v2, v3, rfl, h1, h2, h3⟩ := h
  unfold LCode.size at hs
  have hlm : m = l.length := by obtain ⟨a, c, e⟩ := hl.form; simp only [Value.slice.injEq] at e; omega
  subst hlm
  obtain ⟨n, hn⟩ : ∃ n, n = w.heap.size := ⟨_, rfl⟩
  obtain ⟨W, hW⟩ : ∃ W, W = (w.alloc (.cells #[v1, v2, v3] 36)).alloc (.cells #[.slice none 0 0, .slice none 0 0, .slice none 0 0] 36) := ⟨_, rfl⟩
  have B0 : Below n w W := by rw [hW, hn]; go_grown
  have sW : W.heap.size = n + 1 + 1 := by rw [hW, hn]; simp
  have L1 : Blk W n [v1, v2, v3] := by rw [hW, hn]; exact (Blk.new w [v1, v2, v3] _).alloc _
  have L2 : Blk W (n + 1) [.slice none 0 0, .slice none 0 0, .slice none 0 0] := by rw [hW, hn]; exact Blk.new' (w.alloc _) [.slice none 0 0, .slice none 0 0, .slice none 0 0] _ (by simp)
  have hS : ∀ W', Below (n + 1) W W' → Below (n + 1) W W' ∧ (W'.cell? ⟨n, 0, none⟩ = some v1 ∧ W'.cell? ⟨n, 1, none⟩ = some v2 ∧ W'.cell? ⟨n, 2, none⟩ = some v3) := by
    intro W' hb
    have L' := L1.below hb (by omega)
    exact ⟨hb, by simpa using L'.cell 0, by simpa using L'.cell 1, by simpa using L'.cell 2⟩
  have hQ : ∀ W' W'', Below (n + 1 + 1) W W' → Below W'.heap.size W' W'' → Below (n + 1 + 1) W W'' := fun W' W'' g k => g.trans (k.mono (by have := g.size; omega))
  have hT : ∀ W', Below (n + 1 + 1) W W' → (W'.frozen? ⟨n + 1, 0, none⟩ = false ∧ W'.frozen? ⟨n + 1, 1, none⟩ = false ∧ W'.frozen? ⟨n + 1, 2, none⟩ = false) ∧ W'.cell? ⟨n + 1, 0, none⟩ = some (.slice none 0 0) ∧ W'.cell? ⟨n + 1, 1, none⟩ = some (.slice none 0 0) ∧ W'.cell? ⟨n + 1, 2, none⟩ = some (.slice none 0 0) := by
    intro W' hb
    have L' := L2.below hb (by omega)
    exact ⟨⟨L'.free 0, L'.free 1, L'.free 2⟩, by simpa using L'.cell 0, by simpa using L'.cell 1, by simpa using L'.cell 2⟩
  have hA : ∀ W', Below (n + 1 + 1) W W' → Below n w W' := fun W' g => B0.trans (g.mono (by omega))
  have HA1 := show Hid (∀ W', Below (n + 1 + 1) W W' → Row W' v1 c.vars.length 1 (ints c.vars)) from fun W' g => h1.below (by rw [← hn]; exact hA _ g)
  have HA2 := show Hid (∀ W', Below (n + 1 + 1) W W' → Row W' v2 c.arrays.length 1 (ints c.arrays)) from fun W' g => h2.below (by rw [← hn]; exact hA _ g)
  have HA3 := show Hid (∀ W', Below (n + 1 + 1) W W' → InsRow W' v3 c.list) from fun W' g => h3.below (by rw [← hn]; exact hA _ g)
  have HA := show Hid _ from hA
  have HS := show Hid _ from hS
  have HQ := show Hid _ from hQ
  have HT := show Hid _ from hT
  have hb0 : Below (n + 1 + 1) W W.drew := (Below.refl _ W).drew
  have hb1 : Below (n + 1) W W.drew := (Below.refl _ W).drew
  have HN := show Hid (n = w.heap.size) from hn
  have HL2 := show Hid _ from L2
  have zd : W.drew.heap.size = n + 1 + 1 := sW
  have HB0 := show Hid _ from B0
  clear hS hQ hT hA h1 h2 h3 L1
  go_enter Try.func122, Try.ntmps122
  go_wp2_with fail
  rw [← HN.out]
  rw [← hW]
  clear hn hW B0 L2
  go_region_held3 (fun W' => Below (n + 1) W W' ∧ (W'.cell? ⟨n, 0, none⟩ = some v1 ∧ W'.cell? ⟨n, 1, none⟩ = some v2 ∧ W'.cell? ⟨n, 2, none⟩ = some v3))
    (first | exact HS.out _ (by assumption) | exact HS.out _ ((by assumption : Below (n + 1 + 1) W _).mono (Nat.le_succ _)) | exact HS.out _ (((((by assumption : Below (n + 1 + 1) W _).mono (Nat.le_succ _)).setCell (Nat.le_refl _) _).setCell (Nat.le_refl _) _).setCell (Nat.le_refl _) _))
    (first
      | (go_at_call 108; refine (clone_int v1 c.vars _ (HA1.out _ (by assumption)) (by omega)).mono ?_; rintro e w7 ⟨u1, rfl, o1, b7⟩; obtain ⟨x1, k1, rfl⟩ := o1.form; have s7 := b7.size; (try replace o2 := o2.keep b7 (by omega)); have q7 := HQ.out _ _ (by assumption) b7; have z7 := q7.size; obtain ⟨⟨f0, f1, f2⟩, c0, c1, c2⟩ := HT.out _ q7)
      | (go_at_call 108; refine (clone_int v2 c.arrays _ (HA2.out _ (by assumption)) (by omega)).mono ?_; rintro e w7 ⟨u2, rfl, o2, b7⟩; obtain ⟨x2, k2, rfl⟩ := o2.form; have s7 := b7.size; (try replace o1 := o1.keep b7 (by omega)); have q7 := HQ.out _ _ (by assumption) b7; have z7 := q7.size; obtain ⟨⟨f0, f1, f2⟩, c0, c1, c2⟩ := HT.out _ q7))
  have L2 := Blk.below HL2.out q7 (by omega)
  have hn0 := HN.out
  have o3 := (hl.keep HB0.out (by have := HN.out; omega)).keep (q7.mono (show n ≤ n + 1 + 1 by omega)) (by have := HN.out; omega)
  have L3 := ((L2.set (j := 0) (.slice x1 c.vars.length k1)).set (j := 1) (.slice x2 c.arrays.length k2)).set (j := 2) (.slice p l.length k)
  replace o1 := (((o1.other (b := n + 1) (by omega) 0 (.slice x1 c.vars.length k1)).other (b := n + 1) (by omega) 1 (.slice x2 c.arrays.length k2)).other (b := n + 1) (by omega) 2 (.slice p l.length k))
  replace o2 := (((o2.other (b := n + 1) (by omega) 0 (.slice x1 c.vars.length k1)).other (b := n + 1) (by omega) 1 (.slice x2 c.arrays.length k2)).other (b := n + 1) (by omega) 2 (.slice p l.length k))
  replace o3 := (((o3.other (b := n + 1) (by omega) 0 (.slice x1 c.vars.length k1)).other (b := n + 1) (by omega) 1 (.slice x2 c.arrays.length k2)).other (b := n + 1) (by omega) 2 (.slice p l.length k))
  have BF := (((HB0.out.trans (q7.mono (by omega))).setCell (p := ⟨n + 1, 0, none⟩) (by show n ≤ n + 1; omega) (.slice x1 c.vars.length k1)).setCell (p := ⟨n + 1, 1, none⟩) (by show n ≤ n + 1; omega) (.slice x2 c.arrays.length k2)).setCell (p := ⟨n + 1, 2, none⟩) (by show n ≤ n + 1; omega) (.slice p l.length k)
  have zF : (((w7.setCell ⟨n + 1, 0, none⟩ (.slice x1 c.vars.length k1)).setCell ⟨n + 1, 1, none⟩ (.slice x2 c.arrays.length k2)).setCell ⟨n + 1, 2, none⟩ (.slice p l.length k)).heap.size = w7.heap.size := by simp
  generalize ((w7.setCell ⟨n + 1, 0, none⟩ (.slice x1 c.vars.length k1)).setCell ⟨n + 1, 1, none⟩ (.slice x2 c.arrays.length k2)).setCell ⟨n + 1, 2, none⟩ (.slice p l.length k) = WF at *
  have r0 := L3.cell 0
  have r1 := L3.cell 1
  have r2 := L3.cell 2
  simp at r0 r1 r2
  have hn' := HN.out
  clear f0 f1 f2 c0 c1 c2 L2 HS HQ HT HA HA1 HA2 HA3 HL2 HB0 hb0 hb1 HN
  go_wp2_with fail
  refine bodyPost_ret (v := .agg #[.slice x1 c.vars.length k1, .slice x2 c.arrays.length k2, .slice p l.length k]) (by simp [results, Try.results122, go_sem, r0, r1, r2]) rfl ⟨_, rfl, ⟨_, _, _, rfl, o1.wide (by omega) (by omega), o2.wide (by omega) (by omega), o3.wide (by omega) (by omega), disj_of o1 o2 (by omega), disj_of o1 o3 (by omega), disj_of o2 o3 (by omega)⟩, by rw [← hn']; exact BF⟩

end Go.Proofs.Ytjlnaiifegjneaa
