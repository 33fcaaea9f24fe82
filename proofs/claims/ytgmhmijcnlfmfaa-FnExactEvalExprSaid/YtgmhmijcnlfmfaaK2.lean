/- Part 2: functions on the way, plain laws. Conditions: as said. -/
import Derived.Test.YtgmhmijcnlfmfaaK1
set_option maxRecDepth 100000
set_option maxHeartbeats 16000000
set_option linter.unusedVariables false
set_option linter.unusedSimpArgs false
open List renaming getElem_mem → bg4
open Nat renaming le_refl → bf5, lt_or_ge → bh7, zero_le → bg3
open True renaming intro → bf4

namespace Go.Proofs.Ytgmhmijcnlfmfaa
open Go Go.RowKit
theorem aL9 {ks ls : List b7} {k : Nat} (h1 : k < ks.length) (h2 : k < ls.length) (h : J1 ks[k] ls[k] = false) : J9 ks ls = false := by
 cases hs : J9 ks ls
 ·rfl
 ·have := (S6 ks ls).1 hs
  subst this
  rw [(S7 _ _).2 rfl] at h; cases h
theorem aL8 {ks ls : List b6} {k : Nat} (h1 : k < ks.length) (h2 : k < ls.length) (h : al1 ks[k] ls[k] = false) : E8 ks ls = false := by
 cases hs : E8 ks ls
 ·rfl
 ·have := (L3 ks ls).1 hs
  subst this
  rw [(al0 _ _).2 rfl] at h; cases h
def EqE (e : b7) : Prop := ∀ (φ φ' : Nat → Prop) (v u : Value) (e' : b7) (w : World), I4 w φ v e → I4 w φ' u e' →
 Calls Try.prog 59 #[v, u] w fun x w' => x = .returned (.bool (J1 e e')) ∧ Below w.heap.size w w'
theorem aH0 (ks : List b7) (ih : ∀ e ∈ ks, EqE e) (φ φ' : Nat → Prop) (v u : Value) (ls : List b7) (w : World) (h : s7 w φ v ks) (h' : s7 w φ' u ls) :
  Calls Try.prog 136 #[v, u] w fun x w' => x = .returned (.bool (J9 ks ls)) ∧ Below w.heap.size w w' := by
 obtain ⟨a, cap, rfl, -, hn, -, hc⟩ := h.open
 obtain ⟨a', cap', rfl, -, hn', -, hc'⟩ := h'.open
 have HC := show Hid _ from hc
 have HC' := show Hid _ from hc'
 clear hc hc' h h'
 by_cases hl : ks.length = ls.length
 ·have heq : ((ks.length : Int) == (ls.length : Int)) = true := by simp; omega
  have HL := show Hid _ from hl
  clear hl
  go_enter Try.func136, Try.ntmps136
  go_wp2
  go_loopw [5] (fun i wr => ∃ k : Nat, k ≤ ks.length ∧ i = .int .i64 k ∧ ks.take k = ls.take k ∧ Below w.heap.size w wr) (fun i _ => ks.length - (intOf i).toNat)
  case atStart => exact ⟨0, bg3 _, rfl, rfl, Below.refl _ _⟩
  case round =>
   obtain ⟨k, hk, rfl, ht, hb⟩ := hrel
   have HT := show Hid _ from ht
   have HB := show Hid _ from hb
   clear ht hb
   by_cases hlt : k < ks.length
   ·have hlt2 : k < ls.length := by have := HL.out; omega
    obtain ⟨b, off, kv, rfl, hbk, hf, c0, c1, c2, hkv⟩ := HC.out k hlt
    obtain ⟨b', off', kv', rfl, hbk', hf', d0, d1, d2, hkv'⟩ := HC'.out k hlt2
    rw [← (V9 HB.out).1 _ _ hbk] at c0 c1 c2
    rw [← (V9 HB.out).1 _ _ hbk'] at d0 d1 d2
    obtain ⟨q, hq⟩ : ∃ q, q = J1 ks[k] ls[k] := ⟨_, rfl⟩
    have HC3 : Hid (∀ X, Calls Try.prog 59 #[.agg #[.int .i64 ks[k].kind, .int .i64 ks[k].value, kv], .agg #[.int .i64 ls[k].kind, .int .i64 ls[k].value, kv']] (wr.ext X) fun e w'' => e = .returned (.bool q) ∧ ∃ Y, w'' = wr.ext Y) := fun X => by
     have bb := HB.out.trans ((C5 wr X).mono HB.out.size)
     rw [hq]
     exact Calls.ext_of' (ih _ (bg4 hlt) φ φ' _ _ _ _ ⟨kv, rfl, s7.nice _ _ _ _ _ _ (I8.below bb) hkv⟩ ⟨kv', rfl, s7.nice _ _ _ _ _ _ (I8.below bb) hkv'⟩)
    have HQ := show Hid _ from hq
    have j0 := fun X => t0 c0 X
    have j1 := fun X => t0 c1 X
    have j2 := fun X => t0 c2 X
    have i0 := fun X => t0 d0 X
    have i1 := fun X => t0 d1 X
    have i2 := fun X => t0 d2 X
    clear hkv hkv' hq c0 c1 c2 d0 d1 d2
    cases q
    ·go_wp2_with fail
     refine B7 (by kernel_rfl) (by kernel_rfl) ?_
     repeat (any_goals (first | go_big_quiet_step (((go_at_call 59; exact HC3.out _))) | quiet_step (((go_at_call 59; exact HC3.out _)))))
     refine wpQuiet_nil ?_
     rintro _ ⟨X, rfl⟩
     go_wp2_with fail
     go_ret
     exact ⟨b9 (aL9 hlt hlt2 HQ.out.symm).symm, HB.out.trans ((C5 wr X).mono HB.out.size)⟩
    ·go_wp2_with fail
     refine B7 (by kernel_rfl) (by kernel_rfl) ?_
     repeat (any_goals (first | go_big_quiet_step (((go_at_call 59; exact HC3.out _))) | quiet_step (((go_at_call 59; exact HC3.out _)))))
     refine wpQuiet_nil ?_
     rintro _ ⟨X, rfl⟩
     go_wp2_with fail
     exact ⟨⟨k + 1, by omega, by go_num, T9 HT.out hlt hlt2 ((S7 _ _).1 HQ.out.symm), HB.out.trans ((C5 wr X).mono HB.out.size)⟩, by simp [intOf]; omega⟩
   ·have hge : ¬ ((k : Int) < (ks.length : Int)) := by omega
    go_wp2_with fail
    go_ret
    exact ⟨b9 (by rw [M4 HT.out (by omega) (by have := HL.out; omega)]; exact ((S6 _ _).2 rfl).symm), HB.out⟩
 ·have hne : ((ks.length : Int) == (ls.length : Int)) = false := by simp; omega
  have HL := show Hid _ from hl
  clear hl
  go_enter Try.func136, Try.ntmps136
  go_wp2
  go_ret
  exact ⟨b9 (aE8 HL.out).symm, Below.refl _ _⟩
theorem ab9 (e : b7) : EqE e := by
 refine b7.ind (P := EqE) (fun k n ks ih => ?_) e
 intro φ φ' v u e' w h h'
 obtain ⟨kv, rfl, hk⟩ := h
 obtain ⟨ku, rfl, hk'⟩ := h'
 simp only [b7.kind, b7.value, b7.kids] at hk ⊢
 cases e' with
 | mk k' n' ks' =>
 have HS : Hid (J1 ⟨k, n, ks⟩ ⟨k', n', ks'⟩ = (decide (k = k') && decide (n = n') && J9 ks ks')) := rfl
 simp only [b7.kind, b7.value, b7.kids] at hk' ⊢
 obtain ⟨W, hW, M⟩ : ∃ W, W = (w.alloc (.cells #[.int .i64 k, .int .i64 n, kv] 59)).alloc (.cells #[.int .i64 k', .int .i64 n', ku] 59) ∧ A0 (fun _ => True) (fun _ => True) w W [.box w.heap.size [.int .i64 k, .int .i64 n, kv], .box (w.heap.size + 1) [.int .i64 k', .int .i64 n', ku]] :=
  ⟨_, rfl, ((A0.start fun _ _ => trivial).box _ _).box' _ _ (by simp)⟩
 have HK := show Hid (s7 W φ kv ks ∧ s7 W φ' ku ks') from ⟨s7.nice _ _ _ _ _ _ (I8.below (M.below fun _ _ => trivial)) hk, s7.nice _ _ _ _ _ _ (I8.below (M.below fun _ _ => trivial)) hk'⟩
 have HB := show Hid _ from M.below fun _ _ => trivial
 have c0 := M.c 0 0 rfl rfl
 have c1 := M.c 0 1 rfl rfl
 have c2 := M.c 0 2 rfl rfl
 have d0 := M.c 1 0 rfl rfl
 have d1 := M.c 1 1 rfl rfl
 have d2 := M.c 1 2 rfl rfl
 rw [hW] at c0 c1 c2 d0 d1 d2
 clear hk hk' M
 by_cases q0 : k = k'
 ·have p0 : (k == k') = true := by simp [q0]
  by_cases q1 : n = n'
  ·have p1 : (n == n') = true := by simp [q1]
   have Q := show Hid _ from And.intro q0 q1
   clear q0 q1
   go_enter Try.func59, Try.ntmps59
   go_wp2_with fail
   rw [← hW]
   clear hW c0 c1 c2 d0 d1 d2
   refine (aH0 ks ih φ φ' kv ku ks' _ HK.out.1 HK.out.2).mono ?_
   rintro x w1 ⟨rfl, b1⟩
   have B1 := show Hid _ from HB.out.trans (b1.mono HB.out.size)
   obtain ⟨q, hq⟩ : ∃ q, q = J9 ks ks' := ⟨_, rfl⟩
   rw [← hq]
   have HQ := show Hid _ from hq
   clear hq
   cases q
   ·go_wp2_with fail
    go_ret
    exact ⟨b9 (by rw [HS.out, ← HQ.out]; simp), B1.out⟩
   ·go_wp2_with fail
    go_ret
    exact ⟨b9 (by rw [HS.out, ← HQ.out]; simp [Q.out.1, Q.out.2]), B1.out⟩
  ·have p1 : (n == n') = false := by simp [q1]
   have Q := show Hid _ from q1
   clear q0 q1
   go_enter Try.func59, Try.ntmps59
   go_wp2_with fail
   go_ret
   exact ⟨b9 (by rw [HS.out, show decide (n = n') = false from decide_eq_false Q.out]; simp), by rw [← hW]; exact HB.out⟩
 ·have p0 : (k == k') = false := by simp [q0]
  have Q := show Hid _ from q0
  clear q0
  go_enter Try.func59, Try.ntmps59
  go_wp2_with fail
  go_ret
  exact ⟨b9 (by rw [HS.out, show decide (k = k') = false from decide_eq_false Q.out]; simp), by rw [← hW]; exact HB.out⟩
def EqS (e : b6) : Prop := ∀ (φ φ' : Nat → Prop) (v u : Value) (e' : b6) (w : World), Q8 w φ v e → Q8 w φ' u e' →
 Calls Try.prog 182 #[v, u] w fun x w' => x = .returned (.bool (al1 e e')) ∧ Below w.heap.size w w'
theorem ab8 (ks : List b6) (ih : ∀ e ∈ ks, EqS e) (φ φ' : Nat → Prop) (v u : Value) (ls : List b6) (w : World) (h : t3 w φ v ks) (h' : t3 w φ' u ls) :
  Calls Try.prog 121 #[v, u] w fun x w' => x = .returned (.bool (E8 ks ls)) ∧ Below w.heap.size w w' := by
 obtain ⟨a, cap, rfl, -, hn, -, hc⟩ := h.open
 obtain ⟨a', cap', rfl, -, hn', -, hc'⟩ := h'.open
 have HC := show Hid _ from hc
 have HC' := show Hid _ from hc'
 clear hc hc' h h'
 by_cases hl : ks.length = ls.length
 ·have heq : ((ks.length : Int) == (ls.length : Int)) = true := by simp; omega
  have HL := show Hid _ from hl
  clear hl
  go_enter Try.func121, Try.ntmps121
  go_wp2
  go_loopw [5] (fun i wr => ∃ k : Nat, k ≤ ks.length ∧ i = .int .i64 k ∧ ks.take k = ls.take k ∧ Below w.heap.size w wr) (fun i _ => ks.length - (intOf i).toNat)
  case atStart => exact ⟨0, bg3 _, rfl, rfl, Below.refl _ _⟩
  case round =>
   obtain ⟨k, hk, rfl, ht, hb⟩ := hrel
   have HT := show Hid _ from ht
   have HB := show Hid _ from hb
   clear ht hb
   by_cases hlt : k < ks.length
   ·have hlt2 : k < ls.length := by have := HL.out; omega
    obtain ⟨b, off, iv, vv, bv, ev, rfl, hbk, hf, ⟨c0, c1, c2, c3, c4, c5, c6, c7, c8, c9, c10⟩, g1, g2, g3, g4⟩ := HC.out k hlt
    obtain ⟨b', off', iv', vv', bv', ev', rfl, hbk', hf', ⟨d0, d1, d2, d3, d4, d5, d6, d7, d8, d9, d10⟩, g1', g2', g3', g4'⟩ := HC'.out k hlt2
    rw [← (V9 HB.out).1 _ _ hbk] at c0 c1 c2 c3 c4 c5 c6 c7 c8 c9 c10
    rw [← (V9 HB.out).1 _ _ hbk'] at d0 d1 d2 d3 d4 d5 d6 d7 d8 d9 d10
    obtain ⟨q, hq⟩ : ∃ q, q = al1 ks[k] ls[k] := ⟨_, rfl⟩
    have HC3 : Hid (∀ X, Calls Try.prog 182 #[.agg #[.int .i64 ks[k].kind, .int .i64 ks[k].target, .int .i64 ks[k].index.kind, .int .i64 ks[k].index.value, iv, .int .i64 ks[k].value.kind, .int .i64 ks[k].value.value, vv, .int .i64 ks[k].count, bv, ev], .agg #[.int .i64 ls[k].kind, .int .i64 ls[k].target, .int .i64 ls[k].index.kind, .int .i64 ls[k].index.value, iv', .int .i64 ls[k].value.kind, .int .i64 ls[k].value.value, vv', .int .i64 ls[k].count, bv', ev']] (wr.ext X) fun e w'' => e = .returned (.bool q) ∧ ∃ Y, w'' = wr.ext Y) := fun X => by
     have bb := HB.out.trans ((C5 wr X).mono HB.out.size)
     rw [hq]
     exact Calls.ext_of' (ih _ (bg4 hlt) φ φ' _ _ _ _ (Q8.nice _ _ _ _ _ _ (I8.below bb) ⟨iv, vv, bv, ev, rfl, g1, g2, g3, g4⟩) (Q8.nice _ _ _ _ _ _ (I8.below bb) ⟨iv', vv', bv', ev', rfl, g1', g2', g3', g4'⟩))
    have HQ := show Hid _ from hq
    have j0 := fun X => t0 c0 X
    have j1 := fun X => t0 c1 X
    have j2 := fun X => t0 c2 X
    have j3 := fun X => t0 c3 X
    have j4 := fun X => t0 c4 X
    have j5 := fun X => t0 c5 X
    have j6 := fun X => t0 c6 X
    have j7 := fun X => t0 c7 X
    have j8 := fun X => t0 c8 X
    have j9 := fun X => t0 c9 X
    have j10 := fun X => t0 c10 X
    have i0 := fun X => t0 d0 X
    have i1 := fun X => t0 d1 X
    have i2 := fun X => t0 d2 X
    have i3 := fun X => t0 d3 X
    have i4 := fun X => t0 d4 X
    have i5 := fun X => t0 d5 X
    have i6 := fun X => t0 d6 X
    have i7 := fun X => t0 d7 X
    have i8 := fun X => t0 d8 X
    have i9 := fun X => t0 d9 X
    have i10 := fun X => t0 d10 X
    clear g1 g2 g3 g4 g1' g2' g3' g4' hq c0 d0 c1 d1 c2 d2 c3 d3 c4 d4 c5 d5 c6 d6 c7 d7 c8 d8 c9 d9 c10 d10
    cases q
    ·go_wp2_with fail
     refine B7 (by kernel_rfl) (by kernel_rfl) ?_
     repeat (any_goals (first | go_big_quiet_step (((go_at_call 182; exact HC3.out _))) | quiet_step (((go_at_call 182; exact HC3.out _)))))
     refine wpQuiet_nil ?_
     rintro _ ⟨X, rfl⟩
     go_wp2_with fail
     go_ret
     exact ⟨b9 (aL8 hlt hlt2 HQ.out.symm).symm, HB.out.trans ((C5 wr X).mono HB.out.size)⟩
    ·go_wp2_with fail
     refine B7 (by kernel_rfl) (by kernel_rfl) ?_
     repeat (any_goals (first | go_big_quiet_step (((go_at_call 182; exact HC3.out _))) | quiet_step (((go_at_call 182; exact HC3.out _)))))
     refine wpQuiet_nil ?_
     rintro _ ⟨X, rfl⟩
     go_wp2_with fail
     exact ⟨⟨k + 1, by omega, by go_num, T9 HT.out hlt hlt2 ((al0 _ _).1 HQ.out.symm), HB.out.trans ((C5 wr X).mono HB.out.size)⟩, by simp [intOf]; omega⟩
   ·have hge : ¬ ((k : Int) < (ks.length : Int)) := by omega
    go_wp2_with fail
    go_ret
    exact ⟨b9 (by rw [M4 HT.out (by omega) (by have := HL.out; omega)]; exact ((L3 _ _).2 rfl).symm), HB.out⟩
 ·have hne : ((ks.length : Int) == (ls.length : Int)) = false := by simp; omega
  have HL := show Hid _ from hl
  clear hl
  go_enter Try.func121, Try.ntmps121
  go_wp2
  go_ret
  exact ⟨b9 (aE7 HL.out).symm, Below.refl _ _⟩
theorem aG9 (s : b6) : EqS s := by
 refine b6.ind (P := EqS) (fun k t i v c b e ihb ihe => ?_) s
 intro φ φ' x u s' w h h'
 obtain ⟨iv, vv, bv, ev, rfl, g1, g2, g3, g4⟩ := h
 obtain ⟨iv', vv', bv', ev', rfl, g1', g2', g3', g4'⟩ := h'
 cases s' with
 | mk k' t' i' v' c' b' e' =>
 have HS : Hid (al1 ⟨k, t, i, v, c, b, e⟩ ⟨k', t', i', v', c', b', e'⟩ = (decide (k = k') && decide (t = t') && J1 i i' && J1 v v' && decide (c = c') && E8 b b' && E8 e e')) := rfl
 simp only [b6.index, b6.value, b6.body, b6.els, b6.kind, b6.target, b6.count] at g1 g2 g3 g4 g1' g2' g3' g4' ⊢
 obtain ⟨W, hW, M⟩ : ∃ W, W = (w.alloc (.cells #[.int .i64 k, .int .i64 t, .int .i64 i.kind, .int .i64 i.value, iv, .int .i64 v.kind, .int .i64 v.value, vv, .int .i64 c, bv, ev] 161)).alloc (.cells #[.int .i64 k', .int .i64 t', .int .i64 i'.kind, .int .i64 i'.value, iv', .int .i64 v'.kind, .int .i64 v'.value, vv', .int .i64 c', bv', ev'] 161) ∧ A0 (fun _ => True) (fun _ => True) w W [.box w.heap.size [.int .i64 k, .int .i64 t, .int .i64 i.kind, .int .i64 i.value, iv, .int .i64 v.kind, .int .i64 v.value, vv, .int .i64 c, bv, ev], .box (w.heap.size + 1) [.int .i64 k', .int .i64 t', .int .i64 i'.kind, .int .i64 i'.value, iv', .int .i64 v'.kind, .int .i64 v'.value, vv', .int .i64 c', bv', ev']] :=
  ⟨_, rfl, ((A0.start fun _ _ => trivial).box _ _).box' _ _ (by simp)⟩
 have HG := show Hid (∀ W', Below w.heap.size w W' → I4 W' φ (.agg #[.int .i64 i.kind, .int .i64 i.value, iv]) i ∧ I4 W' φ (.agg #[.int .i64 v.kind, .int .i64 v.value, vv]) v ∧ t3 W' φ bv b ∧ t3 W' φ ev e) from fun W' k =>
  ⟨⟨iv, rfl, s7.nice _ _ _ _ _ _ (I8.below k) g1⟩, ⟨vv, rfl, s7.nice _ _ _ _ _ _ (I8.below k) g2⟩, t3.nice _ _ _ _ _ _ (I8.below k) g3, t3.nice _ _ _ _ _ _ (I8.below k) g4⟩
 have HG' := show Hid (∀ W', Below w.heap.size w W' → I4 W' φ' (.agg #[.int .i64 i'.kind, .int .i64 i'.value, iv']) i' ∧ I4 W' φ' (.agg #[.int .i64 v'.kind, .int .i64 v'.value, vv']) v' ∧ t3 W' φ' bv' b' ∧ t3 W' φ' ev' e') from fun W' k =>
  ⟨⟨iv', rfl, s7.nice _ _ _ _ _ _ (I8.below k) g1'⟩, ⟨vv', rfl, s7.nice _ _ _ _ _ _ (I8.below k) g2'⟩, t3.nice _ _ _ _ _ _ (I8.below k) g3', t3.nice _ _ _ _ _ _ (I8.below k) g4'⟩
 clear g1 g2 g3 g4 g1' g2' g3' g4'
 have c0 := M.c 0 0 rfl rfl
 have d0 := M.c 1 0 rfl rfl
 have c1 := M.c 0 1 rfl rfl
 have d1 := M.c 1 1 rfl rfl
 have c2 := M.c 0 2 rfl rfl
 have d2 := M.c 1 2 rfl rfl
 have c3 := M.c 0 3 rfl rfl
 have d3 := M.c 1 3 rfl rfl
 have c4 := M.c 0 4 rfl rfl
 have d4 := M.c 1 4 rfl rfl
 rw [hW] at c0 d0 c1 d1 c2 d2 c3 d3 c4 d4
 have HB0 := show Hid _ from M.below fun _ _ => trivial
 have HM := show Hid _ from M
 clear M
 by_cases q0 : k = k'
 rotate_left
 ·have p0 : (k == k') = false := by simp [q0]
  have Q := show Hid _ from q0
  clear q0
  go_enter Try.func182, Try.ntmps182
  go_wp2_with fail
  go_ret
  exact ⟨b9 (by rw [HS.out, show decide (k = k') = false from decide_eq_false Q.out]; simp), by rw [← hW]; exact HB0.out⟩
 have p0 : (k == k') = true := by simp [q0]
 by_cases q1 : t = t'
 rotate_left
 ·have p1 : (t == t') = false := by simp [q1]
  have Q := show Hid _ from q1
  clear q0 q1
  go_enter Try.func182, Try.ntmps182
  go_wp2_with fail
  go_ret
  exact ⟨b9 (by rw [HS.out, show decide (t = t') = false from decide_eq_false Q.out]; simp), by rw [← hW]; exact HB0.out⟩
 have p1 : (t == t') = true := by simp [q1]
 have Q0 := show Hid _ from And.intro q0 q1
 clear q0 q1
 go_enter Try.func182, Try.ntmps182
 go_wp2_with fail
 rw [← hW]
 have M := HM.out
 clear hW HM p0 p1 c0 d0 c1 d1 c2 d2 c3 d3 c4 d4
 refine (ab9 i φ φ' _ _ i' _ (HG.out _ (M.below fun _ _ => trivial)).1 (HG'.out _ (M.below fun _ _ => trivial)).1).mono ?_
 rintro x w1 ⟨rfl, b1⟩
 replace M := M.call b1
 clear b1
 obtain ⟨r1, hq⟩ : ∃ q, q = J1 i i' := ⟨_, rfl⟩
 rw [← hq]
 have Hr1 := show Hid _ from hq
 clear hq
 have HB := show Hid _ from M.below fun _ _ => trivial
 have c5 := M.c 0 5 rfl rfl
 have d5 := M.c 1 5 rfl rfl
 have c6 := M.c 0 6 rfl rfl
 have d6 := M.c 1 6 rfl rfl
 have c7 := M.c 0 7 rfl rfl
 have d7 := M.c 1 7 rfl rfl
 have HM := show Hid _ from M
 clear M
 cases r1
 ·go_wp2_with fail
  go_ret
  exact ⟨b9 (by rw [HS.out, ← Hr1.out]; simp), HB.out⟩
 go_wp2_with fail
 have M := HM.out
 clear HM HB c5 d5 c6 d6 c7 d7
 refine (ab9 v φ φ' _ _ v' _ (HG.out _ (M.below fun _ _ => trivial)).2.1 (HG'.out _ (M.below fun _ _ => trivial)).2.1).mono ?_
 rintro x w1 ⟨rfl, b1⟩
 replace M := M.call b1
 clear b1
 obtain ⟨r2, hq⟩ : ∃ q, q = J1 v v' := ⟨_, rfl⟩
 rw [← hq]
 have Hr2 := show Hid _ from hq
 clear hq
 have HB := show Hid _ from M.below fun _ _ => trivial
 have c8 := M.c 0 8 rfl rfl
 have d8 := M.c 1 8 rfl rfl
 have c9 := M.c 0 9 rfl rfl
 have d9 := M.c 1 9 rfl rfl
 have HM := show Hid _ from M
 clear M
 cases r2
 ·go_wp2_with fail
  go_ret
  exact ⟨b9 (by rw [HS.out, ← Hr2.out]; simp), HB.out⟩
 by_cases q4 : c = c'
 rotate_left
 ·have p4 : (c == c') = false := by simp [q4]
  have Q := show Hid _ from q4
  clear q4
  go_wp2_with fail
  go_ret
  exact ⟨b9 (by rw [HS.out, show decide (c = c') = false from decide_eq_false Q.out]; simp), HB.out⟩
 have p4 : (c == c') = true := by simp [q4]
 have Q4 := show Hid _ from q4
 clear q4
 go_wp2_with fail
 have M := HM.out
 clear HM HB p4 c8 d8 c9 d9
 refine (ab8 b ihb φ φ' bv bv' b' _ (HG.out _ (M.below fun _ _ => trivial)).2.2.1 (HG'.out _ (M.below fun _ _ => trivial)).2.2.1).mono ?_
 rintro x w1 ⟨rfl, b1⟩
 replace M := M.call b1
 clear b1
 obtain ⟨r3, hq⟩ : ∃ q, q = E8 b b' := ⟨_, rfl⟩
 rw [← hq]
 have Hr3 := show Hid _ from hq
 clear hq
 have HB := show Hid _ from M.below fun _ _ => trivial
 have c10 := M.c 0 10 rfl rfl
 have d10 := M.c 1 10 rfl rfl
 have HM := show Hid _ from M
 clear M
 cases r3
 ·go_wp2_with fail
  go_ret
  exact ⟨b9 (by rw [HS.out, ← Hr3.out]; simp), HB.out⟩
 go_wp2_with fail
 have M := HM.out
 clear HM HB c10 d10
 refine (ab8 e ihe φ φ' ev ev' e' _ (HG.out _ (M.below fun _ _ => trivial)).2.2.2 (HG'.out _ (M.below fun _ _ => trivial)).2.2.2).mono ?_
 rintro x w1 ⟨rfl, b1⟩
 replace M := M.call b1
 clear b1
 obtain ⟨r4, hq⟩ : ∃ q, q = E8 e e' := ⟨_, rfl⟩
 rw [← hq]
 have Hr4 := show Hid _ from hq
 clear hq
 have HB := show Hid _ from M.below fun _ _ => trivial
 have HM := show Hid _ from M
 clear M
 cases r4
 ·go_wp2_with fail
  go_ret
  exact ⟨b9 (by rw [HS.out, ← Hr4.out]; simp), HB.out⟩
 go_wp2_with fail
 go_ret
 exact ⟨b9 (by rw [HS.out, ← Hr1.out, ← Hr2.out, ← Hr3.out, ← Hr4.out, decide_eq_true Q0.out.1, decide_eq_true Q0.out.2, decide_eq_true Q4.out]; rfl), HB.out⟩
theorem ap6 (φ φ' : Nat → Prop) (x u : Value) (p q : l9) (w : World) (h : ae8 w φ x p) (h' : ae8 w φ' u q) :
  Calls Try.prog 45 #[x, u] w fun e w' => e = .returned (.bool (p.same q)) ∧ Below w.heap.size w w' := by
 obtain ⟨v1, v2, v3, rfl, h1, h2, h3⟩ := h
 obtain ⟨u1, u2, u3, rfl, k1, k2, k3⟩ := h'
 have HS : Hid (p.same q = (decide (p.vars = q.vars) && decide (p.arrays = q.arrays) && E8 p.body q.body)) := rfl
 obtain ⟨W, hW, M⟩ : ∃ W, W = (w.alloc (.cells #[v1, v2, v3] 26)).alloc (.cells #[u1, u2, u3] 26) ∧ A0 (fun _ => True) (fun _ => True) w W [.box w.heap.size [v1, v2, v3], .box (w.heap.size + 1) [u1, u2, u3]] :=
  ⟨_, rfl, ((A0.start fun _ _ => trivial).box _ _).box' _ _ (by simp)⟩
 have HG := show Hid (∀ W', Below w.heap.size w W' → (K5 W' v1 p.vars.length 1 (ints p.vars) ∧ K5 W' v2 p.arrays.length 1 (ints p.arrays) ∧ t3 W' φ v3 p.body) ∧ (K5 W' u1 q.vars.length 1 (ints q.vars) ∧ K5 W' u2 q.arrays.length 1 (ints q.arrays) ∧ t3 W' φ' u3 q.body)) from fun W' k =>
  ⟨⟨h1.row.below k, h2.row.below k, t3.nice _ _ _ _ _ _ (I8.below k) h3⟩, k1.row.below k, k2.row.below k, t3.nice _ _ _ _ _ _ (I8.below k) k3⟩
 clear h1 h2 h3 k1 k2 k3
 have c0 := M.c 0 0 rfl rfl
 have d0 := M.c 1 0 rfl rfl
 rw [hW] at c0 d0
 have HM := show Hid _ from M
 clear M
 go_enter Try.func45, Try.ntmps45
 go_wp2_with fail
 rw [← hW]
 have M := HM.out
 clear hW HM c0 d0
 refine (an3 _ _ p.vars q.vars _ (HG.out _ (M.below fun _ _ => trivial)).1.1 (HG.out _ (M.below fun _ _ => trivial)).2.1).mono ?_
 rintro x w1 ⟨rfl, n1, rfl⟩
 replace M := M.call (below_drewN (Below.refl _ _) n1)
 obtain ⟨r1, hq⟩ : ∃ r, r = decide (p.vars = q.vars) := ⟨_, rfl⟩
 rw [← hq]
 have Hr1 := show Hid _ from hq
 clear hq
 have HB := show Hid _ from M.below fun _ _ => trivial
 have c1 := M.c 0 1 rfl rfl
 have d1 := M.c 1 1 rfl rfl
 have HM := show Hid _ from M
 clear M
 cases r1
 ·go_wp2_with fail
  go_ret
  exact ⟨b9 (by rw [HS.out, ← Hr1.out]; simp), HB.out⟩
 go_wp2_with fail
 have M := HM.out
 clear HM HB c1 d1
 refine (an3 _ _ p.arrays q.arrays _ (HG.out _ (M.below fun _ _ => trivial)).1.2.1 (HG.out _ (M.below fun _ _ => trivial)).2.2.1).mono ?_
 rintro x w1 ⟨rfl, n2, rfl⟩
 replace M := M.call (below_drewN (Below.refl _ _) n2)
 rw [World.drewN_drewN] at M
 obtain ⟨r2, hq⟩ : ∃ r, r = decide (p.arrays = q.arrays) := ⟨_, rfl⟩
 rw [← hq]
 have Hr2 := show Hid _ from hq
 clear hq
 have HB := show Hid _ from M.below fun _ _ => trivial
 have c2 := M.c 0 2 rfl rfl
 have d2 := M.c 1 2 rfl rfl
 have HM := show Hid _ from M
 clear M
 cases r2
 ·go_wp2_with fail
  go_ret
  exact ⟨b9 (by rw [HS.out, ← Hr2.out]; simp), HB.out⟩
 go_wp2_with fail
 have M := HM.out
 clear HM HB c2 d2
 refine (ab8 p.body (fun s _ => aG9 s) φ φ' v3 u3 q.body _ (HG.out _ (M.below fun _ _ => trivial)).1.2.2 (HG.out _ (M.below fun _ _ => trivial)).2.2.2).mono ?_
 rintro x w1 ⟨rfl, b1⟩
 replace M := M.call b1
 clear b1
 obtain ⟨r3, hq⟩ : ∃ r, r = E8 p.body q.body := ⟨_, rfl⟩
 rw [← hq]
 have Hr3 := show Hid _ from hq
 clear hq
 have HB := show Hid _ from M.below fun _ _ => trivial
 clear M
 cases r3
 ·go_wp2_with fail
  go_ret
  exact ⟨b9 (by rw [HS.out, ← Hr3.out]; simp), HB.out⟩
 go_wp2_with fail
 go_ret
 exact ⟨b9 (by rw [HS.out, ← Hr1.out, ← Hr2.out, ← Hr3.out]; rfl), HB.out⟩
theorem ad4 (v : Value) (xs : List Int) (K : Nat) (w : World) (h : w.ownsRow 0 3 1 v xs.length (ints xs)) (hK : K + xs.length ≤ 9000000000000000000) :
  Calls Try.prog 122 #[v, .int .i64 K] w fun e w' => e = .returned (.int .i64 (K + xs.length : Nat)) ∧ w'.ownsRow 0 3 1 v xs.length (ints (H6 K xs.length)) ∧ v9 (fun b => ¬ v.ownBlock = some b) w w' := by
 obtain ⟨lo, hi, _, _, ho, hb⟩ := (I5.mk' h).tight
 refine (au6 v xs K lo hi w ho hK).mono ?_
 rintro e w1 ⟨rfl, h1, h2⟩
 refine ⟨rfl, D2 h1.1 (bg3 _), h2.os, h2.tape, h2.output, h2.size, fun b hb1 hb2 => h2.block b hb1 ?_⟩
 rcases bh7 b lo with h3 | h3
 ·exact .inl h3
 ·rcases bh7 b hi with h4 | h4
  ·exact absurd (hb b h3 h4) hb2
  ·exact .inr h4
theorem A0.turnRow {φ ψ : Nat → Prop} {w0 w w' : World} {L : List N2} (M : A0 φ ψ w0 w L) (i : Nat) {e : TypeId} {sz : Nat} {v : Value} {n : Nat} {xs xs' : List Value} (hi : L[i]? = some (.row e sz v n xs)) (hk : v9 (fun b => ¬ v.ownBlock = some b) w w') (h : w'.ownsRow 0 e sz v n xs') : A0 φ ψ w0 w' (L.set i (.row e sz v n xs')) :=
 M.put hi _ hk h fun _ hg => .inl hg
def mkP (p : l9) (k : Nat) : l9 := ⟨H6 k p.vars.length, H6 (k + p.vars.length) p.arrays.length, X2 p.body ((k + p.vars.length + p.arrays.length : Nat) : Int)⟩
def X3 (p : l9) : Int := p.vars.length + p.arrays.length + X4 p.body
theorem ai6 (v : Value) (p : l9) (k : Nat) (w : World) (S : Nat → Prop) (h : W0 w v p S) (hb : k + X3 p ≤ 9000000000000000000) :
  Calls Try.prog 46 #[v, .int .i64 k] w fun x w' => x = .returned (.int .i64 (k + X3 p)) ∧ W0 w' v (mkP p k) S ∧ v9 (fun b => ¬ S b) w w' := by
 obtain ⟨v1, v2, v3, S3, rfl, h1, h2, h3, d1, d2, d3⟩ := h
 have hnn := (F8 p.body).1
 have hbb : (k : Int) + p.vars.length + p.arrays.length + X4 p.body ≤ 9000000000000000000 := by unfold X3 at hb; omega
 obtain ⟨W, hW, M⟩ : ∃ W, W = w.alloc (.cells #[v1, v2, v3] 26) ∧ A0 (fun _ => True) (fun b => ¬ S b) w W [.box w.heap.size [v1, v2, v3], .row 3 1 v1 p.vars.length (ints p.vars), .row 3 1 v2 p.arrays.length (ints p.arrays), .own (fun b => S3 b ∧ b < w.heap.size) (fun w' => t5 w' v3 p.body (fun b => S3 b ∧ b < w.heap.size))] := by
  refine ⟨_, rfl, (((((A0.start fun _ _ => trivial).box [v1, v2, v3] 26).adopt (.row 3 1 v1 p.vars.length (ints p.vars)) ?_ bf4 (C4 h1 fun g hg => ?_) ?_ ?_).adopt (.row 3 1 v2 p.arrays.length (ints p.arrays)) ?_ bf4 (C4 h2 fun g hg => ?_) ?_ ?_).adopt (.own (fun b => S3 b ∧ b < w.heap.size) (fun w' => t5 w' v3 p.body (fun b => S3 b ∧ b < w.heap.size))) ?_ bf4 ⟨fun _ _ h hs => t5.same h hs, h3.cut.same fun b hb hl => ?_, fun b hb => ?_⟩ ?_ ?_)⟩
  ·intro a ha; simp at ha; subst ha; trivial
  ·exact (Below.refl _ _ |>.alloc (bf5 _) _).block g (World.ownsRow.lt h1 g hg).2
  ·intro a ha g hg h; simp at ha; subst ha; cases h; have := (World.ownsRow.lt h1 _ hg).2; omega
  ·intro g hg hn; exact hn (d1 g hg).1
  ·intro a ha; simp at ha; rcases ha with rfl | rfl <;> trivial
  ·exact (Below.refl _ _ |>.alloc (bf5 _) _).block g (World.ownsRow.lt h2 g hg).2
  ·intro a ha g hg h; simp at ha; rcases ha with rfl | rfl
   ·cases h; have := (World.ownsRow.lt h2 _ hg).2; omega
   ·exact (d1 g h).2.2 hg
  ·intro g hg hn; exact hn (d2 g hg).1
  ·intro a ha; simp at ha; rcases ha with rfl | rfl | rfl <;> trivial
  ·exact (Below.refl _ _ |>.alloc (bf5 _) _).block b hb.2
  ·simp; have := hb.2; omega
  ·intro a ha g hg h; simp at ha; rcases ha with rfl | rfl | rfl
   ·cases h; have := hg.2; omega
   ·exact (d1 g h).2.1 hg.1
   ·exact (d2 g h).2 hg.1
  ·intro g hg hn; exact hn (d3 g hg.1)
 have HD := show Hid _ from And.intro d1 (And.intro d2 d3)
 clear h1 h2 h3 d1 d2 d3
 have c0 := M.c 0 0 rfl rfl
 rw [hW] at c0
 go_enter Try.func46, Try.ntmps46
 go_wp2_with fail
 rw [← hW]
 clear hW c0
 refine (ad4 v1 p.vars k _ (M.r 1 rfl) (by omega)).mono ?_
 rintro x w1 ⟨rfl, k1, kp1⟩
 replace M := M.turnRow 1 rfl kp1 k1
 clear k1 kp1
 have c1 := M.c 0 1 rfl rfl
 have HM := show Hid _ from M
 clear M
 go_wp2_with fail
 have M := HM.out
 clear HM c1
 refine (ad4 v2 p.arrays (k + p.vars.length) _ (M.r 2 rfl) (by omega)).mono ?_
 rintro x w2 ⟨rfl, k1, kp1⟩
 replace M := M.turnRow 2 rfl kp1 k1
 clear k1 kp1
 have c2 := M.c 0 2 rfl rfl
 have HM := show Hid _ from M
 clear M
 go_wp2_with fail
 have M := HM.out
 clear HM c2
 refine (ap0 p.body v3 ((k + p.vars.length + p.arrays.length : Nat) : Int) _ _ (M.o 3 rfl) (by omega) (by omega)).mono ?_
 rintro x w3 ⟨rfl, k1, kp1⟩
 replace M := M.turn 3 rfl kp1 (fun _ _ h hs => t5.same h hs) k1
 clear k1 kp1
 have HM := show Hid _ from M
 clear M
 go_wp2_with fail
 go_ret
 have M := HM.out
 obtain ⟨d1, d2, d3⟩ := HD.out
 refine ⟨s6 (by unfold X3; omega), ⟨v1, v2, v3, S3, rfl, ?_, ?_, (show t5 _ v3 (X2 p.body _) _ from M.o 3 rfl).mono fun _ h => h.1, d1, d2, d3⟩, M.kept⟩
 ·rw [show (mkP p k).vars = H6 k p.vars.length from rfl, al9]; exact M.r 1 rfl
 ·rw [show (mkP p k).arrays = H6 (k + p.vars.length) p.arrays.length from rfl, al9]; exact M.r 2 rfl
end Go.Proofs.Ytgmhmijcnlfmfaa
