/- Part 7: functions on the way, plain laws. Conditions: as said. -/
import Derived.Deep.RegionWith
import Derived.Laws.StructEq
import Derived.Test.YtmokkddidcmglaaGreatK1
import Derived.Test.YtmokkddidcmglaaGreatK2
import Derived.Test.YtmokkddidcmglaaGreatK3
import Derived.Test.YtmokkddidcmglaaGreatK4
import Derived.Test.YtmokkddidcmglaaGreatK5
import Derived.Test.YtmokkddidcmglaaGreatK6
set_option maxRecDepth 100000
set_option maxHeartbeats 16000000
set_option linter.unusedVariables false
set_option linter.unusedSimpArgs false
open Bool renaming and_eq_true → cb0, not_eq_true' → cf0
open Inhabited renaming default → ca9
open Int renaming toNat_natCast → ce4
open List renaming all_eq_true → cb9, append_assoc → cf7, getD_eq_getElem?_getD → cb3, getElem?_eq_getElem → ca8, getElem?_eq_some_iff → cb6, getElem_mem → cd1, length_append → cb2, length_cons → cb8, length_set → cd2, mem_append → cc4, mem_of_getElem? → cc3, mem_range → ce9, mem_singleton → cd4, nil_append → cf8, replicate → ca7, take → cc0, take_of_length_le → cc6
open Nat renaming add_zero → cf3, le_refl → cb1, le_trans → cd3, zero_le → cc7
open True renaming intro → cc2

namespace Go.Proofs.YtmokkddidcmglaaGreat
open Go Go.RowKit
def A6 (b : List UInt8) (bit : Int) (ls : List Int) (j : Int) (xs : List Int) : Nat → List Int × Int
 | 0 => (xs, j)
 | k + 1 => if zB bit (ls.getD k 0) = true then ((A6 b bit ls j xs k).1.set k (nm b (A6 b bit ls j xs k).2 vaL), (A6 b bit ls j xs k).2 + 1) else A6 b bit ls j xs k
theorem aJ5 (b : List UInt8) (bit : Int) (ls : List Int) (j : Int) (xs : List Int) : ∀ k : Nat, (A6 b bit ls j xs k).1.length = xs.length ∧ j ≤ (A6 b bit ls j xs k).2 ∧ (A6 b bit ls j xs k).2 ≤ j + k
 | 0 => ⟨rfl, Int.le_refl _, by simp [A6]⟩
 | k + 1 => by
  have h := aJ5 b bit ls j xs k
  rw [A6]
  split
  ·refine ⟨by simp [h.1], ?_, ?_⟩ <;> dsimp only <;> omega
  ·omega
theorem bL5 {b : List UInt8} {bit : Int} {ls : List Int} {j : Int} {xs : List Int} {k : Nat} (h : zB bit (ls.getD k 0) = true) : A6 b bit ls j xs (k + 1) = ((A6 b bit ls j xs k).1.set k (nm b (A6 b bit ls j xs k).2 vaL), (A6 b bit ls j xs k).2 + 1) := by rw [A6, if_pos h]
theorem bL6 {b : List UInt8} {bit : Int} {ls : List Int} {j : Int} {xs : List Int} {k : Nat} (h : zB bit (ls.getD k 0) = false) : A6 b bit ls j xs (k + 1) = A6 b bit ls j xs k := by rw [A6, if_neg (by rw [h]; decide)]
theorem aO0 (b : List UInt8) (bit : Int) (ls : List Int) {j : Int} (xs : List Int) (hx : F9 xs = true) (r0 : 0 ≤ j) : ∀ k : Nat, j + k ≤ 1000000000 → F9 (A6 b bit ls j xs k).1 = true
 | 0, _ => hx
 | k + 1, r1 => by
  have ih := aO0 b bit ls xs hx r0 k (by omega)
  have hb := aJ5 b bit ls j xs k
  rw [A6]
  split
  ·unfold F9 at ih ⊢
   rw [cb9] at ih ⊢
   intro x hx
   rcases List.mem_or_eq_of_mem_set hx with h | h
   ·exact ih x h
   ·subst h; exact va_in b (by omega) (by omega)
  ·exact ih
where
 va_in (b : List UInt8) {j : Int} (r0 : 0 ≤ j) (r1 : j ≤ 1000000000) : (decide (0 ≤ nm b j vaL) && decide (nm b j vaL ≤ 255)) = true := by
  have h := al3 b r0 r1 (l := vaL) (List.cons_ne_nil _ _)
  have key : ∀ x ∈ vaL, (decide (0 ≤ x) && decide (x ≤ 255)) = true := by decide
  exact key _ h
theorem bN5 (b : List UInt8) {j : Int} (r0 : 0 ≤ j) (r1 : j ≤ 1000000000) : (decide (0 ≤ nm b j vaL) && decide (nm b j vaL ≤ 255)) = true := aO0.va_in b r0 r1
theorem a50 (b : List UInt8) {j : Int} (r0 : 0 ≤ j) (n : Nat) (r1 : j + n ≤ 1000000000) : F9 (vlD b j n) = true := by
 unfold F9
 rw [cb9]
 intro x hx
 unfold vlD at hx
 obtain ⟨i, hi, rfl⟩ := List.mem_map.1 hx
 have hi := ce9.1 hi
 exact bN5 b (by omega) (by omega)
def scA (b : List UInt8) (bit : Int) (ls : List Int) (j : Int) (rs : List (List Int)) : Nat → List (List Int) × Int
 | 0 => (rs, j)
 | i + 1 => if zB bit (ls.getD i 0) = true then ((scA b bit ls j rs i).1.set i (vlD b (scA b bit ls j rs i).2 4), (scA b bit ls j rs i).2 + 4) else scA b bit ls j rs i
theorem aA4 (b : List UInt8) (bit : Int) (ls : List Int) (j : Int) (rs : List (List Int)) : ∀ k : Nat, (scA b bit ls j rs k).1.length = rs.length ∧ j ≤ (scA b bit ls j rs k).2 ∧ (scA b bit ls j rs k).2 ≤ j + 4 * k
 | 0 => ⟨rfl, Int.le_refl _, by simp [scA]⟩
 | k + 1 => by
  have h := aA4 b bit ls j rs k
  rw [scA]
  split
  ·refine ⟨by simp [h.1], ?_, ?_⟩ <;> dsimp only <;> omega
  ·omega
theorem a62 (b : List UInt8) (bit : Int) (ls : List Int) (j : Int) (rs : List (List Int)) (i : Nat) : ∀ k : Nat, k ≤ i ∨ zB bit (ls.getD i 0) = false → (scA b bit ls j rs k).1.getD i [] = rs.getD i []
 | 0, _ => rfl
 | k + 1, h => by
  have ih := a62 b bit ls j rs i k (h.elim (fun h => .inl (by omega)) .inr)
  rw [scA]
  split
  ·rename_i hk
   have : k ≠ i := fun e => by
    rcases h with h | h
    ·omega
    ·rw [e, h] at hk; cases hk
   dsimp only
   rw [cb3, List.getElem?_set_ne this, ← cb3]; exact ih
  ·exact ih
theorem bf3 (b : List UInt8) (bit : Int) (ls : List Int) {j : Int} (rs : List (List Int)) (hx : rs.all S9 = true) (r0 : 0 ≤ j) : ∀ k : Nat, j + 4 * k ≤ 1000000000 → (scA b bit ls j rs k).1.all S9 = true
 | 0, _ => hx
 | k + 1, r1 => by
  have ih := bf3 b bit ls rs hx r0 k (by omega)
  have hb := aA4 b bit ls j rs k
  rw [scA]
  split
  ·rw [cb9] at ih ⊢
   intro x hx
   rcases List.mem_or_eq_of_mem_set hx with h | h
   ·exact ih x h
   ·subst h
    unfold S9
    rw [ak4, a50 b (by omega) 4 (by omega)]; rfl
  ·exact ih
def J6 (b : List UInt8) (bit : Int) (ls : List Int) (j : Int) (rs : List (List Int)) (i k : Nat) : List (List Int) × Int :=
 if zB bit (ls.getD i 0) = true then ((scA b bit ls j rs i).1.set i (vlD b (scA b bit ls j rs i).2 k ++ (rs.getD i []).drop k), (scA b bit ls j rs i).2 + k) else scA b bit ls j rs i
section
variable {b : List UInt8} {bit : Int} {ls : List Int} {j : Int} {rs : List (List Int)} {i k : Nat}
theorem bV8 : (J6 b bit ls j rs i k).1.length = rs.length ∧ j ≤ (J6 b bit ls j rs i k).2 ∧ (J6 b bit ls j rs i k).2 ≤ j + 4 * i + k := by
 have h := aA4 b bit ls j rs i
 unfold J6
 split
 ·refine ⟨by simp [h.1], ?_, ?_⟩ <;> dsimp only <;> omega
 ·omega
theorem bL9 (hi : i < rs.length) : J6 b bit ls j rs i 0 = scA b bit ls j rs i := by
 have h := aA4 b bit ls j rs i
 have h2 := a62 b bit ls j rs i i (.inl (cb1 _))
 unfold J6
 split
 ·rw [b46, cf8, List.drop_zero, ← h2, o8 (by omega)]
  rw [List.set_getElem_self]; simp
 ·rfl
theorem bs6 (hi : i < rs.length) : (J6 b bit ls j rs i k).1.getD i [] = if zB bit (ls.getD i 0) = true then vlD b (scA b bit ls j rs i).2 k ++ (rs.getD i []).drop k else rs.getD i [] := by
 have h := aA4 b bit ls j rs i
 unfold J6
 split
 ·dsimp only
  rw [cb3, List.getElem?_set_self (by omega)]; rfl
 ·exact a62 b bit ls j rs i i (.inl (cb1 _))
theorem bE8 (hi : i < rs.length) (hr : (rs.getD i []).length = 4) (hk : k ≤ 4) : ((J6 b bit ls j rs i k).1.getD i []).length = 4 := by
 rw [bs6 hi]; split
 ·simp only [cb2, ak4, List.length_drop]; omega
 ·exact hr
theorem bL7 (hi : i < rs.length) (hr : (rs.getD i []).length = 4) (hk : k < 4) (h : zB bit (ls.getD i 0) = true) : J6 b bit ls j rs i (k + 1) = ((J6 b bit ls j rs i k).1.set i (((J6 b bit ls j rs i k).1.getD i []).set k (nm b (J6 b bit ls j rs i k).2 vaL)), (J6 b bit ls j rs i k).2 + 1) := by
 rw [bs6 hi, if_pos h]
 unfold J6
 rw [if_pos h, if_pos h]
 dsimp only
 rw [List.set_set, mk_set' (ak4 _ _ _) (by omega), aM8]
 exact Prod.ext rfl (by dsimp only; omega)
where
 mk_set' {l m : List Int} {j : Nat} {y : Int} (hl : l.length = j) (hj : j < m.length) : (l ++ m.drop j).set j y = (l ++ [y]) ++ m.drop (j + 1) := by
  rw [List.set_append_right _ _ (by omega), hl, Nat.sub_self, List.drop_eq_getElem_cons hj, List.set_cons_zero, cf7]
  rfl
theorem bL8 (h : zB bit (ls.getD i 0) = false) : J6 b bit ls j rs i (k + 1) = J6 b bit ls j rs i k := by
 unfold J6; rw [if_neg (by rw [h]; decide), if_neg (by rw [h]; decide)]
theorem bf2 (hi : i < rs.length) (hr : (rs.getD i []).length = 4) : J6 b bit ls j rs i 4 = scA b bit ls j rs (i + 1) := by
 unfold J6
 rw [scA]
 split
 ·rw [List.drop_eq_nil_of_le (by omega), List.append_nil]; rfl
 ·rfl
end
def scM (b : List UInt8) (bit : Int) (p : j8) (m : t9) (j : Int) : t9 × Int :=
 (⟨(A6 b bit p.vars j m.vals m.vals.length).1, (scA b bit p.arrays (A6 b bit p.vars j m.vals m.vals.length).2 m.arrs m.arrs.length).1⟩, (scA b bit p.arrays (A6 b bit p.vars j m.vals m.vals.length).2 m.arrs m.arrs.length).2)
theorem bH5 (v1 v2 : Value) (xs : List Int) (rs : List (List Int)) (w : World) (h1 : D3 w v1 xs.length 1 (ints xs)) (h2 : aa1 w v2 rs) (hx : xs.length ≤ 1048576) (hr : rs.length ≤ 1048576) (hi : ∀ r ∈ rs, r.length ≤ 1048576) :
  Calls Tryz.prog 98 #[.agg #[v1, v2]] w fun e w' => ∃ u1 u2 mid, w.heap.size ≤ mid ∧ e = .returned (.agg #[u1, u2]) ∧ y7 w' w.heap.size mid 3 1 u1 xs.length (ints xs) ∧ K8 w' mid w'.heap.size u2 rs ∧ Below w.heap.size w w' := by
 obtain ⟨vs, hv, hrows⟩ := h2
 have hvl : vs.length = rs.length := by have := hv.1; omega
 have hone : ∀ u ∈ vs, u.oneCell' = true := by
  intro u hu
  obtain ⟨i, hi, rfl⟩ := List.mem_iff_getElem.1 hu
  obtain ⟨a', c', e⟩ := (hrows i _ _ (ca8 hi) (ca8 (by omega))).form
  rw [e]; rfl
 obtain ⟨n, hn⟩ : ∃ n, n = w.heap.size := ⟨_, rfl⟩
 obtain ⟨W, hW⟩ : ∃ W, W = (w.alloc (.cells #[v1, v2] 29)).alloc (.cells #[.slice none 0 0, .slice none 0 0] 29) := ⟨_, rfl⟩
 have B0 : Below n w W := by rw [hW, hn]; go_grown
 have sW : W.heap.size = n + 1 + 1 := by rw [hW, hn]; simp
 have L1 : v9 W n [v1, v2] := by rw [hW, hn]; exact (v9.new w [v1, v2] _).alloc _
 have L2 : v9 W (n + 1) [.slice none 0 0, .slice none 0 0] := by rw [hW, hn]; exact v9.new' (w.alloc _) [.slice none 0 0, .slice none 0 0] _ (by simp)
 have HR1 := show Hid (∀ W', Below n w W' → D3 W' v1 xs.length 1 (ints xs)) from fun W' g => h1.below (by rw [← hn]; exact g)
 have HR2 := show Hid (∀ W', Below n w W' → D3 W' v2 rs.length 1 vs) from fun W' g => hv.below (by rw [← hn]; exact g)
 have HR3 := show Hid (∀ W', Below n w W' → ∀ (i : Nat) (u : Value) (r : List Int), vs[i]? = some u → rs[i]? = some r → D3 W' u r.length 1 (ints r)) from fun W' g i u r a b => (hrows i u r a b).below (by rw [← hn]; exact g)
 have HA := show Hid (∀ W', Below (n + 1 + 1) W W' → Below n w W') from fun W' g => B0.trans (g.mono (by omega))
 have HT := show Hid (∀ W', Below (n + 1 + 1) W W' → W'.cell? ⟨n, 0, none⟩ = some v1 ∧ W'.cell? ⟨n, 1, none⟩ = some v2 ∧ W'.frozen? ⟨n, 0, none⟩ = false ∧ W'.frozen? ⟨n, 1, none⟩ = false) from by
  intro W' hb
  have L' := L1.below hb (by omega)
  exact ⟨by simpa using L'.cell 0, by simpa using L'.cell 1, L'.free 0, L'.free 1⟩
 have HQ := show Hid (∀ W' W'', Below (n + 1 + 1) W W' → Below W'.heap.size W' W'' → Below (n + 1 + 1) W W'') from fun W' W'' g k => g.trans (k.mono (by have := g.size; omega))
 have hb0 : Below (n + 1 + 1) W W.drew := (Below.refl _ W).drew
 obtain ⟨c0, c1, f0, f1⟩ := HT.out _ hb0
 have HN := show Hid (n = w.heap.size) from hn
 have HB0 := show Hid _ from B0
 have HL2 := show Hid _ from L2
 have HL1 := show Hid _ from L1
 have HO := show Hid _ from hone
 have HVL := show Hid _ from hvl
 clear h1 hv hrows B0 L1 L2 hone hvl
 go_enter Tryz.func98, Tryz.ntmps98
 go_wp2_with fail
 rw [← HN.out]
 rw [← hW]
 clear hn hW
 go_region_with (first
  | (go_at_call 71; refine (aE5 v1 xs _ (HR1.out _ (HA.out _ hb0)) (by omega)).mono ?_; rintro e w7 ⟨u1, rfl, o1, b7⟩; obtain ⟨x1, k1, rfl⟩ := o1.form; have q7 := HQ.out _ _ hb0 b7; obtain ⟨c2, c3, f2, f3⟩ := HT.out _ q7)
  | (go_at_call 108; refine (ba5 v2 rs.length vs _ (HR2.out _ (HA.out _ q7)) HO.out (by omega)).mono ?_; rintro e w8 ⟨u2, rfl, o2, b8⟩; obtain ⟨x2, k2, rfl⟩ := o2.form; have q8 := HQ.out _ _ q7 b8; obtain ⟨c4, c5, f4, f5⟩ := HT.out _ q8))
 all_goals
  have s7 := b7.size
  have s8 := b8.size
  have sd : W.drew.heap.size = n + 1 + 1 := sW
  have LX := ((v9.below HL1.out q8 (by omega)).set (j := 0) (.slice x1 xs.length k1)).set (j := 1) (.slice x2 rs.length k2)
  have MX := ((v9.below HL2.out q8 (by omega)).other (p := ⟨n, 0, none⟩) (by show n + 1 ≠ n; omega) (.slice x1 xs.length k1)).other (p := ⟨n, 1, none⟩) (by show n + 1 ≠ n; omega) (.slice x2 rs.length k2)
  have OX := ((o1.keep b8 (cb1 _)).other (b := n) (by omega) 0 (.slice x1 xs.length k1)).other (b := n) (by omega) 1 (.slice x2 rs.length k2)
  have PX := (o2.other (b := n) (by omega) 0 (.slice x1 xs.length k1)).other (b := n) (by omega) 1 (.slice x2 rs.length k2)
  have BX := ((HB0.out.trans (q8.mono (by omega))).setCell (p := ⟨n, 0, none⟩) (cb1 _) (.slice x1 xs.length k1)).setCell (p := ⟨n, 1, none⟩) (cb1 _) (.slice x2 rs.length k2)
  have SX : ((w8.setCell ⟨n, 0, none⟩ (.slice x1 xs.length k1)).setCell ⟨n, 1, none⟩ (.slice x2 rs.length k2)).heap.size = w8.heap.size := by simp
  generalize (w8.setCell ⟨n, 0, none⟩ (.slice x1 xs.length k1)).setCell ⟨n, 1, none⟩ (.slice x2 rs.length k2) = wX at *
  clear c0 c1 c2 c3 c4 c5 f0 f1 f2 f3 f4 f5 hb0 q7 q8 HQ HT HA HL1 HL2 HB0 b7 b8 o1 o2
  have r0 := LX.cell 0
  have r1 := LX.cell 1
  simp at r0 r1
  obtain ⟨A, hA⟩ : ∃ A, A = w7.heap.size := ⟨_, rfl⟩
  obtain ⟨B, hB⟩ : ∃ B, B = w8.heap.size := ⟨_, rfl⟩
  rw [← hA] at OX PX s7 s8
  rw [← hB] at PX s8 SX
  rw [sd] at OX s7
  have HLX := show Hid _ from LX
  have HMX := show Hid _ from MX
  clear hA hB LX MX sd sW
  go_wp2_with fail
  clear r0 r1
  go_loopw [3, 4, 16] (fun _ _ i wr => ∃ (k : Nat) (cs : List Value), k ≤ rs.length ∧ i = .int .i64 k ∧ y7 wr A B 23 1 (.slice x2 rs.length k2) rs.length cs ∧ (∀ (i : Nat) (u : Value) (r : List Int), i < k → cs[i]? = some u → rs[i]? = some r → y7 wr B wr.heap.size 3 1 u r.length (ints r)) ∧
    (∀ (i j : Nat) (u u' : Value), i < j → j < k → cs[i]? = some u → cs[j]? = some u' → N9 u u') ∧ (∀ i, k ≤ i → cs[i]? = vs[i]?) ∧ y7 wr (n + 1 + 1) A 3 1 (.slice x1 xs.length k1) xs.length (ints xs) ∧ v9 wr n [.slice x1 xs.length k1, .slice x2 rs.length k2] ∧ v9 wr (n + 1) [.slice none 0 0, .slice none 0 0] ∧ Below n w wr ∧ B ≤ wr.heap.size) (fun _ _ i _ => rs.length - (intOf i).toNat)
  case atStart => exact ⟨0, vs, cc7 _, rfl, PX, fun i u r h => by omega, fun i j u u' _ h => by omega, fun i _ => rfl, OX, HLX.out, HMX.out, BX, Nat.le_of_eq SX.symm⟩
  case round =>
   obtain ⟨k, cs, hk, rfl, ho, hrow, hdis, hrest, hvals, hL, hM, hb, hsz⟩ := hrel
   have HROW := show Hid _ from hrow
   have HDIS := show Hid _ from hdis
   have HREST := show Hid _ from hrest
   have HLL := show Hid _ from hL
   have HMM := show Hid _ from hM
   have hcl : cs.length = rs.length := by have := ho.1.1; omega
   clear hrow hdis hrest OX PX BX SX HLX HMX
   have r1 := hL.cell 1
   simp at r1
   by_cases hlt : k < rs.length
   ·obtain ⟨g, cap, hv, hg1, hg2, hg3, -, -, hfz, hcc⟩ := ho.open (by omega)
    cases hv
    have hkc : k < cs.length := by omega
    obtain ⟨u0, hu0⟩ : ∃ u0, u0 = cs[k] := ⟨_, rfl⟩
    have hcu : cs[k]? = some u0 := by rw [hu0]; exact ca8 hkc
    have hvu : vs[k]? = some u0 := by rw [← HREST.out k (cb1 _)]; exact hcu
    have hrk : rs[k]? = some rs[k] := ca8 hlt
    have hrow := HR3.out wr hb k u0 rs[k] hvu hrk
    obtain ⟨au, cu, rfl⟩ := hrow.form
    have hx := hcc k _ hcu
    have f0 := hfz k
    have hlen := hi rs[k] (cd1 hlt)
    have HCU := show Hid _ from hcu
    have HHR := show Hid _ from hrow
    have HHO := show Hid _ from ho
    have HVA := show Hid _ from hvals
    have HB := show Hid _ from hb
    have HRK := show Hid _ from hrk
    have hm1 : rs.length ≤ 9223372036854775807 := by omega
    have HRR := show Hid (D3 wr.drew (.slice au rs[k].length cu) rs[k].length 1 (ints rs[k])) from HR3.out wr.drew hb.drew k _ rs[k] hvu hrk
    have h0g : n + 1 < g := by omega
    clear hu0 hcc hfz hcu hvu hrow ho hvals hb hL hM hrk
    go_wp2_with fail
    go_region_with (go_at_call 71; refine (aE5 _ rs[k] _ HRR.out (by omega)).mono ?_; rintro e w9 ⟨u9, rfl, o9, b9⟩; obtain ⟨x9, k9, rfl⟩ := o9.form; have q9 := am0 b9 (Below.refl _ wr).drew (cb1 _); have f9 := ((D8 q9).2 g k hg3).trans f0; have c9 := ((D8 q9).1 g k hg3).trans hx; have r9 := ((D8 q9).1 n 1 (by omega)).trans r1)
    all_goals
     have s9 := q9.size
     have sz9 : wr.drew.heap.size = wr.heap.size := rfl
     rw [sz9] at o9 b9
     clear f0 hx r1 f9 c9 r9 HRR
     go_wp2_with fail
     refine ⟨⟨k + 1, cs.set k (.slice x9 rs[k].length k9), by omega, by go_num, y7.setCell (y7.keep HHO.out q9 (by omega)) hkc _, ?_, ?_, ?_, (y7.other (y7.keep HVA.out q9 (by omega)) (b := g) (by omega) _ _), (v9.other (v9.below HLL.out q9 (by omega)) (p := ⟨g, k, none⟩) (by show n ≠ g; omega) _), (v9.other (v9.below HMM.out q9 (by omega)) (p := ⟨g, k, none⟩) (by show n + 1 ≠ g; omega) _), (HB.out.trans (q9.mono (by omega))).setCell (p := ⟨g, k, none⟩) (by show n ≤ g; omega) _, by simp; omega⟩, by simp [intOf]; omega⟩
     ·intro i u r hik hu hr'
      by_cases e : i = k
      ·subst e
       rw [List.getElem?_set_self hkc] at hu
       cases hu
       rw [HRK.out] at hr'
       cases hr'
       exact (o9.other (b := g) (by omega) _ _).wide (by omega) (by simp)
      ·rw [List.getElem?_set_ne (by omega)] at hu
       exact (((HROW.out i u r (by omega) hu hr').keep q9 (cb1 _)).other (b := g) (by omega) _ _).wide (cb1 _) (by simpa using s9)
     ·intro i j u u' hij hj hu hu'
      rw [List.getElem?_set_ne (by omega)] at hu
      by_cases e : j = k
      ·subst e
       rw [List.getElem?_set_self hkc] at hu'
       cases hu'
       exact U9 (HROW.out i u _ (by omega) hu (ca8 (by omega))) o9 (by omega)
      ·rw [List.getElem?_set_ne (by omega)] at hu'
       exact HDIS.out i j u u' hij (by omega) hu hu'
     ·intro i hik
      rw [List.getElem?_set_ne (by omega)]
      exact HREST.out i (by omega)
   ·have hke : k = rs.length := by omega
    subst hke
    have r0 := hL.cell 0
    have m0 := hM.cell 0
    have m1 := hM.cell 1
    have fm0 := hM.free 0
    have fm1 := hM.free 1
    simp at r0 m0 m1
    have hF := ((hM.set (j := 0) (.slice x1 xs.length k1)).set (j := 1) (.slice x2 rs.length k2))
    have BF := (hb.setCell (p := ⟨n + 1, 0, none⟩) (by show n ≤ n + 1; omega) (.slice x1 xs.length k1)).setCell (p := ⟨n + 1, 1, none⟩) (by show n ≤ n + 1; omega) (.slice x2 rs.length k2)
    have OF := (hvals.other (b := n + 1) (by omega) 0 (.slice x1 xs.length k1)).other (b := n + 1) (by omega) 1 (.slice x2 rs.length k2)
    have PF := (ho.other (b := n + 1) (by omega) 0 (.slice x1 xs.length k1)).other (b := n + 1) (by omega) 1 (.slice x2 rs.length k2)
    have HRF := show Hid (∀ (i : Nat) (u : Value) (r : List Int), cs[i]? = some u → rs[i]? = some r → y7 ((wr.setCell ⟨n + 1, 0, none⟩ (.slice x1 xs.length k1)).setCell ⟨n + 1, 1, none⟩ (.slice x2 rs.length k2)) B wr.heap.size 3 1 u r.length (ints r)) from fun i u r hu hr' =>
     ((HROW.out i u r (by have := (cb6.1 hr').1; omega) hu hr').other (b := n + 1) (by omega) 0 _).other (b := n + 1) (by omega) 1 _
    have zF : ((wr.setCell ⟨n + 1, 0, none⟩ (.slice x1 xs.length k1)).setCell ⟨n + 1, 1, none⟩ (.slice x2 rs.length k2)).heap.size = wr.heap.size := by simp
    have y0 := hF.cell 0
    have y1 := hF.cell 1
    simp at y0 y1
    have HBF := show Hid _ from BF
    have HOF := show Hid _ from OF
    have HPF := show Hid _ from PF
    have HZF := show Hid _ from zF
    clear hF BF OF PF zF ho hvals hL hM hb
    go_wp2_with fail
    refine bodyPost_ret (v := .agg #[.slice x1 xs.length k1, .slice x2 rs.length k2]) (by simp [results, Tryz.results98, go_sem, y0, y1]) rfl ⟨_, _, A, by rw [← HN.out]; omega, rfl, ?_, ⟨cs, ?_, ?_, ?_, ?_⟩, ?_⟩
    ·rw [← HN.out]; exact y7.wide HOF.out (by omega) (cb1 _)
    ·exact y7.wide HPF.out (cb1 _) (by rw [HZF.out]; omega)
    ·intro i u r hu hr'
     exact (HRF.out i u r hu hr').wide (by omega) (by rw [HZF.out]; exact cb1 _)
    ·intro i j u u' hij hu hu'
     exact HDIS.out i j u u' hij (by have := (cb6.1 hu').1; omega) hu hu'
    ·intro i u hu
     have hil : i < rs.length := by have := (cb6.1 hu).1; omega
     exact U9 (HRF.out i u _ hu (ca8 hil)) HPF.out (by omega)
    ·rw [← HN.out]; exact HBF.out
theorem bG0 {w : World} {φ : Nat → Prop} {v : Value} {m : List (List Int)} (h : RD w φ (.rows m) v) : aa1 w v m := by
 obtain ⟨vs, h1, h2⟩ := h
 refine ⟨vs, l9.row h1, fun i u r hu hr => ?_⟩
 have hi : i < m.length := (cb6.1 hr).1
 obtain ⟨u', a, b⟩ := h2 i hi
 rw [hu] at a; cases a
 rw [ca8 hi] at hr; cases hr
 exact l9.row b
theorem bw7 {w : World} {lo hi : Nat} {v : Value} {m : List (List Int)} (h : K8 w lo hi v m) : C5 w (fun b => lo ≤ b ∧ b < hi) (.rows m) v := by
 obtain ⟨vs, h1, h2, h3, h4⟩ := h
 have hl : vs.length = m.length := by have := h1.1.1; omega
 refine ⟨_, vs, fun b => ∃ (i : Nat) (u : Value), vs[i]? = some u ∧ u.ownBlock = some b, rfl, v8 h1.1 (cc7 _), fun g hg => ⟨⟨(h1.lt g hg).1, (h1.lt g hg).2.1⟩, ?_⟩, ?_, aG0.tree ⟨hl, fun i hi' => ?_, fun i j u u' hij hu hu' g hg => ?_⟩⟩
 ·rintro ⟨i, u, hu, hb⟩
  exact h4 i u hu g hb hg
 ·rintro b ⟨i, u, hu, hb⟩
  have hi' : i < m.length := by have := (cb6.1 hu).1; omega
  have := (h2 i u _ hu (ca8 hi')).lt b hb
  exact ⟨this.1, this.2.1⟩
 ·have hv : i < vs.length := by omega
  exact ⟨vs[i], ca8 hv, fun _ => v8 (h2 i _ _ (ca8 hv) (ca8 hi')).1 (cc7 _), fun g hg => ⟨i, _, ca8 hv, hg⟩⟩
 ·exact h3 i j u u' hij hu hu' g hg
theorem bU5 (m : t9) (hx : m.vals.length ≤ 1048576) (hr : m.arrs.length ≤ 1048576) (hi : ∀ r ∈ m.arrs, r.length ≤ 1048576) : j9.ok Tryz.prog ⟨98, [mA 0], mS m, mS m ++ mO m, mT 2⟩ := by
 intro ι φ ψ w0 w F ρ M
 have r1 := M.datAt (id := 0) (d := .ints m.vals) rfl
 have r2 := M.datAt (id := 1) (d := .rows m.arrs) rfl
 refine (bH5 (ρ 0) (ρ 1) m.vals m.arrs w (l9.row r1) (bG0 r2) hx hr hi).mono ?_
 rintro e w' ⟨u1, u2, mid, hmid, rfl, o1, o2, hbl⟩
 obtain ⟨z, hz1, hz2⟩ := al9 u2 (fun b => mid ≤ b ∧ b < w'.heap.size) w'.heap.size fun b h => h.2
 refine ⟨fun i => if i = 2 then u1 else if i = 3 then z else ρ i, fun i hi => ?_, by simp [AV.val, AV.vals, hz1], ?_⟩
 ·have : i < 2 := hi
  simp only [if_neg (show ¬ i = 2 by omega), if_neg (show ¬ i = 3 by omega)]
 ·refine M.grow hbl (fun k => k = .inr 2 ∨ k = .inr 3) (fun k hk => ?_) ?_ ?_ ?_
  ·cases k with
   | inl i => rfl
   | inr j =>
    match j, hk with
    | 0, _ => rfl
    | 1, _ => rfl
    | 2, h => exact absurd (.inl rfl) h
    | 3, h => exact absurd (.inr rfl) h
    | j + 4, _ => rfl
  ·rintro k (rfl | rfl) b hb
   ·exact (o1.lt b hb).1
   ·exact cd3 hmid ((hz2 b).1 hb).1
  ·rintro j k b hjk (rfl | rfl) (rfl | rfl) hj hk
   ·exact hjk rfl
   ·have h1 := (o1.lt b hj).2.1
    have h2 := ((hz2 b).1 hk).1
    omega
   ·have h1 := (o1.lt b hk).2.1
    have h2 := ((hz2 b).1 hj).1
    omega
   ·exact hjk rfl
  ·rintro k (rfl | rfl)
   ·exact ar5 (v8 o1.1 (cc7 _))
   ·have e : y9 z = fun b => mid ≤ b ∧ b < w'.heap.size := funext fun b => propext (hz2 b)
    show (Rs.own (y9 z) fun w => C5 w (y9 z) (.rows m.arrs) (E0 z)).holds _ _
    rw [hz1, e]
    exact ⟨fun _ _ h hs => h.same hs, bw7 o2, fun b hb => hb.2⟩
abbrev am6 : It := .box [.v (.slice none 0 0), .v (.slice none 0 0)]
abbrev aI1 (b : List UInt8) (j : Int) (bit : Int) (p : j8) (m : t9) : It := .row 3 (D.ints (A6 b bit p.vars j m.vals m.vals.length).fst)
abbrev T6 (bit : Int) (r0 : List (Nat × AV)) : List (Nat × AV) := (0, .ptr 0 0) :: (3, iA bit) :: (5, .ptr 7 0) :: (8, .ptr 8 0) :: (9, .ptr 11 0) :: r0
abbrev af1 (b : List UInt8) (p : j8) (m : t9) (r0 : List It) : List It := dY b :: dI p.vars :: dI p.arrays :: dT p.body :: dI m.vals :: dR m.arrs :: .box (pL 2) :: r0
theorem aW4 (b : List UInt8) (j bit : Int) (p : j8) (m : t9) (hv : m.vals.length = p.vars.length) (ha : m.arrs.length = p.arrays.length) (hr : m.arrs.all S9 = true) (r0 : 0 ≤ j) (r1 : j ≤ 100000000) (r2 : m.vals.length ≤ 1000000 ∧ m.arrs.length ≤ 1000000) (hi : ∀ l ∈ m.arrs, l.length ≤ 1048576) : j9.ok Tryz.prog ⟨26, [.ptr 0 0, pA 2, mA 5, iA bit], [.box [.ref 1, iA j], dY b] ++ pS p ++ mS m, [.box [.ref 1, iA (scM b bit p m j).2], dY b] ++ pS p ++ mS m ++ mO (scM b bit p m j).1, mT 7⟩ := by
  refine K9 85 Tryz.func26 [.box [.ref 1, iA j], dY b, dI p.vars, dI p.arrays, dT p.body, dI m.vals, dR m.arrs] [(0, .ptr 0 0), (1, pA 2), (2, .agg [.ref 5, .ref 6]), (3, iA bit)] fun G => ?_
  have hvb := fun k : Nat => aJ5 b bit p.vars j m.vals k
  have hvl := aJ5 b bit p.vars j m.vals m.vals.length; refine wp_seq (l0 G f8 [0, 1, 2, 3, 4, 5, 6, 7, 15, 23] (.box [.ref 1, iA j] :: (af1 b p m [.box [.ref 5, .ref 6], am6])) [(0, .ptr 0 0), (3, iA bit), (5, .ptr 7 0), (6, .ptr 8 0), (8, .ptr 9 0)] fun G => b0 (wp_seq (l0 G (A4 1 [5, 6] (bA7 m.vals m.arrs (by omega) (by omega) (by assumption))) [0, 1, 2, 3, 4, 5, 6, 7, 9, 18, 19, 26] (.box [.ref 1, iA j] :: (af1 b p m [am6, .row 3 (D.ints m.vals), .tree (D.rows m.arrs), .box [.ref 9, .tref 10]])) (T6 bit []) fun G => b0 (wp_seq (wp_seq (I8 G f8 (T6 bit [(10, iA 0)]) fun G => b0 (wp_block ?_))))))); refine A8 (κ := Nat) (fun i => i ≤ m.vals.length) (fun i => m.vals.length - i) (fun i => [.box [.ref 1, iA (A6 b bit p.vars j m.vals i).2], dY b, dI p.vars, dI p.arrays, dT p.body, dI m.vals, dR m.arrs, .box (pL 2), .box [.v (.slice none 0 0), .v (.slice none 0 0)], .row 3 (.ints (A6 b bit p.vars j m.vals i).1), .tree (D.rows m.arrs), .box [.ref 9, .tref 10]]) (fun i => [(0, .ptr 0 0), (3, iA bit), (5, .ptr 7 0), (8, .ptr 8 0), (9, .ptr 11 0), (10, iA i)]) 0 (by omega) (v5.at G _ _) ?_; clear G; intro i ρ a w hp G; replace G := v5.at G (.box [.ref 1, iA (A6 b bit p.vars j m.vals i).snd] :: (af1 b p m [am6, .row 3 (D.ints (A6 b bit p.vars j m.vals i).fst), .tree (D.rows m.arrs), .box [.ref 9, .tref 10]])) (T6 bit [(10, iA i)]); have hs1 := aJ5 b bit p.vars j m.vals i; refine wp_seq (wp_seq ?_); cases h0 : (decide ((i : Int) < ((A6 b bit p.vars j m.vals i).fst.length : Int)))
  ·
   have q0 := dFf h0
   obtain rfl : i = m.vals.length := by omega
   refine m7 G (N1 (fc (a := decide ((m.vals.length : Int) < ((A6 b bit p.vars j m.vals m.vals.length).fst.length : Int))) (b := false) (by assumption) fz) (us [(6, 10, 0), (1011, 1011, 0)])) [(10, iA (m.vals.length : Int)), (26, bA false)] fun G => b0 (rF G false (by kernel_rfl) (wp_exit (A2 (A2 (A1 (b0 (wp_seq (wp_seq (I8 G f8 (T6 bit [(11, iA 0)]) fun G => b0 (wp_block ?_)))))))))); refine A8 (κ := Nat) (fun i2 => i2 ≤ m.arrs.length) (fun i2 => m.arrs.length - i2) (fun i2 => [.box [.ref 1, iA (scA b bit p.arrays (A6 b bit p.vars j m.vals m.vals.length).2 m.arrs i2).2], dY b, dI p.vars, dI p.arrays, dT p.body, dI m.vals, dR m.arrs, .box (pL 2), .box [.v (.slice none 0 0), .v (.slice none 0 0)], .row 3 (D.ints (A6 b bit p.vars j m.vals m.vals.length).fst), .tree (.rows (scA b bit p.arrays (A6 b bit p.vars j m.vals m.vals.length).2 m.arrs i2).1), .box [.ref 9, .tref 10]]) (fun i2 => [(0, .ptr 0 0), (3, iA bit), (5, .ptr 7 0), (8, .ptr 8 0), (9, .ptr 11 0), (11, iA i2)]) 0 (by omega) (v5.at G _ _) ?_; clear G; intro i2 ρ a w hp G; replace G := v5.at G (.box [.ref 1, iA (scA b bit p.arrays (A6 b bit p.vars j m.vals m.vals.length).snd m.arrs i2).snd] :: (af1 b p m [am6, aI1 b j bit p m, .tree (D.rows (scA b bit p.arrays (A6 b bit p.vars j m.vals m.vals.length).snd m.arrs i2).fst), .box [.ref 9, .tref 10]])) (T6 bit [(11, iA i2)]); have hs2 := aA4 b bit p.arrays (A6 b bit p.vars j m.vals m.vals.length).2 m.arrs i2; refine wp_seq (wp_seq ?_); cases h3 : (decide ((i2 : Int) < ((scA b bit p.arrays (A6 b bit p.vars j m.vals m.vals.length).snd m.arrs i2).fst.length : Int)))
   ·
    have q3 := dFf h3
    obtain rfl : i2 = m.arrs.length := by omega
    refine m7 G (N1 (fc (a := decide ((m.arrs.length : Int) < ((scA b bit p.arrays (A6 b bit p.vars j m.vals m.vals.length).snd m.arrs m.arrs.length).fst.length : Int))) (b := false) (by assumption) fz) (us [(6, 10, 0), (1011, 1011, 0)])) [(11, iA (m.arrs.length : Int)), (54, bA false)] fun G => b0 (rF G false (by kernel_rfl) (wp_exit (A2 (A2 (A1 (b0 (wp_seq (l0 G f8 [0, 1, 2, 3, 4, 5, 6, 8, 9, 10] [.box [.ref 1, iA (scA b bit p.arrays (A6 b bit p.vars j m.vals m.vals.length).snd m.arrs m.arrs.length).snd], dY b, dI p.vars, dI p.arrays, dT p.body, dI m.vals, dR m.arrs, .box [.ref 8, .tref 9], aI1 b j bit p m, .tree (D.rows (scA b bit p.arrays (A6 b bit p.vars j m.vals m.vals.length).snd m.arrs m.arrs.length).fst)] [(8, .ptr 7 0)] fun G => b0 (wp_ret ?_))))))))); exact L6 G [0, 1, 2, 3, 4, 5, 6, 8, 9]
   ·
    have q3 := dTt h3; refine I8 G (N1 (fc h3 fz) (us [(6, 10, 0), (1011, 1011, 0)])) (T6 bit [(11, iA i2), (54, bA (decide ((i2 : Int) < p.arrays.length)))]) fun G => b0 ?_; cases h4 : (decide ((i2 : Int) < p.arrays.length))
    · have q4 := dFf h4; exact False.elim (by omega)
    ·
     have q4 := dTt h4; refine rT G _ h4 (wp_skip (b0 (wp_seq (wp_block (wp_seq (I8 G f8 (T6 bit [(11, iA i2), (12, iA 0)]) fun G => b0 (wp_block ?_))))))); replace G := G.as (.box [.ref 1, iA (J6 b bit p.arrays (A6 b bit p.vars j m.vals m.vals.length).snd m.arrs i2 0).snd] :: (af1 b p m [.box [.v (.slice none 0 0), .v (.slice none 0 0)], .row 3 (D.ints (A6 b bit p.vars j m.vals m.vals.length).fst), .tree (D.rows (J6 b bit p.arrays (A6 b bit p.vars j m.vals m.vals.length).snd m.arrs i2 0).fst), .box [.ref 9, .tref 10]])) (T6 bit [(11, iA i2), (12, iA 0)]) (by have e1 : ((J6 b bit p.arrays (A6 b bit p.vars j m.vals m.vals.length).snd m.arrs i2 0).snd : Int) = ((scA b bit p.arrays (A6 b bit p.vars j m.vals m.vals.length).snd m.arrs i2).snd) := (by rw [bL9 (by omega)]; done); have e2 : ((J6 b bit p.arrays (A6 b bit p.vars j m.vals m.vals.length).snd m.arrs i2 0).fst : List (List Int)) = ((scA b bit p.arrays (A6 b bit p.vars j m.vals m.vals.length).snd m.arrs i2).fst) := (by rw [bL9 (by omega)]; done); (first | rw [e1, e2] | simp only [e1, e2]) <;> rfl) (by kernel_rfl); refine A8 (κ := Nat) (fun k2 => k2 ≤ 4) (fun k2 => 4 - k2) (fun k2 => [.box [.ref 1, iA (J6 b bit p.arrays (A6 b bit p.vars j m.vals m.vals.length).2 m.arrs i2 k2).2], dY b, dI p.vars, dI p.arrays, dT p.body, dI m.vals, dR m.arrs, .box (pL 2), .box [.v (.slice none 0 0), .v (.slice none 0 0)], .row 3 (D.ints (A6 b bit p.vars j m.vals m.vals.length).fst), .tree (.rows (J6 b bit p.arrays (A6 b bit p.vars j m.vals m.vals.length).2 m.arrs i2 k2).1), .box [.ref 9, .tref 10]]) (fun k2 => [(0, .ptr 0 0), (3, iA bit), (5, .ptr 7 0), (8, .ptr 8 0), (9, .ptr 11 0), (11, iA i2), (12, iA k2)]) 0 (by omega) (v5.at G _ _) ?_; clear G; intro k2 ρ a w hp G; replace G := v5.at G (.box [.ref 1, iA (J6 b bit p.arrays (A6 b bit p.vars j m.vals m.vals.length).snd m.arrs i2 k2).snd] :: (af1 b p m [am6, aI1 b j bit p m, .tree (D.rows (J6 b bit p.arrays (A6 b bit p.vars j m.vals m.vals.length).snd m.arrs i2 k2).fst), .box [.ref 9, .tref 10]])) (T6 bit [(11, iA i2), (12, iA k2)]); have ha4 := b33 (m := m) hr (i := i2) (by omega); have hs3 := bV8 (b := b) (bit := bit) (ls := p.arrays) (j := (A6 b bit p.vars j m.vals m.vals.length).2) (rs := m.arrs) (i := i2) (k := k2); have hs4 := bE8 (b := b) (bit := bit) (ls := p.arrays) (j := (A6 b bit p.vars j m.vals m.vals.length).2) (rs := m.arrs) (i := i2) (k := k2) (by omega) ha4 (by omega); refine wp_seq (wp_seq (V2 G f8 [0, 1, 2, 3, 4, 5, 6, 7, 8, 9, 10, 11, 52] [.box [.ref 1, iA (J6 b bit p.arrays (A6 b bit p.vars j m.vals m.vals.length).snd m.arrs i2 k2).snd], dY b, dI p.vars, dI p.arrays, dT p.body, dI m.vals, dR m.arrs, .box (pL 2), .box [.v (.slice none 0 0), .v (.slice none 0 0)], .row 3 (D.ints (A6 b bit p.vars j m.vals m.vals.length).fst), .hole 12 i2 (J6 b bit p.arrays (A6 b bit p.vars j m.vals m.vals.length).snd m.arrs i2 k2).fst, .box [.ref 9, .tref 10], .row 3 (D.ints ((J6 b bit p.arrays (A6 b bit p.vars j m.vals m.vals.length).snd m.arrs i2 k2).fst.getD i2 []))] (T6 bit [(11, iA i2), (12, iA k2), (64, bA (decide ((k2 : Int) < (((J6 b bit p.arrays (A6 b bit p.vars j m.vals m.vals.length).snd m.arrs i2 k2).fst.getD i2 []).length : Int))))]) (iX i2 i2 ((J6 b bit p.arrays (A6 b bit p.vars j m.vals m.vals.length).snd m.arrs i2 k2).fst.length) []) (iK (by omega) cc2) fun G => ?_))
     replace G := G.heal0 10 12 i2 ((J6 b bit p.arrays (A6 b bit p.vars j m.vals m.vals.length).snd m.arrs i2 k2).fst) [.box [.ref 1, iA (J6 b bit p.arrays (A6 b bit p.vars j m.vals m.vals.length).snd m.arrs i2 k2).snd], dY b, dI p.vars, dI p.arrays, dT p.body, dI m.vals, dR m.arrs, .box (pL 2), .box [.v (.slice none 0 0), .v (.slice none 0 0)], .row 3 (D.ints (A6 b bit p.vars j m.vals m.vals.length).fst), .tree (D.rows (J6 b bit p.arrays (A6 b bit p.vars j m.vals m.vals.length).snd m.arrs i2 k2).fst), .box [.ref 9, .tref 10], .dead]; refine b0 ?_; cases h5 : (decide ((k2 : Int) < (((J6 b bit p.arrays (A6 b bit p.vars j m.vals m.vals.length).snd m.arrs i2 k2).fst.getD i2 []).length : Int)))
     ·
      have q5 := dFf h5
      obtain rfl : k2 = 4 := by omega
      refine rF G (decide ((↑(4 : Nat) : Int) < (((J6 b bit p.arrays (A6 b bit p.vars j m.vals m.vals.length).snd m.arrs i2 (4 : Nat)).fst.getD i2 []).length : Int))) (by assumption) (wp_exit (A2 (A2 (A1 (t5 (b0 (V2 G f8 (rg 12) (.box [.ref 1, iA (J6 b bit p.arrays (A6 b bit p.vars j m.vals m.vals.length).snd m.arrs i2 4).snd] :: (af1 b p m [am6, aI1 b j bit p m, .tree (D.rows (J6 b bit p.arrays (A6 b bit p.vars j m.vals m.vals.length).snd m.arrs i2 4).fst), .box [.ref 9, .tref 10]])) (T6 bit [(11, iA ((i2 : Int) + 1))]) [wO ((i2 : Int) + 1)] (o1 (by omega)) fun G => b0 ?_))))))); exact rxn G (i2 + 1) (by omega) (by omega) (rg 12) (by have e1 : ((scA b bit p.arrays (A6 b bit p.vars j m.vals m.vals.length).snd m.arrs (i2 + 1)).snd : Int) = ((J6 b bit p.arrays (A6 b bit p.vars j m.vals m.vals.length).snd m.arrs i2 4).snd) := (by rw [← bf2 (by omega) ha4]; done); have e2 : ((scA b bit p.arrays (A6 b bit p.vars j m.vals m.vals.length).snd m.arrs (i2 + 1)).fst : List (List Int)) = ((J6 b bit p.arrays (A6 b bit p.vars j m.vals m.vals.length).snd m.arrs i2 4).fst) := (by rw [← bf2 (by omega) ha4]; done); (first | rw [e1, e2] | simp only [e1, e2]) <;> rfl)
     ·
      have q5 := dTt h5; refine rT G _ h5 (wp_skip (b0 (wp_seq (wp_block (wp_seq (V2 G f8 (rg 12) (.box [.ref 1, iA (J6 b bit p.arrays (A6 b bit p.vars j m.vals m.vals.length).snd m.arrs i2 k2).snd] :: (af1 b p m [am6, aI1 b j bit p m, .tree (D.rows (J6 b bit p.arrays (A6 b bit p.vars j m.vals m.vals.length).snd m.arrs i2 k2).fst), .box [.ref 9, .tref 10]])) (T6 bit [(11, iA i2), (12, iA k2), (74, bA (bB9 (p.arrays.getD i2 0) bit != 0))]) (iX i2 i2 p.arrays.length []) (iK (by omega) cc2) fun G => b0 (rcN G (fun h6 q6 => ?_) fun h6 q6 => ?_)))))))
      · refine wp_skip (t5 (b0 (O0 G f8 [(12, iA ((k2 : Int) + 1))] [wO ((k2 : Int) + 1)] (o1 (by omega)) fun G => b0 ?_))); exact rxn G (k2 + 1) (by omega) (by omega) (rg 12) (by have e1 : ((J6 b bit p.arrays (A6 b bit p.vars j m.vals m.vals.length).snd m.arrs i2 (k2 + 1)).snd : Int) = ((J6 b bit p.arrays (A6 b bit p.vars j m.vals m.vals.length).snd m.arrs i2 k2).snd) := (by rw [bL8 (zbf (by omega))]; done); have e2 : ((J6 b bit p.arrays (A6 b bit p.vars j m.vals m.vals.length).snd m.arrs i2 (k2 + 1)).fst : List (List Int)) = ((J6 b bit p.arrays (A6 b bit p.vars j m.vals m.vals.length).snd m.arrs i2 k2).fst) := (by rw [bL8 (zbf (by omega))]; done); (first | rw [e1, e2] | simp only [e1, e2]) <;> rfl)
      · refine L7 G (A4 7 [0, 1] (ac1 b ((J6 b bit p.arrays (A6 b bit p.vars j m.vals m.vals.length).snd m.arrs i2 k2).snd) (by omega) (by omega))) [0, 1, 0, 7, 15, 0, 0, 64, 255, 511] [0, 1, 2, 3, 4, 5, 6, 7, 8, 9, 10, 11, 44] [.box [.ref 1, iA ((J6 b bit p.arrays (A6 b bit p.vars j m.vals m.vals.length).snd m.arrs i2 k2).snd + 1)], dY b, dI p.vars, dI p.arrays, dT p.body, dI m.vals, dR m.arrs, .box (pL 2), .box [.v (.slice none 0 0), .v (.slice none 0 0)], .row 3 (D.ints (A6 b bit p.vars j m.vals m.vals.length).fst), .hole 12 i2 (J6 b bit p.arrays (A6 b bit p.vars j m.vals m.vals.length).snd m.arrs i2 k2).fst, .box [.ref 9, .tref 10], .row 3 (D.ints (((J6 b bit p.arrays (A6 b bit p.vars j m.vals m.vals.length).snd m.arrs i2 k2).fst.getD i2 []).set k2 (nm b (J6 b bit p.arrays (A6 b bit p.vars j m.vals m.vals.length).snd m.arrs i2 k2).snd vaL)))] (T6 bit [(11, iA i2), (12, iA k2)]) (iX i2 i2 ((J6 b bit p.arrays (A6 b bit p.vars j m.vals m.vals.length).snd m.arrs i2 k2).fst.length) (iX k2 k2 (((J6 b bit p.arrays (A6 b bit p.vars j m.vals m.vals.length).snd m.arrs i2 k2).fst.getD i2 []).length) [])) (iK (by omega) (iK (by omega) cc2)) fun G => ?_; replace G := G.heal 10 12 i2 ((J6 b bit p.arrays (A6 b bit p.vars j m.vals m.vals.length).snd m.arrs i2 k2).fst) (((J6 b bit p.arrays (A6 b bit p.vars j m.vals m.vals.length).snd m.arrs i2 k2).fst.getD i2 []).set k2 (nm b (J6 b bit p.arrays (A6 b bit p.vars j m.vals m.vals.length).snd m.arrs i2 k2).snd vaL)) (.box [.ref 1, iA ((J6 b bit p.arrays (A6 b bit p.vars j m.vals m.vals.length).snd m.arrs i2 k2).snd + 1)] :: (af1 b p m [.box [.v (.slice none 0 0), .v (.slice none 0 0)], .row 3 (D.ints (A6 b bit p.vars j m.vals m.vals.length).fst), .tree (D.rows ((J6 b bit p.arrays (A6 b bit p.vars j m.vals m.vals.length).snd m.arrs i2 k2).fst.set i2 (((J6 b bit p.arrays (A6 b bit p.vars j m.vals m.vals.length).snd m.arrs i2 k2).fst.getD i2 []).set k2 (nm b (J6 b bit p.arrays (A6 b bit p.vars j m.vals m.vals.length).snd m.arrs i2 k2).snd vaL)))), .box [.ref 9, .tref 10], .dead])); refine t5 (b0 (V2 G f8 (rg 12) (.box [.ref 1, iA ((J6 b bit p.arrays (A6 b bit p.vars j m.vals m.vals.length).snd m.arrs i2 k2).snd + 1)] :: (af1 b p m [am6, aI1 b j bit p m, .tree (D.rows ((J6 b bit p.arrays (A6 b bit p.vars j m.vals m.vals.length).snd m.arrs i2 k2).fst.set i2 (((J6 b bit p.arrays (A6 b bit p.vars j m.vals m.vals.length).snd m.arrs i2 k2).fst.getD i2 []).set k2 (nm b (J6 b bit p.arrays (A6 b bit p.vars j m.vals m.vals.length).snd m.arrs i2 k2).snd vaL)))), .box [.ref 9, .tref 10]])) (T6 bit [(11, iA i2), (12, iA ((k2 : Int) + 1))]) [wO ((k2 : Int) + 1)] (o1 (by omega)) fun G => b0 ?_)); exact rxn G (k2 + 1) (by omega) (by omega) (rg 12) (by have e1 : ((J6 b bit p.arrays (A6 b bit p.vars j m.vals m.vals.length).snd m.arrs i2 (k2 + 1)).snd : Int) = ((J6 b bit p.arrays (A6 b bit p.vars j m.vals m.vals.length).snd m.arrs i2 k2).snd + 1) := (by rw [bL7 (by omega) ha4 (by omega) (zbt (by omega))]; done); have e2 : ((J6 b bit p.arrays (A6 b bit p.vars j m.vals m.vals.length).snd m.arrs i2 (k2 + 1)).fst : List (List Int)) = ((J6 b bit p.arrays (A6 b bit p.vars j m.vals m.vals.length).snd m.arrs i2 k2).fst.set i2 (((J6 b bit p.arrays (A6 b bit p.vars j m.vals m.vals.length).snd m.arrs i2 k2).fst.getD i2 []).set k2 (nm b (J6 b bit p.arrays (A6 b bit p.vars j m.vals m.vals.length).snd m.arrs i2 k2).snd vaL))) := (by rw [bL7 (by omega) ha4 (by omega) (zbt (by omega))]; done); (first | rw [e1, e2] | simp only [e1, e2]) <;> rfl)
  ·
   have q0 := dTt h0; refine I8 G (N1 (fc h0 fz) (us [(6, 10, 0), (1011, 1011, 0)])) (T6 bit [(10, iA i), (26, bA (decide ((i : Int) < p.vars.length)))]) fun G => b0 ?_; cases h1 : (decide ((i : Int) < p.vars.length))
   · have q1 := dFf h1; exact False.elim (by omega)
   ·
    have q1 := dTt h1; refine rT G _ h1 (wp_skip (b0 (wp_seq (wp_block (wp_seq (O0 G f8 [(36, bA (bB9 (p.vars.getD i 0) bit != 0))] (iX i i p.vars.length []) (iK (by omega) cc2) fun G => b0 (rcN G (fun h2 q2 => ?_) fun h2 q2 => ?_)))))))
    · refine wp_skip (t5 (b0 (O0 G f8 [(10, iA ((i : Int) + 1))] [wO ((i : Int) + 1)] (o1 (by omega)) fun G => b0 ?_))); exact rxn G (i + 1) (by omega) (by omega) (rg 12) (by have e1 : ((A6 b bit p.vars j m.vals (i + 1)).snd : Int) = ((A6 b bit p.vars j m.vals i).snd) := (by rw [bL6 (zbf (by omega))]; done); have e2 : ((A6 b bit p.vars j m.vals (i + 1)).fst : List Int) = ((A6 b bit p.vars j m.vals i).fst) := (by rw [bL6 (zbf (by omega))]; done); (first | rw [e1, e2] | simp only [e1, e2]) <;> rfl)
    · refine L7 G (A4 4 [0, 1] (ac1 b ((A6 b bit p.vars j m.vals i).snd) (by omega) (by omega))) [0, 1, 0, 0, 8, 31, 63] (rg 12) (.box [.ref 1, iA ((A6 b bit p.vars j m.vals i).snd + 1)] :: (af1 b p m [am6, .row 3 (D.ints ((A6 b bit p.vars j m.vals i).fst.set i (nm b (A6 b bit p.vars j m.vals i).snd vaL))), .tree (D.rows m.arrs), .box [.ref 9, .tref 10]])) (T6 bit [(10, iA i)]) (iX i i ((A6 b bit p.vars j m.vals i).fst.length) []) (iK (by omega) cc2) fun G => t5 (b0 (O0 G f8 [(10, iA ((i : Int) + 1))] [wO ((i : Int) + 1)] (o1 (by omega)) fun G => b0 ?_)); exact rxn G (i + 1) (by omega) (by omega) (rg 12) (by have e1 : ((A6 b bit p.vars j m.vals (i + 1)).snd : Int) = ((A6 b bit p.vars j m.vals i).snd + 1) := (by rw [bL5 (zbt (by omega))]; done); have e2 : ((A6 b bit p.vars j m.vals (i + 1)).fst : List Int) = ((A6 b bit p.vars j m.vals i).fst.set i (nm b (A6 b bit p.vars j m.vals i).snd vaL)) := (by rw [bL5 (zbt (by omega))]; done); (first | rw [e1, e2] | simp only [e1, e2]) <;> rfl)
theorem a31 (b : List UInt8) (j bit : Int) (vs ars : List Int) (bd : List c8) (xs : List Int) (rs : List (List Int)) (hv : xs.length = vs.length) (ha : rs.length = ars.length) (hr : rs.all S9 = true) (r0 : 0 ≤ j) (r1 : j ≤ 100000000) (r2 : xs.length ≤ 1000000 ∧ rs.length ≤ 1000000) (hi : ∀ l ∈ rs, l.length ≤ 1048576) : j9.ok Tryz.prog ⟨26, [.ptr 0 0, pA 2, mA 5, iA bit], [.box [.ref 1, iA j], dY b, dI vs, dI ars, dT bd, dI xs, dR rs], [.box [.ref 1, iA (scM b bit ⟨vs, ars, bd⟩ ⟨xs, rs⟩ j).2], dY b, dI vs, dI ars, dT bd, dI xs, dR rs] ++ mO (scM b bit ⟨vs, ars, bd⟩ ⟨xs, rs⟩ j).1, mT 7⟩ :=
 aW4 b j bit ⟨vs, ars, bd⟩ ⟨xs, rs⟩ hv ha hr r0 r1 r2 hi
def gX (nv na : Nat) (L : Int) (x : d8) : Prop :=
 (x.op = 1 ∧ (0 ≤ x.a ∧ x.a ≤ 13) ∧ (0 ≤ x.b ∧ x.b ≤ 255) ∧ x.c = 0 ∧ x.d = 0) ∨
 (x.op = 2 ∧ (0 ≤ x.a ∧ x.a ≤ 13) ∧ (0 ≤ x.b ∧ x.b < nv) ∧ x.c = 0 ∧ x.d = 0) ∨
 (x.op = 3 ∧ (0 ≤ x.a ∧ x.a < nv) ∧ (0 ≤ x.b ∧ x.b ≤ 13) ∧ x.c = 0 ∧ x.d = 0) ∨
 (x.op = 4 ∧ (0 ≤ x.a ∧ x.a ≤ 13) ∧ (0 ≤ x.b ∧ x.b < na) ∧ (0 ≤ x.c ∧ x.c ≤ 13) ∧ x.d = 0) ∨
 (x.op = 5 ∧ (0 ≤ x.a ∧ x.a < na) ∧ (0 ≤ x.b ∧ x.b ≤ 13) ∧ (0 ≤ x.c ∧ x.c ≤ 13) ∧ x.d = 0) ∨
 (x.op = 6 ∧ (0 ≤ x.a ∧ x.a ≤ 13) ∧ (4 ≤ x.b ∧ x.b ≤ 10) ∧ (0 ≤ x.c ∧ x.c ≤ 13) ∧ (0 ≤ x.d ∧ x.d ≤ 13)) ∨
 (x.op = 7 ∧ (0 ≤ x.a ∧ x.a ≤ 13) ∧ (0 ≤ x.b ∧ x.b ≤ 13) ∧ (0 ≤ x.c ∧ x.c ≤ 13) ∧ (0 ≤ x.d ∧ x.d ≤ 13)) ∨
 (x.op = 8 ∧ (0 ≤ x.a ∧ x.a < L) ∧ x.b = 0 ∧ x.c = 0 ∧ x.d = 0) ∨
 (x.op = 9 ∧ (0 ≤ x.a ∧ x.a ≤ 13) ∧ (0 ≤ x.b ∧ x.b < L) ∧ x.c = 0 ∧ x.d = 0) ∨
 (x.op = 10 ∧ (0 ≤ x.a ∧ x.a ≤ 13) ∧ (0 ≤ x.b ∧ x.b < L) ∧ x.c = 0 ∧ x.d = 0) ∨
 (x.op = 11 ∧ (0 ≤ x.a ∧ x.a ≤ 13) ∧ x.b = 0 ∧ x.c = 0 ∧ x.d = 0)
def gL (nv na : Nat) (L : Int) (l : List d8) : Prop := ∀ x ∈ l, gX nv na L x
theorem bR3 {nv na : Nat} {L : Int} {a b : List d8} (h : gL nv na L a) (k : gL nv na L b) : gL nv na L (a ++ b) := by
 intro x hx
 rcases cc4.1 hx with hx | hx
 ·exact h x hx
 ·exact k x hx
theorem aD5 {nv na : Nat} {L : Int} {a : d8} (h : gX nv na L a) : gL nv na L [a] := by
 intro x hx
 rw [cd4] at hx
 subst hx; exact h
def Gd (nv na : Nat) (L : Int) (x y : H9) : Prop := ∃ ys, y.1 = x.1 ++ ys ∧ gL nv na L ys
theorem Gd.refl {nv na : Nat} {L : Int} (x : H9) : Gd nv na L x x := ⟨[], by simp, fun x hx => by cases hx⟩
theorem Gd.trans {nv na : Nat} {L : Int} {x y z : H9} (h : Gd nv na L x y) (k : Gd nv na L y z) : Gd nv na L x z := by
 obtain ⟨a, a1, a2⟩ := h
 obtain ⟨b, b1, b2⟩ := k
 exact ⟨a ++ b, by rw [b1, a1, cf7], bR3 a2 b2⟩
theorem Gd.add {nv na : Nat} {L : Int} {x : H9} {n : Int} {c : List d8} (h : gL nv na L c) : Gd nv na L x (G3 x n c) := ⟨c, rfl, h⟩
theorem bG2 : (0 : Int) ≤ 0 ∧ (0 : Int) ≤ 13 := by decide
theorem b59 : (0 : Int) ≤ 1 ∧ (1 : Int) ≤ 13 := by decide
theorem g1 {nv na : Nat} {L a b : Int} (h1 : 0 ≤ a ∧ a ≤ 13) (h2 : 0 ≤ b ∧ b ≤ 255) : gL nv na L [⟨1, a, b, 0, 0⟩] := aD5 (.inl ⟨rfl, h1, h2, rfl, rfl⟩)
theorem g3 {nv na : Nat} {L a : Int} (h1 : 0 ≤ a ∧ a < nv) : gL nv na L [⟨3, a, 0, 0, 0⟩] := aD5 (.inr (.inr (.inl ⟨rfl, h1, bG2, rfl, rfl⟩)))
theorem g5 {nv na : Nat} {L a : Int} (h1 : 0 ≤ a ∧ a < na) : gL nv na L [⟨5, a, 1, 0, 0⟩] := aD5 (.inr (.inr (.inr (.inr (.inl ⟨rfl, h1, b59, bG2, rfl⟩)))))
theorem g8 {nv na : Nat} {L a : Int} (h1 : 0 ≤ a ∧ a < L) : gX nv na L ⟨8, a, 0, 0, 0⟩ := .inr (.inr (.inr (.inr (.inr (.inr (.inr (.inl ⟨rfl, h1, rfl, rfl, rfl⟩)))))))
theorem g9 {nv na : Nat} {L b : Int} (h1 : 0 ≤ b ∧ b < L) : gX nv na L ⟨9, 0, b, 0, 0⟩ := .inr (.inr (.inr (.inr (.inr (.inr (.inr (.inr (.inl ⟨rfl, bG2, h1, rfl, rfl⟩))))))))
theorem g10 {nv na : Nat} {L a b : Int} (h0 : 0 ≤ a ∧ a ≤ 13) (h1 : 0 ≤ b ∧ b < L) : gL nv na L [⟨10, a, b, 0, 0⟩] := aD5 (.inr (.inr (.inr (.inr (.inr (.inr (.inr (.inr (.inr (.inl ⟨rfl, h0, h1, rfl, rfl⟩))))))))))
theorem g11 {nv na : Nat} {L : Int} : gL nv na L [⟨11, 0, 0, 0, 0⟩] := aD5 (.inr (.inr (.inr (.inr (.inr (.inr (.inr (.inr (.inr (.inr ⟨rfl, bG2, rfl, rfl, rfl⟩))))))))))
def inV (x : Int) : Prop := 0 ≤ x ∧ x ≤ 255
theorem bZ4 {l : List Int} (h : ∀ x ∈ l, inV x) (i : Nat) : inV (l.getD i 0) := by
 rw [cb3]
 cases hx : l[i]? with
 | none => exact ⟨Int.le_refl _, by decide⟩
 | some x => exact h x (cc3 hx)
theorem bN4 {l : List Int} (h : F9 l = true) : ∀ x ∈ l, inV x := fun x hx => by
 have := cb9.1 h x hx
 simpa [inV] using this
theorem b54 {l : List (List Int)} (h : l.all S9 = true) (i : Nat) : ∀ x ∈ l.getD i [], inV x := by
 rw [cb3]
 cases hx : l[i]? with
 | none => intro x hx; simp at hx
 | some r =>
  have := cb9.1 h r (cc3 hx)
  unfold S9 at this
  rw [cb0] at this
  exact bN4 this.2
structure o6 where
 pc : Int
 regs : List Int
 mem : t9
def stR (m : t9) (x : d8) (r : List Int) : List Int :=
 if x.op = 1 then r.set x.a.toNat x.b
 else if x.op = 2 then r.set x.a.toNat (m.vals.getD x.b.toNat 0)
 else if x.op = 4 then r.set x.a.toNat ((m.arrs.getD x.b.toNat []).getD ((r.getD x.c.toNat 0).tmod 4).toNat 0)
 else if x.op = 6 then r.set x.a.toNat (J9 x.b (r.getD x.c.toNat 0) (r.getD x.d.toNat 0))
 else if x.op = 7 then r.set x.a.toNat (if r.getD x.b.toNat 0 = 0 then r.getD x.d.toNat 0 else r.getD x.c.toNat 0)
 else if x.op = 10 then r.set x.a.toNat ((r.getD x.a.toNat 0 + 255).tmod 256)
 else r
def stM (m : t9) (x : d8) (r : List Int) : t9 :=
 if x.op = 3 then ⟨m.vals.set x.a.toNat (r.getD x.b.toNat 0), m.arrs⟩
 else if x.op = 5 then ⟨m.vals, m.arrs.set x.a.toNat ((m.arrs.getD x.a.toNat []).set ((r.getD x.b.toNat 0).tmod 4).toNat (r.getD x.c.toNat 0))⟩
 else m
def stE (x : d8) (r : List Int) : List (Int × Int) :=
 if x.op = 4 then [(2, x.b * 4 + (r.getD x.c.toNat 0).tmod 4)]
 else if x.op = 5 then [(3, x.a * 4 + (r.getD x.b.toNat 0).tmod 4)]
 else if x.op = 11 then [(4, r.getD x.a.toNat 0)]
 else []
def stP (x : d8) (r : List Int) (pc : Int) : Int :=
 if x.op = 8 then x.a
 else if x.op = 9 then (if r.getD x.a.toNat 0 = 0 then x.b else pc + 1)
 else if x.op = 10 then (if (r.getD x.a.toNat 0 + 255).tmod 256 = 0 then pc + 1 else x.b)
 else if x.op = 13 then pc
 else pc + 1
def C1 (c : b6) (s : o6) : d8 := t6 c s.pc.toNat
def i7 (c : b6) (s : o6) : o6 := ⟨stP (C1 c s) s.regs s.pc, stR s.mem (C1 c s) s.regs, stM s.mem (C1 c s) s.regs⟩
def E1 (c : b6) (s : o6) : List (Int × Int) := (5, s.pc) :: stE (C1 c s) s.regs
def M9 (c : b6) (s : o6) : Bool := decide ((C1 c s).op = 13)
def m9 (c : b6) (s : o6) : Nat → o6
 | 0 => s
 | n + 1 => i7 c (m9 c s n)
def H5 (c : b6) (s : o6) : Nat → List (Int × Int)
 | 0 => []
 | n + 1 => H5 c s n ++ E1 c (m9 c s n)
def Q4 (c : b6) (s : o6) : Bool := decide (0 ≤ s.pc) && (decide (s.pc < c.list.length) && (decide (s.regs.length = 14) && (F9 s.regs && G4 c.vars.length c.arrays.length s.mem)))
theorem U7 {c : b6} {s : o6} (h : Q4 c s = true) : 0 ≤ s.pc ∧ s.pc < c.list.length ∧ s.regs.length = 14 ∧ F9 s.regs = true ∧ G4 c.vars.length c.arrays.length s.mem = true := by
 unfold Q4 at h
 simpa [cb0] using h
theorem bh0 {c : b6} {s : o6} (h1 : 0 ≤ s.pc) (h2 : s.pc < c.list.length) (h3 : s.regs.length = 14) (h4 : F9 s.regs = true) (h5 : G4 c.vars.length c.arrays.length s.mem = true) : Q4 c s = true := by
 unfold Q4
 simp [*]
theorem bN3 {l : List Int} (h : ∀ x ∈ l, inV x) : F9 l = true := by
 unfold F9
 rw [cb9]
 intro x hx
 have := h x hx
 unfold inV at this
 simp [this]
theorem Y7 {l : List Int} (h : F9 l = true) {x : Int} (hx : inV x) (i : Nat) : F9 (l.set i x) = true := by
 refine bN3 fun y hy => ?_
 rcases List.mem_or_eq_of_mem_set hy with h1 | h1
 ·exact bN4 h y h1
 ·exact h1 ▸ hx
theorem Y8 {l : List Int} (h : F9 l = true) (i : Nat) : inV (l.getD i 0) := bZ4 (bN4 h) i
theorem bU3 {x n : Int} (h : 0 ≤ x) (hn : 0 < n) (h2 : n ≤ 256) : inV (x.tmod n) := by
 have := Int.tmod_lt_of_pos x hn
 have := Int.tmod_nonneg n h
 unfold inV; omega
theorem bD5 (m : t9) (x : d8) (r : List Int) : (stR m x r).length = r.length := by
 unfold stR
 repeat' split
 all_goals simp
theorem bD4 {c : b6} {m : t9} {x : d8} {r : List Int} (hx : x8 c x = true) (hm : G4 c.vars.length c.arrays.length m = true) (hr : F9 r = true) : F9 (stR m x r) = true := by
 obtain ⟨f1, f2, f3, f4⟩ := aD6 hm
 unfold stR
 split
 ·rename_i e
  refine Y7 hr ?_ _
  unfold x8 at hx
  simp only [cb0, decide_eq_true_eq] at hx
  obtain ⟨_, ⟨⟨_, hb⟩, _⟩, _⟩ := hx
  rw [e] at hb
  simp [l6, D7, K4] at hb
  exact hb
 split
 ·exact Y7 hr (Y8 f3 _) _
 split
 ·exact Y7 hr (bZ4 (b54 f4 _) _) _
 split
 ·have a := Y8 hr x.c.toNat
  have b := Y8 hr x.d.toNat
  exact Y7 hr (a06 a.1 a.2 b.1 b.2) _
 split
 ·refine Y7 hr ?_ _
  split <;> exact Y8 hr _
 split
 ·have a := Y8 hr x.a.toNat
  exact Y7 hr (bU3 (by have := a.1; omega) (by decide) (by decide)) _
 ·exact hr
theorem bT4 {a : List Int} (h1 : a.length = 4) (h2 : F9 a = true) : S9 a = true := by unfold S9; simp [h1, h2]
theorem bB7 {a : List Int} (h : S9 a = true) : a.length = 4 ∧ F9 a = true := by
 unfold S9 at h; simpa [cb0] using h
theorem bD7 {nv na : Nat} {m : t9} {r : List Int} (x : d8) (hm : G4 nv na m = true) (hr : F9 r = true) : G4 nv na (stM m x r) = true := by
 obtain ⟨f1, f2, f3, f4⟩ := aD6 hm
 have key : ∀ m' : t9, m'.vals.length = nv → m'.arrs.length = na → F9 m'.vals = true → m'.arrs.all S9 = true → G4 nv na m' = true := by
  intro m' h1 h2 h3 h4
  unfold G4; simp [h1, h2, h3]; simpa using h4
 unfold stM
 split
 ·exact key _ (by simp [f1]) f2 (Y7 f3 (Y8 hr _) _) f4
 split
 ·refine key _ f1 (by simp [f2]) f3 ?_
  rw [cb9] at f4 ⊢
  intro a ha
  rcases List.mem_or_eq_of_mem_set ha with h | h
  ·exact f4 a h
  ·subst h
   by_cases hl : x.a.toNat < m.arrs.length
   ·have := bB7 (f4 (m.arrs.getD x.a.toNat []) (by rw [cb3, ca8 hl]; exact cd1 hl))
    exact bT4 (by simp only [cd2]; exact this.1) (Y7 this.2 (Y8 hr _) _)
   ·rw [List.set_eq_of_length_le (by omega)] at ha
    exact f4 _ ha
 ·exact hm
theorem aZ9 {c : b6} {s : o6} (h0 : 0 ≤ s.pc) (h1 : s.pc < c.list.length) : C1 c s = c.list[s.pc.toNat]'(by omega) := B9 (by omega)
theorem ax9 {c : b6} {s : o6} (hc : e6 c = true) (h0 : 0 ≤ s.pc) (h1 : s.pc < c.list.length) : x8 c (C1 c s) = true := by
 rw [aZ9 h0 h1]; exact (i8 hc).2.2.2.1 _ (by omega)
theorem b81 {c : b6} {s : o6} (h0 : 0 ≤ s.pc) (h1 : s.pc < c.list.length) : nx c s.pc = H6 (C1 c s) s.pc := by
 rw [aZ9 h0 h1]; exact aY3 (by omega)
theorem br8 {x : d8} {r : List Int} {pc : Int} (h : x.op ≠ 13) : stP x r pc ∈ H6 x pc := by
 unfold stP H6
 rw [if_neg h]
 by_cases h8 : x.op = 8
 ·simp [h8]
 rw [if_neg h8, if_neg h8]
 by_cases h9 : x.op = 9
 ·rw [if_pos h9, if_pos (.inl h9)]; split <;> simp
 rw [if_neg h9]
 by_cases h10 : x.op = 10
 ·rw [if_pos h10, if_pos (.inr h10)]; split <;> simp
 rw [if_neg h10, if_neg h, if_neg (by omega)]; simp
theorem bD6 {x : d8} {r : List Int} {pc : Int} (h : x.op = 13) : stP x r pc = pc := by
 unfold stP
 rw [if_neg (by omega), if_neg (by omega), if_neg (by omega), if_pos h]
theorem be4 {c : b6} {s : o6} (hc : e6 c = true) (h0 : 0 ≤ s.pc) (h1 : s.pc < c.list.length) : (0 ≤ (i7 c s).pc ∧ (i7 c s).pc < c.list.length) ∧ ((i7 c s).pc = s.pc ∨ (i7 c s).pc ∈ nx c s.pc) := by
 by_cases h : (C1 c s).op = 13
 ·have : (i7 c s).pc = s.pc := bD6 h
  rw [this]; exact ⟨⟨h0, h1⟩, .inl rfl⟩
 ·have hn : (i7 c s).pc ∈ nx c s.pc := by rw [b81 h0 h1]; exact br8 h
  exact ⟨aB7 hc h0 hn, .inr hn⟩
theorem bD3 {c : b6} {s : o6} (hc : e6 c = true) (h : Q4 c s = true) : Q4 c (i7 c s) = true := by
 obtain ⟨h1, h2, h3, h4, h5⟩ := U7 h
 have hp := (be4 hc h1 h2).1
 exact bh0 hp.1 hp.2 ((bD5 _ _ _).trans h3) (bD4 (ax9 hc h1 h2) h5 h4) (bD7 _ h5 h4)
theorem af8 {c : b6} {s : o6} (hc : e6 c = true) (h : Q4 c s = true) : ∀ n, Q4 c (m9 c s n) = true
 | 0 => h
 | n + 1 => bD3 hc (af8 hc h n)
theorem bD8 (x : d8) (r : List Int) : (stE x r).length ≤ 1 := by
 unfold stE
 repeat' split
 all_goals simp
theorem aJ3 (c : b6) (s : o6) : (E1 c s).length ≤ 2 := by
 have := bD8 (C1 c s) s.regs
 unfold E1; simp; omega
theorem aA8 (c : b6) (s : o6) : ∀ n, (H5 c s n).length ≤ 2 * n
 | 0 => by simp [H5]
 | n + 1 => by
  have := aA8 c s n
  have := aJ3 c (m9 c s n)
  rw [H5, cb2]; omega
theorem bD2 {c : b6} {s : o6} (hc : e6 c = true) (h0 : 0 ≤ s.pc) (h1 : s.pc < c.list.length) (hr : Rc c s.pc) : Rc c (i7 c s).pc := by
 rcases (be4 hc h0 h1).2 with h | h
 ·rw [h]; exact hr
 ·exact .step hr h
def l5 (m : t9) : o6 := ⟨0, ca7 14 0, m⟩
theorem V8 {c : b6} {m : t9} (hc : e6 c = true) (h : G4 c.vars.length c.arrays.length m = true) : Q4 c (l5 m) = true := by
 have hn := (i8 hc).2.1
 exact bh0 (Int.le_refl _) (by show (0 : Int) < _; omega) rfl (show F9 (ca7 14 0) = true by decide) h
structure aH4 (c : b6) (m : t9) (n : Nat) : Prop where
 lt : n < 20000
 fin : M9 c (m9 c (l5 m) n) = true
 no : ∀ k, k < n → M9 c (m9 c (l5 m) k) = false
def bu1 (c : b6) (m : t9) (n : Nat) : t9 := (m9 c (l5 m) (n + 1)).mem
def aw2 (c : b6) (m : t9) (n : Nat) : List (Int × Int) := H5 c (l5 m) (n + 1)
theorem bF7 {c : b6} {m : t9} {n : Nat} (hn : n < 20000) (h : M9 c (m9 c (l5 m) n) = true) : ∃ k, k ≤ n ∧ aH4 c m k := by
 induction n using Nat.strongRecOn with
 | _ n ih =>
  by_cases hk : ∃ k, k < n ∧ M9 c (m9 c (l5 m) k) = true
  ·obtain ⟨k, h1, h2⟩ := hk
   obtain ⟨j, h3, h4⟩ := ih k h1 (by omega) h2
   exact ⟨j, by omega, h4⟩
  ·refine ⟨n, cb1 _, hn, h, fun k h1 => ?_⟩
   cases he : M9 c (m9 c (l5 m) k) with
   | false => rfl
   | true => exact absurd ⟨k, h1, he⟩ hk
theorem bt7 {c : b6} {m : t9} {n k : Nat} (h : aH4 c m n) (g : aH4 c m k) : n = k := by
 rcases Nat.lt_trichotomy n k with h1 | h1 | h1
 ·have := g.no n h1; rw [h.fin] at this; cases this
 ·exact h1
 ·have := h.no k h1; rw [g.fin] at this; cases this
theorem bF6 (c : b6) (m : t9) : (∃ n, aH4 c m n) ∨ ∀ k, k < 20000 → M9 c (m9 c (l5 m) k) = false := by
 by_cases h : ∃ k, k < 20000 ∧ M9 c (m9 c (l5 m) k) = true
 ·obtain ⟨k, h1, h2⟩ := h
  obtain ⟨j, _, h4⟩ := bF7 h1 h2
  exact .inl ⟨j, h4⟩
 ·right
  intro k h1
  cases he : M9 c (m9 c (l5 m) k) with
  | false => rfl
  | true => exact absurd ⟨k, h1, he⟩ h
def z6 (l : List (Int × Int)) : List (Int × Int) := l.filter fun e => decide (2 ≤ e.1) && decide (e.1 ≤ 4)
theorem K5 (l m : List (Int × Int)) : z6 (l ++ m) = z6 l ++ z6 m := List.filter_append ..
theorem W0 (c : b6) (s : o6) : z6 (E1 c s) = stE (C1 c s) s.regs := by
 unfold E1 z6 stE
 repeat' split
 all_goals rfl
theorem bf7 {c : b6} {m : t9} (hc : e6 c = true) (h : G4 c.vars.length c.arrays.length m = true) (n : Nat) : Rc c (m9 c (l5 m) n).pc := by
 induction n with
 | zero => exact .zero
 | succ n ih =>
  obtain ⟨h1, h2, -⟩ := U7 (af8 hc (V8 hc h) n)
  exact bD2 hc h1 h2 ih
section
variable {c : b6} {s : o6}
theorem C8 : i7 c s = ⟨stP (c.list.getD s.pc.toNat ca9) s.regs s.pc, stR s.mem (c.list.getD s.pc.toNat ca9) s.regs, stM s.mem (c.list.getD s.pc.toNat ca9) s.regs⟩ ∧ E1 c s = (5, s.pc) :: stE (c.list.getD s.pc.toNat ca9) s.regs := ⟨rfl, rfl⟩
theorem b44 (h : (c.list.getD s.pc.toNat ca9).op = 1) : i7 c s = ⟨s.pc + 1, s.regs.set (c.list.getD s.pc.toNat ca9).a.toNat (c.list.getD s.pc.toNat ca9).b, s.mem⟩ ∧ E1 c s = [(5, s.pc)] := by
 rw [C8.1, C8.2]; generalize (c.list.getD s.pc.toNat ca9) = x at *; simp [stP, stR, stM, stE, h]
theorem b43 (h : (c.list.getD s.pc.toNat ca9).op = 2) : i7 c s = ⟨s.pc + 1, s.regs.set (c.list.getD s.pc.toNat ca9).a.toNat (s.mem.vals.getD (c.list.getD s.pc.toNat ca9).b.toNat 0), s.mem⟩ ∧ E1 c s = [(5, s.pc)] := by
 rw [C8.1, C8.2]; generalize (c.list.getD s.pc.toNat ca9) = x at *; simp [stP, stR, stM, stE, h]
theorem b42 (h : (c.list.getD s.pc.toNat ca9).op = 3) : i7 c s = ⟨s.pc + 1, s.regs, ⟨s.mem.vals.set (c.list.getD s.pc.toNat ca9).a.toNat (s.regs.getD (c.list.getD s.pc.toNat ca9).b.toNat 0), s.mem.arrs⟩⟩ ∧ E1 c s = [(5, s.pc)] := by
 rw [C8.1, C8.2]; generalize (c.list.getD s.pc.toNat ca9) = x at *; simp [stP, stR, stM, stE, h]
theorem b41 (h : (c.list.getD s.pc.toNat ca9).op = 4) : i7 c s = ⟨s.pc + 1, s.regs.set (c.list.getD s.pc.toNat ca9).a.toNat ((s.mem.arrs.getD (c.list.getD s.pc.toNat ca9).b.toNat []).getD ((s.regs.getD (c.list.getD s.pc.toNat ca9).c.toNat 0).tmod 4).toNat 0), s.mem⟩ ∧ E1 c s = [(5, s.pc)] ++ [(2, (c.list.getD s.pc.toNat ca9).b * 4 + (s.regs.getD (c.list.getD s.pc.toNat ca9).c.toNat 0).tmod 4)] := by
 rw [C8.1, C8.2]; generalize (c.list.getD s.pc.toNat ca9) = x at *; simp [stP, stR, stM, stE, h]
theorem b40 (h : (c.list.getD s.pc.toNat ca9).op = 5) : i7 c s = ⟨s.pc + 1, s.regs, ⟨s.mem.vals, s.mem.arrs.set (c.list.getD s.pc.toNat ca9).a.toNat ((s.mem.arrs.getD (c.list.getD s.pc.toNat ca9).a.toNat []).set ((s.regs.getD (c.list.getD s.pc.toNat ca9).b.toNat 0).tmod 4).toNat (s.regs.getD (c.list.getD s.pc.toNat ca9).c.toNat 0))⟩⟩ ∧ E1 c s = [(5, s.pc)] ++ [(3, (c.list.getD s.pc.toNat ca9).a * 4 + (s.regs.getD (c.list.getD s.pc.toNat ca9).b.toNat 0).tmod 4)] := by
 rw [C8.1, C8.2]; generalize (c.list.getD s.pc.toNat ca9) = x at *; simp [stP, stR, stM, stE, h]
theorem b39 (h : (c.list.getD s.pc.toNat ca9).op = 6) : i7 c s = ⟨s.pc + 1, s.regs.set (c.list.getD s.pc.toNat ca9).a.toNat (J9 (c.list.getD s.pc.toNat ca9).b (s.regs.getD (c.list.getD s.pc.toNat ca9).c.toNat 0) (s.regs.getD (c.list.getD s.pc.toNat ca9).d.toNat 0)), s.mem⟩ ∧ E1 c s = [(5, s.pc)] := by
 rw [C8.1, C8.2]; generalize (c.list.getD s.pc.toNat ca9) = x at *; simp [stP, stR, stM, stE, h]
theorem aT0 (h : (c.list.getD s.pc.toNat ca9).op = 7) (h2 : ¬ s.regs.getD (c.list.getD s.pc.toNat ca9).b.toNat 0 = 0) : i7 c s = ⟨s.pc + 1, s.regs.set (c.list.getD s.pc.toNat ca9).a.toNat (s.regs.getD (c.list.getD s.pc.toNat ca9).c.toNat 0), s.mem⟩ ∧ E1 c s = [(5, s.pc)] := by
 rw [C8.1, C8.2]; generalize (c.list.getD s.pc.toNat ca9) = x at *; simp only [stP, stR, stM, stE, h, h2]; simp
theorem aT1 (h : (c.list.getD s.pc.toNat ca9).op = 7) (h2 : s.regs.getD (c.list.getD s.pc.toNat ca9).b.toNat 0 = 0) : i7 c s = ⟨s.pc + 1, s.regs.set (c.list.getD s.pc.toNat ca9).a.toNat (s.regs.getD (c.list.getD s.pc.toNat ca9).d.toNat 0), s.mem⟩ ∧ E1 c s = [(5, s.pc)] := by
 rw [C8.1, C8.2]; generalize (c.list.getD s.pc.toNat ca9) = x at *; simp only [stP, stR, stM, stE, h, h2]; simp
theorem b38 (h : (c.list.getD s.pc.toNat ca9).op = 8) : i7 c s = ⟨(c.list.getD s.pc.toNat ca9).a, s.regs, s.mem⟩ ∧ E1 c s = [(5, s.pc)] := by
 rw [C8.1, C8.2]; generalize (c.list.getD s.pc.toNat ca9) = x at *; simp [stP, stR, stM, stE, h]
theorem aS8 (h : (c.list.getD s.pc.toNat ca9).op = 9) (h2 : s.regs.getD (c.list.getD s.pc.toNat ca9).a.toNat 0 = 0) : i7 c s = ⟨(c.list.getD s.pc.toNat ca9).b, s.regs, s.mem⟩ ∧ E1 c s = [(5, s.pc)] := by
 rw [C8.1, C8.2]; generalize (c.list.getD s.pc.toNat ca9) = x at *; simp only [stP, stR, stM, stE, h, h2]; simp
theorem aS9 (h : (c.list.getD s.pc.toNat ca9).op = 9) (h2 : ¬ s.regs.getD (c.list.getD s.pc.toNat ca9).a.toNat 0 = 0) : i7 c s = ⟨s.pc + 1, s.regs, s.mem⟩ ∧ E1 c s = [(5, s.pc)] := by
 rw [C8.1, C8.2]; generalize (c.list.getD s.pc.toNat ca9) = x at *; simp only [stP, stR, stM, stE, h, h2]; simp
theorem ay4 (h : (c.list.getD s.pc.toNat ca9).op = 10) (h2 : ¬ (s.regs.getD (c.list.getD s.pc.toNat ca9).a.toNat 0 + 255).tmod 256 = 0) : i7 c s = ⟨(c.list.getD s.pc.toNat ca9).b, s.regs.set (c.list.getD s.pc.toNat ca9).a.toNat ((s.regs.getD (c.list.getD s.pc.toNat ca9).a.toNat 0 + 255).tmod 256), s.mem⟩ ∧ E1 c s = [(5, s.pc)] := by
 rw [C8.1, C8.2]; generalize (c.list.getD s.pc.toNat ca9) = x at *; simp only [stP, stR, stM, stE, h, h2]; simp
theorem ay5 (h : (c.list.getD s.pc.toNat ca9).op = 10) (h2 : (s.regs.getD (c.list.getD s.pc.toNat ca9).a.toNat 0 + 255).tmod 256 = 0) : i7 c s = ⟨s.pc + 1, s.regs.set (c.list.getD s.pc.toNat ca9).a.toNat ((s.regs.getD (c.list.getD s.pc.toNat ca9).a.toNat 0 + 255).tmod 256), s.mem⟩ ∧ E1 c s = [(5, s.pc)] := by
 rw [C8.1, C8.2]; generalize (c.list.getD s.pc.toNat ca9) = x at *; simp only [stP, stR, stM, stE, h, h2]; simp
theorem bU2 (h : (c.list.getD s.pc.toNat ca9).op = 11) : i7 c s = ⟨s.pc + 1, s.regs, s.mem⟩ ∧ E1 c s = [(5, s.pc)] ++ [(4, s.regs.getD (c.list.getD s.pc.toNat ca9).a.toNat 0)] := by
 rw [C8.1, C8.2]; generalize (c.list.getD s.pc.toNat ca9) = x at *; simp [stP, stR, stM, stE, h]
theorem bU1 (h : (c.list.getD s.pc.toNat ca9).op = 12) : i7 c s = ⟨s.pc + 1, s.regs, s.mem⟩ ∧ E1 c s = [(5, s.pc)] := by
 rw [C8.1, C8.2]; generalize (c.list.getD s.pc.toNat ca9) = x at *; simp [stP, stR, stM, stE, h]
theorem bU0 (h : (c.list.getD s.pc.toNat ca9).op = 13) : i7 c s = ⟨s.pc, s.regs, s.mem⟩ ∧ E1 c s = [(5, s.pc)] := by
 rw [C8.1, C8.2]; generalize (c.list.getD s.pc.toNat ca9) = x at *; simp [stP, stR, stM, stE, h]
theorem bK3 (hc : e6 c = true) (h : Q4 c s = true) : x8 c (c.list.getD s.pc.toNat ca9) = true := by
 obtain ⟨h1, h2, -⟩ := U7 h
 exact ax9 hc h1 h2
theorem bT8 (hc : e6 c = true) (h : Q4 c s = true) : 1 ≤ (c.list.getD s.pc.toNat ca9).op ∧ (c.list.getD s.pc.toNat ca9).op ≤ 13 := by
 have hx := bK3 hc h
 unfold x8 at hx
 simp only [cb0, decide_eq_true_eq] at hx
 exact hx.1
theorem bT9 (hc : e6 c = true) : c.arrays.length ≤ 2 ∧ c.vars.length ≤ 12 := by
 obtain ⟨h1, -⟩ := i8 hc
 unfold F0 at h1
 simp only [cb0, decide_eq_true_eq] at h1
 omega
theorem bN1 {l : List Int} {i : Nat} {v : Int} (h : i < l.length) : (l.set i v).getD i 0 = v := by
 rw [cb3, List.getElem?_set, if_pos rfl, if_pos h]; rfl
end
theorem bn5 (k x y : Int) (r0 : inV x) (r1 : inV y) : j9.ok Tryz.prog (fnC 100 [iA k, iA x, iA y] [] (iA (J9 k x y))) :=
 al2 fun φ w ρ h => (aQ5 k x y w r0.1 r0.2 r1.1 r1.2).mono fun e w' ⟨h1, h2⟩ => ⟨h1, h2 ▸ Below.refl _ _⟩
theorem tmV {x : Int} (h : inV x) : 0 ≤ x.tmod 4 ∧ x.tmod 4 < 4 := by
 have h1 : 0 ≤ x ∧ x ≤ 255 := h
 rw [Int.tmod_eq_emod_of_nonneg (by omega)]; omega
theorem aL5 (x y : Int) (r0 : 0 ≤ x ∧ x ≤ 1000) (r1 : inV y) : j9.ok Tryz.prog (fnC 99 [iA x, iA y] [] (iA (x * 4 + y.tmod 4))) := by
 refine K9 10 Tryz.func99 [] [(0, iA x), (1, iA y)] fun G => ?_; have htm := tmV r1; have hyy : 0 ≤ y ∧ y ≤ 255 := r1; refine wp_seq (m7 G f8 [(4, iA 0)] fun G => b0 (wp_seq (O0 G f8 [(4, iA (x * 4 + y.tmod 4))] [wO (x * 4), (4 : Int) ≠ 0, wO (x * 4 + y.tmod (4 : Int))] ⟨oW (by omega), (by omega), (oW (by omega)), cc2⟩ fun G => b0 (wp_ret ?_)))); exact L6 G []
section
variable {nv na d : Nat} {m : t9} {e : d9}
end
section
variable {m : t9} {e : d9}
theorem bW2 {nv na : Nat} (hm : G4 nv na m = true) {i : Int} (h0 : 0 ≤ i) (h1 : i < na) : (m.arrs.getD i.toNat []).length = 4 := by
 obtain ⟨f1, f2, f3, f4⟩ := aD6 hm
 have hi : i.toNat < m.arrs.length := by omega
 have := cb9.1 f4 (m.arrs.getD i.toNat []) (by rw [o8 hi]; exact cd1 hi)
 unfold S9 at this
 simp only [cb0, decide_eq_true_eq] at this
 exact this.1
end
abbrev kcS (c : b6) : List It := [dI c.vars, dI c.arrays, .dat (.instrs c.list)]
abbrev stI (s : o6) : List It := [.box [iA s.pc, .ref 1, .ref 2, .tref 3], .row 3 (.ints s.regs), .row 3 (.ints s.mem.vals), .tree (.rows s.mem.arrs)]
abbrev aT9 (c : b6) (s : o6) := s.regs.set (c.list.getD s.pc.toNat ca9).a.toNat ((s.regs.getD (c.list.getD s.pc.toNat ca9).a.toNat 0 + 255).tmod 256)
abbrev am5 (c : b6) (s : o6) := s.regs.getD (c.list.getD s.pc.toNat ca9).c.toNat 0
abbrev ay9 (c : b6) (s : o6) := s.regs.getD (c.list.getD s.pc.toNat ca9).b.toNat 0
abbrev C9 (c : b6) (s : o6) (E : List (Int × Int)) : List It := [.box [iA (i7 c s).pc, .ref 1, .ref 2, .tref 3], .row 3 (D.ints (i7 c s).regs), .row 3 (D.ints (i7 c s).mem.vals), .tree (D.rows (i7 c s).mem.arrs), dI c.vars, dI c.arrays, dN c.list, .row 71 (D.events E)]
abbrev aT8 (c : b6) (s : o6) : It := .box [iA (c.list.getD s.pc.toNat ca9).op, iA (c.list.getD s.pc.toNat ca9).a, iA (c.list.getD s.pc.toNat ca9).b, iA (c.list.getD s.pc.toNat ca9).c, iA (c.list.getD s.pc.toNat ca9).d]
abbrev J2 (s : o6) : It := .row 71 (D.events ([(5, s.pc)] ++ []))
abbrev P9 (s : o6) : It := .box [iA s.pc, .ref 1, .ref 2, .tref 3]
abbrev ae0 (s : o6) : It := .box [iA (s.pc + 1), .ref 1, .ref 2, .tref 3]
abbrev ad9 (c : b6) (s : o6) : AV := iA (c.list.getD s.pc.toNat ca9).op
abbrev bK4 (c : b6) (s : o6) : It := .row 3 (D.ints (s.regs.set (c.list.getD s.pc.toNat ca9).a.toNat (J9 (c.list.getD s.pc.toNat ca9).b (am5 c s) (s.regs.getD (c.list.getD s.pc.toNat ca9).d.toNat 0))))
abbrev D4 (c : b6) (s : o6) (r0 : List It) : List It := .row 3 (D.ints s.mem.vals) :: .tree (D.rows s.mem.arrs) :: dI c.vars :: dI c.arrays :: dN c.list :: r0
abbrev Y3 (s : o6) (r0 : List (Nat × AV)) : List (Nat × AV) := (0, .ptr 0 0) :: (4, .v (.slice none 0 0)) :: (5, .ptr 7 0) :: (6, .ref 1) :: (7, .ref 8) :: (8, iA (s.pc + 1)) :: r0
abbrev F3 (r0 : List (Nat × AV)) : List (Nat × AV) := (4, .v (.slice none 0 0)) :: (7, .ref 7) :: r0
theorem bO3 (c : b6) (s : o6) (hc : e6 c = true) (hs : Q4 c s = true) (E : List (Int × Int)) (hE : E1 c s = E) : j9.ok Tryz.prog ⟨84, [.ptr 0 0, pA 4], stI s ++ kcS c, stI (i7 c s) ++ kcS c ++ [.row 71 (.events E)], .ref 7⟩ := by
  refine K9 240 Tryz.func84 (P9 s :: .row 3 (D.ints s.regs) :: (D4 c s [])) [(0, .ptr 0 0), (1, pA 4)] fun G => ?_; obtain ⟨m1, m2, m3, m4, m5⟩ := U7 hs; have hop : 1 ≤ (c.list.getD s.pc.toNat ca9).op ∧ (c.list.getD s.pc.toNat ca9).op ≤ 13 := bT8 hc hs; have hn := (i8 hc).2.2.1; obtain ⟨f1, f11, f2, f3, f4, f5, f6, f7, f9, f10⟩ := a91 (x := c.list.getD s.pc.toNat ca9) (bK3 hc hs); obtain ⟨w1, w2, w3, w4⟩ := aD6 m5; have hna := bT9 hc
  have hrv := fun i => Y8 m4 i
  refine wp_seq (l0 G f8 (rg 8) (P9 s :: .row 3 (D.ints s.regs) :: (D4 c s [.box (pL 4)])) [(0, .ptr 0 0), (3, .ptr 7 0), (4, .v (.slice none 0 0))] fun G => b0 (wp_seq (L7 G f8 [0, 1, 0, 4, 12, 28, 63, 127, 0, 256, 768, 1792, 0, 4351, 16383] [0, 1, 2, 3, 4, 5, 6, 104] (P9 s :: .row 3 (D.ints s.regs) :: (D4 c s [aT8 c s])) [(0, .ptr 0 0), (4, .v (.slice none 0 0)), (5, .ptr 7 0), (6, .ref 1)] (iX s.pc s.pc.toNat c.list.length []) (iK (by omega) cc2) fun G => b0 (wp_seq (l0 G f8 [0, 1, 2, 3, 4, 5, 6, 7, 48] (P9 s :: .row 3 (D.ints s.regs) :: (D4 c s [aT8 c s, J2 s])) [(0, .ptr 0 0), (4, .v (.slice none 0 0)), (5, .ptr 7 0), (6, .ref 1), (7, .ref 8)] fun G => b0 (wp_seq (O0 G f8 [(8, iA (s.pc + 1))] [wO (s.pc + 1)] (o1 (by omega)) fun G => b0 (wp_seq (wp_seq (m7 G f8 [(35, ad9 c s)] fun G => b0 (wp_block (wp_seq (I8 G f8 (Y3 s [(35, ad9 c s), (36, bA ((c.list.getD s.pc.toNat ca9).op == 1))]) fun G => b0 ?_))))))))))))); cases h0 : ((c.list.getD s.pc.toNat ca9).op == 1)
  ·
   have q0 := ne_of_beq_false h0; refine rF G _ h0 (wp_seq (I8 G f8 (Y3 s [(35, ad9 c s), (44, bA ((c.list.getD s.pc.toNat ca9).op == 2))]) fun G => b0 ?_)); cases h1 : ((c.list.getD s.pc.toNat ca9).op == 2)
   ·
    have q1 := ne_of_beq_false h1; refine rF G _ h1 (wp_seq (I8 G f8 (Y3 s [(35, ad9 c s), (59, bA ((c.list.getD s.pc.toNat ca9).op == 3))]) fun G => b0 ?_)); cases h2 : ((c.list.getD s.pc.toNat ca9).op == 3)
    ·
     have q2 := ne_of_beq_false h2; refine rF G _ h2 (wp_seq (I8 G f8 (Y3 s [(35, ad9 c s), (74, bA ((c.list.getD s.pc.toNat ca9).op == 4))]) fun G => b0 ?_)); cases h3 : ((c.list.getD s.pc.toNat ca9).op == 4)
     ·
      have q3 := ne_of_beq_false h3; refine rF G _ h3 (wp_seq (I8 G f8 (Y3 s [(35, ad9 c s), (106, bA ((c.list.getD s.pc.toNat ca9).op == 5))]) fun G => b0 ?_)); cases h4 : ((c.list.getD s.pc.toNat ca9).op == 5)
      ·
       have q4 := ne_of_beq_false h4; refine rF G _ h4 (wp_seq (I8 G f8 (Y3 s [(35, ad9 c s), (138, bA ((c.list.getD s.pc.toNat ca9).op == 6))]) fun G => b0 ?_)); cases h5 : ((c.list.getD s.pc.toNat ca9).op == 6)
       ·
        have q5 := ne_of_beq_false h5; refine rF G _ h5 (wp_seq (I8 G f8 (Y3 s [(35, ad9 c s), (157, bA ((c.list.getD s.pc.toNat ca9).op == 7))]) fun G => b0 ?_)); cases h6 : ((c.list.getD s.pc.toNat ca9).op == 7)
        ·
         have q6 := ne_of_beq_false h6; refine rF G _ h6 (wp_seq (I8 G f8 (Y3 s [(35, ad9 c s), (183, bA ((c.list.getD s.pc.toNat ca9).op == 8))]) fun G => b0 ?_)); cases h7 : ((c.list.getD s.pc.toNat ca9).op == 8)
         ·
          have q7 := ne_of_beq_false h7; refine rF G _ h7 (wp_seq (I8 G f8 (Y3 s [(35, ad9 c s), (187, bA ((c.list.getD s.pc.toNat ca9).op == 9))]) fun G => b0 ?_)); cases h8 : ((c.list.getD s.pc.toNat ca9).op == 9)
          ·
           have q8 := ne_of_beq_false h8; refine rF G _ h8 (wp_seq (I8 G f8 (Y3 s [(35, ad9 c s), (197, bA ((c.list.getD s.pc.toNat ca9).op == 10))]) fun G => b0 ?_)); cases h9 : ((c.list.getD s.pc.toNat ca9).op == 10)
           ·
            have q9 := ne_of_beq_false h9; refine rF G _ h9 (wp_seq (I8 G f8 (Y3 s [(35, ad9 c s), (218, bA ((c.list.getD s.pc.toNat ca9).op == 11))]) fun G => b0 ?_)); cases h10 : ((c.list.getD s.pc.toNat ca9).op == 11)
            ·
             have q10 := ne_of_beq_false h10; refine rF G _ h10 (wp_seq (l0 G f8 [0, 1, 2, 3, 4, 5, 6, 8] (P9 s :: .row 3 (D.ints s.regs) :: (D4 c s [J2 s])) ((0, .ptr 0 0) :: (F3 [(8, iA (s.pc + 1)), (229, bA ((c.list.getD s.pc.toNat ca9).op == 13))])) fun G => b0 ?_)); cases h11 : ((c.list.getD s.pc.toNat ca9).op == 13)
             · have q11 := ne_of_beq_false h11; have hst := bU1 (c := c) (s := s) (show (c.list.getD s.pc.toNat ca9).op = 12 by omega); refine rF G _ h11 (wp_skip (t5 (b0 (wp_seq (l0 G f8 (rg 8) (ae0 s :: .row 3 (D.ints s.regs) :: (D4 c s [J2 s])) (F3 []) fun G => b0 (wp_seq (m7 G f8 [(4, .ref 7)] fun G => b0 (wp_ret ?_)))))))); exact L6 G (rg 8) (by show _ = mR (rg 8) (C9 c s E); unfold C9; have e1 : ((i7 c s).pc : Int) = (s.pc + 1) := (by rw [hst.1]); have e2 : ((i7 c s).regs : List Int) = (s.regs) := (by rw [hst.1]); have e3 : ((i7 c s).mem.vals : List Int) = (s.mem.vals) := (by rw [hst.1]); have e4 : ((i7 c s).mem.arrs : List (List Int)) = (s.mem.arrs) := (by rw [hst.1]); rw [e1, e2, e3, e4, ← hE, hst.2] <;> rfl)
             · have q11 := eq_of_beq h11; have hst := bU0 (c := c) (s := s) (show (c.list.getD s.pc.toNat ca9).op = 13 by omega); refine rT G _ h11 (m7 G f8 [(8, iA s.pc)] fun G => t5 (b0 (wp_seq (m7 G f8 [] fun G => b0 (wp_seq (m7 G f8 [(4, .ref 7)] fun G => b0 (wp_ret ?_))))))); exact L6 G (rg 8) (by show _ = mR (rg 8) (C9 c s E); unfold C9; have e1 : ((i7 c s).pc : Int) = (s.pc) := (by rw [hst.1]); have e2 : ((i7 c s).regs : List Int) = (s.regs) := (by rw [hst.1]); have e3 : ((i7 c s).mem.vals : List Int) = (s.mem.vals) := (by rw [hst.1]); have e4 : ((i7 c s).mem.arrs : List (List Int)) = (s.mem.arrs) := (by rw [hst.1]); rw [e1, e2, e3, e4, ← hE, hst.2] <;> rfl)
            · have q10 := eq_of_beq h10; have hst := bU2 (c := c) (s := s) (show (c.list.getD s.pc.toNat ca9).op = 11 by omega); have hfi := f11 (by omega); refine rT G _ h10 (V2 G f8 [0, 1, 2, 3, 4, 5, 6, 73] (P9 s :: .row 3 (D.ints s.regs) :: (D4 c s [.row 71 (D.events ([(5, s.pc)] ++ [] ++ ([(4, s.regs.getD (c.list.getD s.pc.toNat ca9).a.toNat 0)] ++ [])))])) ((0, .ptr 0 0) :: (F3 [(8, iA (s.pc + 1))])) (iX ((c.list.getD s.pc.toNat ca9).a) ((c.list.getD s.pc.toNat ca9).a.toNat) s.regs.length ((([((5 : Int), s.pc)] ++ []).length + ([((4 : Int), s.regs.getD (c.list.getD s.pc.toNat ca9).a.toNat (0 : Int))] ++ []).length ≤ (9223372036854775807 : Nat)) :: (((([((5 : Int), s.pc)] ++ []).length + ([((4 : Int), s.regs.getD (c.list.getD s.pc.toNat ca9).a.toNat (0 : Int))] ++ []).length) * (16 : Nat) ≤ (140737488355328 : Nat)) :: []))) (iK (by omega) ⟨(by simp [hc, hs, m4, m5, w3, w4, h0, h1, h2, h3, h4, h5, h6, h7, h8, h9, h10]), ⟨(by simp [hc, hs, m4, m5, w3, w4, h0, h1, h2, h3, h4, h5, h6, h7, h8, h9, h10]), cc2⟩⟩) fun G => t5 (b0 (wp_seq (l0 G f8 (rg 8) (ae0 s :: .row 3 (D.ints s.regs) :: (D4 c s [.row 71 (D.events ([(5, s.pc)] ++ [] ++ ([(4, s.regs.getD (c.list.getD s.pc.toNat ca9).a.toNat 0)] ++ [])))])) (F3 []) fun G => b0 (wp_seq (m7 G f8 [(4, .ref 7)] fun G => b0 (wp_ret ?_))))))); exact L6 G (rg 8) (by show _ = mR (rg 8) (C9 c s E); unfold C9; have e1 : ((i7 c s).pc : Int) = (s.pc + 1) := (by rw [hst.1]); have e2 : ((i7 c s).regs : List Int) = (s.regs) := (by rw [hst.1]); have e3 : ((i7 c s).mem.vals : List Int) = (s.mem.vals) := (by rw [hst.1]); have e4 : ((i7 c s).mem.arrs : List (List Int)) = (s.mem.arrs) := (by rw [hst.1]); rw [e1, e2, e3, e4, ← hE, hst.2] <;> rfl)
           ·
            have q9 := eq_of_beq h9; have hfi := f10 (by omega); have hv10 : 0 ≤ s.regs.getD (c.list.getD s.pc.toNat ca9).a.toNat 0 ∧ s.regs.getD (c.list.getD s.pc.toNat ca9).a.toNat 0 ≤ 255 := hrv _; have hgs := bN1 (l := s.regs) (i := (c.list.getD s.pc.toNat ca9).a.toNat) (v := (s.regs.getD (c.list.getD s.pc.toNat ca9).a.toNat 0 + 255).tmod 256) (by omega); refine rT G _ h9 (wp_seq (L7 G f8 [0, 0, 2, 0, 0, 16, 56, 120, 248, 504, 1023, 2047] (rg 9) (P9 s :: .row 3 (D.ints (aT9 c s)) :: (D4 c s [aT8 c s, J2 s])) (Y3 s []) (iX ((c.list.getD s.pc.toNat ca9).a) ((c.list.getD s.pc.toNat ca9).a.toNat) s.regs.length ((wO (s.regs.getD (c.list.getD s.pc.toNat ca9).a.toNat (0 : Int) + 255)) :: (((256 : Int) ≠ 0) :: (iX ((c.list.getD s.pc.toNat ca9).a) ((c.list.getD s.pc.toNat ca9).a.toNat) s.regs.length [])))) (iK (by omega) ⟨oW (by omega), ⟨(by omega), (iK (by omega) cc2)⟩⟩) fun G => b0 (wp_seq (O0 G f8 [(215, bA ((aT9 c s).getD (c.list.getD s.pc.toNat ca9).a.toNat 0 != 0))] (iX ((c.list.getD s.pc.toNat ca9).a) ((c.list.getD s.pc.toNat ca9).a.toNat) ((s.regs.set (c.list.getD s.pc.toNat ca9).a.toNat ((s.regs.getD (c.list.getD s.pc.toNat ca9).a.toNat (0 : Int) + 255).tmod (256 : Int))).length) []) (iK (by rw [cd2]; omega) cc2) fun G => b0 (rcN (u := ((s.regs.set (c.list.getD s.pc.toNat ca9).a.toNat ((s.regs.getD (c.list.getD s.pc.toNat ca9).a.toNat (0 : Int) + 255).tmod (256 : Int))).getD (c.list.getD s.pc.toNat ca9).a.toNat (0 : Int))) (v := (0 : Int)) G (fun h12 q12 => ?_) fun h12 q12 => ?_)))))
            · refine wp_skip (t5 (b0 (wp_seq (l0 G f8 [0, 1, 2, 3, 4, 5, 6, 8] (ae0 s :: .row 3 (D.ints (aT9 c s)) :: (D4 c s [J2 s])) (F3 []) fun G => b0 (wp_seq (m7 G f8 [(4, .ref 7)] fun G => b0 (wp_ret ?_))))))); exact L6 G (rg 8) (by show _ = mR (rg 8) (C9 c s E); unfold C9; have e1 : ((i7 c s).pc : Int) = (s.pc + 1) := (by rw [(ay5 (by omega) (by omega)).1]); have e2 : ((i7 c s).regs : List Int) = (s.regs.set (c.list.getD s.pc.toNat ca9).a.toNat ((s.regs.getD (c.list.getD s.pc.toNat ca9).a.toNat 0 + 255).tmod 256)) := (by rw [(ay5 (by omega) (by omega)).1]); have e3 : ((i7 c s).mem.vals : List Int) = (s.mem.vals) := (by rw [(ay5 (by omega) (by omega)).1]); have e4 : ((i7 c s).mem.arrs : List (List Int)) = (s.mem.arrs) := (by rw [(ay5 (by omega) (by omega)).1]); rw [e1, e2, e3, e4, ← hE, (ay5 (by omega) (by omega)).2] <;> rfl)
            · refine l0 G f8 [0, 1, 2, 3, 4, 5, 6, 8] (P9 s :: .row 3 (D.ints (aT9 c s)) :: (D4 c s [J2 s])) ((0, .ptr 0 0) :: (F3 [(8, iA (c.list.getD s.pc.toNat ca9).b)])) fun G => t5 (b0 (wp_seq (l0 G f8 (rg 8) (.box [iA (c.list.getD s.pc.toNat ca9).b, .ref 1, .ref 2, .tref 3] :: .row 3 (D.ints (aT9 c s)) :: (D4 c s [J2 s])) (F3 []) fun G => b0 (wp_seq (m7 G f8 [(4, .ref 7)] fun G => b0 (wp_ret ?_)))))); exact L6 G (rg 8) (by show _ = mR (rg 8) (C9 c s E); unfold C9; have e1 : ((i7 c s).pc : Int) = ((c.list.getD s.pc.toNat ca9).b) := (by rw [(ay4 (by omega) (by omega)).1]); have e2 : ((i7 c s).regs : List Int) = (s.regs.set (c.list.getD s.pc.toNat ca9).a.toNat ((s.regs.getD (c.list.getD s.pc.toNat ca9).a.toNat 0 + 255).tmod 256)) := (by rw [(ay4 (by omega) (by omega)).1]); have e3 : ((i7 c s).mem.vals : List Int) = (s.mem.vals) := (by rw [(ay4 (by omega) (by omega)).1]); have e4 : ((i7 c s).mem.arrs : List (List Int)) = (s.mem.arrs) := (by rw [(ay4 (by omega) (by omega)).1]); rw [e1, e2, e3, e4, ← hE, (ay4 (by omega) (by omega)).2] <;> rfl)
          ·
           have q8 := eq_of_beq h8; have hfi := f9 (by omega); refine rT G _ h8 (wp_seq (O0 G f8 [(194, bA (s.regs.getD (c.list.getD s.pc.toNat ca9).a.toNat 0 == 0))] (iX ((c.list.getD s.pc.toNat ca9).a) ((c.list.getD s.pc.toNat ca9).a.toNat) s.regs.length []) (iK (by omega) cc2) fun G => b0 (rcE G (fun h13 q13 => ?_) fun h13 q13 => ?_)))
           · refine wp_skip (t5 (b0 (wp_seq (l0 G f8 [0, 1, 2, 3, 4, 5, 6, 8] (ae0 s :: .row 3 (D.ints s.regs) :: (D4 c s [J2 s])) (F3 []) fun G => b0 (wp_seq (m7 G f8 [(4, .ref 7)] fun G => b0 (wp_ret ?_))))))); exact L6 G (rg 8) (by show _ = mR (rg 8) (C9 c s E); unfold C9; have e1 : ((i7 c s).pc : Int) = (s.pc + 1) := (by rw [(aS9 (by omega) (by omega)).1]); have e2 : ((i7 c s).regs : List Int) = (s.regs) := (by rw [(aS9 (by omega) (by omega)).1]); have e3 : ((i7 c s).mem.vals : List Int) = (s.mem.vals) := (by rw [(aS9 (by omega) (by omega)).1]); have e4 : ((i7 c s).mem.arrs : List (List Int)) = (s.mem.arrs) := (by rw [(aS9 (by omega) (by omega)).1]); rw [e1, e2, e3, e4, ← hE, (aS9 (by omega) (by omega)).2] <;> rfl)
           · refine l0 G f8 [0, 1, 2, 3, 4, 5, 6, 8] (P9 s :: .row 3 (D.ints s.regs) :: (D4 c s [J2 s])) ((0, .ptr 0 0) :: (F3 [(8, iA (c.list.getD s.pc.toNat ca9).b)])) fun G => t5 (b0 (wp_seq (l0 G f8 (rg 8) (.box [iA (c.list.getD s.pc.toNat ca9).b, .ref 1, .ref 2, .tref 3] :: .row 3 (D.ints s.regs) :: (D4 c s [J2 s])) (F3 []) fun G => b0 (wp_seq (m7 G f8 [(4, .ref 7)] fun G => b0 (wp_ret ?_)))))); exact L6 G (rg 8) (by show _ = mR (rg 8) (C9 c s E); unfold C9; have e1 : ((i7 c s).pc : Int) = ((c.list.getD s.pc.toNat ca9).b) := (by rw [(aS8 (by omega) (by omega)).1]); have e2 : ((i7 c s).regs : List Int) = (s.regs) := (by rw [(aS8 (by omega) (by omega)).1]); have e3 : ((i7 c s).mem.vals : List Int) = (s.mem.vals) := (by rw [(aS8 (by omega) (by omega)).1]); have e4 : ((i7 c s).mem.arrs : List (List Int)) = (s.mem.arrs) := (by rw [(aS8 (by omega) (by omega)).1]); rw [e1, e2, e3, e4, ← hE, (aS8 (by omega) (by omega)).2] <;> rfl)
         · have q7 := eq_of_beq h7; have hst := b38 (c := c) (s := s) (show (c.list.getD s.pc.toNat ca9).op = 8 by omega); refine rT G _ h7 (l0 G f8 [0, 1, 2, 3, 4, 5, 6, 8] (P9 s :: .row 3 (D.ints s.regs) :: (D4 c s [J2 s])) ((0, .ptr 0 0) :: (F3 [(8, iA (c.list.getD s.pc.toNat ca9).a)])) fun G => t5 (b0 (wp_seq (l0 G f8 (rg 8) (.box [iA (c.list.getD s.pc.toNat ca9).a, .ref 1, .ref 2, .tref 3] :: .row 3 (D.ints s.regs) :: (D4 c s [J2 s])) (F3 []) fun G => b0 (wp_seq (m7 G f8 [(4, .ref 7)] fun G => b0 (wp_ret ?_))))))); exact L6 G (rg 8) (by show _ = mR (rg 8) (C9 c s E); unfold C9; have e1 : ((i7 c s).pc : Int) = ((c.list.getD s.pc.toNat ca9).a) := (by rw [hst.1]); have e2 : ((i7 c s).regs : List Int) = (s.regs) := (by rw [hst.1]); have e3 : ((i7 c s).mem.vals : List Int) = (s.mem.vals) := (by rw [hst.1]); have e4 : ((i7 c s).mem.arrs : List (List Int)) = (s.mem.arrs) := (by rw [hst.1]); rw [e1, e2, e3, e4, ← hE, hst.2] <;> rfl)
        ·
         have q6 := eq_of_beq h6; have hfi := f7 (by omega); refine rT G _ h6 (wp_seq (O0 G f8 [(164, bA (s.regs.getD (c.list.getD s.pc.toNat ca9).b.toNat 0 != 0))] (iX ((c.list.getD s.pc.toNat ca9).b) ((c.list.getD s.pc.toNat ca9).b.toNat) s.regs.length []) (iK (by omega) cc2) fun G => b0 (rcN G (fun h14 q14 => ?_) fun h14 q14 => ?_)))
         · refine L7 G f8 [0, 0, 2, 0, 0, 16, 56, 120, 255, 511] [0, 1, 2, 3, 4, 5, 6, 8] (P9 s :: .row 3 (D.ints (s.regs.set (c.list.getD s.pc.toNat ca9).a.toNat (s.regs.getD (c.list.getD s.pc.toNat ca9).d.toNat 0))) :: (D4 c s [J2 s])) ((0, .ptr 0 0) :: (F3 [(8, iA (s.pc + 1))])) (iX ((c.list.getD s.pc.toNat ca9).d) ((c.list.getD s.pc.toNat ca9).d.toNat) s.regs.length (iX ((c.list.getD s.pc.toNat ca9).a) ((c.list.getD s.pc.toNat ca9).a.toNat) s.regs.length [])) (iK (by omega) (iK (by omega) cc2)) fun G => t5 (b0 (wp_seq (l0 G f8 (rg 8) (ae0 s :: .row 3 (D.ints (s.regs.set (c.list.getD s.pc.toNat ca9).a.toNat (s.regs.getD (c.list.getD s.pc.toNat ca9).d.toNat 0))) :: (D4 c s [J2 s])) (F3 []) fun G => b0 (wp_seq (m7 G f8 [(4, .ref 7)] fun G => b0 (wp_ret ?_)))))); exact L6 G (rg 8) (by show _ = mR (rg 8) (C9 c s E); unfold C9; have e1 : ((i7 c s).pc : Int) = (s.pc + 1) := (by rw [(aT1 (by omega) (by omega)).1]); have e2 : ((i7 c s).regs : List Int) = (s.regs.set (c.list.getD s.pc.toNat ca9).a.toNat (s.regs.getD (c.list.getD s.pc.toNat ca9).d.toNat 0)) := (by rw [(aT1 (by omega) (by omega)).1]); have e3 : ((i7 c s).mem.vals : List Int) = (s.mem.vals) := (by rw [(aT1 (by omega) (by omega)).1]); have e4 : ((i7 c s).mem.arrs : List (List Int)) = (s.mem.arrs) := (by rw [(aT1 (by omega) (by omega)).1]); rw [e1, e2, e3, e4, ← hE, (aT1 (by omega) (by omega)).2] <;> rfl)
         · refine L7 G f8 [0, 0, 2, 0, 0, 16, 56, 120, 255, 511] [0, 1, 2, 3, 4, 5, 6, 8] (P9 s :: .row 3 (D.ints (s.regs.set (c.list.getD s.pc.toNat ca9).a.toNat (am5 c s))) :: (D4 c s [J2 s])) ((0, .ptr 0 0) :: (F3 [(8, iA (s.pc + 1))])) (iX ((c.list.getD s.pc.toNat ca9).c) ((c.list.getD s.pc.toNat ca9).c.toNat) s.regs.length (iX ((c.list.getD s.pc.toNat ca9).a) ((c.list.getD s.pc.toNat ca9).a.toNat) s.regs.length [])) (iK (by omega) (iK (by omega) cc2)) fun G => t5 (b0 (wp_seq (l0 G f8 (rg 8) (ae0 s :: .row 3 (D.ints (s.regs.set (c.list.getD s.pc.toNat ca9).a.toNat (am5 c s))) :: (D4 c s [J2 s])) (F3 []) fun G => b0 (wp_seq (m7 G f8 [(4, .ref 7)] fun G => b0 (wp_ret ?_)))))); exact L6 G (rg 8) (by show _ = mR (rg 8) (C9 c s E); unfold C9; have e1 : ((i7 c s).pc : Int) = (s.pc + 1) := (by rw [(aT0 (by omega) (by omega)).1]); have e2 : ((i7 c s).regs : List Int) = (s.regs.set (c.list.getD s.pc.toNat ca9).a.toNat (s.regs.getD (c.list.getD s.pc.toNat ca9).c.toNat 0)) := (by rw [(aT0 (by omega) (by omega)).1]); have e3 : ((i7 c s).mem.vals : List Int) = (s.mem.vals) := (by rw [(aT0 (by omega) (by omega)).1]); have e4 : ((i7 c s).mem.arrs : List (List Int)) = (s.mem.arrs) := (by rw [(aT0 (by omega) (by omega)).1]); rw [e1, e2, e3, e4, ← hE, (aT0 (by omega) (by omega)).2] <;> rfl)
       · have q5 := eq_of_beq h5; have hst := b39 (c := c) (s := s) (show (c.list.getD s.pc.toNat ca9).op = 6 by omega); have hfi := f6 (by omega); refine rT G _ h5 (L7 G (A4 15 [] (bn5 ((c.list.getD s.pc.toNat ca9).b) (s.regs.getD (c.list.getD s.pc.toNat ca9).c.toNat 0) (s.regs.getD (c.list.getD s.pc.toNat ca9).d.toNat 0) (hrv _) (hrv _))) [0, 0, 2, 0, 8, 0, 0, 64, 224, 480, 0, 0, 2048, 7168, 15360, 32760, 65535, 131071] [0, 1, 2, 3, 4, 5, 6, 8] (P9 s :: bK4 c s :: (D4 c s [J2 s])) ((0, .ptr 0 0) :: (F3 [(8, iA (s.pc + 1))])) (iX ((c.list.getD s.pc.toNat ca9).c) ((c.list.getD s.pc.toNat ca9).c.toNat) s.regs.length (iX ((c.list.getD s.pc.toNat ca9).d) ((c.list.getD s.pc.toNat ca9).d.toNat) s.regs.length (iX ((c.list.getD s.pc.toNat ca9).a) ((c.list.getD s.pc.toNat ca9).a.toNat) s.regs.length []))) (iK (by omega) (iK (by omega) (iK (by omega) cc2))) fun G => t5 (b0 (wp_seq (l0 G f8 (rg 8) (ae0 s :: bK4 c s :: (D4 c s [J2 s])) (F3 []) fun G => b0 (wp_seq (m7 G f8 [(4, .ref 7)] fun G => b0 (wp_ret ?_))))))); exact L6 G (rg 8) (by show _ = mR (rg 8) (C9 c s E); unfold C9; have e1 : ((i7 c s).pc : Int) = (s.pc + 1) := (by rw [hst.1]); have e2 : ((i7 c s).regs : List Int) = (s.regs.set (c.list.getD s.pc.toNat ca9).a.toNat (J9 (c.list.getD s.pc.toNat ca9).b (s.regs.getD (c.list.getD s.pc.toNat ca9).c.toNat 0) (s.regs.getD (c.list.getD s.pc.toNat ca9).d.toNat 0))) := (by rw [hst.1]); have e3 : ((i7 c s).mem.vals : List Int) = (s.mem.vals) := (by rw [hst.1]); have e4 : ((i7 c s).mem.arrs : List (List Int)) = (s.mem.arrs) := (by rw [hst.1]); rw [e1, e2, e3, e4, ← hE, hst.2] <;> rfl)
      ·
       have q4 := eq_of_beq h4; have hst := b40 (c := c) (s := s) (show (c.list.getD s.pc.toNat ca9).op = 5 by omega); have hfi := f5 (by omega); have hr4 := bW2 m5 (i := (c.list.getD s.pc.toNat ca9).a) (by omega) (by omega); have htm := tmV (hrv (c.list.getD s.pc.toNat ca9).b.toNat); refine rT G _ h4 (wp_seq (O0 G f8 [(10, iA (ay9 c s))] (iX ((c.list.getD s.pc.toNat ca9).b) ((c.list.getD s.pc.toNat ca9).b.toNat) s.regs.length []) (iK (by omega) cc2) fun G => b0 (wp_seq (V2 G (A4 4 [] (aL5 ((c.list.getD s.pc.toNat ca9).a) (s.regs.getD (c.list.getD s.pc.toNat ca9).b.toNat 0) (by omega) (hrv _))) [0, 1, 2, 3, 4, 5, 6, 7, 65] (P9 s :: .row 3 (D.ints s.regs) :: (D4 c s [aT8 c s, .row 71 (D.events ([(5, s.pc)] ++ [] ++ ([(3, (c.list.getD s.pc.toNat ca9).a * 4 + (ay9 c s).tmod 4)] ++ [])))])) (Y3 s [(10, iA (ay9 c s))]) [([((5 : Int), s.pc)] ++ []).length + ([((3 : Int), (c.list.getD s.pc.toNat ca9).a * 4 + (s.regs.getD (c.list.getD s.pc.toNat ca9).b.toNat (0 : Int)).tmod (4 : Int))] ++ []).length ≤ (9223372036854775807 : Nat), (([((5 : Int), s.pc)] ++ []).length + ([((3 : Int), (c.list.getD s.pc.toNat ca9).a * 4 + (s.regs.getD (c.list.getD s.pc.toNat ca9).b.toNat (0 : Int)).tmod (4 : Int))] ++ []).length) * (16 : Nat) ≤ (140737488355328 : Nat)] ⟨(by simp [hc, hs, m4, m5, w3, w4, h0, h1, h2, h3, h4]), (by simp [hc, hs, m4, m5, w3, w4, h0, h1, h2, h3, h4]), cc2⟩ fun G => b0 (L7 G f8 [0, 1, 3, 7, 15, 0, 32, 127, 255, 0, 512, 0, 0, 4096, 14336, 30720, 65535, 131071] [0, 1, 2, 3, 4, 5, 6, 8, 73] [.box [iA s.pc, .ref 1, .ref 2, .tref 3], .row 3 (D.ints s.regs), .row 3 (D.ints s.mem.vals), .hole 8 (c.list.getD s.pc.toNat ca9).a.toNat s.mem.arrs, dI c.vars, dI c.arrays, dN c.list, .row 71 (D.events ([(5, s.pc)] ++ [] ++ ([(3, (c.list.getD s.pc.toNat ca9).a * 4 + (s.regs.getD (c.list.getD s.pc.toNat ca9).b.toNat 0).tmod 4)] ++ []))), .row 3 (D.ints ((s.mem.arrs.getD (c.list.getD s.pc.toNat ca9).a.toNat []).set ((s.regs.getD (c.list.getD s.pc.toNat ca9).b.toNat 0).tmod 4).toNat (s.regs.getD (c.list.getD s.pc.toNat ca9).c.toNat 0)))] ((0, .ptr 0 0) :: (F3 [(8, iA (s.pc + 1))])) (iX ((c.list.getD s.pc.toNat ca9).a) ((c.list.getD s.pc.toNat ca9).a.toNat) s.mem.arrs.length (((4 : Int) ≠ 0) :: (iX ((c.list.getD s.pc.toNat ca9).c) ((c.list.getD s.pc.toNat ca9).c.toNat) s.regs.length (iX ((s.regs.getD (c.list.getD s.pc.toNat ca9).b.toNat (0 : Int)).tmod (4 : Int)) (((s.regs.getD (c.list.getD s.pc.toNat ca9).b.toNat (0 : Int)).tmod (4 : Int)).toNat) ((s.mem.arrs.getD (c.list.getD s.pc.toNat ca9).a.toNat []).length) [])))) (iK (by omega) ⟨(by omega), (iK (by omega) (iK (by omega) cc2))⟩) fun G => ?_))))); replace G := G.heal 3 8 ((c.list.getD s.pc.toNat ca9).a.toNat) s.mem.arrs ((s.mem.arrs.getD (c.list.getD s.pc.toNat ca9).a.toNat []).set ((s.regs.getD (c.list.getD s.pc.toNat ca9).b.toNat 0).tmod 4).toNat (s.regs.getD (c.list.getD s.pc.toNat ca9).c.toNat 0)) [.box [iA s.pc, .ref 1, .ref 2, .tref 3], .row 3 (D.ints s.regs), .row 3 (D.ints s.mem.vals), .tree (D.rows (s.mem.arrs.set (c.list.getD s.pc.toNat ca9).a.toNat ((s.mem.arrs.getD (c.list.getD s.pc.toNat ca9).a.toNat []).set ((s.regs.getD (c.list.getD s.pc.toNat ca9).b.toNat 0).tmod 4).toNat (s.regs.getD (c.list.getD s.pc.toNat ca9).c.toNat 0)))), dI c.vars, dI c.arrays, dN c.list, .row 71 (D.events ([(5, s.pc)] ++ [] ++ ([(3, (c.list.getD s.pc.toNat ca9).a * 4 + (s.regs.getD (c.list.getD s.pc.toNat ca9).b.toNat 0).tmod 4)] ++ []))), .dead]
       refine t5 (b0 (wp_seq (l0 G f8 (rg 8) [ae0 s, .row 3 (D.ints s.regs), .row 3 (D.ints s.mem.vals), .tree (D.rows (s.mem.arrs.set (c.list.getD s.pc.toNat ca9).a.toNat ((s.mem.arrs.getD (c.list.getD s.pc.toNat ca9).a.toNat []).set ((ay9 c s).tmod 4).toNat (am5 c s)))), dI c.vars, dI c.arrays, dN c.list, .row 71 (D.events ([(5, s.pc)] ++ [] ++ ([(3, (c.list.getD s.pc.toNat ca9).a * 4 + (ay9 c s).tmod 4)] ++ [])))] (F3 []) fun G => b0 (wp_seq (m7 G f8 [(4, .ref 7)] fun G => b0 (wp_ret ?_)))))); exact L6 G (rg 8) (by show _ = mR (rg 8) (C9 c s E); unfold C9; have e1 : ((i7 c s).pc : Int) = (s.pc + 1) := (by rw [hst.1]); have e2 : ((i7 c s).regs : List Int) = (s.regs) := (by rw [hst.1]); have e3 : ((i7 c s).mem.vals : List Int) = (s.mem.vals) := (by rw [hst.1]); have e4 : ((i7 c s).mem.arrs : List (List Int)) = (s.mem.arrs.set (c.list.getD s.pc.toNat ca9).a.toNat ((s.mem.arrs.getD (c.list.getD s.pc.toNat ca9).a.toNat []).set ((s.regs.getD (c.list.getD s.pc.toNat ca9).b.toNat 0).tmod 4).toNat (s.regs.getD (c.list.getD s.pc.toNat ca9).c.toNat 0))) := (by rw [hst.1]); rw [e1, e2, e3, e4, ← hE, hst.2] <;> rfl)
     ·
      have q3 := eq_of_beq h3; have hst := b41 (c := c) (s := s) (show (c.list.getD s.pc.toNat ca9).op = 4 by omega); have hfi := f4 (by omega); have hr4 := bW2 m5 (i := (c.list.getD s.pc.toNat ca9).b) (by omega) (by omega); have htm := tmV (hrv (c.list.getD s.pc.toNat ca9).c.toNat); refine rT G _ h3 (wp_seq (O0 G f8 [(9, iA (am5 c s))] (iX ((c.list.getD s.pc.toNat ca9).c) ((c.list.getD s.pc.toNat ca9).c.toNat) s.regs.length []) (iK (by omega) cc2) fun G => b0 (wp_seq (V2 G (A4 4 [] (aL5 ((c.list.getD s.pc.toNat ca9).b) (s.regs.getD (c.list.getD s.pc.toNat ca9).c.toNat 0) (by omega) (hrv _))) [0, 1, 2, 3, 4, 5, 6, 7, 65] (P9 s :: .row 3 (D.ints s.regs) :: (D4 c s [aT8 c s, .row 71 (D.events ([(5, s.pc)] ++ [] ++ ([(2, (c.list.getD s.pc.toNat ca9).b * 4 + (am5 c s).tmod 4)] ++ [])))])) (Y3 s [(9, iA (am5 c s))]) [([((5 : Int), s.pc)] ++ []).length + ([((2 : Int), (c.list.getD s.pc.toNat ca9).b * 4 + (s.regs.getD (c.list.getD s.pc.toNat ca9).c.toNat (0 : Int)).tmod (4 : Int))] ++ []).length ≤ (9223372036854775807 : Nat), (([((5 : Int), s.pc)] ++ []).length + ([((2 : Int), (c.list.getD s.pc.toNat ca9).b * 4 + (s.regs.getD (c.list.getD s.pc.toNat ca9).c.toNat (0 : Int)).tmod (4 : Int))] ++ []).length) * (16 : Nat) ≤ (140737488355328 : Nat)] ⟨(by simp [hc, hs, m4, m5, w3, w4, h0, h1, h2, h3]), (by simp [hc, hs, m4, m5, w3, w4, h0, h1, h2, h3]), cc2⟩ fun G => b0 (L7 G f8 [0, 0, 2, 0, 8, 24, 56, 120, 0, 256, 1016, 2040, 0, 4096, 16376, 32760, 65535, 131071] [0, 1, 2, 3, 4, 5, 6, 8, 97] [.box [iA s.pc, .ref 1, .ref 2, .tref 3], .row 3 (D.ints (s.regs.set (c.list.getD s.pc.toNat ca9).a.toNat ((s.mem.arrs.getD (c.list.getD s.pc.toNat ca9).b.toNat []).getD ((s.regs.getD (c.list.getD s.pc.toNat ca9).c.toNat 0).tmod 4).toNat 0))), .row 3 (D.ints s.mem.vals), .hole 8 (c.list.getD s.pc.toNat ca9).b.toNat s.mem.arrs, dI c.vars, dI c.arrays, dN c.list, .row 71 (D.events ([(5, s.pc)] ++ [] ++ ([(2, (c.list.getD s.pc.toNat ca9).b * 4 + (s.regs.getD (c.list.getD s.pc.toNat ca9).c.toNat 0).tmod 4)] ++ []))), .row 3 (D.ints (s.mem.arrs.getD (c.list.getD s.pc.toNat ca9).b.toNat []))] ((0, .ptr 0 0) :: (F3 [(8, iA (s.pc + 1))])) (iX ((c.list.getD s.pc.toNat ca9).b) ((c.list.getD s.pc.toNat ca9).b.toNat) s.mem.arrs.length (((4 : Int) ≠ 0) :: (iX ((s.regs.getD (c.list.getD s.pc.toNat ca9).c.toNat (0 : Int)).tmod (4 : Int)) (((s.regs.getD (c.list.getD s.pc.toNat ca9).c.toNat (0 : Int)).tmod (4 : Int)).toNat) ((s.mem.arrs.getD (c.list.getD s.pc.toNat ca9).b.toNat []).length) (iX ((c.list.getD s.pc.toNat ca9).a) ((c.list.getD s.pc.toNat ca9).a.toNat) s.regs.length [])))) (iK (by omega) ⟨(by omega), (iK (by omega) (iK (by omega) cc2))⟩) fun G => ?_))))); replace G := G.heal0 3 8 ((c.list.getD s.pc.toNat ca9).b.toNat) s.mem.arrs (.box [iA s.pc, .ref 1, .ref 2, .tref 3] :: .row 3 (D.ints (s.regs.set (c.list.getD s.pc.toNat ca9).a.toNat ((s.mem.arrs.getD (c.list.getD s.pc.toNat ca9).b.toNat []).getD ((s.regs.getD (c.list.getD s.pc.toNat ca9).c.toNat 0).tmod 4).toNat 0))) :: (D4 c s [.row 71 (D.events ([(5, s.pc)] ++ [] ++ ([(2, (c.list.getD s.pc.toNat ca9).b * 4 + (s.regs.getD (c.list.getD s.pc.toNat ca9).c.toNat 0).tmod 4)] ++ []))), .dead]))
      refine t5 (b0 (wp_seq (l0 G f8 (rg 8) (ae0 s :: .row 3 (D.ints (s.regs.set (c.list.getD s.pc.toNat ca9).a.toNat ((s.mem.arrs.getD (c.list.getD s.pc.toNat ca9).b.toNat []).getD ((am5 c s).tmod 4).toNat 0))) :: (D4 c s [.row 71 (D.events ([(5, s.pc)] ++ [] ++ ([(2, (c.list.getD s.pc.toNat ca9).b * 4 + (am5 c s).tmod 4)] ++ [])))])) (F3 []) fun G => b0 (wp_seq (m7 G f8 [(4, .ref 7)] fun G => b0 (wp_ret ?_)))))); exact L6 G (rg 8) (by show _ = mR (rg 8) (C9 c s E); unfold C9; have e1 : ((i7 c s).pc : Int) = (s.pc + 1) := (by rw [hst.1]); have e2 : ((i7 c s).regs : List Int) = (s.regs.set (c.list.getD s.pc.toNat ca9).a.toNat ((s.mem.arrs.getD (c.list.getD s.pc.toNat ca9).b.toNat []).getD ((s.regs.getD (c.list.getD s.pc.toNat ca9).c.toNat 0).tmod 4).toNat 0)) := (by rw [hst.1]); have e3 : ((i7 c s).mem.vals : List Int) = (s.mem.vals) := (by rw [hst.1]); have e4 : ((i7 c s).mem.arrs : List (List Int)) = (s.mem.arrs) := (by rw [hst.1]); rw [e1, e2, e3, e4, ← hE, hst.2] <;> rfl)
    · have q2 := eq_of_beq h2; have hst := b42 (c := c) (s := s) (show (c.list.getD s.pc.toNat ca9).op = 3 by omega); have hfi := f3 (by omega); refine rT G _ h2 (L7 G f8 [0, 1, 3, 7, 15, 0, 32, 0, 0, 256, 896, 1920, 4095, 8191] [0, 1, 2, 3, 4, 5, 6, 8] [P9 s, .row 3 (D.ints s.regs), .row 3 (D.ints (s.mem.vals.set (c.list.getD s.pc.toNat ca9).a.toNat (ay9 c s))), .tree (D.rows s.mem.arrs), dI c.vars, dI c.arrays, dN c.list, J2 s] ((0, .ptr 0 0) :: (F3 [(8, iA (s.pc + 1))])) (iX ((c.list.getD s.pc.toNat ca9).b) ((c.list.getD s.pc.toNat ca9).b.toNat) s.regs.length (iX ((c.list.getD s.pc.toNat ca9).a) ((c.list.getD s.pc.toNat ca9).a.toNat) s.mem.vals.length [])) (iK (by omega) (iK (by omega) cc2)) fun G => t5 (b0 (wp_seq (l0 G f8 (rg 8) [ae0 s, .row 3 (D.ints s.regs), .row 3 (D.ints (s.mem.vals.set (c.list.getD s.pc.toNat ca9).a.toNat (ay9 c s))), .tree (D.rows s.mem.arrs), dI c.vars, dI c.arrays, dN c.list, J2 s] (F3 []) fun G => b0 (wp_seq (m7 G f8 [(4, .ref 7)] fun G => b0 (wp_ret ?_))))))); exact L6 G (rg 8) (by show _ = mR (rg 8) (C9 c s E); unfold C9; have e1 : ((i7 c s).pc : Int) = (s.pc + 1) := (by rw [hst.1]); have e2 : ((i7 c s).regs : List Int) = (s.regs) := (by rw [hst.1]); have e3 : ((i7 c s).mem.vals : List Int) = (s.mem.vals.set (c.list.getD s.pc.toNat ca9).a.toNat (s.regs.getD (c.list.getD s.pc.toNat ca9).b.toNat 0)) := (by rw [hst.1]); have e4 : ((i7 c s).mem.arrs : List (List Int)) = (s.mem.arrs) := (by rw [hst.1]); rw [e1, e2, e3, e4, ← hE, hst.2] <;> rfl)
   · have q1 := eq_of_beq h1; have hst := b43 (c := c) (s := s) (show (c.list.getD s.pc.toNat ca9).op = 2 by omega); have hfi := f2 (by omega); refine rT G _ h1 (L7 G f8 [0, 0, 2, 0, 8, 24, 56, 120, 0, 256, 1016, 2040, 4095, 8191] [0, 1, 2, 3, 4, 5, 6, 8] (P9 s :: .row 3 (D.ints (s.regs.set (c.list.getD s.pc.toNat ca9).a.toNat (s.mem.vals.getD (c.list.getD s.pc.toNat ca9).b.toNat 0))) :: (D4 c s [J2 s])) ((0, .ptr 0 0) :: (F3 [(8, iA (s.pc + 1))])) (iX ((c.list.getD s.pc.toNat ca9).b) ((c.list.getD s.pc.toNat ca9).b.toNat) s.mem.vals.length (iX ((c.list.getD s.pc.toNat ca9).a) ((c.list.getD s.pc.toNat ca9).a.toNat) s.regs.length [])) (iK (by omega) (iK (by omega) cc2)) fun G => t5 (b0 (wp_seq (l0 G f8 (rg 8) (ae0 s :: .row 3 (D.ints (s.regs.set (c.list.getD s.pc.toNat ca9).a.toNat (s.mem.vals.getD (c.list.getD s.pc.toNat ca9).b.toNat 0))) :: (D4 c s [J2 s])) (F3 []) fun G => b0 (wp_seq (m7 G f8 [(4, .ref 7)] fun G => b0 (wp_ret ?_))))))); exact L6 G (rg 8) (by show _ = mR (rg 8) (C9 c s E); unfold C9; have e1 : ((i7 c s).pc : Int) = (s.pc + 1) := (by rw [hst.1]); have e2 : ((i7 c s).regs : List Int) = (s.regs.set (c.list.getD s.pc.toNat ca9).a.toNat (s.mem.vals.getD (c.list.getD s.pc.toNat ca9).b.toNat 0)) := (by rw [hst.1]); have e3 : ((i7 c s).mem.vals : List Int) = (s.mem.vals) := (by rw [hst.1]); have e4 : ((i7 c s).mem.arrs : List (List Int)) = (s.mem.arrs) := (by rw [hst.1]); rw [e1, e2, e3, e4, ← hE, hst.2] <;> rfl)
  · have q0 := eq_of_beq h0; have hst := b44 (c := c) (s := s) (show (c.list.getD s.pc.toNat ca9).op = 1 by omega); have hfi := f1 (by omega); refine rT G _ h0 (V2 G f8 [0, 1, 2, 3, 4, 5, 6, 8] (P9 s :: .row 3 (D.ints (s.regs.set (c.list.getD s.pc.toNat ca9).a.toNat (c.list.getD s.pc.toNat ca9).b)) :: (D4 c s [J2 s])) ((0, .ptr 0 0) :: (F3 [(8, iA (s.pc + 1))])) (iX ((c.list.getD s.pc.toNat ca9).a) ((c.list.getD s.pc.toNat ca9).a.toNat) s.regs.length []) (iK (by omega) cc2) fun G => t5 (b0 (wp_seq (l0 G f8 (rg 8) (ae0 s :: .row 3 (D.ints (s.regs.set (c.list.getD s.pc.toNat ca9).a.toNat (c.list.getD s.pc.toNat ca9).b)) :: (D4 c s [J2 s])) (F3 []) fun G => b0 (wp_seq (m7 G f8 [(4, .ref 7)] fun G => b0 (wp_ret ?_))))))); exact L6 G (rg 8) (by show _ = mR (rg 8) (C9 c s E); unfold C9; have e1 : ((i7 c s).pc : Int) = (s.pc + 1) := (by rw [hst.1]); have e2 : ((i7 c s).regs : List Int) = (s.regs.set (c.list.getD s.pc.toNat ca9).a.toNat (c.list.getD s.pc.toNat ca9).b) := (by rw [hst.1]); have e3 : ((i7 c s).mem.vals : List Int) = (s.mem.vals) := (by rw [hst.1]); have e4 : ((i7 c s).mem.arrs : List (List Int)) = (s.mem.arrs) := (by rw [hst.1]); rw [e1, e2, e3, e4, ← hE, hst.2] <;> rfl)
theorem bS9 (c : b6) (s : o6) (hc : e6 c = true) (hs : Q4 c s = true) : j9.ok Tryz.prog ⟨84, [.ptr 0 0, pA 4], stI s ++ kcS c, stI (i7 c s) ++ kcS c ++ [.row 71 (.events (E1 c s))], .ref 7⟩ := bO3 c s hc hs _ rfl
theorem b25 (c : b6) : j9.ok Tryz.prog (fnC 12 [pA 0] (kcS c) (bA (e6 c))) :=
 al2 fun φ w ρ h => (ag3 _ c w ⟨ρ 0, ρ 1, ρ 2, rfl, l9.row (h 0 _ rfl), l9.row (h 1 _ rfl), l9.row (h 2 _ rfl)⟩).mono fun e w' h => h
abbrev smO (s : o6) : List It := [.row 3 (.ints s.regs), .row 3 (.ints s.mem.vals), .tree (.rows s.mem.arrs)]
theorem bA9 (c : b6) (m : t9) : j9.ok Tryz.prog (fnC 82 [.ref 0, .ref 1, mA 2] [dI c.vars, dI c.arrays, dI m.vals, dR m.arrs] (bA (G4 c.vars.length c.arrays.length m))) := bc0 c.vars c.arrays m.vals m.arrs
structure Pub (vs ars : List Int) (a b : t9) : Prop where
 v : ∀ i : Nat, zB 1 (vs.getD i 0) = false → a.vals.getD i 0 = b.vals.getD i 0
 a : ∀ i : Nat, zB 1 (ars.getD i 0) = false → a.arrs.getD i [] = b.arrs.getD i []
theorem bO2 (b : List UInt8) {bit : Int} (p : j8) (m : t9) {j : Int} (hv : m.vals.length = p.vars.length) (ha : m.arrs.length = p.arrays.length) (h1 : F9 m.vals = true) (h2 : m.arrs.all S9 = true) (r0 : 0 ≤ j) (r1 : j + m.vals.length + 4 * m.arrs.length ≤ 1000000000) : G4 p.vars.length p.arrays.length (scM b bit p m j).1 = true := by
 have a1 := aJ5 b bit p.vars j m.vals m.vals.length
 have a2 := aA4 b bit p.arrays (A6 b bit p.vars j m.vals m.vals.length).2 m.arrs m.arrs.length
 unfold G4 scM
 dsimp only
 rw [aO0 b bit p.vars m.vals h1 r0 _ (by omega), bf3 b bit p.arrays m.arrs h2 (by omega) _ (by omega), a1.1, a2.1, decide_eq_true hv, decide_eq_true ha]
 rfl
theorem bl7 (w : World) : j5 (fun _ => True) (fun _ => True) w w (l7 (fun _ : Empty => Rs.none) (fun _ => undef) (o0 [])) := by
 refine (j5.start (ι := Empty ⊕ Nat) (w0 := w) (φ := fun _ => True) (ψ := fun _ => True) fun _ _ => trivial).map (fun k => some k) (fun k k' i a b => by cases a; cases b; rfl) fun k => ?_
 cases k with
 | inl e => exact e.elim
 | inr j => exact .inr rfl
theorem bp2 (w : World) : Agr (fun _ => True) (Y0 (fun _ => True) (l7 (fun _ : Empty => Rs.none) (fun _ => undef) (o0 []))) w w := Agr.mono fun b _ _ => ⟨cc2, fun i => by
 cases i with
 | inl e => exact e.elim
 | inr j => exact fun h => h.elim⟩
abbrev u8s (c : List UInt8) : List Value := c.map fun b => Value.int .u8 (b.toNat : Int)
theorem bo6 {P : Program} {f : FuncId} {x : Value} {c : List UInt8} {post : List It} (hc : j9.ok P ⟨f, [.ref 0], [dY c], post, .v x⟩) (u : Value) (w : World) (hp : l9 w (fun _ => True) u c.length 1 (u8s c)) :
  Calls P f #[u] w fun e w' => e = .returned x ∧ Below w.heap.size w w' := by
 obtain ⟨ρ', g1, M2, g2⟩ := j5.dats [.sl (.bytes c)] [u] 0 (bl7 w) ⟨RD.nice (.bytes c) _ _ _ _ _ (bp2 w) hp, cc2⟩ (fun _ _ => rfl) (fun _ _ _ => rfl)
 have e : l8 (o0 []) (T1 [.sl (.bytes c)] 0) = o0 [dY c] := by
  funext j
  match j with
  | 0 => rfl
  | j + 1 => simp [T1, l8, o0]
 rw [e] at M2
 simp only [xav, AV.vals, AV.val, List.cons.injEq, and_true] at g2
 subst g2
 refine (hc Empty _ _ w w _ ρ' M2).mono ?_
 rintro e w' ⟨ρ2, -, rfl, M3⟩
 exact ⟨rfl, M3.below fun _ _ => trivial⟩
structure Okd (p q : j8) (m : t9) : Prop where
 bp : v7 p.body ≤ 1048576
 bq : v7 q.body ≤ 1048576
 qv : q.vars.length ≤ 1000000
 mv : m.vals.length ≤ 1000000
 ma : m.arrs.length ≤ 1000000
 mi : ∀ l ∈ m.arrs, l.length ≤ 1000
section
variable {p : j8} {e : d9}
end
theorem bw3 (b : List UInt8) {j : Int} (nv na : Nat) (r0 : 0 ≤ j) (r1 : j + nv + 4 * na ≤ 100000000) : (mmD b j nv na).vals.length = nv ∧ (mmD b j nv na).arrs.length = na ∧ F9 (mmD b j nv na).vals = true ∧ (mmD b j nv na).arrs.all S9 = true := by
 refine ⟨ak4 _ _ _, bB8 _ _ _, a50 b r0 nv (by omega), ?_⟩
 rw [cb9]
 intro x hx
 unfold S9
 rw [cb0]
 refine ⟨by rw [b35 _ _ _ x hx]; rfl, ?_⟩
 obtain ⟨k, hk, rfl⟩ := ar_mem hx
 exact a50 b (by omega) 4 (by omega)
where
 ar_mem {b : List UInt8} {j : Int} {n : Nat} {x : List Int} (h : x ∈ arD b j n) : ∃ k : Nat, k < n ∧ vlD b (j + 4 * k) 4 = x := by
  unfold arD at h
  obtain ⟨i, hi, rfl⟩ := List.mem_map.1 h
  exact ⟨i, ce9.1 hi, rfl⟩
theorem bn7 (xs ys : List Int) (l : List d8) : j9.ok Tryz.prog ⟨24, [pA 0], [dI xs, dI ys, dN l], [dI xs, dI ys, dN l], .agg [.ref 0, .ref 1, .v (.slice none 0 0)]⟩ := by
 refine K9 8 Tryz.func24 [dI xs, dI ys, dN l] [(0, pA 0)] fun G => ?_; refine wp_seq (l0 G f8 [0, 1, 2, 3, 11] [dI xs, dI ys, dN l, .box (pL 0), .box [.v (.slice none 0 0), .v (.slice none 0 0), .v (.slice none 0 0)]] [(1, .ptr 3 0), (2, .ptr 4 0)] fun G => b0 (wp_seq (l0 G f8 [0, 1, 2, 4] [dI xs, dI ys, dN l, .box [.ref 0, .ref 1, .v (.slice none 0 0)]] [(2, .ptr 3 0)] fun G => b0 (wp_ret ?_)))); exact L6 G [0, 1, 2]
abbrev crC (f : FuncId) (c : List UInt8) (k : b6) (m m2 : t9) : j9 := ⟨f, [.ref 0], [dY c], [dY c] ++ kcS k ++ mS m ++ mS m2, .tup [pA 1, mA 4, mA 6]⟩
abbrev aj3 : It := .box [.v (.slice none 0 0), .v (.slice none 0 0)]
abbrev aT7 : It := .box [.v (.slice none 0 0), .v (.slice none 0 0), .v (.slice none 0 0)]
abbrev bp4 (j2 : Int) (r0 : List It) : List It := .box [.v (.slice none 0 0), .v (.slice none 0 0), .v (.slice none 0 0)] :: .box [.v (.slice none 0 0), .v (.slice none 0 0)] :: .box [.v (.slice none 0 0), .v (.slice none 0 0)] :: .box [.ref 5, iA j2] :: r0
abbrev aH7 (r0 : List (Nat × AV)) : List (Nat × AV) := (2, .ptr 1 0) :: (3, .ptr 2 0) :: (4, .ptr 3 0) :: (5, .ptr 4 0) :: (6, .ptr 9 0) :: r0
theorem bt3 (c b : List UInt8) (kv ka v u : List Int) (kl l : List d8) (xs : List Int) (rs : List (List Int)) (m2 : t9) (j1 j2 j3 j4 : Int)
  (h0 : j9.ok Tryz.prog ⟨21, [.ref 0], [dY c], [dY c, .box [.ref 2, iA 0], dY b], .ptr 1 0⟩)
  (h1 : j9.ok Tryz.prog ⟨23, [.ptr 0 0], [.box [.ref 1, iA 0], dY b], [.box [.ref 1, iA j1], dY b, rI kv, rI ka, rN kl], pA 2⟩)
  (h2 : j9.ok Tryz.prog ⟨22, [.ptr 0 0, pA 2], [.box [.ref 1, iA j1], dY b, dI kv, dI ka, dN kl], [.box [.ref 1, iA j2], dY b, dI kv, dI ka, dN kl, rI v, rI u, rN l], pA 5⟩)
  (h3 : j9.ok Tryz.prog ⟨25, [.ptr 0 0, pA 2], [.box [.ref 1, iA j2], dY b, dI v, dI u, dT []], [.box [.ref 1, iA j3], dY b, dI v, dI u, dT [], dI xs, dR rs], mA 5⟩)
  (h4 : j9.ok Tryz.prog ⟨26, [.ptr 0 0, pA 2, mA 5, iA 1], [.box [.ref 1, iA j3], dY b, dI v, dI u, dT [], dI xs, dR rs], [.box [.ref 1, iA j4], dY b, dI v, dI u, dT [], dI xs, dR rs] ++ mO m2, mT 7⟩) : j9.ok Tryz.prog (crC 7 c ⟨v, u, l⟩ ⟨xs, rs⟩ m2) := by
 have ho := h0; have hju := h1; have hmu := h2; have hme := h3; have hse := h4; refine K9 26 Tryz.func7 [dY c] [(0, .ref 0)] fun G => ?_; refine wp_seq (l0 G f8 [0, 1, 9, 17] [dY c, aT7, aj3, aj3] [(0, .ref 0), (2, .ptr 1 0), (3, .ptr 2 0), (4, .ptr 3 0)] fun G => b0 (wp_seq (l0 G (A4 1 [0] ho) [0, 1, 2, 3, 12, 13] [dY c, aT7, aj3, aj3, .box [.ref 5, iA 0], dY b] [(2, .ptr 1 0), (3, .ptr 2 0), (4, .ptr 3 0), (5, .ptr 4 0)] fun G => b0 (wp_seq (l0 G (X7 (H7 2 [4, 5] hju (H7 3 [4, 5, 22, 23, 24] (j9.lend hmu [.no, .no, .row 3, .row 3, .row 60]) X6)) fz []) [0, 1, 2, 3, 4, 5, 30, 31, 32, 38] [dY c, aT7, aj3, aj3, .box [.ref 5, iA j2], dY b, .row 3 (D.ints v), .row 3 (D.ints u), .row 60 (D.instrs l), .box (pL 6)] (aH7 []) fun G => b0 (wp_seq ?_)))))); obtain ⟨ρ, G⟩ := G.frz [.no, .no, .no, .no, .no, .no, .row 3, .row 3, .row 60] (dY c :: (bp4 j2 [dY b, dI v, dI u, dN l, .box (pL 6)])) (aH7 []); refine l0 G (A4 1 [6, 7, 8] (bn7 v u l)) [0, 1, 2, 3, 4, 5, 6, 7, 8, 9, 26] [dY c, aT7, aj3, aj3, .box [.ref 5, iA j2], dY b, dI v, dI u, dN l, .box (pL 6), .box [.ref 6, .ref 7, .v (.slice none 0 0)]] (aH7 [(7, .ptr 10 0)]) fun G => b0 (wp_seq ?_); obtain ⟨ρ, G⟩ := G.nilT 11 (.stmts []) (dY c :: (bp4 j2 [dY b, dI v, dI u, dN l, .box (pL 6), .box [.ref 6, .ref 7, .tref 11]])) (aH7 [(7, .ptr 10 0)]); obtain ⟨ρ, G⟩ := G.frz [.no, .no, .no, .no, .no, .no, .no, .no, .no, .no, .no, .tree] (dY c :: (bp4 j2 [dY b, dI v, dI u, dN l, .box (pL 6), .box [.ref 6, .ref 7, .ref 11], dT []])) (aH7 [(7, .ptr 10 0)]); refine l0 G (A4 2 [4, 5, 6, 7, 11] hme) [0, 1, 2, 3, 4, 5, 6, 7, 8, 9, 10, 11, 28, 29, 36] [dY c, aT7, aj3, aj3, .box [.ref 5, iA j3], dY b, dI v, dI u, dN l, .box (pL 6), .box [.ref 6, .ref 7, .ref 11], dT [], dI xs, dR rs, .box [.ref 12, .ref 13]] (aH7 [(7, .ptr 10 0), (8, .ptr 14 0)]) fun G => b0 (wp_seq (bu2 G (A4 5 [4, 5, 6, 7, 11, 12, 13] hse) [0, 0, 0, 0, 0, 28, 61, 127, 255] [0, 1, 2, 3, 6, 7, 8, 12, 13, 55, 56] [dY c, .box (pL 4), .box [.ref 7, .ref 8], .box [.ref 9, .tref 10], dI v, dI u, dN l, dI xs, dR rs, .row 3 (D.ints m2.vals), .tree (D.rows m2.arrs)] [(2, .ptr 1 0), (3, .ptr 2 0), (4, .ptr 3 0)] fun G => b0 (wp_ret ?_))); obtain ⟨ρ, G⟩ := G.frz [.no, .no, .no, .no, .no, .no, .no, .no, .no, .row 3, .tree] [dY c, .box (pL 4), .box [.ref 7, .ref 8], .box [.ref 9, .ref 10], dI v, dI u, dN l, dI xs, dR rs, dI m2.vals, dR m2.arrs] [(2, .ptr 1 0), (3, .ptr 2 0), (4, .ptr 3 0)]
 exact L6 G [0, 4, 5, 6, 7, 8, 9, 10]
theorem bX7 (b : List UInt8) {j : Int} (nv na : Nat) (r0 : 0 ≤ j) (r1 : j + nv + 4 * na ≤ 100000000) : G4 nv na (mmD b j nv na) = true := by
 obtain ⟨h1, h2, h3, h4⟩ := bw3 b (j := j) nv na r0 r1
 unfold G4
 rw [h3, h4, decide_eq_true h1, decide_eq_true h2]; rfl
theorem bz4 (c : List UInt8) : ∃ (k : b6) (m m2 : t9), (k.vars.length ≤ 1000 ∧ k.arrays.length ≤ 1000 ∧ k.list.length ≤ 400) ∧ G4 k.vars.length k.arrays.length m = true ∧ G4 k.vars.length k.arrays.length m2 = true ∧ j9.ok Tryz.prog (crC 7 c k m m2) := by
 have h0 := bo5 c
 have h1 := bn6 (bsD c) 0 (by omega) (by omega)
 have hj := jp0 (bsD c)
 generalize jpD (bsD c) 0 = x at *
 obtain ⟨⟨kv, ka, kl⟩, j1⟩ := x
 dsimp only at h1 hj
 have h2 := bb1 (bsD c) j1 kv ka kl ⟨by omega, by omega, by omega⟩ (by omega) (by omega)
 have hm := b88 (bsD c) j1 ⟨kv, ka, kl⟩
 unfold muC at h2
 generalize muD (bsD c) j1 ⟨kv, ka, kl⟩ = y at *
 obtain ⟨⟨v, u, l⟩, j2⟩ := y
 dsimp only at h2 hm
 have h3 := bb3 (bsD c) j2 v u [] (by omega) (by omega) (by omega) (by omega)
 have hf := bw3 (bsD c) (j := j2) v.length u.length (by omega) (by omega)
 have hok := bX7 (bsD c) (j := j2) v.length u.length (by omega) (by omega)
 have h4 := fun hi => a31 (bsD c) (j2 + v.length + 4 * u.length) 1 v u [] (mmD (bsD c) j2 v.length u.length).vals (mmD (bsD c) j2 v.length u.length).arrs hf.1 hf.2.1 hf.2.2.2 (by omega) (by omega) ⟨by omega, by omega⟩ hi
 have h4 := h4 fun a ha => by
  have := cb9.1 hf.2.2.2 a ha
  unfold S9 at this
  rw [cb0, decide_eq_true_eq] at this
  omega
 have hs := bO2 (bsD c) (bit := 1) ⟨v, u, []⟩ (mmD (bsD c) j2 v.length u.length) (j := j2 + v.length + 4 * u.length) hf.1 hf.2.1 hf.2.2.1 hf.2.2.2 (by omega) (by omega)
 exact ⟨⟨v, u, l⟩, _, _, ⟨by dsimp only; omega, by dsimp only; omega, by dsimp only; omega⟩, hok, hs, bt3 c (bsD c) kv ka v u kl l _ _ _ j1 j2 _ _ h0 h1 h2 h3 h4⟩
theorem bT0 (l e : List (Int × Int)) (pc : Int) (h1 : l.length ≤ 1000000) (h2 : e.length ≤ 1000000) : j9.ok Tryz.prog ⟨62, [iA pc, .ref 2, .ptr 0 0], [.box [.ref 1], .row 71 (.events l), .dat (.events e)], [.box [.ref 3], .dead, .dat (.events e), .row 71 (.events (l ++ e))], .tup []⟩ := by
 refine K9 8 Tryz.func62 [.box [.ref 1], .row 71 (D.events l), dV e] [(0, iA pc), (1, .ref 2), (2, .ptr 0 0)] fun G => ?_; refine V2 G f8 [0, 1, 2, 19] [.box [.ref 3], .dead, dV e, .row 71 (D.events (l ++ e))] [] (aP (l.length + e.length) 16 []) (aK (by omega) cc2) fun G => ?_; exact b51 G (rg 4)
structure bc5 (c : b6) (s : o6) (n : Nat) (b : Bool) : Prop where
 le : n ≤ 20000
 no : ∀ k, k + 1 < n → M9 c (m9 c s k) = false
 yes : b = true → ∃ k, n = k + 1 ∧ M9 c (m9 c s k) = true
 non : b = false → n = 20000 ∧ ∀ k, k < 20000 → M9 c (m9 c s k) = false
theorem bR6 {c : b6} {s : o6} {n k : Nat} {b : Bool} (h : bc5 c s n b) (hk : k < 20000) (hp : ∀ j, j < k → M9 c (m9 c s j) = false) (he : M9 c (m9 c s k) = true) : n = k + 1 ∧ b = true := by
 cases b with
 | false => have := (h.non rfl).2 k hk; rw [he] at this; cases this
 | true =>
  obtain ⟨j, h1, h2⟩ := h.yes rfl
  refine ⟨?_, rfl⟩
  rcases Nat.lt_trichotomy j k with h3 | h3 | h3
  ·rw [hp j h3] at h2; cases h2
  ·omega
  ·have := h.no k (by omega); rw [he] at this; cases this
theorem bR7 {c : b6} {s : o6} {n : Nat} {b : Bool} (h : bc5 c s n b) (hp : ∀ j, j < 20000 → M9 c (m9 c s j) = false) : n = 20000 ∧ b = false := by
 cases b with
 | false => exact ⟨(h.non rfl).1, rfl⟩
 | true =>
  obtain ⟨j, h1, h2⟩ := h.yes rfl
  have := hp j (by have := h.le; omega)
  rw [h2] at this; cases this
theorem bR9 {c : b6} {s : o6} (h : (c.list.getD s.pc.toNat ca9).op = 13) : M9 c s = true := decide_eq_true h
theorem bR8 {c : b6} {s : o6} (h : ¬ (c.list.getD s.pc.toNat ca9).op = 13) : M9 c s = false := decide_eq_false h
theorem bH2 {c : b6} {s : o6} {k : Nat} (hp : ∀ j, j < k → M9 c (m9 c s j) = false) (h : ¬ (c.list.getD (m9 c s k).pc.toNat ca9).op = 13) : ∀ j, j < k + 1 → M9 c (m9 c s j) = false := by
 intro j hj
 by_cases e : j = k
 ·subst e; exact bR8 h
 ·exact hp j (by omega)
theorem bm2 {c : b6} {s : o6} {n k : Nat} {b : Bool} (h : bc5 c s n b) (hp : ∀ j, j < k → M9 c (m9 c s j) = false) (h1 : k ≤ 20000) (h2 : 20000 ≤ k) : m9 c s n = m9 c s k ∧ H5 c s n = H5 c s k ∧ b = false := by
 obtain rfl : k = 20000 := by omega
 obtain ⟨rfl, rfl⟩ := bR7 h hp
 exact ⟨rfl, rfl, rfl⟩
theorem bm1 {c : b6} {s : o6} {n k : Nat} {b : Bool} (h : bc5 c s n b) (hp : ∀ j, j < k → M9 c (m9 c s j) = false) (hk : k < 20000) (he : (c.list.getD (m9 c s k).pc.toNat ca9).op = 13) : m9 c s n = i7 c (m9 c s k) ∧ H5 c s n = H5 c s k ++ E1 c (m9 c s k) ∧ b = true := by
 obtain ⟨rfl, rfl⟩ := bR6 h hk hp (bR9 he)
 exact ⟨rfl, rfl, rfl⟩
abbrev bd2 (c : b6) (s : o6) (n : Nat) : List It := [.box [iA (m9 c s n).pc, .ref 1, .ref 2, .tref 3], .row 3 (D.ints (m9 c s n).regs), .row 3 (D.ints (m9 c s n).mem.vals), .tree (D.rows (m9 c s n).mem.arrs), dI c.vars, dI c.arrays, dN c.list, .box [.ref 9], .dead, .row 71 (D.events (H5 c s n))]
abbrev aH8 (r0 : List (Nat × AV)) : List (Nat × AV) := (1, .ptr 0 0) :: (2, .fn 62 [.ptr 7 0]) :: (3, .ptr 9 0) :: (6, bA false) :: r0
abbrev bp9 (c : b6) (s : o6) (r0 : List It) : List It := .box [iA s.pc, .ref 1, .ref 2, .tref 3] :: .row 3 (D.ints s.regs) :: .row 3 (D.ints s.mem.vals) :: .tree (D.rows s.mem.arrs) :: dI c.vars :: dI c.arrays :: dN c.list :: r0
theorem aL4 (c : b6) (s : o6) (n : Nat) (b : Bool) (hc : e6 c = true) (hs : Q4 c s = true) (hE : bc5 c s n b) : j9.ok Tryz.prog ⟨61, [pA 4, .ptr 0 0, .fn 62 [.ptr 7 0]], stI s ++ kcS c ++ [.box [.ref 8], .row 71 (.events [])], stI (m9 c s n) ++ kcS c ++ [.box [.ref 9], .dead, .row 71 (.events (H5 c s n))], bA b⟩ := by
  refine K9 28 Tryz.func61 (bp9 c s [.box [.ref 8], .row 71 (D.events [])]) [(0, pA 4), (1, .ptr 0 0), (2, .fn 62 [.ptr 7 0])] fun G => ?_; refine wp_seq (l0 G f8 (rg 10) (bp9 c s [.box [.ref 8], .row 71 (D.events []), .box (pL 4)]) (aH8 []) fun G => b0 (wp_seq (wp_seq (I8 G f8 (aH8 [(8, iA 0)]) fun G => b0 (wp_block ?_))))); obtain ⟨ρ, G⟩ := G.shift 8 10 (bp9 c s [.box [.ref 10], .dead, .box (pL 4), .row 71 (D.events [])]) (aH8 [(8, iA 0)]); refine A8 (κ := Nat) (fun k => k ≤ 20000 ∧ ∀ j, j < k → M9 c (m9 c s j) = false) (fun k => 20000 - k) (fun k => [.box [iA (m9 c s k).pc, .ref 1, .ref 2, .tref 3], .row 3 (.ints (m9 c s k).regs), .row 3 (.ints (m9 c s k).mem.vals), .tree (.rows (m9 c s k).mem.arrs), dI c.vars, dI c.arrays, dN c.list, .box [.ref 10], .dead, .box (pL 4), .row 71 (.events (H5 c s k))]) (fun k => (aH8 [(8, iA k)])) 0 (by simp [hc, hs]) (v5.at G _ _) ?_; clear G; intro k ρ a w hp G; replace G := v5.at G [.box [iA (m9 c s k).pc, .ref 1, .ref 2, .tref 3], .row 3 (D.ints (m9 c s k).regs), .row 3 (D.ints (m9 c s k).mem.vals), .tree (D.rows (m9 c s k).mem.arrs), dI c.vars, dI c.arrays, dN c.list, .box [.ref 10], .dead, .box (pL 4), .row 71 (D.events (H5 c s k))] (aH8 [(8, iA k)]); have hpc := U7 (af8 hc hs k); have hel := aA8 c s k; have hen := aJ3 c (m9 c s k); refine wp_seq (m7 G f8 [(9, bA (decide ((k : Int) < 20000)))] fun G => b0 (wp_seq (rcD G (fun h0 q0 => ?_) fun h0 q0 => ?_)))
  · refine wp_exit (A2 (A2 (A1 (b0 (wp_seq (l0 G f8 [0, 1, 2, 3, 4, 5, 6, 7, 8, 10] [.box [iA (m9 c s k).pc, .ref 1, .ref 2, .tref 3], .row 3 (D.ints (m9 c s k).regs), .row 3 (D.ints (m9 c s k).mem.vals), .tree (D.rows (m9 c s k).mem.arrs), dI c.vars, dI c.arrays, dN c.list, .box [.ref 9], .dead, .row 71 (D.events (H5 c s k))] [(6, bA false)] fun G => b0 (wp_ret ?_))))))); exact N4 false G (rg 10) ((bm2 hE hp.2 (by omega) (by omega)).2.2) (by show _ = mR (rg 10) (bd2 c s n); unfold bd2; have e1 : ((m9 c s n).pc : Int) = ((m9 c s k).pc) := (by rw [(bm2 hE hp.2 (by omega) (by omega)).1]); have e2 : ((m9 c s n).regs : List Int) = ((m9 c s k).regs) := (by rw [(bm2 hE hp.2 (by omega) (by omega)).1]); have e3 : ((m9 c s n).mem.vals : List Int) = ((m9 c s k).mem.vals) := (by rw [(bm2 hE hp.2 (by omega) (by omega)).1]); have e4 : ((m9 c s n).mem.arrs : List (List Int)) = ((m9 c s k).mem.arrs) := (by rw [(bm2 hE hp.2 (by omega) (by omega)).1]); have e5 : (H5 c s n : List (Int × Int)) = (H5 c s k) := (by rw [(bm2 hE hp.2 (by omega) (by omega)).2.1]); (first | rw [e1, e2, e3, e4, e5] | simp only [e1, e2, e3, e4, e5]) <;> rfl)
  ·
   refine wp_skip (b0 (wp_seq (wp_block (wp_seq (m7 G f8 [(7, iA (m9 c s k).pc)] fun G => b0 (wp_seq (l0 G (X7 (H7 4 (rg 7) (bS9 c (m9 c s k) (by assumption) (af8 hc hs _)) (H7 5 [7, 10, 43] (j9.lend (bT0 (H5 c s k) (E1 c (m9 c s k)) ((m9 c s k).pc) (by omega) (by omega)) [.no, .no, .row 71]) X6)) fz []) [0, 1, 2, 3, 4, 5, 6, 7, 8, 9, 51] [.box [iA (i7 c (m9 c s k)).pc, .ref 1, .ref 2, .tref 3], .row 3 (D.ints (i7 c (m9 c s k)).regs), .row 3 (D.ints (i7 c (m9 c s k)).mem.vals), .tree (D.rows (i7 c (m9 c s k)).mem.arrs), dI c.vars, dI c.arrays, dN c.list, .box [.ref 10], .dead, .box (pL 4), .row 71 (D.events (H5 c s k ++ E1 c (m9 c s k)))] (aH8 [(7, iA (m9 c s k).pc), (8, iA k)]) fun G => b0 (wp_seq (O0 G f8 [(26, bA ((c.list.getD (m9 c s k).pc.toNat ca9).op == 13))] (iX ((m9 c s k).pc) ((m9 c s k).pc.toNat) c.list.length []) (iK (by omega) cc2) fun G => b0 (rcE G (fun h1 q1 => ?_) fun h1 q1 => ?_))))))))))
   · refine wp_skip (t5 (b0 (O0 G f8 [(8, iA ((k : Int) + 1))] [wO ((k : Int) + 1)] (o1 (by omega)) fun G => b0 ?_))); exact rxn G (k + 1) (⟨by omega, bH2 hp.2 (by omega)⟩) (by omega) (rg 11)
   · refine wp_seq (m7 G f8 [(6, bA true)] fun G => b0 (wp_ret (E5 (o5 (o5 (E5 (o5 ?_))))))); exact N4 true G [0, 1, 2, 3, 4, 5, 6, 7, 8, 10] ((bm1 hE hp.2 (by omega) (by with_reducible assumption)).2.2) (by show _ = mR [0, 1, 2, 3, 4, 5, 6, 7, 8, 10] (bd2 c s n); unfold bd2; have e1 : ((m9 c s n).pc : Int) = ((i7 c (m9 c s k)).pc) := (by rw [(bm1 hE hp.2 (by omega) (by with_reducible assumption)).1]); have e2 : ((m9 c s n).regs : List Int) = ((i7 c (m9 c s k)).regs) := (by rw [(bm1 hE hp.2 (by omega) (by with_reducible assumption)).1]); have e3 : ((m9 c s n).mem.vals : List Int) = ((i7 c (m9 c s k)).mem.vals) := (by rw [(bm1 hE hp.2 (by omega) (by with_reducible assumption)).1]); have e4 : ((m9 c s n).mem.arrs : List (List Int)) = ((i7 c (m9 c s k)).mem.arrs) := (by rw [(bm1 hE hp.2 (by omega) (by with_reducible assumption)).1]); have e5 : (H5 c s n : List (Int × Int)) = (H5 c s k ++ E1 c (m9 c s k)) := (by rw [(bm1 hE hp.2 (by omega) (by with_reducible assumption)).2.1]); (first | rw [e1, e2, e3, e4, e5] | simp only [e1, e2, e3, e4, e5]) <;> rfl)
theorem bj9 (m : t9) (hx : m.vals.length ≤ 1048576) (hr : m.arrs.length ≤ 1048576) (hi : ∀ r ∈ m.arrs, r.length ≤ 1048576) : j9.ok Tryz.prog ⟨83, [mA 0], mS m, mS m ++ [.row 3 (.ints (ca7 14 0)), .row 3 (.ints m.vals), .tree (.rows m.arrs)], .agg [iA 0, .ref 2, .ref 3, .tref 4]⟩ := by
 have how := bU5 m hx hr hi; refine K9 7 Tryz.func83 [dI m.vals, dR m.arrs] [(0, .agg [.ref 0, .ref 1])] fun G => ?_; refine wp_seq (l0 G f8 [0, 1, 2, 10] [dI m.vals, dR m.arrs, .box [.ref 0, .ref 1], .box [iA 0, .v (.slice none 0 0), .v (.slice none 0 0), .v (.slice none 0 0)]] [(1, .ptr 2 0), (2, .ptr 3 0)] fun G => b0 (wp_seq (L7 G (A4 2 [0, 1] how) [0, 0, 2, 7, 15] [0, 1, 3, 4, 20, 21] [dI m.vals, dR m.arrs, .box [iA 0, .ref 3, .ref 4, .tref 5], .row 3 (D.ints (ca7 (Int.toNat 14) 0)), .row 3 (D.ints m.vals), .tree (D.rows m.arrs)] [(2, .ptr 2 0)] [(14 : Int) = 14, (0 : Int) ≤ 14, (↑(8 : Nat) : Int) * 14 ≤ 281474976710656, (14 : Int) ≤ 9223372036854775807, ((.int .i64 (0 : Int)) : Value) = (.int .i64 (0 : Int))] ⟨(by kernel_rfl), (by omega), (by omega), (by omega), (by kernel_rfl), cc2⟩ fun G => b0 (wp_ret ?_)))); exact L6 G [0, 1, 3, 4, 5]
def ssD (c : b6) (m : t9) : o6 := if (e6 c && G4 c.vars.length c.arrays.length m) = true then l5 m else ⟨0, [], ⟨[], []⟩⟩
theorem be7 {c : b6} {m : t9} (h : e6 c = false) : ssD c m = ⟨0, [], ⟨[], []⟩⟩ ∧ (e6 c && G4 c.vars.length c.arrays.length m) = false := by
 have : (e6 c && G4 c.vars.length c.arrays.length m) = false := by rw [h]; rfl
 exact ⟨by unfold ssD; rw [this]; rfl, this⟩
theorem be6 {c : b6} {m : t9} (h : G4 c.vars.length c.arrays.length m = false) : ssD c m = ⟨0, [], ⟨[], []⟩⟩ ∧ (e6 c && G4 c.vars.length c.arrays.length m) = false := by
 have : (e6 c && G4 c.vars.length c.arrays.length m) = false := by rw [h]; simp
 exact ⟨by unfold ssD; rw [this]; rfl, this⟩
theorem bk1 {c : b6} {m : t9} (h : e6 c = true) (h2 : G4 c.vars.length c.arrays.length m = true) : ssD c m = l5 m ∧ (e6 c && G4 c.vars.length c.arrays.length m) = true := by
 have : (e6 c && G4 c.vars.length c.arrays.length m) = true := by rw [h, h2]; rfl
 exact ⟨by unfold ssD; rw [this]; rfl, this⟩
abbrev aI0 (c : b6) (m : t9) (T : o6) : List It := [dI c.vars, dI c.arrays, dN c.list, dI m.vals, dR m.arrs, .row 3 (D.ints T.regs), .row 3 (D.ints T.mem.vals), .tree (D.rows T.mem.arrs)]
abbrev bq3 : It := .box [iA 0, .v (.slice none 0 0), .v (.slice none 0 0), .v (.slice none 0 0)]
abbrev at8 (c : b6) (m : t9) (r0 : List It) : List It := dI c.vars :: dI c.arrays :: dN c.list :: dI m.vals :: dR m.arrs :: .box [.ref 3, .ref 4] :: r0
abbrev aj0 (r0 : List (Nat × AV)) : List (Nat × AV) := (3, .ptr 5 0) :: (4, .ptr 6 0) :: (5, bA false) :: r0
theorem V9 (c : b6) (m : t9) (T : o6) (hT : ssD c m = T) (hx : m.vals.length ≤ 1048576) (hr : m.arrs.length ≤ 1048576) (hi : ∀ r ∈ m.arrs, r.length ≤ 1048576) : j9.ok Tryz.prog ⟨60, [pA 0, mA 3], kcS c ++ mS m, kcS c ++ mS m ++ smO T, .tup [.agg [iA T.pc, .ref 5, .ref 6, .tref 7], bA (e6 c && G4 c.vars.length c.arrays.length m)]⟩ := by
  have hcv := b25 c; have him := bA9 c m; have hst := bj9 m hx hr hi; refine K9 21 Tryz.func60 [dI c.vars, dI c.arrays, dN c.list, dI m.vals, dR m.arrs] [(0, pA 0), (1, .agg [.ref 3, .ref 4])] fun G => ?_; refine wp_seq (l0 G f8 [0, 1, 2, 3, 4, 5, 13, 21] [dI c.vars, dI c.arrays, dN c.list, dI m.vals, dR m.arrs, .box (pL 0), .box [.ref 3, .ref 4], bq3] [(2, .ptr 5 0), (3, .ptr 6 0), (4, .ptr 7 0), (5, bA false)] fun G => b0 (wp_seq (wp_seq ?_))); cases h0 : (!e6 c)
  ·
   have q0 : (e6 c) = true := (Eq.mp (Bool.not_eq_false' _) h0); refine l0 G (X7 (H7 1 [0, 1, 2] hcv (H7 9 [0, 1, 3, 4] him X6)) (fc h0 fz) (us [(4, 10, 0), (1011, 1011, 0)])) [0, 1, 2, 3, 4, 6, 7] (at8 c m [bq3]) (aj0 [(17, .v (.bool !G4 c.vars.length c.arrays.length m))]) fun G => b0 ?_; cases h1 : (!G4 c.vars.length c.arrays.length m)
   · have q1 : (G4 c.vars.length c.arrays.length m) = true := (Eq.mp (Bool.not_eq_false' _) h1); refine rF G _ h1 (wp_skip (b0 (wp_seq (l0 G (A4 1 [3, 4] hst) [0, 1, 2, 3, 4, 6, 15, 16, 17] [dI c.vars, dI c.arrays, dN c.list, dI m.vals, dR m.arrs, .box [iA 0, .ref 6, .ref 7, .tref 8], .row 3 (D.ints (ca7 14 0)), .row 3 (D.ints m.vals), .tree (D.rows m.arrs)] [(4, .ptr 5 0), (5, bA true)] fun G => b0 (wp_ret ?_))))); exact rxv (.tup [.agg [iA 0, .ref 6, .ref 7, .tref 8], bA true]) G [0, 1, 2, 3, 4, 6, 7, 8] (by have e1 : (T.pc : Int) = (0) := (by rw [← hT, (bk1 (by with_reducible assumption) (by with_reducible assumption)).1]; rfl); have e2 : (e6 c && G4 c.vars.length c.arrays.length m : Bool) = (true) := (by simp [h0, q0, h1, q1]); (first | rw [e1, e2] | simp only [e1, e2]) <;> rfl) (by show _ = mR [0, 1, 2, 3, 4, 6, 7, 8] (aI0 c m T); unfold aI0; rw [← hT, (bk1 (by with_reducible assumption) (by with_reducible assumption)).1] <;> rfl)
   · have q1 : (G4 c.vars.length c.arrays.length m) = false := (Eq.mp (cf0 _) h1); refine rT G _ h1 (wp_seq (I8 G f8 (aj0 []) fun G => b0 (wp_ret (o5 ?_)))); obtain ⟨ρ, G⟩ := G.nil 7 3 (.ints []) 1 (at8 c m [.box [iA 0, .ref 7, .v (.slice none 0 0), .v (.slice none 0 0)]]) (aj0 []); obtain ⟨ρ, G⟩ := G.nil 8 3 (.ints []) 1 (at8 c m [.box [iA 0, .ref 7, .ref 8, .v (.slice none 0 0)], .row 3 (D.ints [])]) (aj0 []); obtain ⟨ρ, G⟩ := G.nilT 9 (.rows []) (at8 c m [.box [iA 0, .ref 7, .ref 8, .tref 9], .row 3 (D.ints []), .row 3 (D.ints [])]) (aj0 []); exact rxv (.tup [.agg [iA 0, .ref 7, .ref 8, .tref 9], bA false]) G [0, 1, 2, 3, 4, 7, 8, 9] (by have e1 : (T.pc : Int) = (0) := (by rw [← hT, (be6 (by with_reducible assumption)).1]); have e2 : (e6 c && G4 c.vars.length c.arrays.length m : Bool) = (false) := (by simp [h0, q0, h1, q1]); (first | rw [e1, e2] | simp only [e1, e2]) <;> rfl) (by show _ = mR [0, 1, 2, 3, 4, 7, 8, 9] (aI0 c m T); unfold aI0; have e1 : (T.regs : List Int) = ([]) := (by rw [← hT, (be6 (by with_reducible assumption)).1]); have e2 : (T.mem.vals : List Int) = ([]) := (by rw [← hT, (be6 (by with_reducible assumption)).1]); have e3 : (T.mem.arrs : List (List Int)) = ([]) := (by rw [← hT, (be6 (by with_reducible assumption)).1]); (first | rw [e1, e2, e3] | simp only [e1, e2, e3]) <;> rfl)
  · have q0 : (e6 c) = false := (Eq.mp (cf0 _) h0); refine l0 G (X7 (H7 1 [0, 1, 2] hcv X6) (fc h0 fz) (us [(4, 10, 0), (1011, 1011, 0)])) [0, 1, 2, 3, 4, 6, 7] (at8 c m [bq3]) (aj0 [(17, bA true)]) fun G => b0 (rT G true (by kernel_rfl) (wp_seq (I8 G f8 (aj0 []) fun G => b0 (wp_ret (o5 ?_))))); obtain ⟨ρ, G⟩ := G.nil 7 3 (.ints []) 1 (at8 c m [.box [iA 0, .ref 7, .v (.slice none 0 0), .v (.slice none 0 0)]]) (aj0 []); obtain ⟨ρ, G⟩ := G.nil 8 3 (.ints []) 1 (at8 c m [.box [iA 0, .ref 7, .ref 8, .v (.slice none 0 0)], .row 3 (D.ints [])]) (aj0 []); obtain ⟨ρ, G⟩ := G.nilT 9 (.rows []) (at8 c m [.box [iA 0, .ref 7, .ref 8, .tref 9], .row 3 (D.ints []), .row 3 (D.ints [])]) (aj0 []); exact rxv (.tup [.agg [iA 0, .ref 7, .ref 8, .tref 9], bA false]) G [0, 1, 2, 3, 4, 7, 8, 9] (by have e1 : (T.pc : Int) = (0) := (by rw [← hT, (be7 (by with_reducible assumption)).1]); have e2 : (e6 c && G4 c.vars.length c.arrays.length m : Bool) = (false) := (by rw [q0]; rfl); (first | rw [e1, e2] | simp only [e1, e2]) <;> rfl) (by show _ = mR [0, 1, 2, 3, 4, 7, 8, 9] (aI0 c m T); unfold aI0; have e1 : (T.regs : List Int) = ([]) := (by rw [← hT, (be7 (by with_reducible assumption)).1]); have e2 : (T.mem.vals : List Int) = ([]) := (by rw [← hT, (be7 (by with_reducible assumption)).1]); have e3 : (T.mem.arrs : List (List Int)) = ([]) := (by rw [← hT, (be7 (by with_reducible assumption)).1]); (first | rw [e1, e2, e3] | simp only [e1, e2, e3]) <;> rfl)
abbrev rnO (s : o6) : List It := [.box [iA s.pc, .ref 6, .ref 7, .tref 8], .row 3 (.ints s.regs), .row 3 (.ints s.mem.vals), .tree (.rows s.mem.arrs)]
abbrev bp8 (c : b6) (m : t9) (r0 : List It) : List It := dI c.vars :: dI c.arrays :: dN c.list :: dI m.vals :: dR m.arrs :: .box (pL 0) :: .row 3 (D.ints (l5 m).regs) :: .row 3 (D.ints (l5 m).mem.vals) :: .tree (D.rows (l5 m).mem.arrs) :: .box [iA (l5 m).pc, .ref 6, .ref 7, .tref 8] :: r0
abbrev bp7 (c : b6) (m : t9) (r0 : List (Nat × AV)) : List (Nat × AV) := (2, .ptr 5 0) :: (4, .v (.pointer none)) :: (5, .v (.slice none 0 0)) :: (6, bA false) :: (7, .ptr 9 0) :: (8, bA (e6 c && G4 c.vars.length c.arrays.length m)) :: r0
theorem bO4 (c : b6) (m : t9) (n : Nat) (hc : e6 c = true) (hm : G4 c.vars.length c.arrays.length m = true) (hE : bc5 c (l5 m) n true) (hx : m.vals.length ≤ 1048576) (hr : m.arrs.length ≤ 1048576) (hi : ∀ r ∈ m.arrs, r.length ≤ 1048576) : j9.ok Tryz.prog ⟨32, [pA 0, mA 3], kcS c ++ mS m, kcS c ++ mS m ++ rnO (m9 c (l5 m) n) ++ [.row 71 (.events (H5 c (l5 m) n))], .tup [.ptr 5 0, .ref 9, bA true]⟩ := by
 have hst := V9 c m (l5 m) (bk1 hc hm).1 hx hr hi; have hex := aL4 c (l5 m) n true hc (V8 hc hm) hE; refine K9 24 Tryz.func32 [dI c.vars, dI c.arrays, dN c.list, dI m.vals, dR m.arrs] [(0, pA 0), (1, .agg [.ref 3, .ref 4])] fun G => ?_; have hok : (e6 c && G4 c.vars.length c.arrays.length m) = true := (bk1 hc hm).2; refine wp_seq (l0 G f8 [0, 1, 2, 3, 4, 5, 13] [dI c.vars, dI c.arrays, dN c.list, dI m.vals, dR m.arrs, .box (pL 0), .box [.ref 3, .ref 4]] [(2, .ptr 5 0), (3, .ptr 6 0), (4, .v (.pointer none)), (5, .v (.slice none 0 0)), (6, bA false)] fun G => b0 (wp_seq (l0 G (A4 2 (rg 5) hst) [0, 1, 2, 3, 4, 5, 23, 24, 25, 55] (bp8 c m []) (bp7 c m []) fun G => b0 (wp_seq (wp_seq (m7 G f8 [(17, .v (.bool !(e6 c && G4 c.vars.length c.arrays.length m)))] fun G => b0 (rF G (!(e6 c && G4 c.vars.length c.arrays.length m)) (by rw [hok]; rfl) (wp_skip (b0 (wp_seq (l0 G f8 (rg 11) (bp8 c m [.box [.v (.slice none 0 0)]]) (bp7 c m [(9, .ptr 10 0)]) fun G => b0 (wp_seq ?_)))))))))))); obtain ⟨ρ, G⟩ := G.nil 11 71 (.events []) 6 (bp8 c m [.box [.ref 11]]) (bp7 c m [(9, .ptr 10 0)]); refine l0 G (A4 2 [9, 6, 7, 8, 0, 1, 2, 10, 11] hex) [0, 1, 2, 3, 4, 6, 7, 8, 9, 10, 28] [dI c.vars, dI c.arrays, dN c.list, dI m.vals, dR m.arrs, .row 3 (D.ints (m9 c (l5 m) n).regs), .row 3 (D.ints (m9 c (l5 m) n).mem.vals), .tree (D.rows (m9 c (l5 m) n).mem.arrs), .box [iA (m9 c (l5 m) n).pc, .ref 5, .ref 6, .tref 7], .box [.ref 10], .row 71 (D.events (H5 c (l5 m) n))] [(4, .v (.pointer none)), (5, .v (.slice none 0 0)), (6, bA false), (7, .ptr 8 0), (8, bA true), (9, .ptr 9 0)] fun G => b0 (wp_seq (wp_seq (m7 G f8 [(22, bA false)] fun G => b0 (rF G false (by kernel_rfl) (wp_skip (b0 (wp_seq (bu2 G f8 [0, 0, 3, 7] [0, 1, 2, 3, 4, 5, 6, 7, 8, 10] [dI c.vars, dI c.arrays, dN c.list, dI m.vals, dR m.arrs, .row 3 (D.ints (m9 c (l5 m) n).regs), .row 3 (D.ints (m9 c (l5 m) n).mem.vals), .tree (D.rows (m9 c (l5 m) n).mem.arrs), .box [iA (m9 c (l5 m) n).pc, .ref 5, .ref 6, .tref 7], .row 71 (D.events (H5 c (l5 m) n))] [(4, .ptr 8 0), (5, .ref 9), (6, bA true)] fun G => b0 (wp_ret ?_))))))))); exact L6 G [0, 1, 2, 3, 4, 8, 5, 6, 7, 9]
theorem bF0 (c : b6) (m : t9) (hok : (e6 c && G4 c.vars.length c.arrays.length m) = false) (hx : m.vals.length ≤ 1048576) (hr : m.arrs.length ≤ 1048576) (hi : ∀ r ∈ m.arrs, r.length ≤ 1048576) : j9.ok Tryz.prog ⟨32, [pA 0, mA 3], kcS c ++ mS m, kcS c ++ mS m, .tup [.v (.pointer none), .v (.slice none 0 0), bA false]⟩ := by
 have hst := V9 c m (ssD c m) rfl hx hr hi; refine K9 24 Tryz.func32 [dI c.vars, dI c.arrays, dN c.list, dI m.vals, dR m.arrs] [(0, pA 0), (1, .agg [.ref 3, .ref 4])] fun G => ?_; refine wp_seq (l0 G f8 [0, 1, 2, 3, 4, 5, 13] [dI c.vars, dI c.arrays, dN c.list, dI m.vals, dR m.arrs, .box (pL 0), .box [.ref 3, .ref 4]] [(2, .ptr 5 0), (3, .ptr 6 0), (4, .v (.pointer none)), (5, .v (.slice none 0 0)), (6, bA false)] fun G => b0 (wp_seq (l0 G (A4 2 (rg 5) hst) [0, 1, 2, 3, 4, 5, 23, 24, 25, 55] [dI c.vars, dI c.arrays, dN c.list, dI m.vals, dR m.arrs, .box (pL 0), .row 3 (D.ints (ssD c m).regs), .row 3 (D.ints (ssD c m).mem.vals), .tree (D.rows (ssD c m).mem.arrs), .box [iA (ssD c m).pc, .ref 6, .ref 7, .tref 8]] [(2, .ptr 5 0), (4, .v (.pointer none)), (5, .v (.slice none 0 0)), (6, bA false), (7, .ptr 9 0), (8, bA (e6 c && G4 c.vars.length c.arrays.length m))] fun G => b0 (wp_seq (wp_seq (m7 G f8 [(17, .v (.bool !(e6 c && G4 c.vars.length c.arrays.length m)))] fun G => b0 (rT G (!(e6 c && G4 c.vars.length c.arrays.length m)) (by rw [hok]; rfl) (wp_seq (m7 G f8 [] fun G => b0 (wp_ret (o5 ?_))))))))))); exact L6 G (rg 5)
abbrev bp6 (c : b6) (m : t9) (r0 : List It) : List It := dI c.vars :: dI c.arrays :: dN c.list :: dI m.vals :: dR m.arrs :: .box (pL 0) :: .row 3 (D.ints (l5 m).regs) :: .row 3 (D.ints (l5 m).mem.vals) :: .tree (D.rows (l5 m).mem.arrs) :: .box [iA (l5 m).pc, .ref 6, .ref 7, .tref 8] :: r0
abbrev bp5 (c : b6) (m : t9) (r0 : List (Nat × AV)) : List (Nat × AV) := (2, .ptr 5 0) :: (4, .v (.pointer none)) :: (5, .v (.slice none 0 0)) :: (6, bA false) :: (7, .ptr 9 0) :: (8, bA (e6 c && G4 c.vars.length c.arrays.length m)) :: r0
theorem bE9 (c : b6) (m : t9) (hc : e6 c = true) (hm : G4 c.vars.length c.arrays.length m = true) (hE : bc5 c (l5 m) 20000 false) (hx : m.vals.length ≤ 1048576) (hr : m.arrs.length ≤ 1048576) (hi : ∀ r ∈ m.arrs, r.length ≤ 1048576) : j9.ok Tryz.prog ⟨32, [pA 0, mA 3], kcS c ++ mS m, kcS c ++ mS m, .tup [.v (.pointer none), .v (.slice none 0 0), bA false]⟩ := by
 have hst := V9 c m (l5 m) (bk1 hc hm).1 hx hr hi; have hex := aL4 c (l5 m) 20000 false hc (V8 hc hm) hE; refine K9 24 Tryz.func32 [dI c.vars, dI c.arrays, dN c.list, dI m.vals, dR m.arrs] [(0, pA 0), (1, .agg [.ref 3, .ref 4])] fun G => ?_; have hok : (e6 c && G4 c.vars.length c.arrays.length m) = true := (bk1 hc hm).2; refine wp_seq (l0 G f8 [0, 1, 2, 3, 4, 5, 13] [dI c.vars, dI c.arrays, dN c.list, dI m.vals, dR m.arrs, .box (pL 0), .box [.ref 3, .ref 4]] [(2, .ptr 5 0), (3, .ptr 6 0), (4, .v (.pointer none)), (5, .v (.slice none 0 0)), (6, bA false)] fun G => b0 (wp_seq (l0 G (A4 2 (rg 5) hst) [0, 1, 2, 3, 4, 5, 23, 24, 25, 55] (bp6 c m []) (bp5 c m []) fun G => b0 (wp_seq (wp_seq (m7 G f8 [(17, .v (.bool !(e6 c && G4 c.vars.length c.arrays.length m)))] fun G => b0 (rF G (!(e6 c && G4 c.vars.length c.arrays.length m)) (by rw [hok]; rfl) (wp_skip (b0 (wp_seq (l0 G f8 (rg 11) (bp6 c m [.box [.v (.slice none 0 0)]]) (bp5 c m [(9, .ptr 10 0)]) fun G => b0 (wp_seq ?_)))))))))))); obtain ⟨ρ, G⟩ := G.nil 11 71 (.events []) 6 (bp6 c m [.box [.ref 11]]) (bp5 c m [(9, .ptr 10 0)]); refine l0 G (A4 2 [9, 6, 7, 8, 0, 1, 2, 10, 11] hex) [0, 1, 2, 3, 4, 6, 7, 8, 9, 10, 28] [dI c.vars, dI c.arrays, dN c.list, dI m.vals, dR m.arrs, .row 3 (D.ints (m9 c (l5 m) 20000).regs), .row 3 (D.ints (m9 c (l5 m) 20000).mem.vals), .tree (D.rows (m9 c (l5 m) 20000).mem.arrs), .box [iA (m9 c (l5 m) 20000).pc, .ref 5, .ref 6, .tref 7], .box [.ref 10], .row 71 (D.events (H5 c (l5 m) 20000))] [(4, .v (.pointer none)), (5, .v (.slice none 0 0)), (6, bA false), (7, .ptr 8 0), (8, bA false), (9, .ptr 9 0)] fun G => b0 (wp_seq (wp_seq (m7 G f8 [(22, bA true)] fun G => b0 (rT G true (by kernel_rfl) (wp_seq (m7 G f8 [] fun G => b0 (wp_ret (o5 ?_)))))))); exact L6 G (rg 5)
abbrev rcC (c : b6) (m x : t9) (v : List (Int × Int)) (b : Bool) : j9 := ⟨11, [pA 0, mA 3], kcS c ++ mS m, kcS c ++ mS m ++ mO x ++ [.row 71 (.events v)], .tup [mT 5, .ref 7, bA b]⟩
theorem a65 (c : b6) (m : t9) (s : o6) (v : List (Int × Int)) (hran : j9.ok Tryz.prog ⟨32, [pA 0, mA 3], kcS c ++ mS m, kcS c ++ mS m ++ rnO s ++ [.row 71 (.events v)], .tup [.ptr 5 0, .ref 9, bA true]⟩) : j9.ok Tryz.prog (rcC c m s.mem v true) := by
 have hrn := hran; refine K9 25 Tryz.func11 [dI c.vars, dI c.arrays, dN c.list, dI m.vals, dR m.arrs] [(0, pA 0), (1, .agg [.ref 3, .ref 4])] fun G => ?_; refine wp_seq (l0 G f8 [0, 1, 2, 3, 4, 5, 13, 21] [dI c.vars, dI c.arrays, dN c.list, dI m.vals, dR m.arrs, .box (pL 0), .box [.ref 3, .ref 4], .box [.v (.slice none 0 0), .v (.slice none 0 0)]] [(2, .ptr 5 0), (3, .ptr 6 0), (4, .ptr 7 0), (5, .v (.slice none 0 0)), (6, bA false)] fun G => b0 (wp_seq (l0 G (A4 2 (rg 5) hrn) [0, 1, 2, 3, 4, 7, 24, 25, 26, 27, 28] [dI c.vars, dI c.arrays, dN c.list, dI m.vals, dR m.arrs, .box [.v (.slice none 0 0), .v (.slice none 0 0)], .box [iA s.pc, .ref 7, .ref 8, .tref 9], .row 3 (D.ints s.regs), .row 3 (D.ints s.mem.vals), .tree (D.rows s.mem.arrs), .row 71 (D.events v)] [(4, .ptr 5 0), (5, .v (.slice none 0 0)), (6, bA false), (7, .ptr 6 0), (8, .ref 10), (9, bA true)] fun G => b0 (wp_seq (wp_seq (m7 G f8 [(18, bA false)] fun G => b0 (rF G false (by kernel_rfl) (wp_skip (b0 (wp_seq (l0 G f8 [0, 1, 2, 3, 4, 5, 8, 9, 10] [dI c.vars, dI c.arrays, dN c.list, dI m.vals, dR m.arrs, .box [.ref 6, .tref 7], .row 3 (D.ints s.mem.vals), .tree (D.rows s.mem.arrs), .row 71 (D.events v)] [(4, .ptr 5 0), (5, .ref 8), (6, bA true)] fun G => b0 (wp_ret ?_)))))))))))); exact L6 G [0, 1, 2, 3, 4, 6, 7, 8]
abbrev bc6 (r0 : List (Nat × AV)) : List (Nat × AV) := (4, .ptr 5 0) :: (5, .v (.slice none 0 0)) :: (6, bA false) :: (7, .v (.pointer none)) :: (8, .v (.slice none 0 0)) :: r0
theorem aA6 (c : b6) (m : t9) (hran : j9.ok Tryz.prog ⟨32, [pA 0, mA 3], kcS c ++ mS m, kcS c ++ mS m, .tup [.v (.pointer none), .v (.slice none 0 0), bA false]⟩) : j9.ok Tryz.prog (rcC c m ⟨[], []⟩ [] false) := by
 have hrn := hran; refine K9 25 Tryz.func11 [dI c.vars, dI c.arrays, dN c.list, dI m.vals, dR m.arrs] [(0, pA 0), (1, .agg [.ref 3, .ref 4])] fun G => ?_; refine wp_seq (l0 G f8 [0, 1, 2, 3, 4, 5, 13, 21] [dI c.vars, dI c.arrays, dN c.list, dI m.vals, dR m.arrs, .box (pL 0), .box [.ref 3, .ref 4], .box [.v (.slice none 0 0), .v (.slice none 0 0)]] [(2, .ptr 5 0), (3, .ptr 6 0), (4, .ptr 7 0), (5, .v (.slice none 0 0)), (6, bA false)] fun G => b0 (wp_seq (l0 G (A4 2 (rg 5) hrn) [0, 1, 2, 3, 4, 7] [dI c.vars, dI c.arrays, dN c.list, dI m.vals, dR m.arrs, .box [.v (.slice none 0 0), .v (.slice none 0 0)]] (bc6 [(9, bA false)]) fun G => b0 (wp_seq (wp_seq (m7 G f8 [(18, bA true)] fun G => b0 (rT G true (by kernel_rfl) (wp_seq (I8 G f8 (bc6 []) fun G => b0 (wp_ret (o5 ?_))))))))))); obtain ⟨ρ, G⟩ := G.nil 6 3 (.ints []) 1 [dI c.vars, dI c.arrays, dN c.list, dI m.vals, dR m.arrs, .box [.ref 6, .v (.slice none 0 0)]] (bc6 []); obtain ⟨ρ, G⟩ := G.nilT 7 (.rows []) [dI c.vars, dI c.arrays, dN c.list, dI m.vals, dR m.arrs, .box [.ref 6, .tref 7], .row 3 (D.ints [])] (bc6 []); obtain ⟨ρ, G⟩ := G.nil 8 71 (.events []) 6 [dI c.vars, dI c.arrays, dN c.list, dI m.vals, dR m.arrs, .box [.ref 6, .tref 7], .row 3 (D.ints []), .tree (D.rows [])] [(4, .ptr 5 0), (5, .ref 8), (6, bA false), (7, .v (.pointer none)), (8, .v (.slice none 0 0))]; exact L6 G [0, 1, 2, 3, 4, 6, 7, 8]
def aS6 (c : b6) (m x : t9) (v : List (Int × Int)) (b : Bool) : Prop :=
 (b = true ∧ e6 c = true ∧ G4 c.vars.length c.arrays.length m = true ∧ ∃ n, aH4 c m n ∧ x = bu1 c m n ∧ v = aw2 c m n) ∨
 (b = false ∧ x = ⟨[], []⟩ ∧ v = [] ∧ ∀ n, ¬ (e6 c = true ∧ G4 c.vars.length c.arrays.length m = true ∧ aH4 c m n))
theorem aL6 (c : b6) (m : t9) (hx : m.vals.length ≤ 1048576) (hr : m.arrs.length ≤ 1048576) (hi : ∀ r ∈ m.arrs, r.length ≤ 1048576) : ∃ x v b, aS6 c m x v b ∧ j9.ok Tryz.prog (rcC c m x v b) := by
 cases hok : (e6 c && G4 c.vars.length c.arrays.length m) with
 | false =>
  refine ⟨_, _, _, .inr ⟨rfl, rfl, rfl, fun n h => ?_⟩, aA6 c m (bF0 c m hok hx hr hi)⟩
  rw [h.1, h.2.1] at hok; cases hok
 | true =>
  rw [cb0] at hok
  obtain ⟨hc, hm⟩ := hok
  rcases bF6 c m with ⟨n, h⟩ | h
  ·refine ⟨_, _, _, .inl ⟨rfl, hc, hm, n, h, rfl, rfl⟩, a65 c m (m9 c (l5 m) (n + 1)) _ (bO4 c m (n + 1) hc hm ⟨?_, fun k hk => ?_, fun _ => ⟨n, rfl, h.fin⟩, fun e => by cases e⟩ hx hr hi)⟩
   ·have := h.lt; omega
   ·exact h.no k (by omega)
  ·refine ⟨_, _, _, .inr ⟨rfl, rfl, rfl, fun n h2 => ?_⟩, aA6 c m (bE9 c m hc hm ⟨cb1 _, fun k hk => h k (by omega), (fun e => by cases e), fun _ => ⟨rfl, h⟩⟩ hx hr hi)⟩
   have := h n h2.2.2.lt
   rw [h2.2.2.fin] at this; cases this
theorem bt8 {c : b6} {m x : t9} {v : List (Int × Int)} {b : Bool} (h : aS6 c m x v b) : v.length ≤ 100000 := by
 rcases h with ⟨_, _, _, n, h1, _, rfl⟩ | ⟨_, _, rfl, _⟩
 ·have := aA8 c (l5 m) (n + 1)
  have := h1.lt
  unfold aw2; omega
 ·exact cc7 _
structure av8 (x y : d8) : Prop where
 r : ∀ m r, stR m y r = stR m x r
 m : ∀ m r, stM m y r = stM m x r
 e : ∀ r, stE y r = stE x r
 o : y.op = x.op
theorem same_refl (x : d8) : av8 x x := ⟨fun _ _ => rfl, fun _ _ => rfl, fun _ => rfl, rfl⟩
theorem aW1 {x : d8} (h : 0 ≤ i6 x) (t : Int) : av8 x (B5 x t) := by
 have ho : x.op = 8 ∨ x.op = 9 ∨ x.op = 10 := by
  unfold i6 at h
  by_cases h8 : x.op = 8
  ·exact .inl h8
  ·by_cases h9 : x.op = 9 ∨ x.op = 10
   ·exact .inr h9
   ·rw [if_neg h8, if_neg h9] at h; omega
 rcases ho with e | e | e
 ·have ha : B5 x t = { x with a := t } := by unfold B5; rw [if_pos e]
  rw [ha]
  refine ⟨fun m r => ?_, fun m r => ?_, fun r => ?_, rfl⟩
  ·simp [stR, e]
  ·simp [stM, e]
  ·simp [stE, e]
 ·have ha : B5 x t = { x with b := t } := by unfold B5; rw [if_neg (by omega), if_pos (.inl e)]
  rw [ha]
  refine ⟨fun m r => ?_, fun m r => ?_, fun r => ?_, rfl⟩
  ·simp [stR, e]
  ·simp [stM, e]
  ·simp [stE, e]
 ·have ha : B5 x t = { x with b := t } := by unfold B5; rw [if_neg (by omega), if_pos (.inr e)]
  rw [ha]
  refine ⟨fun m r => ?_, fun m r => ?_, fun r => ?_, rfl⟩
  ·simp [stR, e]
  ·simp [stM, e]
  ·simp [stE, e]
theorem bx9 {x : d8} (h : 0 ≤ i6 x) (t : Int) (r : List Int) (p q : Int) : (stP x r p = i6 x ∧ stP (B5 x t) r q = t) ∨ (x.op ≠ 8 ∧ stP x r p = p + 1 ∧ stP (B5 x t) r q = q + 1) := by
 unfold i6 at h ⊢
 by_cases e8 : x.op = 8
 ·left
  have ha : B5 x t = { x with a := t } := by unfold B5; rw [if_pos e8]
  rw [ha]; simp [stP, e8]
 rw [if_neg e8] at h ⊢
 by_cases e9 : x.op = 9
 ·have ha : B5 x t = { x with b := t } := by unfold B5; rw [if_neg e8, if_pos (.inl e9)]
  rw [ha, if_pos (.inl e9)]
  simp only [stP]
  rw [if_neg e8, if_neg e8, if_pos e9, if_pos e9]
  split
  ·exact .inl ⟨rfl, rfl⟩
  ·exact .inr ⟨e8, rfl, rfl⟩
 by_cases e10 : x.op = 10
 ·have ha : B5 x t = { x with b := t } := by unfold B5; rw [if_neg e8, if_pos (.inr e10)]
  rw [ha, if_pos (.inr e10)]
  simp only [stP]
  rw [if_neg e8, if_neg e8, if_neg e9, if_neg e9, if_pos e10, if_pos e10]
  split
  ·exact .inr ⟨e8, rfl, rfl⟩
  ·exact .inl ⟨rfl, rfl⟩
 ·rw [if_neg (by omega)] at h; omega
theorem ap7 {c : b6} {x : d8} (hx : x8 c x = true) (h : ¬ 0 ≤ i6 x) (h13 : x.op ≠ 13) (r : List Int) (p : Int) : stP x r p = p + 1 := by
 have := bQ4 hx h
 unfold stP
 rw [if_neg this.1, if_neg this.2.1, if_neg this.2.2, if_neg h13]
theorem aP8 {c : b6} {s : o6} (h : X4 c s.pc = true) : i7 c s = ⟨(t6 c s.pc.toNat).a, s.regs, s.mem⟩ ∧ stE (C1 c s) s.regs = [] ∧ M9 c s = false := by
 unfold X4 at h
 have h8 : (t6 c s.pc.toNat).op = 8 := by simpa using h
 unfold i7 M9 C1
 simp [stP, stR, stM, stE, h8]
structure Sim (c d : b6) (R : Int → Int → Prop) : Prop where
 zero : R 0 0
 go : ∀ (s t : o6), Q4 c s = true → Rc c s.pc → Q4 d t = true → R s.pc t.pc → t.regs = s.regs → t.mem = s.mem → M9 c s = false →
  (R (i7 c s).pc t.pc ∧ (i7 c s).regs = s.regs ∧ (i7 c s).mem = s.mem ∧ stE (C1 c s) s.regs = []) ∨
  (av8 (C1 c s) (C1 d t) ∧ R (i7 c s).pc (i7 d t).pc)
 fin : ∀ (s t : o6), Q4 c s = true → Rc c s.pc → Q4 d t = true → R s.pc t.pc → M9 c s = true → av8 (C1 c s) (C1 d t)
theorem a17 {c d : b6} {s t : o6} (h : av8 (C1 c s) (C1 d t)) : M9 d t = M9 c s := by
 unfold M9; rw [h.o]
theorem aJ2 {c d : b6} {s t : o6} (h : av8 (C1 c s) (C1 d t)) (hr : t.regs = s.regs) (hm : t.mem = s.mem) : (i7 d t).regs = (i7 c s).regs ∧ (i7 d t).mem = (i7 c s).mem ∧ stE (C1 d t) t.regs = stE (C1 c s) s.regs := by
 unfold i7
 dsimp only
 rw [hr, hm, h.r, h.m, h.e]
 exact ⟨rfl, rfl, rfl⟩
section
variable {c d : b6} {R : Int → Int → Prop} {m : t9}
theorem bf0 (S : Sim c d R) (hc : e6 c = true) (hd : e6 d = true) (hm : G4 c.vars.length c.arrays.length m = true) (hm2 : G4 d.vars.length d.arrays.length m = true) : ∀ n : Nat, (∀ k, k < n → M9 c (m9 c (l5 m) k) = false) →
  ∃ i, i ≤ n ∧ R (m9 c (l5 m) n).pc (m9 d (l5 m) i).pc ∧ (m9 d (l5 m) i).regs = (m9 c (l5 m) n).regs ∧ (m9 d (l5 m) i).mem = (m9 c (l5 m) n).mem ∧
   z6 (H5 d (l5 m) i) = z6 (H5 c (l5 m) n) ∧ (H5 d (l5 m) i).length ≤ (H5 c (l5 m) n).length ∧ ∀ k, k < i → M9 d (m9 d (l5 m) k) = false
 | 0, _ => ⟨0, cb1 _, S.zero, rfl, rfl, rfl, cb1 _, fun k hk => absurd hk (Nat.not_lt_zero _)⟩
 | n + 1, hno => by
  obtain ⟨i, h0, h1, h2, h3, h4, h5, h6⟩ := bf0 S hc hd hm hm2 n fun k hk => hno k (by omega)
  have hs := af8 hc (V8 hc hm) n
  have ht := af8 hd (V8 hd hm2) i
  have hr := bf7 hc hm n
  have he := hno n (by omega)
  rcases S.go _ _ hs hr ht h1 h2 h3 he with ⟨g1, g2, g3, g4⟩ | ⟨g1, g2⟩
  ·refine ⟨i, by omega, g1, ?_, ?_, ?_, ?_, h6⟩
   ·rw [h2]; exact g2.symm
   ·rw [h3]; exact g3.symm
   ·rw [H5, K5, W0, g4, h4, List.append_nil]
   ·rw [H5, cb2]; omega
  ·obtain ⟨k1, k2, k3⟩ := aJ2 g1 h2 h3
   refine ⟨i + 1, by omega, g2, k1, k2, ?_, ?_, fun k hk => ?_⟩
   ·rw [H5, H5, K5, K5, W0, W0, k3, h4]
   ·rw [H5, H5, cb2, cb2]
    unfold E1
    rw [k3, cb8, cb8]; omega
   ·by_cases e : k = i
    ·subst e; rw [a17 g1]; exact he
    ·exact h6 k (by omega)
theorem bf1 (S : Sim c d R) (hc : e6 c = true) (hd : e6 d = true) (hm : G4 c.vars.length c.arrays.length m = true) (hm2 : G4 d.vars.length d.arrays.length m = true) {n : Nat} (h : aH4 c m n) :
  ∃ i, aH4 d m i ∧ bu1 d m i = bu1 c m n ∧ z6 (aw2 d m i) = z6 (aw2 c m n) ∧ (aw2 d m i).length ≤ (aw2 c m n).length := by
 obtain ⟨i, h0, h1, h2, h3, h4, h5, h6⟩ := bf0 S hc hd hm hm2 n h.no
 have g := S.fin _ _ (af8 hc (V8 hc hm) n) (bf7 hc hm n) (af8 hd (V8 hd hm2) i) h1 h.fin
 obtain ⟨k1, k2, k3⟩ := aJ2 g h2 h3
 have hlt := h.lt
 refine ⟨i, ⟨by omega, ?_, h6⟩, k2, ?_, ?_⟩
 ·rw [a17 g]; exact h.fin
 ·unfold aw2
  rw [H5, H5, K5, K5, W0, W0, k3, h4]
 ·unfold aw2
  rw [H5, H5, cb2, cb2]
  unfold E1
  rw [k3, cb8, cb8]; omega
end
theorem bA2 (c : b6) {x : Int} (h : X4 c x = true) (k : Nat) : t2 c k (t6 c x.toNat).a = t2 c (k + 1) x := (K0 h).symm
theorem aZ8 {c : b6} {t : o6} (h : B6 c t.pc) : C1 (E7 c) t = J4 c (t6 c t.pc.toNat) := by
 have h1 : 0 ≤ t.pc := h.1
 have h2 : t.pc < c.list.length := h.2
 exact aQ1 (by omega)
theorem a13 (c : b6) (t : Int) : ∃ k, t2 c k t = A0 c t := by
 unfold A0
 split
 ·exact ⟨0, rfl⟩
 ·exact ⟨_, rfl⟩
theorem aI8 (c : b6) (x : d8) : av8 x (J4 c x) := by
 unfold J4
 split
 ·rename_i h; exact aW1 h _
 ·exact same_refl x
theorem bE0 {c : b6} (hc : e6 c = true) : Sim c (E7 c) fun p q => ∃ k, t2 c k p = q where
 zero := ⟨0, rfl⟩
 go := by
  rintro s t hs hr ht ⟨k, hk⟩ hR hM he
  obtain ⟨a1, a2, -⟩ := U7 hs
  by_cases hp : t.pc = s.pc
  ·right
   have hpl : B6 c t.pc := by rw [hp]; exact ⟨a1, a2⟩
   have hi : C1 (E7 c) t = J4 c (C1 c s) := by rw [aZ8 hpl, hp]; rfl
   have hx := ax9 hc a1 a2
   have h13 : (C1 c s).op ≠ 13 := by unfold M9 at he; simpa using he
   refine ⟨hi ▸ aI8 c _, ?_⟩
   show ∃ k, t2 c k (stP (C1 c s) s.regs s.pc) = stP (C1 (E7 c) t) t.regs t.pc
   rw [hi, hR]
   by_cases ht : 0 ≤ i6 (C1 c s)
   ·have e : J4 c (C1 c s) = B5 (C1 c s) (A0 c (i6 (C1 c s))) := by unfold J4; rw [if_pos ht]
    rw [e]
    rcases bx9 ht (A0 c (i6 (C1 c s))) s.regs s.pc t.pc with ⟨g1, g2⟩ | ⟨_, g1, g2⟩
    ·rw [g1, g2]; exact a13 c _
    ·rw [g1, g2, hp]; exact ⟨0, rfl⟩
   ·have e : J4 c (C1 c s) = C1 c s := by unfold J4; rw [if_neg ht]
    rw [e, ap7 hx ht h13, ap7 hx ht h13, hp]; exact ⟨0, rfl⟩
  ·left
   cases k with
   | zero => exact absurd hk.symm hp
   | succ k =>
    cases hj : X4 c s.pc with
    | false => rw [F2 hj] at hk; exact absurd hk.symm hp
    | true =>
     obtain ⟨g1, g2, _⟩ := aP8 (c := c) (s := s) hj
     rw [g1]
     refine ⟨⟨k, ?_⟩, rfl, rfl, g2⟩
     rw [← hk]; exact bA2 c hj k
 fin := by
  rintro s t hs hr ht ⟨k, hk⟩ he
  obtain ⟨a1, a2, -⟩ := U7 hs
  have hj : X4 c s.pc = false := by
   cases hj : X4 c s.pc with
   | false => rfl
   | true => rw [(aP8 (c := c) (s := s) hj).2.2] at he; cases he
  rw [F2 hj] at hk
  have hpl : B6 c t.pc := by rw [← hk]; exact ⟨a1, a2⟩
  have hi : C1 (E7 c) t = J4 c (C1 c s) := by rw [aZ8 hpl, ← hk]; rfl
  rw [hi]; exact aI8 c _
theorem aZ7 {c : b6} {j : Nat} (hj : j < c.list.length) (hk : (A7 c).getD j false = true) : t6 (H4 c) (Q3 (A7 c) j) = trI (A7 c) (t6 c j) := by
 have h1 := bx4 (fun i => trI (A7 c) (t6 c i)) (A7 c) hk c.list.length hj (by rw [ad2]; exact cb1 _)
 show (j6 c (A7 c) c.list.length).getD _ _ = _
 rw [cb3]
 have e : j6 c (A7 c) c.list.length = ak1 (fun i => trI (A7 c) (t6 c i)) (A7 c) c.list.length := rfl
 rw [e, h1]; rfl
theorem aU7 (ks : List Bool) (x : d8) : av8 x (trI ks x) := by
 unfold trI
 split
 ·rename_i h; exact aW1 h _
 ·exact same_refl x
theorem aY4 {c : b6} {j : Nat} (hj : j < c.list.length) (hr : Rc c (j : Int)) (hk : (A7 c).getD j false = false) : X4 c j = true ∧ (t6 c j).a = (j : Int) + 1 := by
 rw [ai0 c j hj] at hk
 unfold kpB at hk
 rw [(ar6 hj).2 hr] at hk
 simp only [Bool.true_and, Bool.not_eq_false'] at hk
 unfold aD2 at hk
 simp only [cb0, decide_eq_true_eq] at hk
 unfold X4
 rw [ce4]
 exact ⟨by simp [hk.1], hk.2⟩
theorem bs4 {c : b6} (hc : e6 c = true) : Sim c (H4 c) fun p q => q = (Q3 (A7 c) p.toNat : Int) where
 zero := by simp [ab3]
 go := by
  rintro s t hs hr ht hR0 hR hM he
  obtain ⟨a1, a2, -⟩ := U7 hs
  have hl : s.pc.toNat < c.list.length := by omega
  have hn : ((s.pc.toNat : Nat) : Int) = s.pc := by omega
  have hs1 := W5 (A7 c) s.pc.toNat (by rw [ad2]; exact hl)
  cases hk : (A7 c).getD s.pc.toNat false with
  | true =>
   right
   have hi : C1 (H4 c) t = trI (A7 c) (C1 c s) := by
    show t6 (H4 c) t.pc.toNat = _
    rw [hR0, ce4, aZ7 hl hk]; rfl
   have hx := ax9 hc a1 a2
   have h13 : (C1 c s).op ≠ 13 := by unfold M9 at he; simpa using he
   refine ⟨hi ▸ aU7 _ _, ?_⟩
   show stP (C1 (H4 c) t) t.regs t.pc = (Q3 (A7 c) (stP (C1 c s) s.regs s.pc).toNat : Int)
   have hnext : (Q3 (A7 c) (s.pc + 1).toNat : Int) = t.pc + 1 := by
    rw [show (s.pc + 1).toNat = s.pc.toNat + 1 by omega, hs1, hk, hR0]; simp
   rw [hi, hR]
   by_cases ht : 0 ≤ i6 (C1 c s)
   ·have e : trI (A7 c) (C1 c s) = B5 (C1 c s) (Q3 (A7 c) (i6 (C1 c s)).toNat : Int) := by unfold trI; rw [if_pos ht]
    rw [e]
    rcases bx9 ht (Q3 (A7 c) (i6 (C1 c s)).toNat : Int) s.regs s.pc t.pc with ⟨g1, g2⟩ | ⟨_, g1, g2⟩
    ·rw [g1, g2]
    ·rw [g1, g2, hnext]
   ·have e : trI (A7 c) (C1 c s) = C1 c s := by unfold trI; rw [if_neg ht]
    rw [e, ap7 hx ht h13, ap7 hx ht h13, hnext]
  | false =>
   left
   obtain ⟨hj, ha⟩ := aY4 hl (by rw [hn]; exact hr) hk
   rw [hn] at hj
   obtain ⟨g1, g2, _⟩ := aP8 (c := c) (s := s) hj
   rw [g1]
   refine ⟨?_, rfl, rfl, g2⟩
   dsimp only
   rw [hR0, ha, show ((s.pc.toNat : Int) + 1).toNat = s.pc.toNat + 1 by omega, hs1, hk]; simp
 fin := by
  rintro s t hs hr ht hR0 he
  obtain ⟨a1, a2, -⟩ := U7 hs
  have hl : s.pc.toNat < c.list.length := by omega
  have hn : ((s.pc.toNat : Nat) : Int) = s.pc := by omega
  cases hk : (A7 c).getD s.pc.toNat false with
  | true =>
   have hi : C1 (H4 c) t = trI (A7 c) (C1 c s) := by
    show t6 (H4 c) t.pc.toNat = _
    rw [hR0, ce4, aZ7 hl hk]; rfl
   rw [hi]; exact aU7 _ _
  | false =>
   obtain ⟨hj, ha⟩ := aY4 hl (by rw [hn]; exact hr) hk
   rw [hn] at hj
   rw [(aP8 (c := c) (s := s) hj).2.2] at he; cases he
theorem aN0 {c : b6} {m : t9} (h : G4 c.vars.length c.arrays.length m = true) : G4 (E7 c).vars.length (E7 c).arrays.length m = true := h
theorem aM9 {c : b6} {m : t9} (h : G4 c.vars.length c.arrays.length m = true) : G4 (H4 c).vars.length (H4 c).arrays.length m = true := h
def aw0 (c d : b6) (m : t9) : Prop := ∀ n, aH4 c m n → ∃ i, aH4 d m i ∧ bu1 d m i = bu1 c m n ∧ z6 (aw2 d m i) = z6 (aw2 c m n) ∧ (aw2 d m i).length ≤ (aw2 c m n).length
theorem aw0.trans {c d e : b6} {m : t9} (h : aw0 c d m) (g : aw0 d e m) : aw0 c e m := by
 intro n hn
 obtain ⟨i, h1, h2, h3, h4⟩ := h n hn
 obtain ⟨j, g1, g2, g3, g4⟩ := g i h1
 exact ⟨j, g1, g2.trans h2, g3.trans h3, cd3 g4 h4⟩
theorem bj8 {c : b6} {m : t9} (hc : e6 c = true) (hm : G4 c.vars.length c.arrays.length m = true) : aw0 c (E7 c) m := fun _ h => bf1 (bE0 hc) hc (ar1 hc) hm (aN0 hm) h
theorem a51 {c : b6} {m : t9} (hc : e6 c = true) (hm : G4 c.vars.length c.arrays.length m = true) : aw0 c (H4 c) m := fun _ h => bf1 (bs4 hc) hc (be1 hc) hm (aM9 hm) h
theorem bl0 {c r : b6} (h : Opt c r) : e6 c = true → ∀ {m : t9}, G4 c.vars.length c.arrays.length m = true → aw0 c r m := by
 induction h with
 | stop h => exact fun _ _ _ n hn => ⟨n, hn, rfl, rfl, cb1 _⟩
 | step h _ ih =>
  intro hc m hm
  exact (bj8 hc hm).trans ((a51 (ar1 hc) (aN0 hm)).trans (ih (ao7 hc) (aM9 (aN0 hm))))
theorem aX9 {c r : b6} (h : Opt c r) : W6 r = r ∧ r.list.length ≤ c.list.length := by
 induction h with
 | stop h => exact ⟨h, cb1 _⟩
 | @step c r _ _ ih => exact ⟨ih.1, cd3 ih.2 (aY0 c)⟩
theorem bP7 {c r : b6} (h : Opt c r) : ∀ {m : t9}, G4 c.vars.length c.arrays.length m = true → G4 r.vars.length r.arrays.length m = true := by
 induction h with
 | stop _ => exact fun h => h
 | step _ _ ih => exact fun h => ih (aM9 (aN0 h))
theorem a81 {c : b6} (hc : e6 c = true) : aa6 (aa6 c) = aa6 c := ar7 (I3 hc).2 (aX9 (I3 hc).1).1
theorem bF8 {c d : b6} {m x y : t9} {v w : List (Int × Int)} {b e : Bool} (hd : e6 d = true) (hm : G4 c.vars.length c.arrays.length m = true → G4 d.vars.length d.arrays.length m = true) (hA : e6 c = true → G4 c.vars.length c.arrays.length m = true → aw0 c d m) (h : aS6 c m x v b) (g : aS6 d m y w e) (hb : b = true) : e = true ∧ y = x ∧ z6 w = z6 v ∧ w.length ≤ v.length := by
 rcases h with ⟨_, hc, hf, n, h1, rfl, rfl⟩ | ⟨h, _⟩
 ·obtain ⟨i, k1, k2, k3, k4⟩ := hA hc hf n h1
  rcases g with ⟨ge, _, _, j, g1, rfl, rfl⟩ | ⟨_, _, _, g4⟩
  ·obtain rfl := bt7 k1 g1
   exact ⟨ge, k2, k3, k4⟩
  ·exact absurd ⟨hd, hm hf, k1⟩ (g4 i)
 ·rw [h] at hb; cases hb
theorem bg2 {l : List (Int × Int)} {k : Nat} (hk : k < l.length) : z6 (l.take (k + 1)) = z6 (l.take k) ++ z6 [l.getD k (0, 0)] := by
 rw [s4 _ _ hk, K5, o8 hk]
theorem b76 {l : List (Int × Int)} {k : Nat} (hk : k < l.length) (h1 : 2 ≤ (l.getD k (0, 0)).1) (h2 : (l.getD k (0, 0)).1 ≤ 4) : z6 (l.take (k + 1)) = z6 (l.take k) ++ [((l.getD k (0, 0)).1, (l.getD k (0, 0)).2)] := by
 rw [bg2 hk]
 generalize l.getD k (0, 0) = x at *
 unfold z6
 rw [List.filter_cons, decide_eq_true h1, decide_eq_true h2]; rfl
theorem b77 {l : List (Int × Int)} {k : Nat} (hk : k < l.length) (h : (l.getD k (0, 0)).1 < 2 ∨ 4 < (l.getD k (0, 0)).1) : z6 (l.take (k + 1)) = z6 (l.take k) := by
 rw [bg2 hk]
 generalize l.getD k (0, 0) = x at *
 unfold z6
 rw [List.filter_cons]
 rcases h with h | h
 ·rw [decide_eq_false (p := 2 ≤ x.1) (by omega)]; simp
 ·rw [decide_eq_false (p := x.1 ≤ 4) (by omega)]; simp
theorem bP4 {l : List (Int × Int)} {k : Nat} (hk : l.length ≤ k) : z6 (l.take k) = z6 l := by rw [cc6 hk]
theorem bP3 (l : List (Int × Int)) : (z6 l).length ≤ l.length := List.length_filter_le ..
theorem bM9 (l : List (Int × Int)) (h1 : l.length ≤ 1000000) : j9.ok Tryz.prog ⟨15, [.ref 0], [.dat (.events l)], [.dat (.events l), .row 71 (.events (z6 l))], .ref 1⟩ := by
  refine K9 21 Tryz.func15 [dV l] [(0, .ref 0)] fun G => ?_; refine wp_seq (m7 G f8 [(2, .v (.slice none 0 0))] fun G => b0 (wp_seq (m7 G f8 [(3, .v (.slice none 0 0))] fun G => b0 (wp_seq (wp_seq (I8 G f8 [(2, .v (.slice none 0 0)), (3, .v (.slice none 0 0)), (6, .ref 0), (7, iA (l.length : Int)), (8, iA 0)] fun G => b0 (wp_block ?_))))))); obtain ⟨ρ, G⟩ := G.nil 1 71 (.events []) 6 [dV l] [(2, .v (.slice none 0 0)), (3, .ref 1), (6, .ref 0), (7, iA (l.length : Int)), (8, iA 0)]; refine A8 (κ := Nat) (fun k => k ≤ l.length) (fun k => l.length - k) (fun k => [dV l, .row 71 (.events (z6 (l.take k)))]) (fun k => [(2, .v (.slice none 0 0)), (3, .ref 1), (6, .ref 0), (7, iA (l.length : Int)), (8, iA k)]) 0 (by omega) (v5.at G _ _) ?_; clear G; intro k ρ a w hp G; replace G := v5.at G [dV l, .row 71 (D.events (z6 (cc0 k l)))] [(2, .v (.slice none 0 0)), (3, .ref 1), (6, .ref 0), (7, iA (l.length : Int)), (8, iA k)]; have hpl := bP3 (l.take k)
  have hpm : (l.take k).length ≤ l.length := by rw [List.length_take]; exact Nat.min_le_right _ _
  refine wp_seq (m7 G f8 [(9, bA (decide ((k : Int) < l.length)))] fun G => b0 (wp_seq (rcD G (fun h0 q0 => ?_) fun h0 q0 => ?_)))
  · refine wp_exit (A2 (A2 (A1 (b0 (wp_seq (m7 G f8 [(2, .ref 1)] fun G => b0 (wp_ret ?_))))))); exact L6 G [0, 1] (by show _ = mR [0, 1] [dV l, .row 71 (D.events (z6 l))]; have e1 : (z6 l : List (Int × Int)) = (z6 (cc0 k l)) := ((bP4 (by omega)).symm); (first | rw [e1] | simp only [e1]) <;> rfl)
  ·
   refine wp_skip (b0 (wp_seq (wp_block (wp_seq (V2 G f8 [0, 1, 18] [dV l, .row 71 (D.events (z6 (cc0 k l))), .box [iA (l.getD k (0, 0)).fst, iA (l.getD k (0, 0)).snd]] [(2, .v (.slice none 0 0)), (3, .ref 1), (5, .ptr 2 0), (6, .ref 0), (7, iA (l.length : Int)), (8, iA k)] (iX k k l.length []) (iK (by omega) cc2) fun G => b0 (wp_seq (m7 G (A4 2 [] (a28 ((l.getD k (0, 0)).fst) 2 4)) [(14, bA (decide (2 ≤ (l.getD k (0, 0)).fst) && decide ((l.getD k (0, 0)).fst ≤ 4)))] fun G => b0 ?_))))))); cases h1 : (decide ((2 : Int) ≤ (l.getD k ((0 : Int), (0 : Int))).fst) && decide ((l.getD k ((0 : Int), (0 : Int))).fst ≤ 4))
   · have q1 : (¬ (2 ≤ (l.getD k (0, 0)).fst)) ∨ (¬ ((l.getD k (0, 0)).fst ≤ 4)) := Or.imp (fun hq => of_decide_eq_false hq) (fun hq => of_decide_eq_false hq) (Bool.and_eq_false_iff.1 h1); refine rF G _ h1 (wp_skip (t5 (b0 (V2 G f8 [0, 1] [dV l, .row 71 (D.events (z6 (cc0 k l)))] [(2, .v (.slice none 0 0)), (3, .ref 1), (6, .ref 0), (7, iA (l.length : Int)), (8, iA ((k : Int) + 1))] [wO ((k : Int) + 1)] (o1 (by omega)) fun G => b0 ?_)))); exact rxn G (k + 1) (by omega) (by omega) [0, 1] (by have e1 : (z6 (cc0 (k + 1) l) : List (Int × Int)) = (z6 (cc0 k l)) := (b77 (by omega) (by omega)); (first | rw [e1] | simp only [e1]) <;> rfl)
   · have q1 : (2 ≤ (l.getD k (0, 0)).fst) ∧ ((l.getD k (0, 0)).fst ≤ 4) := And.imp (fun hq => of_decide_eq_true hq) (fun hq => of_decide_eq_true hq) (Bool.and_eq_true_iff.1 h1); refine rT G _ h1 (V2 G f8 [0, 27] [dV l, .row 71 (D.events (z6 (cc0 k l) ++ ([(l.getD k (0, 0))] ++ [])))] [(2, .v (.slice none 0 0)), (3, .ref 1), (6, .ref 0), (7, iA (l.length : Int)), (8, iA k)] (aP ((z6 (cc0 k l)).length + ([(l.getD k ((0 : Int), (0 : Int)))] ++ []).length) 16 []) (aK (by simp; omega) cc2) fun G => t5 (b0 (O0 G f8 [(8, iA ((k : Int) + 1))] [wO ((k : Int) + 1)] (o1 (by omega)) fun G => b0 ?_))); exact rxn G (k + 1) (by omega) (by omega) [0, 1] (by have e1 : (z6 (cc0 (k + 1) l) : List (Int × Int)) = (z6 (cc0 k l) ++ ([(l.getD k (0, 0))] ++ [])) := (b76 (by omega) (by omega) (by omega)); (first | rw [e1] | simp only [e1]) <;> rfl)
abbrev evF (l : List (Int × Int)) : List Value := l.flatMap fun x => [Value.int .i64 x.1, .int .i64 x.2]
theorem D3.ev {w : World} {v : Value} {l : List (Int × Int)} (h : D3 w v l.length 2 (evF l)) : ∃ a cap, v = .slice a l.length cap ∧ l.length ≤ cap ∧ l.length ≤ 9223372036854775807 ∧ cap ≤ 9223372036854775807 ∧
  ∀ i (hi : i < l.length), ∃ b off, a = some ⟨b, off, none⟩ ∧ b < w.heap.size ∧ w.cell? ⟨b, off + i * 2, none⟩ = some (.int .i64 l[i].1) ∧ w.cell? ⟨b, off + i * 2 + 1, none⟩ = some (.int .i64 l[i].2) := by
 obtain ⟨a, cap, h0, h1, h2, h3, h4⟩ := h.open
 refine ⟨a, cap, h0, h1, h2, h3, fun i hi => ?_⟩
 obtain ⟨b, off, e, hb, hc⟩ := h4 i hi
 have c0 := hc 0 (by omega)
 have c1 := hc 1 (by omega)
 obtain ⟨y0, e0, g0⟩ := bi0 l (j := 0) (x := .v (.int .i64 l[i].1)) hi (by rw [o8 hi]; rfl)
 obtain ⟨y1, e1, g1⟩ := bi0 l (j := 1) (x := .v (.int .i64 l[i].2)) hi (by rw [o8 hi]; rfl)
 cases e0
 cases e1
 simp only [cf3] at c0 g0
 exact ⟨b, off, e, hb, by rw [c0]; exact g0, by rw [c1]; exact g1⟩
theorem bR5 (x y : Int × Int) (w : World) : (binOp .neq 71 (.agg #[.int .i64 x.1, .int .i64 x.2]) (.agg #[.int .i64 y.1, .int .i64 y.2])).run Tryz.prog w = .ok (.bool (!decide (x = y))) w := by
 rw [run_neq_struct, run_equalIn_struct _ _ _ _ _ (by kernel_rfl) (by kernel_rfl)]
 rw [show (Tryz.prog.fieldsOf 71).toList = [⟨"Kind", 3, 0, false, "", "", 0⟩, ⟨"Value", 3, 1, false, "", "", 8⟩] from by kernel_rfl]
 simp only [Prod.ext_iff]
 simp [go_sem, Op.eqFields]
 (repeat' split) <;> simp_all
theorem by6 (v1 v2 : Value) (xs ys : List (Int × Int)) (w : World) (h1 : D3 w v1 xs.length 2 (evF xs)) (h2 : D3 w v2 ys.length 2 (evF ys)) :
  Calls Tryz.prog 39 #[v1, v2] w fun e w' => e = .returned (.bool (decide (xs = ys))) ∧ ∃ n, w' = w.drewN n := by
 obtain ⟨a1, c1, rfl, -, hm1, -, hc1⟩ := h1.ev
 obtain ⟨a2, c2, rfl, -, hm2, -, hc2⟩ := h2.ev
 by_cases hl : xs.length = ys.length
 ·have heq : ((xs.length : Int) == (ys.length : Int)) = true := by simp; omega
  have HL : Hid (xs.length = ys.length) := hl
  clear h1 h2 hl
  go_enter Tryz.func39, Tryz.ntmps39
  go_wp2
  go_loopw [5, 13] (fun _ i wr => ∃ k : Nat, k ≤ xs.length ∧ i = .int .i64 k ∧ xs.take k = ys.take k ∧ ∃ n, wr = w.drewN n) (fun _ i _ => xs.length - (intOf i).toNat)
  case atStart => exact ⟨0, cc7 _, rfl, rfl, 0, rfl⟩
  case round =>
   obtain ⟨k, hk, rfl, ht, nd, rfl⟩ := hrel
   have HT : Hid (xs.take k = ys.take k) := ht
   clear ht
   by_cases hlt : k < xs.length
   ·have hlt2 : k < ys.length := by have := HL.out; omega
    obtain ⟨b1, o1, e1, hb1, i0, i1⟩ := hc1 k hlt
    obtain ⟨b2, o2, e2, hb2, j0, j1⟩ := hc2 k hlt2
    have hq := fun w => bR5 xs[k] ys[k] w
    have HE := show Hid _ from (fun (h : xs[k] = ys[k]) => O4 HT.out hlt hlt2 h)
    obtain ⟨q, hq0⟩ : ∃ q, q = !decide (xs[k] = ys[k]) := ⟨_, rfl⟩
    rw [← hq0] at hq
    have HQ0 := show Hid _ from hq0
    obtain ⟨x, hx⟩ : ∃ x, x = xs[k] := ⟨_, rfl⟩
    obtain ⟨y, hy⟩ : ∃ y, y = ys[k] := ⟨_, rfl⟩
    rw [← hx] at i0 i1
    rw [← hy] at j0 j1
    simp only [← hx, ← hy] at hq
    subst e1 e2
    clear hc1 hc2 hq0 hx hy
    cases q
    ·go_wp2
     go_quiet (fail)
     go_wp2
     refine ⟨⟨k + 1, by omega, by go_num, HE.out (by have := HQ0.out; simpa using this), _, by first | rfl | exact World.drewN_drewN _ _ _⟩, by simp [intOf]; omega⟩
    ·go_wp2
     go_quiet (fail)
     go_wp2
     go_ret
     exact ⟨i9 (by symm; simp; intro h; subst h; simpa using HQ0.out), _, by first | rfl | exact World.drewN_drewN _ _ _⟩
   ·go_wp2
    go_ret
    exact ⟨i9 (by symm; simp; exact S4 HT.out (by omega) (by have := HL.out; omega)), _, rfl⟩
 ·have hne : ((xs.length : Int) == (ys.length : Int)) = false := by simp; omega
  clear hc1 hc2
  go_enter Tryz.func39, Tryz.ntmps39
  go_wp2
  go_ret
  exact ⟨i9 (by symm; simp; intro h; exact hl (by rw [h])), 0, rfl⟩
theorem bB2 (l m : List (Int × Int)) : j9.ok Tryz.prog (fnC 39 [.ref 0, .ref 1] [.dat (.events l), .dat (.events m)] (bA (decide (l = m)))) :=
 al2 fun φ w ρ h => (by6 _ _ l m w (l9.row (h 0 _ rfl)) (l9.row (h 1 _ rfl))).mono fun e w' ⟨h1, n, h2⟩ => ⟨h1, h2 ▸ below_drewN (Below.refl _ _) n⟩
theorem b24 (l m : List (Int × Int)) : j9.ok Tryz.prog (fnC 14 [.ref 0, .ref 1] [.dat (.events l), .dat (.events m)] (bA (decide (l = m)))) := by
 refine K9 8 Tryz.func14 [dV l, dV m] [(0, .ref 0), (1, .ref 1)] fun G => ?_; refine wp_seq (m7 G f8 [(4, bA false)] fun G => b0 (wp_seq (m7 G (A4 2 [0, 1] (bB2 l m)) [(4, bA (decide (l = m)))] fun G => b0 (wp_ret ?_)))); exact L6 G [0, 1]
theorem a67 {w : World} {φ : Nat → Prop} {v : Value} {l : List d8} (h : w.ownsRow 0 60 5 v l.length (ints (t8 l))) : (Rs.row 60 (D.instrs l).sz v (D.instrs l).len fun xs w φ => RW w φ (.instrs l) xs).holds w φ := by
 refine ⟨fun xs => RW.nice (.instrs l) xs, ints (t8 l), h, fun i hi j x hx => ?_⟩
 have hi' : i < l.length := hi
 obtain ⟨y, rfl, hy⟩ := by4 l hi' hx
 exact ⟨y, hy, rfl⟩
theorem bi4 {f : FuncId} {c d : b6} {b : Bool} (h : ∀ (v : Value) (w : World), r8 w v c → Calls Tryz.prog f #[v] w fun e w' => ∃ u, e = .returned (.tuple #[u, .bool b]) ∧ y6 w' w.heap.size w'.heap.size u d ∧ Below w.heap.size w w') : j9.ok Tryz.prog ⟨f, [.agg [.ref 0, .ref 1, .ref 2]], [.dat (.ints c.vars), .dat (.ints c.arrays), .dat (.instrs c.list)], [.dat (.ints c.vars), .dat (.ints c.arrays), .dat (.instrs c.list), .row 3 (.ints d.vars), .row 3 (.ints d.arrays), .row 60 (.instrs d.list)], .tup [.agg [.ref 3, .ref 4, .ref 5], .v (.bool b)]⟩ := by
 intro ι φ ψ w0 w F ρ M
 have r0 := M.datAt (id := 0) (d := .ints c.vars) rfl
 have r1 := M.datAt (id := 1) (d := .ints c.arrays) rfl
 have r2 := M.datAt (id := 2) (d := .instrs c.list) rfl
 refine (h (.agg #[ρ 0, ρ 1, ρ 2]) w ⟨_, _, _, rfl, l9.row r0, l9.row r1, l9.row r2⟩).mono ?_
 rintro e w' ⟨u, rfl, ⟨v1, v2, v3, rfl, ⟨o1, g1⟩, ⟨o2, g2⟩, ⟨o3, g3⟩, d12, d13, d23⟩, hbl⟩
 refine ⟨fun i => if i = 3 then v1 else if i = 4 then v2 else if i = 5 then v3 else ρ i, fun i hi => ?_, by simp [AV.val, AV.vals], ?_⟩
 ·have hi' : i < 3 := hi
  simp only [if_neg (show ¬ i = 3 by omega), if_neg (show ¬ i = 4 by omega), if_neg (show ¬ i = 5 by omega)]
 ·refine M.grow hbl (fun k => k = .inr 3 ∨ k = .inr 4 ∨ k = .inr 5) (fun k hk => ?_) ?_ ?_ ?_
  ·cases k with
   | inl i => rfl
   | inr j =>
    match j, hk with
    | 0, _ => rfl
    | 1, _ => rfl
    | 2, _ => rfl
    | 3, h => exact absurd (.inl rfl) h
    | 4, h => exact absurd (.inr (.inl rfl)) h
    | 5, h => exact absurd (.inr (.inr rfl)) h
    | j + 6, _ => rfl
  ·rintro k (rfl | rfl | rfl) b hb
   ·exact (World.ownsRow.lt o1 b hb).1
   ·exact (World.ownsRow.lt o2 b hb).1
   ·exact (World.ownsRow.lt o3 b hb).1
  ·rintro j k b hjk (rfl | rfl | rfl) (rfl | rfl | rfl) h1 h2
   ·exact absurd rfl hjk
   ·exact d12 b h1 h2
   ·exact d13 b h1 h2
   ·exact d12 b h2 h1
   ·exact absurd rfl hjk
   ·exact d23 b h1 h2
   ·exact d13 b h2 h1
   ·exact d23 b h2 h1
   ·exact absurd rfl hjk
  ·rintro k (rfl | rfl | rfl)
   ·exact ar5 (v8 o1 (cc7 _))
   ·exact ar5 (v8 o2 (cc7 _))
   ·exact a67 (v8 o3 (cc7 _))
section
variable {f : FuncId} {c : b6}
end
theorem ba2 {f : FuncId} {c d : b6} {b : Bool} (h : ∀ (v : Value) (w : World), r8 w v c → Calls Tryz.prog f #[v] w fun e w' => ∃ u, e = .returned (.tuple #[u, .bool b]) ∧ I9 w' w.heap.size w'.heap.size u d ∧ Below w.heap.size w w') : j9.ok Tryz.prog ⟨f, [.agg [.ref 0, .ref 1, .ref 2]], [.dat (.ints c.vars), .dat (.ints c.arrays), .dat (.instrs c.list)], [.dat (.ints c.vars), .dat (.ints c.arrays), .dat (.instrs c.list), .dat (.ints d.vars), .dat (.ints d.arrays), .dat (.instrs d.list)], .tup [.agg [.ref 3, .ref 4, .ref 5], .v (.bool b)]⟩ := by
 intro ι φ ψ w0 w F ρ M
 have r0 := M.datAt (id := 0) (d := .ints c.vars) rfl
 have r1 := M.datAt (id := 1) (d := .ints c.arrays) rfl
 have r2 := M.datAt (id := 2) (d := .instrs c.list) rfl
 refine (h (.agg #[ρ 0, ρ 1, ρ 2]) w ⟨_, _, _, rfl, l9.row r0, l9.row r1, l9.row r2⟩).mono ?_
 rintro e w' ⟨u, rfl, ⟨v1, v2, v3, rfl, g1, g2, g3⟩, hbl⟩
 have ho' : ∀ k, ¬ (k = Sum.inr 3 ∨ k = Sum.inr 4 ∨ k = Sum.inr 5) → l7 F (fun i => if i = 3 then v1 else if i = 4 then v2 else if i = 5 then v3 else ρ i) (o0 [.dat (.ints c.vars), .dat (.ints c.arrays), .dat (.instrs c.list), .dat (.ints d.vars), .dat (.ints d.arrays), .dat (.instrs d.list)]) k = l7 F ρ (o0 [.dat (.ints c.vars), .dat (.ints c.arrays), .dat (.instrs c.list)]) k := by
  intro k hk
  cases k with
  | inl i => rfl
  | inr j =>
   match j, hk with
   | 0, _ => rfl
   | 1, _ => rfl
   | 2, _ => rfl
   | 3, h => exact absurd (.inl rfl) h
   | 4, h => exact absurd (.inr (.inl rfl)) h
   | 5, h => exact absurd (.inr (.inr rfl)) h
   | j + 6, _ => rfl
 have hfr : ∀ g, w.heap.size ≤ g ∧ g < w'.heap.size → Y0 φ (l7 F (fun i => if i = 3 then v1 else if i = 4 then v2 else if i = 5 then v3 else ρ i) (o0 [.dat (.ints c.vars), .dat (.ints c.arrays), .dat (.instrs c.list), .dat (.ints d.vars), .dat (.ints d.arrays), .dat (.instrs d.list)])) g := by
  rintro g ⟨h1, -⟩
  refine ⟨M.fresh g (by have := M.kept.size; omega), fun k hk => ?_⟩
  by_cases e : k = Sum.inr 3 ∨ k = Sum.inr 4 ∨ k = Sum.inr 5
  ·rcases e with rfl | rfl | rfl <;> cases hk
  ·rw [ho' k e] at hk
   have := M.lt hk
   omega
 have hag : ∀ {v : Value} {n sz : Nat} {xs : List Value}, l9 w' (fun b => w.heap.size ≤ b ∧ b < w'.heap.size) v n sz xs → l9 w' (Y0 φ (l7 F (fun i => if i = 3 then v1 else if i = 4 then v2 else if i = 5 then v3 else ρ i) (o0 [.dat (.ints c.vars), .dat (.ints c.arrays), .dat (.instrs c.list), .dat (.ints d.vars), .dat (.ints d.arrays), .dat (.instrs d.list)]))) v n sz xs :=
  fun h => l9.nice _ _ _ _ _ _ _ _ (Agr.mono fun b _ hp => hfr b hp) h
 refine ⟨fun i => if i = 3 then v1 else if i = 4 then v2 else if i = 5 then v3 else ρ i, fun i hi => ?_, by simp [AV.val, AV.vals], ?_⟩
 ·have hi' : i < 3 := hi
  simp only [if_neg (show ¬ i = 3 by omega), if_neg (show ¬ i = 4 by omega), if_neg (show ¬ i = 5 by omega)]
 ·refine M.grow hbl (fun k => k = .inr 3 ∨ k = .inr 4 ∨ k = .inr 5) ho' ?_ ?_ ?_
  ·rintro k (rfl | rfl | rfl) b hb <;> cases hb
  ·rintro j k b hjk (rfl | rfl | rfl) _ h1 _ <;> cases h1
  ·rintro k (rfl | rfl | rfl)
   ·exact ⟨RD.nice _ _, hag g1⟩
   ·exact ⟨RD.nice _ _, hag g2⟩
   ·exact ⟨RD.nice _ _, hag g3⟩
theorem a33 (v ar : List Int) (l : List d8) : j9.ok Tryz.prog (fnC 10 [.agg [.ref 0, .ref 1, .ref 2], .agg [.ref 3, .ref 4, .ref 5]] [.dat (.ints v), .dat (.ints ar), .dat (.instrs l), .dat (.ints v), .dat (.ints ar), .dat (.instrs l)] (bA true)) :=
 al2 fun φ w ρ h => (ak2 _ _ ⟨v, ar, l⟩ ⟨v, ar, l⟩ w ⟨ρ 0, ρ 1, ρ 2, rfl, l9.row (h 0 _ rfl), l9.row (h 1 _ rfl), l9.row (h 2 _ rfl)⟩ ⟨ρ 3, ρ 4, ρ 5, rfl, l9.row (h 3 _ rfl), l9.row (h 4 _ rfl), l9.row (h 5 _ rfl)⟩).mono fun e w' h => ⟨by rw [h.1, b6.same_refl], h.2⟩
end Go.Proofs.YtmokkddidcmglaaGreat
