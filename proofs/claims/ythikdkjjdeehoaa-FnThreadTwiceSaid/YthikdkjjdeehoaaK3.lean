/-
  Texts of this claim, part 3: what the functions on the way do, and plain laws. Conditions: as each statement says.
-/
import Derived.WalkSpells
import Derived.Lib.SliceRun
import Derived.Test.YthikdkjjdeehoaaK2
set_option maxRecDepth 100000
set_option maxHeartbeats 16000000

namespace Go.Proofs.Ythikdkjjdeehoaa
set_option linter.unusedVariables false
set_option linter.unusedSimpArgs false
open Go Go.RowKit
def aD1 (x y : Int) : Int := IntKind.i64.wrap ((BitVec.ofInt (IntKind.bits .i64) x ^^^ BitVec.ofInt (IntKind.bits .i64) y).toNat : Int)
theorem p7.dup {P : Program} {f : FuncId} {args args' : List AV} {S S' : List It} {d : D} {res : AV} {i : Nat} (hc : p7.ok P ⟨f, args, S ++ [.dat d], S' ++ [.dat d], res⟩) (hi : S[i]? = some (.dat d)) (hl : S'.length = S.length)
  (hS : S.all (fun x => Y6 S.length x.ids) = true) (ha : ∀ ρ : Nat → Value, ρ S.length = ρ i → AV.vals ρ args = AV.vals ρ args') (hg : Y6 S.length (AV.idsL args') = true) : p7.ok P ⟨f, args', S, S', res⟩ := by
 intro ι φ ψ w0 w F ρ M
 have hi' : s9 S i = .dat d := by simp [s9, hi]
 have hlt : i < S.length := (List.getElem?_eq_some_iff.1 hi).1
 have hinv : V1 (s9 S) ρ [S.length] := fun ρ' h j => by
  by_cases hj : j < S.length
  ·refine It.res_congr _ (fun k hk => h k ?_) (.inr (.inr (h j (by simp; omega))))
   have h1 := I9 (List.all_eq_true.1 hS (S[j]) (List.getElem_mem hj)) k (by simpa [s9, List.getD_eq_getElem?_getD, List.getElem?_eq_getElem hj] using hk)
   simp; omega
  ·rw [show s9 S j = .none by simp only [s9, List.getD_eq_getElem?_getD, List.getElem?_eq_none (Nat.le_of_not_lt hj)]; rfl]; rfl
 obtain ⟨ρ', h1, M1, h2⟩ := M.newDat (id := S.length) (by simp [s9]) hinv (M.datAt hi')
 have e : n6 (s9 S) [(S.length, .dat d)] = s9 (S ++ [.dat d]) := by
  funext j
  simp only [n6, s9, List.getD_eq_getElem?_getD]
  by_cases hj : j = S.length
  ·subst hj; simp
  ·rw [if_neg hj]
   by_cases hj2 : j < S.length
   ·rw [List.getElem?_append_left hj2]
   ·rw [List.getElem?_eq_none (by omega), List.getElem?_eq_none (by simp; omega)]
 rw [e] at M1
 have hρ : ρ' i = ρ i := h1 i (by simp; omega)
 have ea : AV.vals ρ args' = AV.vals ρ' args := by
  rw [ha ρ' (by rw [← h2, hρ])]
  exact (AV.vals_congr _ fun k hk => by
   have := I9 hg k hk
   exact h1 k (by simp; omega)).symm
 simp only
 rw [ea]
 refine (hc ι φ ψ w0 w F ρ' M1).mono ?_
 rintro x w' ⟨ρ2, g1, g2, M2⟩
 refine ⟨ρ2, fun k hk => ?_, g2, ?_⟩
 ·rw [g1 k (by simp; omega)]; exact h1 k (by simp; omega)
 ·refine M2.map (fun k => match k with | .inl i => some (.inl i) | .inr j => if j < S'.length then some (.inr j) else none) ?_ ?_
  ·intro k k' x h1 h2
   match k, k' with
   | .inl i, .inl i' => simp at h1 h2; rw [h1, h2]
   | .inl i, .inr j => simp at h1; subst h1; simp at h2
   | .inr j, .inl i => simp at h2; subst h2; simp at h1
   | .inr j, .inr j' => simp at h1 h2; rw [← h1.2] at h2; rw [Sum.inr.inj h2.2]
  ·intro k
   match k with
   | .inl i => exact .inl ⟨.inl i, rfl, rfl⟩
   | .inr j =>
    by_cases hj : j < S'.length
    ·refine .inl ⟨.inr j, by simp [hj], ?_⟩
     simp only [o6, s9, List.getD_eq_getElem?_getD, List.getElem?_append_left hj]
    ·refine .inr ?_
     simp only [o6, s9, List.getD_eq_getElem?_getD, List.getElem?_eq_none (Nat.le_of_not_lt hj)]
     rfl
def W3 (b : List UInt8) (k : Int) : Int := ((b.getD (k.tmod b.length).toNat 0).toNat : Int) * 131 + ((b.getD ((k * 7 + 3).tmod b.length).toNat 0).toNat : Int) * 1117 + k * 29 + k.tdiv b.length * 53
def pk (b : List UInt8) (k n : Int) : Int :=
 if n < 1 ∨ b.length = 0 then 0 else if k < b.length then ((b.getD k.toNat 0).toNat : Int).tmod n else (aD1 (W3 b k) ((W3 b k).tdiv 64)).tmod n
def nm (b : List UInt8) (k : Int) (l : List Int) : Int := l.getD (pk b k l.length).toNat 0
theorem a74 {x y : Int} (hx : 0 ≤ x) (hx2 : x < 9223372036854775808) (hy : 0 ≤ y) (hy2 : y < 9223372036854775808) : 0 ≤ aD1 x y := by
 obtain ⟨a, rfl⟩ := Int.eq_ofNat_of_zero_le hx
 obtain ⟨c, rfl⟩ := Int.eq_ofNat_of_zero_le hy
 have ha : a < 2 ^ 63 := by omega
 have hc : c < 2 ^ 63 := by omega
 have h : (BitVec.ofInt (IntKind.bits .i64) (a : Int) ^^^ BitVec.ofInt (IntKind.bits .i64) (c : Int)).toNat < 2 ^ 63 := by
  rw [BitVec.toNat_xor]
  refine Nat.xor_lt_two_pow ?_ ?_
  ·simp only [BitVec.ofInt_natCast, BitVec.toNat_ofNat, IntKind.bits]; omega
  ·simp only [BitVec.ofInt_natCast, BitVec.toNat_ofNat, IntKind.bits]; omega
 unfold aD1
 generalize (BitVec.ofInt (IntKind.bits .i64) (a : Int) ^^^ BitVec.ofInt (IntKind.bits .i64) (c : Int)).toNat = z at h ⊢
 rw [w6 (by omega) (by omega)]
 omega
theorem aw3 (x : UInt8) : ((x.toNat : Nat) : Int) ≤ 255 := by have := x.toNat_lt; omega
theorem aD7 {k n : Int} (hk : 0 ≤ k) (hn : 1 ≤ n) : 0 ≤ k.tdiv n ∧ k.tdiv n ≤ k := by
 refine ⟨Int.tdiv_nonneg hk (by omega), ?_⟩
 rw [Int.tdiv_eq_ediv_of_nonneg hk]
 exact Int.ediv_le_self _ hk
theorem aF7 {b : List UInt8} {k : Int} (hk : 0 ≤ k) (hk2 : k ≤ 1000000000) (hb : b.length ≠ 0) : 0 ≤ W3 b k ∧ W3 b k ≤ 100000000000 := by
 unfold W3
 have h1 := aw3 (b.getD (k.tmod b.length).toNat 0)
 have h2 := aw3 (b.getD ((k * 7 + 3).tmod b.length).toNat 0)
 have h3 := aD7 (n := b.length) hk (by omega)
 omega
theorem aJ9 {x n : Int} (hx : 0 ≤ x) (hn : 1 ≤ n) : 0 ≤ x.tmod n ∧ x.tmod n < n := ⟨Int.tmod_nonneg _ hx, Int.tmod_lt_of_pos _ (by omega)⟩
theorem V8 {b : List UInt8} {k : Int} (hk : 0 ≤ k) (hk2 : k ≤ 1000000000) (hb : b.length ≠ 0) : 0 ≤ (W3 b k).tdiv 64 ∧ (W3 b k).tdiv 64 ≤ 100000000000 := by
 have h := aF7 hk hk2 hb
 have h2 := aD7 (n := 64) h.1 (by omega)
 omega
theorem a96 (b : List UInt8) {k n : Int} (hk : 0 ≤ k) (hk2 : k ≤ 1000000000) (hn : 1 ≤ n) : 0 ≤ pk b k n ∧ pk b k n < n := by
 unfold pk
 split
 ·omega
 ·split
  ·exact aJ9 (by omega) hn
  ·have h := aF7 hk hk2 (show b.length ≠ 0 by omega)
   have h2 := V8 hk hk2 (show b.length ≠ 0 by omega)
   exact aJ9 (a74 h.1 (by omega) h2.1 (by omega)) hn
theorem aQ8 (b : List UInt8) {k : Int} (hk : 0 ≤ k) (hk2 : k ≤ 1000000000) {l : List Int} (hl : l ≠ []) : 0 ≤ pk b k l.length ∧ pk b k l.length < l.length ∧ (pk b k l.length).toNat < l.length := by
 have h0 : 0 < l.length := List.length_pos_iff.2 hl
 have h := a96 b (n := l.length) hk hk2 (by omega)
 omega
theorem ai9 (b : List UInt8) {k : Int} (hk : 0 ≤ k) (hk2 : k ≤ 1000000000) {l : List Int} (hl : l ≠ []) : nm b k l ∈ l := by
 unfold nm
 rw [A7 (aQ8 b hk hk2 hl).2.2]
 exact List.getElem_mem _
def y7 {α : Type} (f : Int → α × Int) : Nat → Int → List α × Int
 | 0, k => ([], k)
 | n + 1, k => ((y7 f n k).1 ++ [(f (y7 f n k).2).1], (f (y7 f n k).2).2)
theorem aB9 {α : Type} (f : Int → α × Int) (n : Nat) (k : Int) : (y7 f n k).1.length = n := by
 induction n with
 | zero => rfl
 | succ n ih => simp [y7, ih]
theorem a51 {α : Type} {f : Int → α × Int} {c : Int} (hc : 0 ≤ c) {m : Nat} : ∀ (n : Nat) (k : Int), n ≤ m → (∀ j, k ≤ j → j ≤ k + m * c → j ≤ (f j).2 ∧ (f j).2 ≤ j + c) → k ≤ (y7 f n k).2 ∧ (y7 f n k).2 ≤ k + n * c := by
 intro n
 induction n with
 | zero => intro k _ _; simp [y7]
 | succ n ih =>
  intro k hm h
  have h1 := ih k (by omega) h
  have e : ((n + 1 : Nat) : Int) * c = n * c + c := by rw [Int.natCast_add, Int.add_mul]; simp
  have h3 : ((n + 1 : Nat) : Int) * c ≤ m * c := Int.mul_le_mul_of_nonneg_right (by omega) hc
  have h2 := h (y7 f n k).2 h1.1 (by omega)
  simp only [y7]
  rw [e]
  omega
theorem bb2 {α : Type} {f : Int → α × Int} {Q : α → Prop} (h : ∀ j, Q (f j).1) (n : Nat) (k : Int) : ∀ x ∈ (y7 f n k).1, Q x := by
 induction n with
 | zero => intro x hx; cases hx
 | succ n ih =>
  intro x hx
  simp only [y7, List.mem_append, List.mem_singleton] at hx
  rcases hx with hx | rfl
  ·exact ih x hx
  ·exact h _
abbrev atL : List Int := [1] ++ ([0] ++ ([2] ++ ([3] ++ ([255] ++ ([7] ++ ([128] ++ []))))))
def l7 (b : List UInt8) (nv : Int) (k : Int) : f5 := if pk b k 3 = 0 then ⟨1, nm b (k + 1) atL, []⟩ else ⟨2, pk b (k + 1) nv, []⟩
abbrev E3 : List Int := [4] ++ ([10] ++ ([8] ++ ([9] ++ ([3] ++ ([6] ++ ([7] ++ ([5] ++ ([11] ++ []))))))))
def D2 (b : List UInt8) (nv na : Int) : Nat → Int → f5 × Int
 | 0, k => (l7 b nv k, k + 2)
 | d + 1, k => if d = 0 then (l7 b nv k, k + 2) else if pk b k 4 = 0 then (l7 b nv (k + 1), k + 3)
  else if nm b (k + 1) E3 = 3 then (if na = 0 then (l7 b nv (k + 2), k + 4) else (⟨3, pk b (k + 2) na, [l7 b nv (k + 3)]⟩, k + 5))
  else (⟨nm b (k + 1) E3, 0, (y7 (D2 b nv na d) (l9 (nm b (k + 1) E3)).toNat (k + 2)).1⟩, (y7 (D2 b nv na d) (l9 (nm b (k + 1) E3)).toNat (k + 2)).2)
def cE : Nat → Int
 | 0 => 2
 | d + 1 => 5 + 3 * cE d
theorem au1 (d : Nat) : 2 ≤ cE d := by
 induction d with
 | zero => exact Int.le_refl _
 | succ d ih => simp only [cE]; omega
theorem ar3 (k : Int) : (l9 k).toNat ≤ 3 := by unfold l9; (repeat' split) <;> decide
theorem aI1 (b : List UInt8) (nv na : Int) : ∀ (d : Nat) (k : Int), k ≤ (D2 b nv na d k).2 ∧ (D2 b nv na d k).2 ≤ k + cE d
 | 0, k => by simp only [D2, cE]; omega
 | d + 1, k => by
  have hc := au1 d
  rw [D2]
  simp only [cE]
  split
  ·simp only; omega
  ·split
   ·simp only; omega
   ·split
    ·split <;> (simp only; omega)
    ·have h3 := ar3 (nm b (k + 1) E3)
     have h := a51 (f := D2 b nv na d) (c := cE d) (m := 3) (by omega) (l9 (nm b (k + 1) E3)).toNat (k + 2) h3 fun j _ _ => aI1 b nv na d j
     have h4 : ((l9 (nm b (k + 1) E3)).toNat : Int) * cE d ≤ 3 * cE d := Int.mul_le_mul_of_nonneg_right (by omega) (by omega)
     simp only
     omega
theorem aP6 {c : Nat} : ∀ {l : List f5}, (∀ x ∈ l, L9 x ≤ c) → G2 l ≤ l.length * (1 + c)
 | [], _ => Nat.zero_le _
 | e :: r, h => by
  have h1 := h e (List.mem_cons_self ..)
  have h2 := aP6 (l := r) fun x hx => h x (List.mem_cons_of_mem _ hx)
  simp only [G2, List.length_cons]
  rw [Nat.add_mul]
  omega
theorem a52 (b : List UInt8) (nv na : Int) : ∀ (d : Nat) (k : Int), (L9 (D2 b nv na d k).1 : Int) ≤ cE d
 | 0, k => by
  simp only [D2, cE, l7]
  split <;> simp [L9, G2]
 | d + 1, k => by
  have hc := au1 d
  have ha : ∀ j, L9 (l7 b nv j) = 0 := fun j => by unfold l7; split <;> rfl
  rw [D2]
  simp only [cE]
  split
  ·simp only [ha]; omega
  ·split
   ·simp only [ha]; omega
   ·split
    ·split
     ·simp only [ha]; omega
     ·simp only [L9, G2, ha]; omega
    ·have h3 := ar3 (nm b (k + 1) E3)
     have h1 := bb2 (f := D2 b nv na d) (Q := fun x => L9 x ≤ (cE d).toNat) (fun j => by have := a52 b nv na d j; omega) (l9 (nm b (k + 1) E3)).toNat (k + 2)
     have h2 := aP6 h1
     rw [aB9] at h2
     simp only [L9]
     have h4 := Nat.mul_le_mul_right (1 + (cE d).toNat) h3
     omega
abbrev V0 : List Int := [2] ++ ([3] ++ ([2] ++ ([1] ++ ([4] ++ []))))
def x5 (b : List UInt8) (nv na : Nat) (k : Int) : f5 × Int :=
 if l6 nv na (D2 b nv na (nm b k V0).toNat (k + 1)).1 = true then D2 b nv na (nm b k V0).toNat (k + 1)
 else (l7 b nv (D2 b nv na (nm b k V0).toNat (k + 1)).2, (D2 b nv na (nm b k V0).toNat (k + 1)).2 + 2)
theorem cE4 {d : Nat} (h : d ≤ 4) : cE d ≤ 364 := by
 match d, h with
 | 0, _ => decide
 | 1, _ => decide
 | 2, _ => decide
 | 3, _ => decide
 | 4, _ => decide
theorem dp4 (b : List UInt8) {k : Int} (hk : 0 ≤ k) (hk2 : k ≤ 1000000000) : 1 ≤ nm b k V0 ∧ nm b k V0 ≤ 4 ∧ (nm b k V0).toNat ≤ 4 := by
 have h := ai9 b hk hk2 (l := V0) (by simp)
 simp only [List.mem_append, List.mem_cons, List.not_mem_nil, or_false] at h
 omega
theorem bg5 (b : List UInt8) {k : Int} (hk : 0 ≤ k) (hk2 : k ≤ 1000000000) : nm b k V0 = ((nm b k V0).toNat : Int) := by have := dp4 b hk hk2; omega
theorem aP8 (b : List UInt8) (nv na : Nat) {k : Int} (hk : 0 ≤ k) (hk2 : k ≤ 1000000000) : k ≤ (x5 b nv na k).2 ∧ (x5 b nv na k).2 ≤ k + 367 := by
 have h := aI1 b nv na (nm b k V0).toNat (k + 1)
 have h2 := cE4 (dp4 b hk hk2).2.2
 unfold x5
 split
 ·omega
 ·simp only; omega
theorem aJ2 (b : List UInt8) (nv j : Int) : L9 (l7 b nv j) = 0 := by unfold l7; split <;> rfl
theorem aK6 (b : List UInt8) (nv na : Nat) {k : Int} (hk : 0 ≤ k) (hk2 : k ≤ 1000000000) : L9 (x5 b nv na k).1 ≤ 364 := by
 have h := a52 b nv na (nm b k V0).toNat (k + 1)
 have h2 := cE4 (dp4 b hk hk2).2.2
 unfold x5
 split
 ·omega
 ·rw [aJ2]; omega
abbrev noE : f5 := ⟨0, 0, []⟩
abbrev D0 : List Int := [1] ++ ([1] ++ ([2] ++ ([3] ++ ([4] ++ ([1] ++ ([3] ++ ([5] ++ [])))))))
abbrev ibL : List Int := [1] ++ ([2] ++ ([1] ++ ([0] ++ [])))
abbrev ieL : List Int := [0] ++ ([1] ++ ([0] ++ ([2] ++ [])))
abbrev rcL : List Int := [2] ++ ([1] ++ ([3] ++ []))
abbrev rbL : List Int := [1] ++ ([2] ++ ([1] ++ []))
def dfS (b : List UInt8) (nv na : Nat) (kd k : Int) : d9 × Int := (⟨if kd = 5 then 5 else 1, pk b k nv, noE, (x5 b nv na (k + 1)).1, 0, [], []⟩, (x5 b nv na (k + 1)).2)
def soS (b : List UInt8) (nv na : Nat) (k : Int) : d9 × Int := (⟨2, pk b k na, l7 b nv (k + 1), (x5 b nv na (k + 1 + 2)).1, 0, [], []⟩, (x5 b nv na (k + 1 + 2)).2)
def mnD (b : List UInt8) (f : Int → d9 × Int) (l : List Int) (k : Int) : List d9 × Int := y7 f (nm b k l).toNat (k + 1)
def ifS (b : List UInt8) (nv na : Nat) (f : Int → d9 × Int) (k : Int) : d9 × Int :=
 (⟨3, 0, noE, (x5 b nv na k).1, 0, (mnD b f ibL (x5 b nv na k).2).1, (mnD b f ieL (mnD b f ibL (x5 b nv na k).2).2).1⟩, (mnD b f ieL (mnD b f ibL (x5 b nv na k).2).2).2)
def rpS (b : List UInt8) (f : Int → d9 × Int) (k : Int) : d9 × Int := (⟨4, 0, noE, noE, nm b k rcL, (mnD b f rbL (k + 1)).1, []⟩, (mnD b f rbL (k + 1)).2)
def r7 (b : List UInt8) (nv na : Nat) : Nat → Int → d9 × Int
 | 0, k => if nm b k D0 = 2 ∧ na ≠ 0 then soS b nv na (k + 1) else dfS b nv na (nm b k D0) (k + 1)
 | d + 1, k => if nm b k D0 = 2 ∧ na ≠ 0 then soS b nv na (k + 1) else if nm b k D0 = 3 ∧ d ≠ 0 then ifS b nv na (r7 b nv na d) (k + 1) else if nm b k D0 = 4 ∧ d ≠ 0 then rpS b (r7 b nv na d) (k + 1)
  else dfS b nv na (nm b k D0) (k + 1)
def cS : Nat → Int
 | 0 => 402
 | d + 1 => 402 + 4 * cS d
theorem am7 (d : Nat) : 402 ≤ cS d := by
 induction d with
 | zero => exact Int.le_refl _
 | succ d ih => simp only [cS]; omega
section
variable (b : List UInt8) (nv na : Nat) {k : Int}
theorem bd3 (kd : Int) (hk : 0 ≤ k) (hk2 : k + 400 ≤ 1000000000) : k ≤ (dfS b nv na kd k).2 ∧ (dfS b nv na kd k).2 ≤ k + 368 := by
 have h := aP8 b nv na (k := k + 1) (by omega) (by omega)
 simp only [dfS]; omega
theorem bc8 (hk : 0 ≤ k) (hk2 : k + 400 ≤ 1000000000) : k ≤ (soS b nv na k).2 ∧ (soS b nv na k).2 ≤ k + 370 := by
 have h := aP8 b nv na (k := k + 1 + 2) (by omega) (by omega)
 simp only [soS]; omega
theorem nm2 {l : List Int} (hl : l ≠ []) (h : ∀ x ∈ l, 0 ≤ x ∧ x ≤ 2) (hk : 0 ≤ k) (hk2 : k ≤ 1000000000) : (nm b k l).toNat ≤ 2 ∧ nm b k l = ((nm b k l).toNat : Int) := by
 have := h _ (ai9 b hk hk2 hl); omega
theorem a25 {f : Int → d9 × Int} {c : Int} {l : List Int} (hl : l ≠ []) (h : ∀ x ∈ l, 0 ≤ x ∧ x ≤ 2) (hc : 0 ≤ c) (hk : 0 ≤ k) (hk2 : k + 1 + 2 * c ≤ 1000000000) (hf : ∀ j, 0 ≤ j → j + c ≤ 1000000000 → j ≤ (f j).2 ∧ (f j).2 ≤ j + c) : k ≤ (mnD b f l k).2 ∧ (mnD b f l k).2 ≤ k + 1 + 2 * c := by
 have h2 := (nm2 b hl h hk (by omega)).1
 have h3 : ∀ m : Nat, m ≤ 2 → k + 1 ≤ (y7 f m (k + 1)).2 ∧ (y7 f m (k + 1)).2 ≤ k + 1 + m * c := by
  intro m
  induction m with
  | zero => intro _; simp [y7]
  | succ m ih =>
   intro hm
   have h4 := ih (by omega)
   have h6 : (m : Int) * c ≤ 1 * c := Int.mul_le_mul_of_nonneg_right (by omega) hc
   have h5 := hf (y7 f m (k + 1)).2 (by omega) (by omega)
   have e : ((m + 1 : Nat) : Int) * c = m * c + c := by rw [Int.natCast_add, Int.add_mul]; simp
   simp only [y7]
   rw [e]
   omega
 have h4 := h3 _ h2
 have h6 : ((nm b k l).toNat : Int) * c ≤ 2 * c := Int.mul_le_mul_of_nonneg_right (by omega) hc
 unfold mnD
 omega
theorem aN4 : ∀ x : Int, x ∈ ibL → 0 ≤ x ∧ x ≤ 2 := by intro x hx; simp only [List.mem_append, List.mem_cons, List.not_mem_nil, or_false] at hx; omega
theorem aN2 : ∀ x : Int, x ∈ ieL → 0 ≤ x ∧ x ≤ 2 := by intro x hx; simp only [List.mem_append, List.mem_cons, List.not_mem_nil, or_false] at hx; omega
theorem aL3 : ∀ x : Int, x ∈ rbL → 0 ≤ x ∧ x ≤ 2 := by intro x hx; simp only [List.mem_append, List.mem_cons, List.not_mem_nil, or_false] at hx; omega
theorem bd1 {f : Int → d9 × Int} {c : Int} (hc : 0 ≤ c) (hk : 0 ≤ k) (hk2 : k + 380 + 4 * c ≤ 1000000000) (hf : ∀ j, 0 ≤ j → j + c ≤ 1000000000 → j ≤ (f j).2 ∧ (f j).2 ≤ j + c) : k ≤ (x5 b nv na k).2 ∧ (x5 b nv na k).2 ≤ k + 367 ∧ (x5 b nv na k).2 ≤ (mnD b f ibL (x5 b nv na k).2).2 ∧ (mnD b f ibL (x5 b nv na k).2).2 ≤ k + 370 + 2 * c ∧ k ≤ (ifS b nv na f k).2 ∧ (ifS b nv na f k).2 ≤ k + 380 + 4 * c := by
 have h1 := aP8 b nv na (k := k) (by omega) (by omega)
 have h2 := a25 b (k := (x5 b nv na k).2) (f := f) (c := c) (l := ibL) (by simp) aN4 hc (by omega) (by omega) hf
 have h3 := a25 b (k := (mnD b f ibL (x5 b nv na k).2).2) (f := f) (c := c) (l := ieL) (by simp) aN2 hc (by omega) (by omega) hf
 simp only [ifS]
 omega
theorem bi5 {f : Int → d9 × Int} {c : Int} (hc : 0 ≤ c) (hk : 0 ≤ k) (hk2 : k + 10 + 2 * c ≤ 1000000000) (hf : ∀ j, 0 ≤ j → j + c ≤ 1000000000 → j ≤ (f j).2 ∧ (f j).2 ≤ j + c) : k ≤ (rpS b f k).2 ∧ (rpS b f k).2 ≤ k + 10 + 2 * c := by
 have h2 := a25 b (k := k + 1) (f := f) (c := c) (l := rbL) (by simp) aL3 hc (by omega) (by omega) hf
 simp only [rpS]; omega
theorem aE0 : ∀ (d : Nat) (k : Int), 0 ≤ k → k + cS d ≤ 1000000000 → k ≤ (r7 b nv na d k).2 ∧ (r7 b nv na d k).2 ≤ k + cS d
 | 0, k, hk, hk2 => by
  rw [r7]
  simp only [cS] at hk2 ⊢
  have h1 := bc8 b nv na (k := k + 1) (by omega) (by omega)
  have h2 := bd3 b nv na (k := k + 1) (nm b k D0) (by omega) (by omega)
  split <;> omega
 | d + 1, k, hk, hk2 => by
  rw [r7]
  simp only [cS] at hk2 ⊢
  have hc := am7 d
  have ih := aE0 d
  have h1 := bc8 b nv na (k := k + 1) (by omega) (by omega)
  have h2 := bd3 b nv na (k := k + 1) (nm b k D0) (by omega) (by omega)
  have h3 := bd1 b nv na (k := k + 1) (f := r7 b nv na d) (c := cS d) (by omega) (by omega) (by omega) ih
  have h4 := bi5 b (k := k + 1) (f := r7 b nv na d) (c := cS d) (by omega) (by omega) (by omega) ih
  (repeat' split) <;> omega
theorem aM3 : L9 noE = 0 := rfl
theorem a53 (kd : Int) (hk : 0 ≤ k) (hk2 : k + 400 ≤ 1000000000) : E5 (dfS b nv na kd k).1 ≤ 364 := by
 have h := aK6 b nv na (k := k + 1) (by omega) (by omega)
 simp only [dfS, E5, s5, aM3]; omega
theorem aZ2 (hk : 0 ≤ k) (hk2 : k + 400 ≤ 1000000000) : E5 (soS b nv na k).1 ≤ 364 := by
 have h := aK6 b nv na (k := k + 1 + 2) (by omega) (by omega)
 simp only [soS, E5, s5, aJ2]; omega
def Drw (f : Int → d9 × Int) (c : Int) : Prop := ∀ j, 0 ≤ j → j + c ≤ 1000000000 → j ≤ (f j).2 ∧ (f j).2 ≤ j + c ∧ (E5 (f j).1 : Int) ≤ c
theorem aB8 {f : Int → d9 × Int} {c : Int} (hc : 0 ≤ c) (hf : Drw f c) : ∀ (m : Nat) (k : Int), 0 ≤ k → k + m * c ≤ 1000000000 → k ≤ (y7 f m k).2 ∧ (y7 f m k).2 ≤ k + m * c ∧ (s5 (y7 f m k).1 : Int) ≤ m * (1 + c) := by
 intro m
 induction m with
 | zero => intro k _ _; simp [y7, s5]
 | succ m ih =>
  intro k hk hk2
  have e : ((m + 1 : Nat) : Int) * c = m * c + c := by rw [Int.natCast_add, Int.add_mul]; simp
  have e2 : ((m + 1 : Nat) : Int) * (1 + c) = m * (1 + c) + (1 + c) := by rw [Int.natCast_add, Int.add_mul]; simp
  rw [e] at hk2
  have h4 := ih k hk (by omega)
  have h5 := hf (y7 f m k).2 (by omega) (by omega)
  have h6 : s5 ((y7 f m k).1 ++ [(f (y7 f m k).2).1]) = s5 (y7 f m k).1 + (1 + E5 (f (y7 f m k).2).1) := by
   generalize (y7 f m k).1 = l
   induction l with
   | nil => simp [s5]
   | cons a r ih => simp only [List.cons_append, s5]; omega
  simp only [y7]
  rw [e, e2, h6]
  omega
theorem aM5 {f : Int → d9 × Int} {c : Int} {l : List Int} (hl : l ≠ []) (h : ∀ x ∈ l, 0 ≤ x ∧ x ≤ 2) (hc : 0 ≤ c) (hk : 0 ≤ k) (hk2 : k + 1 + 2 * c ≤ 1000000000) (hf : Drw f c) : (s5 (mnD b f l k).1 : Int) ≤ 2 * (1 + c) := by
 have h2 := (nm2 b hl h hk (by omega)).1
 have h6 : ((nm b k l).toNat : Int) * c ≤ 2 * c := Int.mul_le_mul_of_nonneg_right (by omega) hc
 have h7 : ((nm b k l).toNat : Int) * (1 + c) ≤ 2 * (1 + c) := Int.mul_le_mul_of_nonneg_right (by omega) (by omega)
 have h3 := (aB8 hc hf (nm b k l).toNat (k + 1) (by omega) (by omega)).2.2
 unfold mnD
 omega
theorem aK4 : ∀ (d : Nat) (k : Int), 0 ≤ k → k + cS d ≤ 1000000000 → (E5 (r7 b nv na d k).1 : Int) ≤ cS d
 | 0, k, hk, hk2 => by
  rw [r7]
  simp only [cS] at hk2 ⊢
  have h1 := aZ2 b nv na (k := k + 1) (by omega) (by omega)
  have h2 := a53 b nv na (k := k + 1) (nm b k D0) (by omega) (by omega)
  split <;> omega
 | d + 1, k, hk, hk2 => by
  rw [r7]
  simp only [cS] at hk2 ⊢
  have hc := am7 d
  have ih := aE0 b nv na d
  have hf : Drw (r7 b nv na d) (cS d) := fun j h1 h2 => ⟨(ih j h1 h2).1, (ih j h1 h2).2, aK4 d j h1 h2⟩
  have h1 := aZ2 b nv na (k := k + 1) (by omega) (by omega)
  have h2 := a53 b nv na (k := k + 1) (nm b k D0) (by omega) (by omega)
  have h3 := bd1 b nv na (k := k + 1) (f := r7 b nv na d) (c := cS d) (by omega) (by omega) (by omega) ih
  have h4 := aK6 b nv na (k := k + 1) (by omega) (by omega)
  have h5 := aM5 b (k := (x5 b nv na (k + 1)).2) (l := ibL) (by simp) aN4 (by omega) (by omega) (by omega) hf
  have h6 := aM5 b (k := (mnD b (r7 b nv na d) ibL (x5 b nv na (k + 1)).2).2) (l := ieL) (by simp) aN2 (by omega) (by omega) (by omega) hf
  have h7 := aM5 b (k := k + 1 + 1) (l := rbL) (by simp) aL3 (by omega) (by omega) (by omega) hf
  split
  ·omega
  ·split
   ·simp only [ifS, E5, aM3]; omega
   ·split
    ·simp only [rpS, E5, aM3, s5]; omega
    ·omega
theorem bl2 (d : Nat) : Drw (r7 b nv na d) (cS d) := fun j h1 h2 => ⟨(aE0 b nv na d j h1 h2).1, (aE0 b nv na d j h1 h2).2, aK4 b nv na d j h1 h2⟩
theorem bd7 {d m i : Nat} {B : Int} (hB : (m : Int) * cS d ≤ B) (hi : i ≤ m) (hk : 0 ≤ k) (hk2 : k + B ≤ 1000000000) : k ≤ (y7 (r7 b nv na d) i k).2 ∧ (y7 (r7 b nv na d) i k).2 ≤ k + B := by
 have hc := am7 d
 have h6 : (i : Int) * cS d ≤ m * cS d := Int.mul_le_mul_of_nonneg_right (by omega) (by omega)
 have h := aB8 (by omega) (bl2 b nv na d) i k hk (by omega)
 omega
theorem aS3 {d m i : Nat} {B : Int} (hB : (m : Int) * cS d ≤ B) (hi : i < m) (hk : 0 ≤ k) (hk2 : k + B ≤ 1000000000) : (y7 (r7 b nv na d) i k).2 + cS d ≤ k + B := by
 have hc := am7 d
 have h6 : ((i + 1 : Nat) : Int) * cS d ≤ m * cS d := Int.mul_le_mul_of_nonneg_right (by omega) (by omega)
 have e : ((i + 1 : Nat) : Int) * cS d = i * cS d + cS d := by rw [Int.natCast_add, Int.add_mul]; simp
 have h := aB8 (by omega) (bl2 b nv na d) i k hk (by omega)
 omega
theorem bj8 {m : Int} {c : Int} (h0 : 0 ≤ m) (hm : m ≤ 2) (hc : 0 ≤ c) : (m.toNat : Int) * c ≤ 2 * c := Int.mul_le_mul_of_nonneg_right (by omega) hc
theorem bo5 {m : Int} {c : Int} (h0 : 0 ≤ m) (hm : m ≤ 4) (hc : 0 ≤ c) : (m.toNat : Int) * c ≤ 4 * c := Int.mul_le_mul_of_nonneg_right (by omega) hc
end
theorem ax1 (b : List UInt8) {k : Int} {l : List Int} {m : Int} (hl : l ≠ []) (h : ∀ x ∈ l, 0 ≤ x ∧ x ≤ m) (hk : 0 ≤ k) (hk2 : k ≤ 1000000000) : 0 ≤ nm b k l ∧ nm b k l ≤ m := h _ (ai9 b hk hk2 hl)
mutual
def AV.den (t : Bool) (n : Nat) : AV → AV
 | .v x => .v x
 | .ptr a b => .ptr a b
 | .ea a b c d => .ea a b c d
 | .ref i => if !t && natEq i n then .v (.slice none 0 0) else .ref i
 | .agg l => .agg (AV.denL t n l)
 | .tup l => .tup (AV.denL t n l)
 | .fn f l => .fn f (AV.denL t n l)
 | .bm f l => .bm f (AV.denL t n l)
 | .tref i => if t && natEq i n then .v (.slice none 0 0) else .tref i
def AV.denL (t : Bool) (n : Nat) : List AV → List AV
 | [] => []
 | x :: r => x.den t n :: AV.denL t n r
end
def It.den (t : Bool) (n : Nat) : It → It
 | .box cs => .box (AV.denL t n cs)
 | x => x
mutual
theorem AV.val_den {ρ : Nat → Value} {t : Bool} {n : Nat} {z : Value} (hz : if t then H4 z = .slice none 0 0 else z = .slice none 0 0) : ∀ (x : AV), (∀ i ∈ (x.den t n).ids, i < n) → x.val (fun j => if j = n then z else ρ j) = (x.den t n).val ρ ∧ ∀ i ∈ x.ids, i < n + 1
 | .v _, _ => ⟨rfl, fun i hi => by simp [AV.ids] at hi⟩
 | .ptr a b, h => by
  have ha : a < n := h a (by simp [AV.den, AV.ids])
  refine ⟨?_, fun i hi => by simp [AV.ids] at hi; omega⟩
  simp only [AV.den, AV.val]
  rw [if_neg (by omega)]
 | .ea a b c d, h => by
  have ha : a < n := h a (by simp [AV.den, AV.ids])
  refine ⟨?_, fun i hi => by simp [AV.ids] at hi; omega⟩
  simp only [AV.den, AV.val]
  rw [if_neg (by omega)]
 | .ref a, h => by
  by_cases e : t = false ∧ a = n
  ·obtain ⟨rfl, rfl⟩ := e
   refine ⟨?_, fun i hi => by simp [AV.ids] at hi; omega⟩
   simp only [Bool.false_eq_true, if_false] at hz
   simp [AV.den, AV.val, natEq, hz]
  ·have hd : (AV.ref a).den t n = .ref a := by
    simp only [AV.den]
    rw [if_neg]
    simp [natEq]; intro h1 h2; exact e ⟨h1, h2⟩
   rw [hd] at h ⊢
   have ha : a < n := h a (by simp [AV.ids])
   refine ⟨?_, fun i hi => by simp [AV.ids] at hi; omega⟩
   simp only [AV.val]
   rw [if_neg (by omega)]
 | .tref a, h => by
  by_cases e : t = true ∧ a = n
  ·obtain ⟨rfl, rfl⟩ := e
   refine ⟨?_, fun i hi => by simp [AV.ids] at hi; omega⟩
   simp only [if_true] at hz
   simp [AV.den, AV.val, natEq, hz]
  ·have hd : (AV.tref a).den t n = .tref a := by
    simp only [AV.den]
    rw [if_neg]
    simp [natEq]; intro h1 h2; exact e ⟨h1, h2⟩
   rw [hd] at h ⊢
   have ha : a < n := h a (by simp [AV.ids])
   refine ⟨?_, fun i hi => by simp [AV.ids] at hi; omega⟩
   simp only [AV.val]
   rw [if_neg (by omega)]
 | .agg l, h => by
  obtain ⟨h1, h2⟩ := AV.vals_den hz l (by simpa [AV.den, AV.ids] using h)
  exact ⟨by simp only [AV.den, AV.val]; rw [h1], by simpa [AV.ids] using h2⟩
 | .tup l, h => by
  obtain ⟨h1, h2⟩ := AV.vals_den hz l (by simpa [AV.den, AV.ids] using h)
  exact ⟨by simp only [AV.den, AV.val]; rw [h1], by simpa [AV.ids] using h2⟩
 | .fn f l, h => by
  obtain ⟨h1, h2⟩ := AV.vals_den hz l (by simpa [AV.den, AV.ids] using h)
  exact ⟨by simp only [AV.den, AV.val]; rw [h1], by simpa [AV.ids] using h2⟩
 | .bm f l, h => by
  obtain ⟨h1, h2⟩ := AV.vals_den hz l (by simpa [AV.den, AV.ids] using h)
  exact ⟨by simp only [AV.den, AV.val]; rw [h1], by simpa [AV.ids] using h2⟩
theorem AV.vals_den {ρ : Nat → Value} {t : Bool} {n : Nat} {z : Value} (hz : if t then H4 z = .slice none 0 0 else z = .slice none 0 0) : ∀ (l : List AV), (∀ i ∈ AV.idsL (AV.denL t n l), i < n) → AV.vals (fun j => if j = n then z else ρ j) l = AV.vals ρ (AV.denL t n l) ∧ ∀ i ∈ AV.idsL l, i < n + 1
 | [], _ => ⟨rfl, fun i hi => by simp [AV.idsL] at hi⟩
 | x :: r, h => by
  obtain ⟨h1, h2⟩ := AV.val_den hz x fun i hi => h i (by simp only [AV.denL, AV.idsL, List.mem_append]; exact .inl hi)
  obtain ⟨h3, h4⟩ := AV.vals_den hz r fun i hi => h i (by simp only [AV.denL, AV.idsL, List.mem_append]; exact .inr hi)
  refine ⟨by simp only [AV.denL, AV.vals]; rw [h1, h3], fun i hi => ?_⟩
  simp only [AV.idsL, List.mem_append] at hi
  rcases hi with hi | hi
  ·exact h2 i hi
  ·exact h4 i hi
end
theorem as4 {m : Bool} {n : Nat} {t : Nat} {x : AV} : ∀ {tm : List (Nat × AV)}, x9 tm t = some x → x9 (tm.map fun p => (p.1, p.2.den m n)) t = some (x.den m n)
 | [], h => by cases h
 | (k, y) :: r, h => by
  simp only [x9, List.map_cons] at h ⊢
  split at h
  ·rename_i e; cases h; rw [if_pos e]
  ·rename_i e; rw [if_neg e]; exact as4 h
section
variable {P : Program} {ι : Type} {φ ψ : Nat → Prop} {w0 w : World} {F : ι → Rs} {ρ ρ0 : Nat → Value} {N m n : Nat} {S : List It} {tm : List (Nat × AV)} {a : Act}
theorem p6.nilW (G : p6 φ ψ w0 F N m ρ0 ρ S tm a w) (n : Nat) (hn : S.length = n) (b : Bool) (x : It) (z : Value) (hz : if b then H4 z = .slice none 0 0 else z = .slice none 0 0) (hids : x.ids = []) (hb : ∀ g, ¬ (x.res (fun j => if j = n then z else ρ j) n).blk g)
  (hx : ∀ φ', (x.res (fun j => if j = n then z else ρ j) n).holds w φ') (S1 : List It) (tm1 : List (Nat × AV)) (hS : S = S1.map (It.den b n)) (ht : tm = tm1.map fun p => (p.1, p.2.den b n)) :
  ∃ ρ', p6 φ ψ w0 F N m ρ0 ρ' (S1 ++ [x]) tm1 a w := by
 have hl : S1.length = n := by rw [← hn, hS, List.length_map]
 have hat : ∀ j (hj : j < n), s9 S j = (S1[j]'(by omega)).den b n := fun j hj => by
  rw [as1 (show j < S.length by omega)]
  have h1 := congrArg (·[j]?) hS
  simp only [List.getElem?_map, List.getElem?_eq_getElem (show j < S.length by omega), List.getElem?_eq_getElem (show j < S1.length by omega), Option.map_some, Option.some.injEq] at h1
  exact h1
 have hnew : ∀ j (hj : j < n), s9 (S1 ++ [x]) j = S1[j]'(by omega) := fun j hj => by
  simp [s9, List.getD_eq_getElem?_getD, List.getElem?_append_left (show j < S1.length by omega), List.getElem?_eq_getElem (show j < S1.length by omega)]
 have hlast : s9 (S1 ++ [x]) n = x := by
  simp [s9, List.getD_eq_getElem?_getD, ← hl]
 have hout : ∀ j, n < j → s9 (S1 ++ [x]) j = .none := fun j hj => B9 (by simp; omega)
 have hbx : ∀ j (hj : j < n), ((S1[j]'(by omega)).res (fun j => if j = n then z else ρ j) j = (s9 S j).res ρ j) ∧ ∀ i ∈ (S1[j]'(by omega)).ids, i < n + 1 := fun j hj => by
  rw [hat j hj]
  have hb := (G.bd j).1
  rw [hat j hj, hn] at hb
  generalize S1[j]'(by omega) = x at *
  cases x with
  | box cs =>
   obtain ⟨h1, h2⟩ := AV.vals_den (ρ := ρ) (n := n) hz cs hb
   refine ⟨?_, h2⟩
   simp only [It.res, It.den]
   rw [h1, if_neg (show ¬ j = n by omega)]
  | none => exact ⟨rfl, fun i hi => by cases hi⟩
  | dead => exact ⟨rfl, fun i hi => by cases hi⟩
  | dat d' => exact ⟨by simp only [It.res, It.den]; rw [if_neg (show ¬ j = n by omega)], fun i hi => by cases hi⟩
  | row e' d' => exact ⟨by simp only [It.res, It.den]; rw [if_neg (show ¬ j = n by omega)], fun i hi => by cases hi⟩
  | tree d' => exact ⟨by simp only [It.res, It.den]; rw [if_neg (show ¬ j = n by omega)], fun i hi => by cases hi⟩
  | kept e' d' => exact ⟨by cases e' <;> (simp only [It.res, It.den]; rw [if_neg (show ¬ j = n by omega)]), fun i hi => by cases hi⟩
 have hw : ∀ t x, x9 tm1 t = some x → x.val (fun j => if j = n then z else ρ j) = (x.den b n).val ρ ∧ ∀ i ∈ x.ids, i < n + 1 := fun t x hx => by
  refine AV.val_den hz x fun i hi => ?_
  have h1 : x9 tm t = some (x.den b n) := by rw [ht]; exact as4 hx
  have := G.tmi t _ h1 i hi
  omega
 refine ⟨fun j => if j = n then z else ρ j, ?_⟩
 refine ⟨G.size, G.defs, fun t x hx => ?_, fun t x hx i hi => ?_, fun j => ⟨fun i hi => ?_, fun hj => B9 hj⟩, ?_, ?_, fun i hi => ?_⟩
 ·have h1 : x9 tm t = some (x.den b n) := by rw [ht]; exact as4 hx
  rw [(hw t x hx).1]; exact G.tmv t _ h1
 ·have := (hw t x hx).2 i hi
  simp; omega
 ·rcases Nat.lt_trichotomy j n with h | h | h
  ·rw [hnew j h] at hi
   have := (hbx j h).2 i hi
   simp; omega
  ·subst h; rw [hlast, hids] at hi; cases hi
  ·rw [hout j h] at hi; cases hi
 ·refine l5.put G.mem (.inr n) (fun k hk => ?_) (A8.refl _ _) ?_ ?_
  ·cases k with
   | inl i => rfl
   | inr j =>
    simp only [o6]
    rcases Nat.lt_trichotomy j n with h | h | h
    ·rw [hnew j h]; exact (hbx j h).1
    ·exact absurd (by rw [h]) hk
    ·rw [hout j h, B9 (show S.length ≤ j by omega)]; rfl
  ·simp only [o6, hlast]; exact hx _
  ·intro g hg
   simp only [o6, hlast] at hg
   exact absurd hg (hb g)
 ·have := G.le; simp; omega
 ·show (if i = n then _ else ρ i) = ρ0 i
  have := G.le
  rw [if_neg (by omega)]; exact G.old i hi
theorem p6.nil (G : p6 φ ψ w0 F N m ρ0 ρ S tm a w) (n : Nat) (e : TypeId) (d : D) (k : Nat) (S1 : List It) (tm1 : List (Nat × AV)) (hn : S.length = n := by kernel_rfl) (hd : D.nil k = some d := by kernel_rfl) (hS : S = S1.map (It.den false n) := by kernel_rfl) (ht : tm = tm1.map (fun p => (p.1, p.2.den false n)) := by kernel_rfl) :
  ∃ ρ', p6 φ ψ w0 F N m ρ0 ρ' (S1 ++ [.row e d]) tm1 a w := by
 have hz := D.nil_len hd
 refine G.nilW n hn false (.row e d) (.slice none 0 0) (by simp) rfl (fun g hg => ?_) (fun φ' => ?_) S1 tm1 hS ht
 ·simp only [It.res, if_true] at hg
  cases hg
 ·simp only [It.res, if_true]
  refine ⟨fun xs => RW.nice d xs, [], ?_, RW.nil hz _⟩
  rw [hz]; exact World.ownsRow_nil _ _ _ _
theorem p6.nilT (G : p6 φ ψ w0 F N m ρ0 ρ S tm a w) (n : Nat) (d : D) (S1 : List It) (tm1 : List (Nat × AV)) (hn : S.length = n := by kernel_rfl) (hd : ((ab7 d).isSome && natEq d.len 0) = true := by kernel_rfl) (hS : S = S1.map (It.den true n) := by kernel_rfl) (ht : tm = tm1.map (fun p => (p.1, p.2.den true n)) := by kernel_rfl) :
  ∃ ρ', p6 φ ψ w0 F N m ρ0 ρ' (S1 ++ [.tree d]) tm1 a w := by
 simp only [Bool.and_eq_true, natEq, beq_iff_eq] at hd
 obtain ⟨e, he⟩ := Option.isSome_iff_exists.1 hd.1
 obtain ⟨z, h1, h2⟩ := at4 (.slice none 0 0) (fun _ => False) 0 fun b h => h.elim
 refine G.nilW n hn true (.tree d) z (by simp [h1]) rfl (fun g hg => ?_) (fun φ' => ?_) S1 tm1 hS ht
 ·simp only [It.res, if_true] at hg
  exact ((h2 g).1 hg).elim
 ·simp only [It.res, if_true]
  rw [h1]
  refine ⟨fun _ _ h hs => h.same hs, ⟨e, [], fun _ => False, he, ?_, (fun g hg => by cases hg), (fun b hb => hb.elim), ?_⟩, fun b hb => ((h2 b).1 hb).elim⟩
  ·rw [hd.2]; exact World.ownsRow_nil _ _ _ _
  ·have h0 := hd.2
   cases d <;> simp only [ab7] at he <;> first | cases he | skip
   all_goals (simp only [D.len] at h0; rw [List.eq_nil_of_length_eq_zero h0]; rfl)
end
inductive Ln where
 | no
 | row (e : TypeId)
 | tree
def y9 (M : List Ln) (i : Nat) : Ln := M.getD i .no
def Ln.isT : Ln → Bool
 | .tree => true
 | _ => false
mutual
def AV.tr (M : List Ln) : AV → AV
 | .v x => .v x
 | .ptr a b => .ptr a b
 | .ea a b c d => .ea a b c d
 | .ref i => if (y9 M i).isT then .tref i else .ref i
 | .agg l => .agg (AV.trL M l)
 | .tup l => .tup (AV.trL M l)
 | .fn f l => .fn f (AV.trL M l)
 | .bm f l => .bm f (AV.trL M l)
 | .tref i => .tref i
def AV.trL (M : List Ln) : List AV → List AV
 | [] => []
 | x :: r => x.tr M :: AV.trL M r
end
mutual
def AV.trOk (M : List Ln) : AV → Bool
 | .v _ => true
 | .ptr a _ => !(y9 M a).isT
 | .ea a _ _ _ => !(y9 M a).isT
 | .ref _ => true
 | .agg l => AV.trOkL M l
 | .tup l => AV.trOkL M l
 | .fn _ l => AV.trOkL M l
 | .bm _ l => AV.trOkL M l
 | .tref i => !(y9 M i).isT
def AV.trOkL (M : List Ln) : List AV → Bool
 | [] => true
 | x :: r => x.trOk M && AV.trOkL M r
end
mutual
theorem AV.val_tr {ρ ρ' : Nat → Value} {M : List Ln} (h : ∀ i, ρ' i = if (y9 M i).isT then H4 (ρ i) else ρ i) : ∀ (x : AV), x.trOk M = true → (x.tr M).val ρ = x.val ρ'
 | .v _, _ => rfl
 | .ptr a _, hx => by
  simp only [AV.trOk, Bool.not_eq_true'] at hx
  simp only [AV.tr, AV.val]; rw [h a, hx]; rfl
 | .ea a _ _ _, hx => by
  simp only [AV.trOk, Bool.not_eq_true'] at hx
  simp only [AV.tr, AV.val]; rw [h a, hx]; rfl
 | .ref i, _ => by
  simp only [AV.tr]
  cases hm : (y9 M i).isT
  ·simp only [Bool.false_eq_true, if_false, AV.val]; rw [h i, hm]; rfl
  ·simp only [if_true, AV.val]; rw [h i, hm]; rfl
 | .agg l, hx => by simp only [AV.tr, AV.val]; rw [AV.vals_tr h l (by simpa [AV.trOk] using hx)]
 | .tup l, hx => by simp only [AV.tr, AV.val]; rw [AV.vals_tr h l (by simpa [AV.trOk] using hx)]
 | .fn _ l, hx => by simp only [AV.tr, AV.val]; rw [AV.vals_tr h l (by simpa [AV.trOk] using hx)]
 | .bm _ l, hx => by simp only [AV.tr, AV.val]; rw [AV.vals_tr h l (by simpa [AV.trOk] using hx)]
 | .tref i, hx => by
  simp only [AV.trOk, Bool.not_eq_true'] at hx
  simp only [AV.tr, AV.val]; rw [h i, hx]; rfl
theorem AV.vals_tr {ρ ρ' : Nat → Value} {M : List Ln} (h : ∀ i, ρ' i = if (y9 M i).isT then H4 (ρ i) else ρ i) : ∀ (l : List AV), AV.trOkL M l = true → AV.vals ρ (AV.trL M l) = AV.vals ρ' l
 | [], _ => rfl
 | x :: r, hx => by
  simp only [AV.trOkL, Bool.and_eq_true] at hx
  simp only [AV.trL, AV.vals]; rw [AV.val_tr h x hx.1, AV.vals_tr h r hx.2]
end
def C8 (M : List Ln) : Ln → It → It
 | .row e, .dat d => .row e d
 | .tree, .dat d => .tree d
 | .no, .box cs => .box (AV.trL M cs)
 | _, x => x
def S5 (M : List Ln) (S : List It) : List It := (List.range S.length).map fun i => C8 M (y9 M i) (s9 S i)
theorem as0 (M : List Ln) (S : List It) (i : Nat) : s9 (S5 M S) i = C8 M (y9 M i) (s9 S i) := by
 unfold S5
 rcases Nat.lt_or_ge i S.length with h | h
 ·conv => lhs; rw [s9, List.getD_eq_getElem?_getD, List.getElem?_map, List.getElem?_range h]
  rfl
 ·rw [B9 (by simpa using h), B9 h]
  cases y9 M i <;> rfl
def aH5 : D → Bool
 | .rows _ => false
 | .brows _ => false
 | .exprs _ => false
 | .stmts _ => false
 | _ => true
theorem aR5 {w w' : World} {φ φ' : Nat → Prop} {d : D} {xs : List Value} (hd : aH5 d = true) (h : RW w φ d xs) : RW w' φ' d xs := by
 intro i hi j x hx
 obtain ⟨u, h1, h2⟩ := h i hi j x hx
 refine ⟨u, h1, ?_⟩
 have : ∃ y, x = .v y := by
  have hm := List.mem_of_getElem? hx
  cases d <;> simp only [aH5, Bool.false_eq_true] at hd <;> simp [D.elem, aM9, ad5] at hm
  ·exact ⟨_, hm⟩
  ·exact ⟨_, hm⟩
  ·exact ⟨_, hm⟩
  ·exact ⟨_, hm⟩
  ·rcases hm with h | h | h | h | h <;> exact ⟨_, h⟩
  ·rcases hm with h | h <;> exact ⟨_, h⟩
 obtain ⟨y, rfl⟩ := this
 exact h2
def aG4 (M : List Ln) (l : Ln) (p x : It) : Bool :=
 match l with
 | .no => match x with
  | .dat _ => (match p with | .dat _ => true | _ => false)
  | .row _ d => aH5 d
  | .box cs => AV.trOkL M cs
  | .kept _ _ => false
  | _ => true
 | .row _ => (match p, x with | .dat d, .dat _ => aH5 d | _, _ => false)
 | .tree => (match p, x with | .dat d, .dat _ => (ab7 d).isSome | _, _ => false)
def a14 (M : List Ln) (l : Ln) (p : It) : Bool :=
 match l, p with
 | .no, .box cs => AV.trOkL M cs
 | _, _ => true
def a29 (M : List Ln) (c : p7) : Bool :=
 decide (M.length ≤ c.pre.length) && decide (c.pre.length ≤ c.post.length) && AV.trOkL M c.args && c.res.trOk M && (List.range c.post.length).all (fun i => aG4 M (y9 M i) (s9 c.pre i) (s9 c.post i)) && (List.range c.pre.length).all fun i => a14 M (y9 M i) (s9 c.pre i)
def Rs.snap (w : World) (r : Rs) : Rs := .own r.blk fun w' => ∀ b, r.blk b → b < w.heap.size → w'.heap[b]? = w.heap[b]?
theorem Rs.snap_holds {w : World} {φ φ' : Nat → Prop} {r : Rs} (h : r.holds w φ) : (r.snap w).holds w φ' := by
 refine ⟨fun w1 w2 h1 h2 b hb hlt => ?_, fun b _ _ => rfl, fun b hb => Rs.lt h hb⟩
 have h3 := h1 b hb hlt
 rw [h2 b hb, h3]
 have : (w1.heap[b]?).isSome = true := by rw [h3, Array.getElem?_eq_getElem hlt]; rfl
 obtain ⟨o, ho⟩ := Option.isSome_iff_exists.1 this
 exact (Array.getElem?_eq_some_iff.1 ho).1
theorem aC1 : ∀ {P X : List It} {i : Nat} {d e : D}, aj6 P X = aj5 P X → s9 P i = .dat d → s9 X i = .dat e → d = e
 | P, X, i, d, e, h, h1, h2 => by
  have hp : P[i]? = some (.dat d) := by
   rcases Nat.lt_or_ge i P.length with hl | hl
   ·rw [as1 hl] at h1; rw [List.getElem?_eq_getElem hl, h1]
   ·rw [B9 hl] at h1; cases h1
  have hx : X[i]? = some (.dat e) := by
   rcases Nat.lt_or_ge i X.length with hl | hl
   ·rw [as1 hl] at h2; rw [List.getElem?_eq_getElem hl, h2]
   ·rw [B9 hl] at h2; cases h2
  exact bg7 h hp hx
theorem p7.lend0 {P : Program} {c : p7} (hc : c.ok P) (M : List Ln) (hb : a29 M c = true) (he : aj6 c.pre c.post = aj5 c.pre c.post) : p7.ok P ⟨c.f, AV.trL M c.args, S5 M c.pre, S5 M c.post, c.res.tr M⟩ := by
 simp only [a29, Bool.and_eq_true, decide_eq_true_eq] at hb
 obtain ⟨⟨⟨⟨⟨hM, hle⟩, hargs⟩, hres⟩, hpost⟩, hpre⟩ := hb
 have hno : ∀ i, c.pre.length ≤ i → y9 M i = .no := fun i hi => by
  unfold y9; rw [List.getD_eq_getElem?_getD, List.getElem?_eq_none (by omega)]; rfl
 have hpo : ∀ i, aG4 M (y9 M i) (s9 c.pre i) (s9 c.post i) = true := fun i => by
  rcases Nat.lt_or_ge i c.post.length with h | h
  ·exact List.all_eq_true.1 hpost i (List.mem_range.2 h)
  ·rw [hno i (by omega), B9 h]; rfl
 have hpr : ∀ i, a14 M (y9 M i) (s9 c.pre i) = true := fun i => by
  rcases Nat.lt_or_ge i c.pre.length with h | h
  ·exact List.all_eq_true.1 hpre i (List.mem_range.2 h)
  ·rw [hno i h, B9 h]; rfl
 intro ι φ ψ w0 w F ρ MM
 let ρ1 : Nat → Value := fun i => if (y9 M i).isT then H4 (ρ i) else ρ i
 have hρ1 : ∀ i, ρ1 i = if (y9 M i).isT then H4 (ρ i) else ρ i := fun _ => rfl
 let F1 : ι → Rs := fun i => (F i).snap w
 have hLi : ∀ i, o6 F ρ (s9 (S5 M c.pre)) (.inl i) = F i := fun _ => rfl
 have hLj : ∀ j, o6 F ρ (s9 (S5 M c.pre)) (.inr j) = (C8 M (y9 M j) (s9 c.pre j)).res ρ j := fun j => by simp only [o6]; rw [as0]
 generalize hL : o6 F ρ (s9 (S5 M c.pre)) = L at MM hLi hLj
 have h1j : ∀ j, y9 M j = .no → (s9 c.pre j).res ρ1 j = L (.inr j) := fun j hl => by
  rw [hLj, hl]
  have hp := hpr j
  have e : ρ1 j = ρ j := by rw [hρ1, hl]; rfl
  cases hx : s9 c.pre j with
  | none => rfl
  | dead => rfl
  | dat d => simp only [C8, It.res]; rw [e]
  | row e' d => simp only [C8, It.res]; rw [e]
  | tree d => simp only [C8, It.res]; rw [e]
  | kept e' d => cases e' <;> (simp only [C8, It.res]; rw [e])
  | box cs =>
   rw [hl, hx] at hp
   simp only [a14] at hp
   simp only [C8, It.res]
   rw [e, AV.vals_tr hρ1 cs hp]
 have hlent : ∀ j, y9 M j ≠ .no → (∃ d, s9 c.pre j = .dat d ∧ s9 c.post j = .dat d ∧ ((∃ e, y9 M j = .row e ∧ aH5 d = true) ∨ y9 M j = .tree)) := fun j hj => by
  have h := hpo j
  cases hl : y9 M j with
  | no => exact absurd hl hj
  | row e =>
   rw [hl] at h
   simp only [aG4] at h
   split at h
   ·rename_i d d' h1 h2
    exact ⟨d, h1, by rw [h2, ← aC1 he h1 h2], .inl ⟨e, rfl, h⟩⟩
   ·cases h
  | tree =>
   rw [hl] at h
   simp only [aG4] at h
   split at h
   ·rename_i d d' h1 h2
    exact ⟨d, h1, by rw [h2, ← aC1 he h1 h2], .inr rfl⟩
   ·cases h
 have hsub : ∀ k b, (o6 F1 ρ1 (s9 c.pre) k).blk b → (L k).blk b ∧ ∀ j, k = .inr j → y9 M j = .no := fun k b hb => by
  cases k with
  | inl i => rw [hLi]; exact ⟨hb, fun j h => by cases h⟩
  | inr j =>
   by_cases hl : y9 M j = .no
   ·simp only [o6] at hb
    rw [h1j j hl] at hb
    exact ⟨hb, fun j' h => by cases h; exact hl⟩
   ·obtain ⟨d, h1, _⟩ := hlent j hl
    simp only [o6, h1, It.res] at hb
    exact hb.elim
 have hfr1 : ∀ b, W5 φ L b → W5 φ (o6 F1 ρ1 (s9 c.pre)) b := fun b hb => ⟨hb.1, fun k hk => hb.2 k (hsub k b hk).1⟩
 let ψ1 : Nat → Prop := fun b => ∀ k, ¬ (o6 F1 ρ1 (s9 c.pre) k).blk b
 have M1 : l5 φ ψ1 w w (o6 F1 ρ1 (s9 c.pre)) := by
  refine ⟨A8.refl _ _, fun b hb => MM.fresh b (Nat.le_trans MM.size hb), fun k => ?_, fun k k' b hkk h1 h2 => MM.dis k k' b hkk (hsub k b h1).1 (hsub k' b h2).1, fun k b h1 => .inr fun h => h k h1, fun k b h1 => MM.ph k b (hsub k b h1).1⟩
  cases k with
  | inl i => exact Rs.snap_holds (show (F i).holds w _ from by rw [← hLi i]; exact MM.holds (.inl i))
  | inr j =>
   by_cases hl : y9 M j = .no
   ·simp only [o6]
    rw [h1j j hl]
    exact Rs.keep (MM.holds (.inr j)) (W6.mono fun b _ hf => hfr1 b hf) fun _ _ => rfl
   ·obtain ⟨d, h1, h2, h3⟩ := hlent j hl
    have hh := MM.holds (.inr j)
    have hown : ∀ b, (L (.inr j)).blk b → W5 φ (o6 F1 ρ1 (s9 c.pre)) b := fun b hb => ⟨MM.ph _ _ hb, fun k hk => by
     obtain ⟨q1, q2⟩ := hsub k b hk
     by_cases e : k = .inr j
     ·exact hl (q2 j e)
     ·exact MM.dis k (.inr j) b e q1 hb⟩
    simp only [o6, h1, It.res]
    refine ⟨RD.nice _ _, ?_⟩
    rcases h3 with ⟨e, h3, hflat⟩ | h3
    ·rw [hLj, h3, h1] at hh
     simp only [C8, It.res] at hh
     obtain ⟨_, xs, o1, o2⟩ := hh
     have e1 : ρ1 j = ρ j := by rw [hρ1, h3]; rfl
     rw [e1]
     refine RD.make (B4 o1 fun g hg => hown g ?_) (aR5 hflat o2)
     rw [hLj, h3, h1]; exact hg
    ·rw [hLj, h3, h1] at hh
     simp only [C8, It.res] at hh
     have e1 : ρ1 j = H4 (ρ j) := by rw [hρ1, h3]; rfl
     rw [e1]
     refine D4.read hh.2.1 fun b hb => hown b ?_
     rw [hLj, h3, h1]; exact hb
 simp only
 rw [AV.vals_tr hρ1 c.args hargs]
 refine (hc ι φ ψ1 w w F1 ρ1 M1).mono ?_
 rintro x w' ⟨ρ2, g1, g2, M2⟩
 have hplen : (S5 M c.pre).length = c.pre.length := by simp [S5]
 let ρ' : Nat → Value := fun j => if j < c.pre.length then ρ j else ρ2 j
 have hρ' : ∀ j, ρ2 j = if (y9 M j).isT then H4 (ρ' j) else ρ' j := fun j => by
  show _ = if (y9 M j).isT then H4 (if j < c.pre.length then ρ j else ρ2 j) else (if j < c.pre.length then ρ j else ρ2 j)
  rcases Nat.lt_or_ge j c.pre.length with h | h
  ·rw [if_pos h, g1 j h]
  ·rw [hno j h]
   exact (if_neg (Nat.not_lt.2 h)).symm
 have hρo : ∀ j, y9 M j ≠ .no → ρ' j = ρ j := fun j hj => by
  rcases Nat.lt_or_ge j c.pre.length with h | h
  ·exact if_pos h
  ·exact absurd (hno j h) hj
 refine ⟨ρ', fun i hi => if_pos (by rw [hplen] at hi; exact hi), by rw [AV.val_tr hρ' c.res hres]; exact g2, ?_⟩
 have hL'j : ∀ j, o6 F ρ' (s9 (S5 M c.post)) (.inr j) = (C8 M (y9 M j) (s9 c.post j)).res ρ' j := fun j => by simp only [o6]; rw [as0]
 have hL'i : ∀ i, o6 F ρ' (s9 (S5 M c.post)) (.inl i) = F i := fun _ => rfl
 generalize hL' : o6 F ρ' (s9 (S5 M c.post)) = L' at hL'j hL'i
 have hL2j : ∀ j, y9 M j = .no → L' (.inr j) = o6 F1 ρ2 (s9 c.post) (.inr j) := fun j hl => by
  rw [hL'j, hl]
  have hp := hpo j
  have e : ρ2 j = ρ' j := by rw [hρ', hl]; rfl
  simp only [o6]
  cases hx : s9 c.post j with
  | none => rfl
  | dead => rfl
  | dat d => simp only [C8, It.res]; rw [e]
  | row e' d => simp only [C8, It.res]; rw [e]
  | tree d => simp only [C8, It.res]; rw [e]
  | kept e' d => cases e' <;> (simp only [C8, It.res]; rw [e])
  | box cs =>
   rw [hl, hx] at hp
   simp only [aG4] at hp
   simp only [C8, It.res]
   rw [e, AV.vals_tr hρ' cs hp]
 have hlj : ∀ j, y9 M j ≠ .no → L' (.inr j) = L (.inr j) := fun j hl => by
  obtain ⟨d, h1, h2, h3⟩ := hlent j hl
  rw [hL'j, hLj, h1, h2]
  rcases h3 with ⟨e, h3, _⟩ | h3
  ·rw [h3]; simp only [C8, It.res]; rw [hρo j hl]
  ·rw [h3]; simp only [C8, It.res]; rw [hρo j hl]
 have hin : ∀ b, b < w.heap.size → ¬ ψ1 b → ∃ k, (L k).blk b ∧ ∀ j, k = .inr j → y9 M j = .no := fun b _ hn => by
  obtain ⟨k, hk⟩ := Classical.not_forall.1 hn
  exact ⟨k, hsub k b (Classical.not_not.1 hk)⟩
 have hnew : ∀ k b, (∀ j, k = .inr j → y9 M j = .no) → (o6 F1 ρ2 (s9 c.post) k).blk b → b < w.heap.size → ∃ k', (L k').blk b ∧ ∀ j, k' = .inr j → y9 M j = .no := fun k b _ hb hlt => by
  rcases M2.ge k b hb with h | h
  ·omega
  ·exact hin b hlt h
 have hback : ∀ k b, (L' k).blk b → b < w.heap.size → ∃ k', (L k').blk b := fun k b hb hlt => by
  cases k with
  | inl i => rw [hL'i] at hb; exact ⟨.inl i, by rw [hLi]; exact hb⟩
  | inr j =>
   by_cases hl : y9 M j = .no
   ·rw [hL2j j hl] at hb
    obtain ⟨k', h1, _⟩ := hnew (.inr j) b (fun j' h => by cases h; exact hl) hb hlt
    exact ⟨k', h1⟩
   ·rw [hlj j hl] at hb; exact ⟨_, hb⟩
 have hsame : ∀ b, b < w.heap.size → ψ1 b → w'.heap[b]? = w.heap[b]? := fun b h1 h2 => M2.kept.block b h1 h2
 have hagr : W6 (W5 φ L) (W5 φ L') w w' := ⟨M2.kept.size, fun b hb hf => ⟨⟨hf.1, fun k hk => let ⟨k', h1⟩ := hback k b hk hb; hf.2 k' h1⟩, hsame b hb fun k hk => (hfr1 b hf).2 k hk⟩⟩
 have hlsame : ∀ j, y9 M j ≠ .no → ∀ b, (L (.inr j)).blk b → w'.heap[b]? = w.heap[b]? := fun j hl b hb => hsame b (MM.lt hb) fun k hk => by
  obtain ⟨q1, q2⟩ := hsub k b hk
  by_cases e : k = .inr j
  ·exact hl (q2 j e)
  ·exact MM.dis k (.inr j) b e q1 hb
 have hcross : ∀ j k b, y9 M j ≠ .no → (∀ j, k = .inr j → y9 M j = .no) → (L (.inr j)).blk b → ¬ (o6 F1 ρ2 (s9 c.post) k).blk b := fun j k b hl hk h1 h2 => by
  obtain ⟨k', h3, h4⟩ := hnew k b hk h2 (MM.lt h1)
  exact MM.dis k' (.inr j) b (fun e => hl (h4 j e)) h3 h1
 refine ⟨⟨M2.kept.os.trans MM.kept.os, M2.kept.tape.trans MM.kept.tape, M2.kept.output.trans MM.kept.output, Nat.le_trans MM.size M2.kept.size, fun b hb hp => (hsame b (Nat.lt_of_lt_of_le hb MM.size) fun k hk => ?_).trans (MM.kept.block b hb hp)⟩, MM.fresh, fun k => ?_, fun k k' b hkk h1 h2 => ?_, fun k b h1 => ?_, fun k b h1 => ?_⟩
 ·rcases MM.ge k b (hsub k b hk).1 with h | h
  ·omega
  ·exact h hp
 ·cases k with
  | inl i =>
   rw [hL'i, ← hLi i]
   refine Rs.keep (MM.holds (.inl i)) hagr fun b hb => ?_
   have := (M2.holds (.inl i)).2.1 b (by rw [← hLi i]; exact hb) (MM.lt hb)
   exact this
  | inr j =>
   by_cases hl : y9 M j = .no
   ·have hh := M2.holds (.inr j)
    rw [← hL2j j hl] at hh
    have hp := hpo j
    rw [hl] at hp
    cases hx : s9 c.post j with
    | none => rw [hL'j, hl, hx]; exact Rs.none_holds _ _
    | dead => rw [hL'j, hl, hx]; exact Rs.none_holds _ _
    | box cs => rw [hL'j, hl, hx] at hh ⊢; exact hh
    | tree d => rw [hL'j, hl, hx] at hh ⊢; exact hh
    | kept e' d => rw [hx] at hp; exact absurd hp (by simp [aG4])
    | row e d =>
     rw [hx] at hp
     simp only [aG4] at hp
     rw [hL'j, hl, hx] at hh ⊢
     simp only [C8, It.res] at hh ⊢
     obtain ⟨_, xs, o1, o2⟩ := hh
     exact ⟨fun xs => RW.nice d xs, xs, o1, aR5 hp o2⟩
    | dat d =>
     rw [hx] at hp
     simp only [aG4] at hp
     split at hp
     ·rename_i d' hpx
      have hd : d' = d := aC1 he hpx hx
      subst hd
      have e : L' (.inr j) = L (.inr j) := by
       rw [hL'j, hLj, hl, hx, hpx]
       simp only [C8, It.res]
       have : j < c.pre.length := by
        rcases Nat.lt_or_ge j c.pre.length with h | h
        ·exact h
        ·rw [B9 h] at hpx; cases hpx
       rw [show ρ' j = ρ j from if_pos this]
      rw [e]
      refine Rs.keep (MM.holds (.inr j)) hagr fun b hb => ?_
      rw [hLj, hl, hpx] at hb
      exact hb.elim
     ·cases hp
   ·rw [hlj j hl]
    exact Rs.keep (MM.holds (.inr j)) hagr fun b hb => hlsame j hl b hb
 ·have key : ∀ k, (∃ j, k = .inr j ∧ y9 M j ≠ .no ∧ (L' k) = L k) ∨ ((∀ j, k = .inr j → y9 M j = .no) ∧ ∀ b, (L' k).blk b → (o6 F1 ρ2 (s9 c.post) k).blk b) := fun k => by
   cases k with
   | inl i => exact .inr ⟨(fun j h => by cases h), fun b hb => by rw [hL'i] at hb; exact hb⟩
   | inr j =>
    by_cases hl : y9 M j = .no
    ·exact .inr ⟨fun j' h => by cases h; exact hl, fun b hb => by rw [hL2j j hl] at hb; exact hb⟩
    ·exact .inl ⟨j, rfl, hl, hlj j hl⟩
  rcases key k with ⟨j, rfl, k1, k2⟩ | ⟨k1, k2⟩ <;> rcases key k' with ⟨j', rfl, k3, k4⟩ | ⟨k3, k4⟩
  ·rw [k2] at h1; rw [k4] at h2; exact MM.dis _ _ b hkk h1 h2
  ·rw [k2] at h1; exact hcross j k' b k1 k3 h1 (k4 b h2)
  ·rw [k4] at h2; exact hcross j' k b k3 k1 h2 (k2 b h1)
  ·exact M2.dis k k' b hkk (k2 b h1) (k4 b h2)
 ·cases k with
  | inl i => rw [hL'i, ← hLi i] at h1; exact MM.ge _ b h1
  | inr j =>
   by_cases hl : y9 M j = .no
   ·rw [hL2j j hl] at h1
    rcases Nat.lt_or_ge b w.heap.size with hlt | hge
    ·obtain ⟨k', h2, _⟩ := hnew (.inr j) b (fun j' h => by cases h; exact hl) h1 hlt
     exact MM.ge k' b h2
    ·exact .inl (Nat.le_trans MM.size hge)
   ·rw [hlj j hl] at h1; exact MM.ge _ b h1
 ·cases k with
  | inl i => rw [hL'i, ← hLi i] at h1; exact MM.ph _ b h1
  | inr j =>
   by_cases hl : y9 M j = .no
   ·rw [hL2j j hl] at h1; exact M2.ph _ b h1
   ·rw [hlj j hl] at h1; exact MM.ph _ b h1
def a35 (M : List Ln) : Ln → It → It
 | .row e, .dat d => .kept (some e) d
 | .tree, .dat d => .kept none d
 | .no, .box cs => .box (AV.trL M cs)
 | _, x => x
def a34 (M : List Ln) (S : List It) : List It := (List.range S.length).map fun i => a35 M (y9 M i) (s9 S i)
theorem a28 (M : List Ln) (S : List It) (i : Nat) : s9 (a34 M S) i = a35 M (y9 M i) (s9 S i) := by
 unfold a34
 rcases Nat.lt_or_ge i S.length with h | h
 ·conv => lhs; rw [s9, List.getD_eq_getElem?_getD, List.getElem?_map, List.getElem?_range h]
  rfl
 ·rw [B9 (by simpa using h), B9 h]
  cases y9 M i <;> rfl
theorem p7.lend {P : Program} {c : p7} (hc : c.ok P) (M : List Ln) (hb : a29 M c = true := by kernel_rfl) (he : aj6 c.pre c.post = aj5 c.pre c.post := by kernel_rfl) : p7.ok P ⟨c.f, AV.trL M c.args, S5 M c.pre, a34 M c.post, c.res.tr M⟩ :=
 p7.okPost (p7.lend0 hc M hb he) _ fun ρ i => by
  simp only
  rw [a28, as0]
  cases y9 M i <;> cases s9 c.post i <;> rfl
section
variable {P : Program} {ι κ : Type} {φ ψ : Nat → Prop} {w0 w : World} {F : ι → Rs} {ρ ρ0 : Nat → Value} {N m n : Nat} {S : List It} {tm : List (Nat × AV)} {a : Act}
end
end Go.Proofs.Ythikdkjjdeehoaa

namespace Go.Proofs.Ythikdkjjdeehoaa
set_option linter.unusedVariables false
set_option linter.unusedSimpArgs false
open Go Go.RowKit
end Go.Proofs.Ythikdkjjdeehoaa

namespace Go.Proofs.Ythikdkjjdeehoaa
set_option linter.unusedVariables false
set_option linter.unusedSimpArgs false
open Go Go.RowKit
section
variable {P : Program} {ι κ : Type} {φ ψ : Nat → Prop} {w0 w w' : World} {F : ι → Rs} {ρ ρ0 : Nat → Value}
theorem l5.grow {L L' : κ → Rs} (M : l5 φ ψ w0 w L) (hb : Below w.heap.size w w') (K : κ → Prop) (ho : ∀ k, ¬ K k → L' k = L k) (hg : ∀ k, K k → ∀ b, (L' k).blk b → w.heap.size ≤ b) (hd : ∀ j k b, j ≠ k → K j → K k → (L' j).blk b → ¬ (L' k).blk b) (h : ∀ k, K k → (L' k).holds w' (W5 φ L')) : l5 φ ψ w0 w' L' := by
 have M1 := M.call hb
 have old : ∀ k, ¬ K k → ∀ b, (L' k).blk b → b < w.heap.size := fun k hk b h1 => by rw [ho k hk] at h1; exact M.lt h1
 refine ⟨M1.kept, M.fresh, fun k => ?_, fun i j g hij h1 h2 => ?_, fun i b h1 => ?_, fun i b h1 => ?_⟩
 ·by_cases e : K k
  ·exact h k e
  ·rw [ho k e]
   refine Rs.keep (M.holds k) ⟨hb.size, fun b hl hf => ⟨⟨hf.1, fun j hj => ?_⟩, hb.block b hl⟩⟩ fun g hgx => hb.block g (M.lt hgx)
   by_cases e2 : K j
   ·have := hg j e2 b hj; omega
   ·rw [ho j e2] at hj; exact hf.2 j hj
 ·by_cases e1 : K i <;> by_cases e2 : K j
  ·exact hd i j g hij e1 e2 h1 h2
  ·have := hg i e1 g h1; have := old j e2 g h2; omega
  ·have := hg j e2 g h2; have := old i e1 g h1; omega
  ·rw [ho i e1] at h1; rw [ho j e2] at h2; exact M.dis i j g hij h1 h2
 ·by_cases e : K i
  ·exact .inl (Nat.le_trans M.size (hg i e b h1))
  ·rw [ho i e] at h1; exact M.ge i b h1
 ·by_cases e : K i
  ·exact M.fresh b (Nat.le_trans M.size (hg i e b h1))
  ·rw [ho i e] at h1; exact M.ph i b h1
end
abbrev oP (p : m6) : List It := [.row 3 (.ints p.vars), .row 3 (.ints p.arrays), .tree (.stmts p.body)]
abbrev oA (r : Nat) : AV := .agg [.ref r, .ref (r + 1), .tref (r + 2)]
theorem ax0 {w : World} {φ : Nat → Prop} {v : Value} {l : List Int} (h : w.ownsRow 0 3 1 v l.length (ints l)) : (Rs.row 3 (D.ints l).sz v (D.ints l).len fun xs w φ => RW w φ (.ints l) xs).holds w φ := by
 refine ⟨fun xs => RW.nice (.ints l) xs, ints l, h, fun i hi j x hx => ?_⟩
 have hi' : i < l.length := hi
 simp only [D.elem] at hx
 have hj : j = 0 := by
  cases j with
  | zero => rfl
  | succ j => simp at hx
 subst hj
 simp at hx
 subst hx
 refine ⟨_, ?_, rfl⟩
 simp only [D.sz]
 rw [Nat.mul_one, Nat.add_zero]
 simp [ints, hi']
end Go.Proofs.Ythikdkjjdeehoaa

namespace Go.Proofs.Ythikdkjjdeehoaa
set_option linter.unusedVariables false
set_option linter.unusedSimpArgs false
open Go Go.RowKit
theorem aV8 (k : Int) : p7.ok Try.prog ⟨72, [.v (.int .i64 k)], [], [], .v (.int .i64 (l9 k))⟩ := by
  refine m8 23 Try.func72 (by rfl) (by kernel_rfl) (by kernel_rfl) ?_; intro ι φ ψ w0 w F ρ0 ρ a G; replace G := p6.at G [] [(0, iA k)]; refine wp_seq ?_; refine l0 G [(0, iA k), (2, iA 0)] fun ρ a w G => b9 (wp_seq (wp_block (wp_seq ?_))); cases h0 : (k == (1 : Int))
  ·
   have q0 := ne_of_beq_false h0; refine m9 G ⟨[], [(k == (1 : Int), false)], [(3, 0), (4, 0), (1005, 0)]⟩ b0 ⟨(by assumption), trivial⟩ [(0, iA k), (2, iA 0), (3, bA (k == 2))] [] trivial fun ρ a w G => b9 ?_; cases h1 : (k == (2 : Int))
   ·
    have q1 := ne_of_beq_false h1; refine rF G _ h1 ?_; refine wp_seq ?_; refine l0 G [(0, iA k), (2, iA 0), (10, bA (k == 3))] fun ρ a w G => b9 ?_; cases h2 : (k == (3 : Int))
    ·
     have q2 := ne_of_beq_false h2; refine rF G _ h2 ?_; refine wp_seq ?_; cases h3 : (decide (k ≥ (4 : Int)))
     ·
      have q3 := Y9 h3; refine m9 G ⟨[], [(decide (k ≥ (4 : Int)), false)], [(3, 0), (4, 0), (1005, 0)]⟩ b0 ⟨(by assumption), trivial⟩ [(0, iA k), (2, iA 0), (13, bA false)] [] trivial fun ρ a w G => b9 ?_; refine rF G (false) (by kernel_rfl) ?_; refine wp_seq ?_; refine l0 G [(2, iA 0), (20, bA (k == 11))] fun ρ a w G => b9 ?_; cases h4 : (k == (11 : Int))
      · have q4 := ne_of_beq_false h4; refine rF G _ h4 ?_; refine wp_skip ?_; refine o5 ?_; refine b9 (wp_seq ?_); refine l0 G [(2, iA (-1))] fun ρ a w G => b9 (wp_ret ?_); exact i7 (v := iA (-1)) G [] (by kernel_rfl) (by kernel_rfl) (by kernel_rfl) (by have e1 : (l9 k : Int) = (-1) := (by unfold l9; (repeat' split) <;> omega); (first | rw [e1] | simp only [e1]) <;> rfl)
      · have q4 := eq_of_beq h4; refine rT G _ h4 ?_; refine wp_seq ?_; refine l0 G [(2, iA 3)] fun ρ a w G => b9 (wp_ret (ah0 (H5 ?_))); exact i7 (v := iA 3) G [] (by kernel_rfl) (by kernel_rfl) (by kernel_rfl) (by have e1 : (l9 k : Int) = (3) := (by unfold l9; (repeat' split) <;> omega); (first | rw [e1] | simp only [e1]) <;> rfl)
     ·
      have q3 := Y8 h3; refine m9 G ⟨[], [(decide (k ≥ (4 : Int)), true)], [(3, 0), (4, 0), (1005, 0)]⟩ b0 ⟨(by assumption), trivial⟩ [(0, iA k), (2, iA 0), (13, bA (decide (k ≤ 10)))] [] trivial fun ρ a w G => b9 ?_; cases h5 : (decide (k ≤ (10 : Int)))
      ·
       have q5 := Y9 h5; refine rF G _ h5 ?_; refine wp_seq ?_; refine l0 G [(2, iA 0), (20, bA (k == 11))] fun ρ a w G => b9 ?_; cases h6 : (k == (11 : Int))
       · have q6 := ne_of_beq_false h6; refine rF G _ h6 ?_; refine wp_skip ?_; refine o5 ?_; refine b9 (wp_seq ?_); refine l0 G [(2, iA (-1))] fun ρ a w G => b9 (wp_ret ?_); exact i7 (v := iA (-1)) G [] (by kernel_rfl) (by kernel_rfl) (by kernel_rfl) (by have e1 : (l9 k : Int) = (-1) := (by unfold l9; (repeat' split) <;> omega); (first | rw [e1] | simp only [e1]) <;> rfl)
       · have q6 := eq_of_beq h6; refine rT G _ h6 ?_; refine wp_seq ?_; refine l0 G [(2, iA 3)] fun ρ a w G => b9 (wp_ret (ah0 (H5 ?_))); exact i7 (v := iA 3) G [] (by kernel_rfl) (by kernel_rfl) (by kernel_rfl) (by have e1 : (l9 k : Int) = (3) := (by unfold l9; (repeat' split) <;> omega); (first | rw [e1] | simp only [e1]) <;> rfl)
      · have q5 := Y8 h5; refine rT G _ h5 ?_; refine wp_seq ?_; refine l0 G [(2, iA 2)] fun ρ a w G => b9 (wp_ret (ah0 (H5 ?_))); exact i7 (v := iA 2) G [] (by kernel_rfl) (by kernel_rfl) (by kernel_rfl) (by have e1 : (l9 k : Int) = (2) := (by unfold l9; (repeat' split) <;> omega); (first | rw [e1] | simp only [e1]) <;> rfl)
    · have q2 := eq_of_beq h2; refine rT G _ h2 ?_; refine wp_seq ?_; refine l0 G [(2, iA 1)] fun ρ a w G => b9 (wp_ret (ah0 (H5 ?_))); exact i7 (v := iA 1) G [] (by kernel_rfl) (by kernel_rfl) (by kernel_rfl) (by have e1 : (l9 k : Int) = (1) := (by unfold l9; (repeat' split) <;> omega); (first | rw [e1] | simp only [e1]) <;> rfl)
   · have q1 := eq_of_beq h1; refine rT G _ h1 ?_; refine wp_seq ?_; refine l0 G [(2, iA 0)] fun ρ a w G => b9 (wp_ret (ah0 (H5 ?_))); exact i7 (v := iA 0) G [] (by kernel_rfl) (by kernel_rfl) (by kernel_rfl) (by have e1 : (l9 k : Int) = (0) := (by unfold l9; (repeat' split) <;> omega); (first | rw [e1] | simp only [e1]) <;> rfl)
  · have q0 := eq_of_beq h0; refine m9 G ⟨[], [(k == (1 : Int), true)], [(3, 0), (4, 0), (1005, 0)]⟩ b0 ⟨(by assumption), trivial⟩ [(0, iA k), (2, iA 0), (3, bA true)] [] trivial fun ρ a w G => b9 ?_; refine rT G (true) (by kernel_rfl) ?_; refine wp_seq ?_; refine l0 G [(2, iA 0)] fun ρ a w G => b9 (wp_ret (ah0 (H5 ?_))); exact i7 (v := iA 0) G [] (by kernel_rfl) (by kernel_rfl) (by kernel_rfl) (by have e1 : (l9 k : Int) = (0) := (by unfold l9; (repeat' split) <;> omega); (first | rw [e1] | simp only [e1]) <;> rfl)
section
variable {nv na d : Nat} {e : f5}
end
def w9 : Nat → List d9 → Nat
 | 0, ss => ss.length
 | d + 1, ss => ss.length + (ss.map fun s => w9 d s.body + w9 d s.els).sum
def szP (d : Nat) (ss : List d9) (k : Nat) : Nat := ss.length + ((ss.take k).map fun s => w9 d s.body + w9 d s.els).sum
theorem a79 (d : Nat) (ss : List d9) {k : Nat} (h : ss.length ≤ k) : szP d ss k = w9 (d + 1) ss := by unfold szP; rw [List.take_of_length_le h, w9]
theorem E0 {d : Nat} {ss : List d9} {k : Nat} (h : k < ss.length) : szP d ss (k + 1) = szP d ss k + (w9 d (ss.getD k default).body + w9 d (ss.getD k default).els) := by
 unfold szP
 rw [M5 ss k h, List.map_append, List.sum_append, A7 h]
 simp; omega
theorem aZ3 : ∀ (d : Nat) (ss : List d9), w9 d ss ≤ s5 ss := by
 intro d
 induction d with
 | zero => intro ss; exact af0 ss
 | succ d ih =>
  intro ss
  induction ss with
  | nil => simp [w9]
  | cons s r ihr =>
   have h1 := ih s.body
   have h2 := ih s.els
   have h3 := aw4 s
   simp only [w9, List.map_cons, List.sum_cons, List.length_cons, s5] at ihr ⊢
   have h4 : s5 s.body + s5 s.els ≤ E5 s := by
    rcases s with ⟨_, _, _, _, _, b, e⟩
    simp only [E5, d9.body, d9.els]; omega
   omega
theorem M9 {d : Nat} {ss : List d9} {k : Nat} : szP d ss k ≤ s5 ss := by
 refine Nat.le_trans ?_ (aZ3 (d + 1) ss)
 unfold szP
 rw [w9]
 have : ∀ (l : List Nat) (k : Nat), (l.take k).sum ≤ l.sum := fun l k => by
  have := List.sum_append (l₁ := l.take k) (l₂ := l.drop k)
  rw [List.take_append_drop] at this; omega
 have h := this (ss.map fun s => w9 d s.body + w9 d s.els) k
 rw [← List.map_take] at h
 omega
theorem aS2 {ss : List d9} {k B : Nat} (h : s5 ss ≤ B) (hk : k < ss.length) : s5 (ss.getD k default).body ≤ B ∧ s5 (ss.getD k default).els ≤ B := by
 rw [A7 hk]
 have h1 := a78 (List.getElem_mem hk)
 have h2 := aw4 ss[k]
 omega
theorem aV5 (ss : List d9) (n : Int) (hn : n = 1) (hb : s5 ss ≤ 1048576) : p7.ok Try.prog (fnC 61 [.ref 0, iA n] [.dat (.stmts ss)] (iA (w9 0 ss : Nat))) := by
 have h100 : decide (n > 1) = false := by simp; omega
 refine m8 39 Try.func61 (by rfl) (by kernel_rfl) (by kernel_rfl) ?_; intro ι φ ψ w0 w F ρ0 ρ a G; replace G := p6.at G [dT ss] [(0, .ref 0), (1, iA n)]; refine wp_seq ?_; refine l0 G [(0, .ref 0), (1, iA n), (4, iA 0)] fun ρ a w G => b9 (wp_seq ?_); refine l0 G [(0, .ref 0), (1, iA n), (4, iA 0), (5, iA (↑ss.length : Int))] fun ρ a w G => b9 (wp_seq (wp_seq ?_)); refine l0 G [(0, .ref 0), (1, iA n), (4, iA 0), (5, iA (↑ss.length : Int)), (6, iA 0)] fun ρ a w G => b9 (wp_block ?_); refine F4 (κ := Nat) (fun k => k = 0) (fun k => 0) (fun k => [dT ss]) (fun k => [(0, .ref 0), (1, iA n), (4, iA 0), (5, iA (ss.length : Nat)), (6, iA k)]) (0) (by kernel_rfl) (p6.at G _ _) ?_; clear G; intro k ρ a w hp G; replace G := p6.at G [dT ss] [(0, .ref 0), (1, iA n), (4, iA 0), (5, iA (↑ss.length : Int)), (6, iA (↑k : Int))]; refine wp_seq (wp_seq ?_); cases h0 : (decide ((↑k : Int) < (↑ss.length : Int)))
 ·have q0 := Y9 h0; refine m9 G ⟨[], [(decide ((↑k : Int) < (↑ss.length : Int)), false)], [(5, 0), (6, 0), (1007, 0)]⟩ b0 ⟨(by assumption), trivial⟩ [(0, .ref 0), (1, iA n), (4, iA 0), (5, iA (↑ss.length : Int)), (6, iA (↑k : Int)), (16, bA false)] [] trivial fun ρ a w G => b9 ?_; refine rF G (false) (by kernel_rfl) ?_; refine wp_exit (D9 (D9 (D7 (b9 (wp_seq ?_))))); refine l0 G [(4, iA (↑ss.length : Int))] fun ρ a w G => b9 (wp_ret ?_); exact i7 (v := iA (↑ss.length : Int)) G [0] (by kernel_rfl) (by kernel_rfl) (by kernel_rfl) (by kernel_rfl)
 ·have q0 := Y8 h0; refine m9 G ⟨[], [(decide ((↑k : Int) < (↑ss.length : Int)), true)], [(5, 0), (6, 0), (1007, 0)]⟩ b0 ⟨(by assumption), trivial⟩ [(0, .ref 0), (1, iA n), (4, iA 0), (5, iA (↑ss.length : Int)), (6, iA (↑k : Int)), (16, bA (decide (n > 1)))] [] trivial fun ρ a w G => b9 ?_; refine rF G (decide (n > (1 : Int))) (by assumption) ?_; refine wp_exit (D9 (D9 (D7 (b9 (wp_seq ?_))))); refine l0 G [(4, iA (↑ss.length : Int))] fun ρ a w G => b9 (wp_ret ?_); exact i7 (v := iA (↑ss.length : Int)) G [0] (by kernel_rfl) (by kernel_rfl) (by kernel_rfl) (by kernel_rfl)
theorem aV3 (d : Nat) (hd : d ≤ 5) (ih : ∀ (ss : List d9) (n : Int), n = (d + 1 : Nat) → s5 ss ≤ 1048576 → p7.ok Try.prog (fnC 61 [.ref 0, iA n] [.dat (.stmts ss)] (iA (w9 d ss : Nat))))
  (ss : List d9) (n : Int) (hn : n = (d + 2 : Nat)) (hb : s5 ss ≤ 1048576) : p7.ok Try.prog (fnC 61 [.ref 0, iA n] [.dat (.stmts ss)] (iA (w9 (d + 1) ss : Nat))) := by
 have h100 : decide (n > 1) = true := by simp; omega
 refine m8 39 Try.func61 (by rfl) (by kernel_rfl) (by kernel_rfl) ?_; intro ι φ ψ w0 w F ρ0 ρ a G; replace G := p6.at G [dT ss] [(0, .ref 0), (1, iA n)]; refine wp_seq ?_; refine l0 G [(0, .ref 0), (1, iA n), (4, iA 0)] fun ρ a w G => b9 (wp_seq ?_); refine l0 G [(0, .ref 0), (1, iA n), (4, iA 0), (5, iA (↑ss.length : Int))] fun ρ a w G => b9 (wp_seq (wp_seq ?_)); refine l0 G [(0, .ref 0), (1, iA n), (4, iA 0), (5, iA (↑ss.length : Int)), (6, iA 0)] fun ρ a w G => b9 (wp_block ?_); refine F4 (κ := Nat) (fun k => k ≤ ss.length) (fun k => ss.length - k) (fun k => [dT ss]) (fun k => [(0, .ref 0), (1, iA n), (4, iA 0), (5, iA (szP d ss k : Nat)), (6, iA k)]) (0) (by simp [h100]) (p6.at G _ _) ?_; clear G; intro k ρ a w hp G; replace G := p6.at G [dT ss] [(0, .ref 0), (1, iA n), (4, iA 0), (5, iA (↑(szP d ss k) : Int)), (6, iA (↑k : Int))]; have hlen := af0 ss; refine wp_seq (wp_seq ?_); cases h0 : (decide ((↑k : Int) < (↑ss.length : Int)))
 ·have q0 := Y9 h0; refine m9 G ⟨[], [(decide ((↑k : Int) < (↑ss.length : Int)), false)], [(5, 0), (6, 0), (1007, 0)]⟩ b0 ⟨(by assumption), trivial⟩ [(0, .ref 0), (1, iA n), (4, iA 0), (5, iA (↑(szP d ss k) : Int)), (6, iA (↑k : Int)), (16, bA false)] [] trivial fun ρ a w G => b9 ?_; refine rF G (false) (by kernel_rfl) ?_; refine wp_exit (D9 (D9 (D7 (b9 (wp_seq ?_))))); refine l0 G [(4, iA (↑(szP d ss k) : Int))] fun ρ a w G => b9 (wp_ret ?_); exact i7 (v := iA (↑(szP d ss k) : Int)) G [0] (by kernel_rfl) (by kernel_rfl) (by kernel_rfl) (by have e1 : ((↑(w9 (d + 1) ss) : Int) : Int) = ((↑(szP d ss k) : Int)) := (by have h1 := a79 d ss (k := k) (by omega); omega); (first | rw [e1] | simp only [e1]) <;> rfl)
 ·have q0 := Y8 h0; refine m9 G ⟨[], [(decide ((↑k : Int) < (↑ss.length : Int)), true)], [(5, 0), (6, 0), (1007, 0)]⟩ b0 ⟨(by assumption), trivial⟩ [(0, .ref 0), (1, iA n), (4, iA 0), (5, iA (↑(szP d ss k) : Int)), (6, iA (↑k : Int)), (16, bA (decide (n > 1)))] [] trivial fun ρ a w G => b9 ?_; refine rT G (decide (n > (1 : Int))) (by assumption) ?_; refine wp_skip (b9 (wp_seq (wp_block ?_))); refine bi6 G ⟨[(8, _, [41]), (17, _, [113])], [], []⟩ (b6 (ih ((ss.getD k default).body) (n - 1) (by have h1 := E0 (d := d) (ss := ss) (k := k) (by omega); have h2 := M9 (d := d) (ss := ss) (k := k + 1); omega) (by exact (aS2 hb (by omega)).1)) (b6 (ih ((ss.getD k default).els) (n - 1) (by have h1 := E0 (d := d) (ss := ss) (k := k) (by omega); have h2 := M9 (d := d) (ss := ss) (k := k + 1); omega) (by exact (aS2 hb (by omega)).2)) b0)) trivial [0, 0, 0, 6, 14, 30, 0, 64, 254, 511, 0, 0, 3072, 7168, 15360, 0, 32768, 130558, 262143, 524287] [(0, .ref 0), (1, iA n), (4, iA 0), (5, iA ((↑(szP d ss k) : Int) + (↑(w9 d (ss.getD k default).body) : Int) + (↑(w9 d (ss.getD k default).els) : Int))), (6, iA (↑k : Int))] [(0 : Int) ≤ (↑k : Int), (↑k : Int) < (↑ss.length : Int), k < ss.length, IntKind.i64.wrap (n - (1 : Int)) = n - (1 : Int), IntKind.i64.wrap ((↑(szP d ss k) : Int) + (↑(w9 d (ss.getD k default).body) : Int)) = (↑(szP d ss k) : Int) + (↑(w9 d (ss.getD k default).body) : Int), (0 : Int) ≤ (↑k : Int), (↑k : Int) < (↑ss.length : Int), k < ss.length, IntKind.i64.wrap (n - (1 : Int)) = n - (1 : Int), IntKind.i64.wrap ((↑(szP d ss k) : Int) + (↑(w9 d (ss.getD k default).body) : Int) + (↑(w9 d (ss.getD k default).els) : Int)) = (↑(szP d ss k) : Int) + (↑(w9 d (ss.getD k default).body) : Int) + (↑(w9 d (ss.getD k default).els) : Int)] ⟨(by simp [h100, h0]), (by assumption), (by have h1 := E0 (d := d) (ss := ss) (k := k) (by omega); have h2 := M9 (d := d) (ss := ss) (k := k + 1); omega), (by have h1 := E0 (d := d) (ss := ss) (k := k) (by omega); have h2 := M9 (d := d) (ss := ss) (k := k + 1); exact w6 (by omega) (by omega)), (by have h1 := E0 (d := d) (ss := ss) (k := k) (by omega); have h2 := M9 (d := d) (ss := ss) (k := k + 1); exact w6 (by omega) (by omega)), (by simp [h100, h0]), (by assumption), (by have h1 := E0 (d := d) (ss := ss) (k := k) (by omega); have h2 := M9 (d := d) (ss := ss) (k := k + 1); omega), (by have h1 := E0 (d := d) (ss := ss) (k := k) (by omega); have h2 := M9 (d := d) (ss := ss) (k := k + 1); exact w6 (by omega) (by omega)), (by have h1 := E0 (d := d) (ss := ss) (k := k) (by omega); have h2 := M9 (d := d) (ss := ss) (k := k + 1); exact w6 (by omega) (by omega)), trivial⟩ ?_; intro ρ a w G; refine o5 ?_; refine b9 ?_; refine m9 G ⟨[], [], []⟩ b0 trivial [(0, .ref 0), (1, iA n), (4, iA 0), (5, iA ((↑(szP d ss k) : Int) + (↑(w9 d (ss.getD k default).body) : Int) + (↑(w9 d (ss.getD k default).els) : Int))), (6, iA ((↑k : Int) + 1))] [IntKind.i64.wrap ((↑k : Int) + (1 : Int)) = (↑k : Int) + (1 : Int)] ⟨(by have h1 := E0 (d := d) (ss := ss) (k := k) (by omega); have h2 := M9 (d := d) (ss := ss) (k := k + 1); exact w6 (by omega) (by omega)), trivial⟩ fun ρ a w G => b9 ?_; exact m0 G (k + 1) (by have h1 := E0 (d := d) (ss := ss) (k := k) (by omega); have h2 := M9 (d := d) (ss := ss) (k := k + 1); omega) (by have h1 := E0 (d := d) (ss := ss) (k := k) (by omega); have h2 := M9 (d := d) (ss := ss) (k := k + 1); omega) [0] [dT ss] [(0, .ref 0), (1, iA n), (4, iA 0), (5, iA (↑(szP d ss (k + 1)) : Int)), (6, iA (↑(k + 1) : Int))] (by kernel_rfl) (by kernel_rfl) (by kernel_rfl) (by kernel_rfl) (by have e1 : ((↑(szP d ss (k + 1)) : Int) : Int) = ((↑(szP d ss k) : Int) + (↑(w9 d (ss.getD k default).body) : Int) + (↑(w9 d (ss.getD k default).els) : Int)) := (by have h1 := E0 (d := d) (ss := ss) (k := k) (by omega); have h2 := M9 (d := d) (ss := ss) (k := k + 1); omega); (first | rw [e1] | simp only [e1]) <;> rfl)
theorem aV4 : ∀ d, d ≤ 5 → ∀ (ss : List d9) (n : Int), n = (d + 1 : Nat) → s5 ss ≤ 1048576 → p7.ok Try.prog (fnC 61 [.ref 0, iA n] [.dat (.stmts ss)] (iA (w9 d ss : Nat))) := by
 intro d
 induction d with
 | zero => intro _ ss n hn hb; exact aV5 ss n (by omega) hb
 | succ d ih => intro hd ss n hn hb; exact aV3 d (by omega) (fun ss n hn hb => ih (by omega) ss n hn hb) ss n (by omega) hb
theorem a63 (ss : List d9) (n : Int) (hn : n = 5) (hb : s5 ss ≤ 1048576) : p7.ok Try.prog (fnC 61 [.ref 0, iA n] [.dat (.stmts ss)] (iA (w9 4 ss : Nat))) :=
 aV4 4 (by omega) ss n (by omega) hb
theorem aZ4 {nv na : Nat} : ∀ (d : Nat) (ss : List d9), (∀ s ∈ ss, i9 nv na (d + 1) s = true) → w9 d ss = H1 ss := by
 intro d
 induction d with
 | zero => intro ss h; rw [aH3 h]; rfl
 | succ d ih =>
  intro ss
  induction ss with
  | nil => intro _; rfl
  | cons s r ihr =>
   intro h
   have h1 := T6 (h s List.mem_cons_self)
   have h2 := ih s.body fun x hx => List.all_eq_true.1 h1.1 x hx
   have h3 := ih s.els fun x hx => List.all_eq_true.1 h1.2 x hx
   have h4 := ihr fun x hx => h x (List.mem_cons_of_mem _ hx)
   rw [H1, aA9, ← h2, ← h3, ← h4]
   simp [w9]; omega
theorem aF5 {p : m6} (h : A6 p.vars p.arrays = false) : A0 p = false := by simp [A0, h]
theorem aF6 {p : m6} (h : R4 p.vars.length p.arrays.length 5 p.body = false) : A0 p = false := by simp [A0, h]
theorem aL6 {p : m6} (h1 : A6 p.vars p.arrays = true) (h2 : R4 p.vars.length p.arrays.length 5 p.body = true) : A0 p = decide ((w9 4 p.body : Int) ≤ 60) := by
 have h3 := aZ4 (nv := p.vars.length) (na := p.arrays.length) 4 p.body (fun x hx => List.all_eq_true.1 h2 x hx)
 rw [A0, h1, h2, h3]
 simp
 exact ⟨fun h => by omega, fun h => by omega⟩
theorem aI7 (p : m6) (n : Int) (hn : n = 5) : p7.ok Try.prog (fnC 60 [pA 0, .ref 2, iA n] (pS p) (bA (R4 p.vars.length p.arrays.length 5 p.body))) :=
 p7.dup (S := pS p) (S' := pS p) (d := .stmts p.body) (i := 2) (aV7 p p.body n hn) rfl rfl rfl (fun ρ h => by simp only [AV.vals, AV.val]; rw [show ρ 3 = ρ 2 from h]) rfl
theorem Z5 (p : m6) (hb : s5 p.body ≤ 1048576) : p7.ok Try.prog (fnC 52 [pA 0] (pS p) (bA (A0 p))) := by
  refine m8 17 Try.func52 (by rfl) (by kernel_rfl) (by kernel_rfl) ?_; intro ι φ ψ w0 w F ρ0 ρ a G; replace G := p6.at G [dI p.vars, dI p.arrays, dT p.body] [(0, pA 0)]; refine wp_seq ?_; refine D8 G (rg 4) [dI p.vars, dI p.arrays, dT p.body, .box (pL 0)] [(1, .ptr 3 0), (2, bA false)] fun ρ a w G => b9 (wp_seq ?_); cases h0 : (A6 p.vars p.arrays)
  · refine v5 (dk := p5) G ⟨[(1, _, [0, 1, 2])], [(A6 p.vars p.arrays, false), (false, false)], us [(3, 6, 0), (1007, 1007, 0), (9, 12, 1), (1013, 1013, 1)]⟩ (b6 (ak0 (p)) b0) ⟨(by assumption), (by kernel_rfl), trivial⟩ [0, 1, 2] [dI p.vars, dI p.arrays, dT p.body] [(2, bA false)] [] trivial fun ρ a w G => b9 (wp_ret ?_); exact i7 (v := bA false) G [0, 1, 2] (by kernel_rfl) (by kernel_rfl) (by kernel_rfl) (by have e1 : (A0 p : Bool) = (false) := (by exact aF5 (by assumption)); (first | rw [e1] | simp only [e1]) <;> rfl)
  ·
   cases h1 : (R4 p.vars.length p.arrays.length (5 : Nat) p.body)
   · refine v5 (dk := p5) G ⟨[(1, _, [0, 1, 2]), (6, _, [0, 1, 2])], [(A6 p.vars p.arrays, true), (R4 p.vars.length p.arrays.length (5 : Nat) p.body, false)], us [(3, 6, 0), (1007, 1007, 0), (9, 12, 1), (1013, 1013, 1)]⟩ (b6 (ak0 (p)) (b6 (aI7 (p) (5) (by kernel_rfl)) b0)) ⟨(by assumption), (by assumption), trivial⟩ [0, 1, 2] [dI p.vars, dI p.arrays, dT p.body] [(2, bA false)] [] trivial fun ρ a w G => b9 (wp_ret ?_); exact i7 (v := bA false) G [0, 1, 2] (by kernel_rfl) (by kernel_rfl) (by kernel_rfl) (by have e1 : (A0 p : Bool) = (false) := (by exact aF6 (by assumption)); (first | rw [e1] | simp only [e1]) <;> rfl)
   · refine v5 (dk := p5) G ⟨[(1, _, [0, 1, 2]), (6, _, [0, 1, 2]), (11, _, [2])], [(A6 p.vars p.arrays, true), (R4 p.vars.length p.arrays.length (5 : Nat) p.body, true)], us [(3, 6, 0), (1007, 1007, 0), (9, 12, 1), (1013, 1013, 1)]⟩ (b6 (ak0 (p)) (b6 (aI7 (p) (5) (by kernel_rfl)) (b6 (a63 (p.body) (5) (by kernel_rfl) (by assumption)) b0))) ⟨(by assumption), (by assumption), trivial⟩ [0, 1, 2] [dI p.vars, dI p.arrays, dT p.body] [(2, bA (decide ((↑(w9 4 p.body) : Int) ≤ 60)))] [] trivial fun ρ a w G => b9 (wp_ret ?_); exact i7 (v := bA (decide ((↑(w9 4 p.body) : Int) ≤ 60))) G [0, 1, 2] (by kernel_rfl) (by kernel_rfl) (by kernel_rfl) (by have e1 : (A0 p : Bool) = (decide ((↑(w9 4 p.body) : Int) ≤ 60)) := (by exact aL6 (by assumption) (by assumption)); (first | rw [e1] | simp only [e1]) <;> rfl)
def P1 (nv na : Nat) (s : d9) : Bool := x6 s &&
    (if s.kind = 1 ∨ s.kind = 5 then decide (0 ≤ s.target) && decide (s.target < nv) && l6 nv na s.value
     else if s.kind = 2 then decide (0 ≤ s.target) && decide (s.target < na) && l6 nv na s.index && P2 s.index && l6 nv na s.value
     else if s.kind = 3 then l6 nv na s.value
     else decide (s.kind = 4))
theorem ac9 {nv na d : Nat} {s : d9} : i9 nv na (d + 1) s = (P1 nv na s && (s.body.all (i9 nv na d) && s.els.all (i9 nv na d))) := by
 rw [Bool.eq_iff_iff]
 constructor
 ·intro h
  have h1 := T6 h
  rw [h1.1, h1.2, Bool.and_true, Bool.and_true]
  rw [i9, Bool.and_eq_true] at h
  rw [P1, h.1, Bool.true_and]
  obtain ⟨-, h⟩ := h
  split at h
  ·rw [if_pos (by assumption)]; exact h
  split at h
  ·rw [if_neg (by assumption), if_pos (by assumption)]; exact h
  split at h
  ·rw [if_neg (by assumption), if_neg (by assumption), if_pos (by assumption)]
   simp only [Bool.and_eq_true] at h; exact h.1.1
  split at h
  ·rw [if_neg (by assumption), if_neg (by assumption), if_neg (by assumption)]; simp [*]
  ·simp at h
 ·intro h
  simp only [Bool.and_eq_true] at h
  obtain ⟨h, hb, he⟩ := h
  rw [P1, Bool.and_eq_true] at h
  obtain ⟨h0, h⟩ := h
  rw [i9, h0, Bool.true_and]
  split at h
  ·rw [if_pos (by assumption)]; exact h
  split at h
  ·rw [if_neg (by assumption), if_pos (by assumption)]; exact h
  split at h
  ·rw [if_neg (by assumption), if_neg (by assumption), if_pos (by assumption), h, hb, he]; rfl
  ·rw [if_neg (by assumption), if_neg (by assumption), if_neg (by assumption), if_pos (by simpa using h), hb]
section
variable {nv na d c : Nat} {s : d9}
end
section
variable {nv na : Nat} {s : d9}
theorem bl0 (k : s.kind = 1 ∨ s.kind = 5) : P1 nv na s = (decide (0 ≤ s.target ∧ s.target < nv ∧ s.body.length = 0 ∧ s.els.length = 0 ∧ s.count = 0) && (noneB s.index && l6 nv na s.value)) := by
 rw [P1, x6, if_pos k, if_neg (by omega), show decide (s.kind = 2) = false from decide_eq_false (by omega), Bool.eq_iff_iff]
 simp only [Bool.and_eq_true, decide_eq_true_eq, Bool.false_or]
 constructor
 ·rintro ⟨⟨⟨⟨a, b⟩, c⟩, d⟩, ⟨e, f⟩, g⟩; exact ⟨⟨e, f, a, b, c⟩, d, g⟩
 ·rintro ⟨⟨e, f, a, b, c⟩, d, g⟩; exact ⟨⟨⟨⟨a, b⟩, c⟩, d⟩, ⟨e, f⟩, g⟩
theorem bk9 (k : s.kind = 2) : P1 nv na s = (decide (0 ≤ s.target ∧ s.target < na ∧ s.body.length = 0 ∧ s.els.length = 0 ∧ s.count = 0) && (l6 nv na s.index && (P2 s.index && l6 nv na s.value))) := by
 rw [P1, x6, if_neg (by omega), if_pos k, if_neg (by omega), show decide (s.kind = 2) = true from decide_eq_true k, Bool.eq_iff_iff]
 simp only [Bool.and_eq_true, decide_eq_true_eq, Bool.true_or]
 constructor
 ·rintro ⟨⟨⟨⟨a, b⟩, c⟩, -⟩, ⟨⟨⟨e, f⟩, i⟩, j⟩, g⟩; exact ⟨⟨e, f, a, b, c⟩, i, j, g⟩
 ·rintro ⟨⟨e, f, a, b, c⟩, i, j, g⟩; exact ⟨⟨⟨⟨a, b⟩, c⟩, trivial⟩, ⟨⟨⟨e, f⟩, i⟩, j⟩, g⟩
theorem bk8 (k : s.kind = 3) : P1 nv na s = (decide (s.target = 0 ∧ s.count = 0) && (noneB s.index && l6 nv na s.value)) := by
 rw [P1, x6, if_pos (show s.kind = 3 ∨ s.kind = 4 from .inl k), if_neg (show ¬ s.kind = 4 by omega), if_neg (by omega), if_neg (by omega), if_pos k, Bool.eq_iff_iff]
 simp only [Bool.and_eq_true, decide_eq_true_eq]
 constructor
 ·rintro ⟨⟨a, b, c⟩, d⟩; exact ⟨⟨a, b⟩, c, d⟩
 ·rintro ⟨⟨a, b⟩, c, d⟩; exact ⟨⟨a, b, c⟩, d⟩
theorem bk7 (k : s.kind = 4) : P1 nv na s = (decide (s.target = 0 ∧ s.els.length = 0 ∧ 1 ≤ s.count ∧ s.count ≤ 3) && (noneB s.index && noneB s.value)) := by
 rw [P1, x6, if_pos (show s.kind = 3 ∨ s.kind = 4 from .inr k), if_pos k, if_neg (by omega), if_neg (by omega), if_neg (by omega), show decide (s.kind = 4) = true from decide_eq_true k, Bool.eq_iff_iff]
 simp only [Bool.and_eq_true, decide_eq_true_eq]
 constructor
 ·rintro ⟨⟨a, ⟨⟨⟨b, c⟩, d⟩, e⟩, f⟩, -⟩; exact ⟨⟨a, b, c, d⟩, e, f⟩
 ·rintro ⟨⟨a, b, c, d⟩, e, f⟩; exact ⟨⟨a, ⟨⟨⟨b, c⟩, d⟩, e⟩, f⟩, trivial⟩
theorem ag6 (k : ¬ s.kind = 1 ∧ ¬ s.kind = 2 ∧ ¬ s.kind = 3 ∧ ¬ s.kind = 4 ∧ ¬ s.kind = 5) : P1 nv na s = false := by
 rw [P1, if_neg (by omega), if_neg (by omega), if_neg (by omega), show decide (s.kind = 4) = false from decide_eq_false (by omega), Bool.and_false]
end
end Go.Proofs.Ythikdkjjdeehoaa

namespace Go.Proofs.Ythikdkjjdeehoaa
set_option linter.unusedVariables false
set_option linter.unusedSimpArgs false
open Go Go.RowKit
theorem a42 {l : List f5} {k : Nat} (h : (k : Int) < l.length) : l.getD k default ∈ l := by rw [A7 (by omega)]; exact List.getElem_mem (by omega)
theorem aH1 {l : List d9} {k : Nat} (h : (k : Int) < l.length) : l.getD k default ∈ l := by rw [A7 (by omega)]; exact List.getElem_mem (by omega)
end Go.Proofs.Ythikdkjjdeehoaa

namespace Go.Proofs.Ythikdkjjdeehoaa
set_option linter.unusedVariables false
set_option linter.unusedSimpArgs false
open Go Go.RowKit
section
variable {nv na d : Nat} {e : f5}
end
section
variable {vs ars : List Int} {d : Nat} {e : f5}
end
section
variable {nv na : Nat} {s : d9}
variable (h : P1 nv na s = true)
include h
end
section
variable {p : m6} {s : d9} {pc : Int} {strict : Bool} {x : Int}
end
section
variable {p : m6} {strict : Bool} {d c : Nat} {pc : Int} {s : d9}
end
section
variable {p : m6} {strict : Bool}
end
section
variable {p : m6} {s : d9} {cx : Int}
end
end Go.Proofs.Ythikdkjjdeehoaa

namespace Go.Proofs.Ythikdkjjdeehoaa
set_option linter.unusedVariables false
set_option linter.unusedSimpArgs false
open Go Go.RowKit
section
variable {p : m6} {s : d9}
end
section
variable {R : d9 × Int → Int} {c a : Int} {n : Nat} {x : d9 × Int}
end
section
variable {R : d9 × Int → Int} {p : m6} {d : Nat} {cx : Int} {ss : List d9} {c b : Int} {n k : Nat}
end
end Go.Proofs.Ythikdkjjdeehoaa

namespace Go.Proofs.Ythikdkjjdeehoaa
set_option linter.unusedVariables false
set_option linter.unusedSimpArgs false
open Go Go.RowKit
abbrev Lab : Type := List Int × List Int
def bv (x : Int) : BitVec 64 := BitVec.ofInt 64 x
def leI (x y : Int) : Prop := bv x ||| bv y = bv y
theorem leI.refl (x : Int) : leI x x := BitVec.or_self
theorem leI.trans {x y z : Int} (h : leI x y) (k : leI y z) : leI x z := by
 unfold leI at *
 rw [← k, ← BitVec.or_assoc, h]
def leP (q r : Lab) : Prop := (∀ i, leI (q.1.getD i 0) (r.1.getD i 0)) ∧ ∀ i, leI (q.2.getD i 0) (r.2.getD i 0)
def shP (q r : Lab) : Prop := r.1.length = q.1.length ∧ r.2.length = q.2.length
theorem leP.refl (q : Lab) : leP q q := ⟨fun _ => leI.refl _, fun _ => leI.refl _⟩
theorem leP.trans {q r s : Lab} (h : leP q r) (k : leP r s) : leP q s := ⟨fun i => (h.1 i).trans (k.1 i), fun i => (h.2 i).trans (k.2 i)⟩
theorem shP.refl (q : Lab) : shP q q := ⟨rfl, rfl⟩
theorem shP.trans {q r s : Lab} (h : shP q r) (k : shP r s) : shP q s := ⟨k.1.trans h.1, k.2.trans h.2⟩
theorem shP.symm {q r : Lab} (h : shP q r) : shP r q := ⟨h.1.symm, h.2.symm⟩
section
variable {b : Bool} {d : Nat} {cx : Int} {q r : Lab} {ss : List d9}
end
section
variable {a b : f5} {k : Nat}
end
section
variable {s t : d9} {l m : List d9} {k : Nat}
end
section
variable {vs ars : List Int} {cx : Int} {s : d9} {d : Nat} {b : Bool}
section
variable {nv na d k : Nat} {ss : List d9} {q : Lab} {cx : Int}
end
end
section
variable {p : m6} {q : Lab} {b : List d9} {X : Lab}
end
abbrev R7 : List Int := [3] ++ ([4] ++ ([2] ++ ([5] ++ [])))
abbrev viL : List Int := [0] ++ ([1] ++ ([0] ++ ([1] ++ ([2] ++ ([3] ++ [])))))
abbrev Q6 : List Int := [1] ++ ([2] ++ ([0] ++ ([1] ++ [])))
abbrev aiL : List Int := [0] ++ ([1] ++ ([0] ++ ([1] ++ ([3] ++ []))))
abbrev nbL : List Int := [2] ++ ([3] ++ ([1] ++ ([4] ++ [])))
def v8 (b : List UInt8) (l : List Int) (n : Nat) (k : Int) : List Int := (List.range n).map fun (i : Nat) => nm b (k + (i : Int)) l
theorem Q5 (b : List UInt8) (l : List Int) (n : Nat) (k : Int) : (v8 b l n k).length = n := by simp [v8]
theorem a23 (b : List UInt8) (l : List Int) (n : Nat) (k : Int) : v8 b l (n + 1) k = v8 b l n k ++ [nm b (k + (n : Int)) l] := by
 unfold v8; rw [List.range_succ, List.map_append]; rfl
def C5 (b : List UInt8) (k : Int) : Int := k + 1 + nm b k R7
def kp2 (b : List UInt8) (k : Int) : Int := C5 b k + 1 + nm b (C5 b k) Q6
def X6 (b : List UInt8) (k : Int) : List Int := v8 b viL (nm b k R7).toNat (k + 1)
def asD (b : List UInt8) (k : Int) : List Int := v8 b aiL (nm b (C5 b k) Q6).toNat (C5 b k + 1)
def r9 (b : List UInt8) (k : Int) : List d9 × Int := y7 (r7 b (X6 b k).length (asD b k).length 3) (nm b (kp2 b k) nbL).toNat (kp2 b k + 1)
def rwD (b : List UInt8) (k : Int) : m6 := ⟨X6 b k, asD b k, (r9 b k).1⟩
def fbP : m6 := ⟨[0, 1], [], [⟨1, 1, noE, ⟨2, 0, []⟩, 0, [], []⟩]⟩
def m5 (b : List UInt8) (k : Int) : m6 := if A0 (rwD b k) = true then rwD b k else fbP
section
variable (b : List UInt8) {k : Int}
theorem bf4 (hk : 0 ≤ k) (hk2 : k ≤ 1000000000) : 0 ≤ nm b k R7 ∧ nm b k R7 ≤ 5 := ax1 b (by simp) (by simp) hk hk2
theorem bj6 (hk : 0 ≤ k) (hk2 : k ≤ 1000000000) : 0 ≤ nm b k nbL ∧ nm b k nbL ≤ 4 := ax1 b (by simp) (by simp) hk hk2
theorem bf7 (hk : 0 ≤ k) (hk2 : k ≤ 1000000000) : 0 ≤ nm b k Q6 ∧ nm b k Q6 ≤ 2 := ax1 b (by simp) (by simp) hk hk2
theorem a32 (hk : 0 ≤ k) (hk2 : k ≤ 10000000) : k + 1 ≤ C5 b k ∧ C5 b k ≤ k + 6 := by
 have := bf4 b hk (by omega); unfold C5; omega
theorem a31 (hk : 0 ≤ k) (hk2 : k ≤ 10000000) : k + 2 ≤ kp2 b k ∧ kp2 b k ≤ k + 9 := by
 have h1 := a32 b hk hk2
 have := bf7 b (k := C5 b k) (by omega) (by omega); unfold kp2; omega
theorem cS3 : cS 3 = 34170 ∧ cS 2 = 8442 := by decide
theorem bq1 (nv na : Nat) : Drw (r7 b nv na 3) 34170 := fun j h1 h2 => by
 have e := cS3.1
 have h3 := aE0 b nv na 3 j h1 (by omega)
 have h4 := aK4 b nv na 3 j h1 (by omega)
 omega
theorem a66 (hk : 0 ≤ k) (hk2 : k ≤ 10000000) : kp2 b k ≤ (r9 b k).2 ∧ (r9 b k).2 ≤ k + 150000 ∧ s5 (r9 b k).1 ≤ 150000 := by
 have h1 := a31 b hk hk2
 have h2 := bj6 b (k := kp2 b k) (by omega) (by omega)
 have h3 := aB8 (f := r7 b (X6 b k).length (asD b k).length 3) (by omega) (bq1 b _ _) (nm b (kp2 b k) nbL).toNat (kp2 b k + 1) (by omega) (by omega)
 unfold r9
 omega
theorem aX7 (hk : 0 ≤ k) (hk2 : k ≤ 10000000) : (X6 b k).length ≤ 5 := by
 have := bf4 b hk (by omega); unfold X6; rw [Q5]; omega
theorem a68 (hk : 0 ≤ k) (hk2 : k ≤ 10000000) : (asD b k).length ≤ 2 := by
 have h1 := a32 b hk hk2
 have := bf7 b (k := C5 b k) (by omega) (by omega); unfold asD; rw [Q5]; omega
theorem bg3 : A0 fbP = true := by decide +kernel
theorem a17 (k : Int) : A0 (m5 b k) = true := by
 unfold m5; split
 ·assumption
 ·exact bg3
theorem a16 (hk : 0 ≤ k) (hk2 : k ≤ 10000000) : (m5 b k).size ≤ 160000 := by
 have h1 := a66 b hk hk2
 have h2 := aX7 b hk hk2
 have h3 := a68 b hk hk2
 unfold m5; split
 ·show (X6 b k).length + (asD b k).length + s5 (r9 b k).1 ≤ 160000
  omega
 ·decide
end
def bsD (c : List UInt8) : List UInt8 := c.take 2000
abbrev opL : List Int := [1] ++ ([2] ++ ([3] ++ ([6] ++ ([2] ++ ([7] ++ ([9] ++ ([4] ++ ([5] ++ ([11] ++ ([8] ++ ([12] ++ [])))))))))))
abbrev vaL : List Int := [0] ++ ([1] ++ ([2] ++ ([3] ++ ([255] ++ ([128] ++ ([7] ++ ([4] ++ ([100] ++ []))))))))
abbrev lnL : List Int := [6] ++ ([8] ++ ([4] ++ ([10] ++ ([1] ++ ([12] ++ [])))))
def opD (b : List UInt8) (j : Int) (na : Nat) : Int := if na = 0 ∧ (nm b j opL = 4 ∨ nm b j opL = 5) then 2 else nm b j opL
def ptD (b : List UInt8) (j : Int) (nv na : Nat) (at0 n : Int) (kd : UInt8) : Int :=
 if kd = 114 then pk b j 3 else if kd = 99 then nm b j vaL else if kd = 118 then pk b j nv else if kd = 97 then pk b j na else if kd = 111 then 4 + pk b j 7 else at0 + 1 + pk b j (n - at0 - 1)
def n7 (b : List UInt8) (j : Int) (nv na : Nat) (at0 n : Int) (ks : List UInt8) (k : Nat) : List Int := (List.range 4).map fun i => if i < k then ptD b (j + i) nv na at0 n (ks.getD i 0) else 0
theorem i5 (b : List UInt8) (j : Int) (nv na : Nat) (at0 n : Int) (ks : List UInt8) (k : Nat) : (n7 b j nv na at0 n ks k).length = 4 := by simp [n7]
theorem a13 (b : List UInt8) (j : Int) (nv na : Nat) (at0 n : Int) (ks : List UInt8) {k : Nat} (hk : k < 4) : n7 b j nv na at0 n ks (k + 1) = (n7 b j nv na at0 n ks k).set k (ptD b (j + k) nv na at0 n (ks.getD k 0)) := by
 apply List.ext_getElem (by simp [i5])
 intro i h1 h2
 rw [List.getElem_set]
 simp only [n7, List.getElem_map, List.getElem_range]
 by_cases e : k = i
 ·subst e; simp
 ·rw [if_neg e]
  have : (i < k + 1) ↔ (i < k) := by omega
  simp only [this]
def N0 (b : List UInt8) (j : Int) (nv na : Nat) (at0 n : Int) : d8 × Int :=
 (⟨opD b j na, (n7 b (j + 1) nv na at0 n (b8 (opD b j na)) (b8 (opD b j na)).length).getD 0 0, (n7 b (j + 1) nv na at0 n (b8 (opD b j na)) (b8 (opD b j na)).length).getD 1 0,
  (n7 b (j + 1) nv na at0 n (b8 (opD b j na)) (b8 (opD b j na)).length).getD 2 0, (n7 b (j + 1) nv na at0 n (b8 (opD b j na)) (b8 (opD b j na)).length).getD 3 0⟩, j + 1 + (b8 (opD b j na)).length)
theorem bn7 (b : List UInt8) (j : Int) (nv na : Nat) (at0 n : Int) : j + 1 ≤ (N0 b j nv na at0 n).2 ∧ (N0 b j nv na at0 n).2 ≤ j + 5 := by
 have := L0 (opD b j na)
 unfold N0
 simp only
 omega
def rsD (b : List UInt8) (j : Int) (nv na : Nat) (n : Int) : Nat → List d8 × Int
 | 0 => ([], j)
 | k + 1 => ((rsD b j nv na n k).1 ++ [(N0 b (rsD b j nv na n k).2 nv na k n).1], (N0 b (rsD b j nv na n k).2 nv na k n).2)
theorem be4 (b : List UInt8) (j : Int) (nv na : Nat) (n : Int) : ∀ k : Nat, (rsD b j nv na n k).1.length = k ∧ j ≤ (rsD b j nv na n k).2 ∧ (rsD b j nv na n k).2 ≤ j + 5 * k
 | 0 => by simp [rsD]
 | k + 1 => by
  obtain ⟨h1, h2, h3⟩ := be4 b j nv na n k
  have h4 := bn7 b (rsD b j nv na n k).2 nv na k n
  have e2 : (rsD b j nv na n (k + 1)).2 = (N0 b (rsD b j nv na n k).2 nv na k n).2 := rfl
  have e1 : (rsD b j nv na n (k + 1)).1.length = k + 1 := by
   show ((rsD b j nv na n k).1 ++ [(N0 b (rsD b j nv na n k).2 nv na k n).1]).length = k + 1
   rw [List.length_append, h1]; rfl
  rw [e1, e2]
  generalize (N0 b (rsD b j nv na n k).2 nv na k n).2 = x at h4 ⊢
  generalize (rsD b j nv na n k).2 = y at *
  refine ⟨rfl, ?_, ?_⟩ <;> omega
def clD (b : List UInt8) (j : Int) (nv na : Nat) : List d8 × Int :=
 (fun (n : Int) =>
  (fun (r : List d8 × Int) =>
   if n > 3 then
    (if pk b r.2 4 = 0 then (((r.1 ++ [(⟨13, 0, 0, 0, 0⟩ : d8)]).set 0 ⟨1, 5, 1 + pk b (r.2 + 1) 3, 0, 0⟩).set (n - 2).toNat ⟨10, 5, 1, 0, 0⟩, r.2 + 2) else (r.1 ++ [⟨13, 0, 0, 0, 0⟩], r.2 + 1))
   else (r.1 ++ [⟨13, 0, 0, 0, 0⟩], r.2)) (rsD b (j + 1) nv na n (n - 1).toNat)) (nm b j lnL)
theorem bf8 (b : List UInt8) {j : Int} (hj : 0 ≤ j) (hj2 : j ≤ 1000000000) : 1 ≤ nm b j lnL ∧ nm b j lnL ≤ 12 := by
 have h := ai9 b hj hj2 (l := lnL) (List.cons_ne_nil _ _)
 generalize nm b j lnL = x at h ⊢
 simp only [lnL, List.cons_append, List.nil_append, List.mem_cons, List.not_mem_nil, or_false] at h
 omega
theorem bq3 (b : List UInt8) {j : Int} (nv na : Nat) (hj : 0 ≤ j) (hj2 : j ≤ 1000000000) : (clD b j nv na).1.length = (nm b j lnL).toNat ∧ j + 1 ≤ (clD b j nv na).2 ∧ (clD b j nv na).2 ≤ j + 70 := by
 have hn := bf8 b hj hj2
 obtain ⟨h1, h2, h3⟩ := be4 b (j + 1) nv na (nm b j lnL) (nm b j lnL - 1).toNat
 unfold clD
 simp only
 split
 ·split
  ·simp only [List.length_set, List.length_append, List.length_cons, List.length_nil, h1]; omega
  ·simp only [List.length_append, List.length_cons, List.length_nil, h1]; omega
 ·simp only [List.length_append, List.length_cons, List.length_nil, h1]; omega
def jmS (b : List UInt8) (n : Int) (i : Nat) (x : List d8 × Int) : List d8 × Int :=
 if (x.1.getD i default).op ≠ 10 ∧ (x.1.getD i default).op ≠ 1 then
  (if pk b x.2 4 = 0 then (x.1.set i ⟨8, i + 1 + pk b (x.2 + 1) (n - i - 1), 0, 0, 0⟩, x.2 + 2) else (x.1, x.2 + 1))
 else x
def o8 (b : List UInt8) (n : Int) (x : List d8 × Int) : Nat → List d8 × Int
 | 0 => x
 | k + 1 => jmS b n k (o8 b n x k)
theorem bk4 (b : List UInt8) (n : Int) (i : Nat) (x : List d8 × Int) : (jmS b n i x).1.length = x.1.length ∧ x.2 ≤ (jmS b n i x).2 ∧ (jmS b n i x).2 ≤ x.2 + 2 := by
 unfold jmS
 split
 ·split
  ·exact ⟨List.length_set, by show x.2 ≤ x.2 + 2; omega, by show x.2 + 2 ≤ x.2 + 2; omega⟩
  ·exact ⟨rfl, by show x.2 ≤ x.2 + 1; omega, by show x.2 + 1 ≤ x.2 + 2; omega⟩
 ·exact ⟨rfl, Int.le_refl _, by omega⟩
theorem bg1 (b : List UInt8) (n : Int) (x : List d8 × Int) : ∀ k : Nat, (o8 b n x k).1.length = x.1.length ∧ x.2 ≤ (o8 b n x k).2 ∧ (o8 b n x k).2 ≤ x.2 + 2 * k
 | 0 => ⟨rfl, Int.le_refl _, by simp [o8]⟩
 | k + 1 => by
  obtain ⟨h1, h2, h3⟩ := bg1 b n x k
  obtain ⟨g1, g2, g3⟩ := bk4 b n k (o8 b n x k)
  rw [o8]
  refine ⟨g1.trans h1, by omega, by omega⟩
abbrev bk1 : List Int := [0] ++ ([14] ++ ([1] ++ ([12] ++ [])))
abbrev bk0 : List Int := [-1] ++ ([14] ++ ([0] ++ ([400] ++ [])))
abbrev bj9 : List Int := [1] ++ ([-1] ++ [])
def bi7 (l : List d8) (i : Nat) (n : Int) : List d8 := l.set i ⟨n, (l.getD i default).a, (l.getD i default).b, (l.getD i default).c, (l.getD i default).d⟩
def bc9 (l : List d8) (i : Nat) (n : Int) : List d8 := l.set i ⟨(l.getD i default).op, n, (l.getD i default).b, (l.getD i default).c, (l.getD i default).d⟩
def bi8 (l : List d8) (i : Nat) (n : Int) : List d8 := l.set i ⟨(l.getD i default).op, (l.getD i default).a, (l.getD i default).b, (l.getD i default).c, n⟩
def muD (b : List UInt8) (j : Int) (c : f7) : f7 × Int :=
 if c.list.length = 0 then (c, j)
 else if pk b j 60 = 0 then (⟨c.vars, c.arrays, bi7 c.list 0 (nm b (j + 1) bk1)⟩, j + 2)
 else if pk b j 60 = 1 then (⟨c.vars, c.arrays, bc9 c.list (pk b (j + 1) c.list.length).toNat (nm b (j + 2) bk0)⟩, j + 3)
 else if pk b j 60 = 2 then (⟨c.vars, c.arrays, c.list.set (c.list.length - 1) ⟨12, 0, 0, 0, 0⟩⟩, j + 1)
 else if pk b j 60 = 3 then (⟨c.vars, c.arrays, c.list.set (c.list.length - 1) ⟨8, 0, 0, 0, 0⟩⟩, j + 1)
 else if pk b j 60 = 4 then (⟨c.vars, c.arrays, bi8 c.list (pk b (j + 1) c.list.length).toNat (nm b (j + 2) bj9)⟩, j + 3)
 else if pk b j 60 = 5 then (⟨[], c.arrays, c.list⟩, j + 1)
 else (c, j + 1)
theorem bi9 {b : List UInt8} {j n : Int} (h : n < 1) : pk b j n = 0 := by unfold pk; rw [if_pos (.inl h)]
theorem bo1 {b : List UInt8} {j n : Int} (h : (b.length : Int) = 0) : pk b j n = 0 := by unfold pk; rw [if_pos (.inr (by omega))]
theorem bo0 {b : List UInt8} {j n : Int} (h : ¬ n < 1) (h1 : ¬ (b.length : Int) = 0) (h2 : j + 1 - 1 < b.length) : pk b j n = ((b.getD (j + 1 - 1).toNat 0).toNat : Int).tmod n := by
 unfold pk; rw [if_neg (by omega), if_pos (by omega), Int.add_sub_cancel]
theorem bn9 {b : List UInt8} {j n : Int} (h : ¬ n < 1) (h1 : ¬ (b.length : Int) = 0) (h2 : ¬ j + 1 - 1 < b.length) : pk b j n = (aD1 (W3 b (j + 1 - 1)) ((W3 b (j + 1 - 1)).tdiv 64)).tmod n := by
 unfold pk; rw [if_neg (by omega), if_neg (by omega), Int.add_sub_cancel]
theorem aT8 {x : Int} {n : Nat} (hx : 0 ≤ x) (hn : ¬ (n : Int) = 0) : 0 ≤ x.tmod n ∧ x.tmod n < n ∧ (x.tmod n).toNat < n := by
 have := aJ9 (x := x) (n := n) hx (by omega); omega
theorem o0 (b : List UInt8) (j n : Int) (r0 : 0 ≤ j) (r1 : j ≤ 1000000000) : p7.ok Try.prog ⟨33, [.ptr 0 0, iA n], [.box [.ref 1, iA j], dY b], [.box [.ref 1, iA (j + 1)], dY b], iA (pk b j n)⟩ := by
  refine m8 99 Try.func33 (by rfl) (by kernel_rfl) (by kernel_rfl) ?_; intro ι φ ψ w0 w F ρ0 ρ a G; replace G := p6.at G [.box [.ref 1, iA j], dY b] [(0, .ptr 0 0), (1, iA n)]; have hu1 := aw3 (b.getD ((j + 1 - 1).tmod b.length).toNat 0); have hu2 := aw3 (b.getD (((j + 1 - 1) * 7 + 3).tmod b.length).toNat 0); refine wp_seq ?_; refine l0 G [(0, .ptr 0 0), (1, iA n), (4, iA 0)] fun ρ a w G => b9 (wp_seq ?_); refine v5 (dk := p5) G ⟨[], [], []⟩ b0 trivial [0, 1] [.box [.ref 1, iA (j + 1)], dY b] [(0, .ptr 0 0), (1, iA n), (4, iA 0)] [IntKind.i64.wrap (j + (1 : Int)) = j + (1 : Int)] ⟨(by have := aw3 (b.getD (j + 1 - 1).toNat 0); exact w6 (by omega) (by omega)), trivial⟩ fun ρ a w G => b9 (wp_seq (wp_seq ?_)); cases h0 : (decide (n < (1 : Int)))
  ·
   have q0 := Y9 h0; refine m9 G ⟨[], [(decide (n < (1 : Int)), false)], us [(3, 8, 0), (1009, 1009, 0)]⟩ b0 ⟨(by assumption), trivial⟩ [(0, .ptr 0 0), (1, iA n), (4, iA 0), (24, bA ((↑b.length : Int) == 0))] [] trivial fun ρ a w G => b9 ?_; cases h1 : ((↑b.length : Int) == (0 : Int))
   ·
    have q1 := ne_of_beq_false h1; refine rF G _ h1 ?_; refine wp_skip (b9 (wp_seq ?_)); refine m9 G ⟨[], [], []⟩ b0 trivial [(0, .ptr 0 0), (1, iA n), (4, iA 0), (5, iA (j + 1 - 1))] [IntKind.i64.wrap (j + (1 : Int) - (1 : Int)) = j + (1 : Int) - (1 : Int)] ⟨(by have := V8 (b := b) (k := j + 1 - 1) (by omega) (by omega) (by omega); exact w6 (by unfold W3 at this; omega) (by unfold W3 at this; omega)), trivial⟩ fun ρ a w G => b9 (wp_seq (wp_seq ?_)); refine l0 G [(0, .ptr 0 0), (1, iA n), (4, iA 0), (5, iA (j + 1 - 1)), (36, bA (decide (j + 1 - 1 < (↑b.length : Int))))] fun ρ a w G => b9 ?_; cases h2 : (decide (j + (1 : Int) - (1 : Int) < (↑b.length : Int)))
    ·
     have q2 := Y9 h2; refine rF G _ h2 ?_; refine wp_skip (b9 (wp_seq ?_)); refine bi6 G ⟨[], [], []⟩ b0 trivial [0, 1, 3, 7, 0, 0, 32, 96, 224, 480, 1008, 2047, 4095, 8191, 16383, 0, 32768, 98304, 229376, 0, 524288, 1572864, 0, 4194304, 12582912, 29360128, 62914560, 133693440, 268402688, 536838144, 1073709056, 2147450880, 4294967295, 0, 8589934592, 34359738367, 0, 0, 137438953472, 412316860416, 962072674304, 2061584302080, 4329327034368, 8727373545472, 17592186044415, 35184372088831] [(1, iA n), (4, iA 0), (6, iA ((↑(b.getD ((j + 1 - 1).tmod (↑b.length : Int)).toNat 0).toNat : Int) * 131 + (↑(b.getD (((j + 1 - 1) * 7 + 3).tmod (↑b.length : Int)).toNat 0).toNat : Int) * 1117 + (j + 1 - 1) * 29 + (j + 1 - 1).tdiv (↑b.length : Int) * 53))] [(↑b.length : Int) ≠ (0 : Int), (0 : Int) ≤ (j + (1 : Int) - (1 : Int)).tmod (↑b.length : Int), (j + (1 : Int) - (1 : Int)).tmod (↑b.length : Int) < (↑b.length : Int), ((j + (1 : Int) - (1 : Int)).tmod (↑b.length : Int)).toNat < b.length, IntKind.i64.wrap (↑(b.getD ((j + (1 : Int) - (1 : Int)).tmod (↑b.length : Int)).toNat (0 : UInt8)).toNat : Int) = (↑(b.getD ((j + (1 : Int) - (1 : Int)).tmod (↑b.length : Int)).toNat (0 : UInt8)).toNat : Int), IntKind.i64.wrap ((↑(b.getD ((j + (1 : Int) - (1 : Int)).tmod (↑b.length : Int)).toNat (0 : UInt8)).toNat : Int) * (131 : Int)) = (↑(b.getD ((j + (1 : Int) - (1 : Int)).tmod (↑b.length : Int)).toNat (0 : UInt8)).toNat : Int) * (131 : Int), IntKind.i64.wrap ((j + (1 : Int) - (1 : Int)) * (7 : Int)) = (j + (1 : Int) - (1 : Int)) * (7 : Int), IntKind.i64.wrap ((j + (1 : Int) - (1 : Int)) * (7 : Int) + (3 : Int)) = (j + (1 : Int) - (1 : Int)) * (7 : Int) + (3 : Int), (↑b.length : Int) ≠ (0 : Int), (0 : Int) ≤ ((j + (1 : Int) - (1 : Int)) * (7 : Int) + (3 : Int)).tmod (↑b.length : Int), ((j + (1 : Int) - (1 : Int)) * (7 : Int) + (3 : Int)).tmod (↑b.length : Int) < (↑b.length : Int), (((j + (1 : Int) - (1 : Int)) * (7 : Int) + (3 : Int)).tmod (↑b.length : Int)).toNat < b.length, IntKind.i64.wrap (↑(b.getD (((j + (1 : Int) - (1 : Int)) * (7 : Int) + (3 : Int)).tmod (↑b.length : Int)).toNat (0 : UInt8)).toNat : Int) = (↑(b.getD (((j + (1 : Int) - (1 : Int)) * (7 : Int) + (3 : Int)).tmod (↑b.length : Int)).toNat (0 : UInt8)).toNat : Int), IntKind.i64.wrap ((↑(b.getD (((j + (1 : Int) - (1 : Int)) * (7 : Int) + (3 : Int)).tmod (↑b.length : Int)).toNat (0 : UInt8)).toNat : Int) * (1117 : Int)) = (↑(b.getD (((j + (1 : Int) - (1 : Int)) * (7 : Int) + (3 : Int)).tmod (↑b.length : Int)).toNat (0 : UInt8)).toNat : Int) * (1117 : Int), IntKind.i64.wrap ((↑(b.getD ((j + (1 : Int) - (1 : Int)).tmod (↑b.length : Int)).toNat (0 : UInt8)).toNat : Int) * (131 : Int) + (↑(b.getD (((j + (1 : Int) - (1 : Int)) * (7 : Int) + (3 : Int)).tmod (↑b.length : Int)).toNat (0 : UInt8)).toNat : Int) * (1117 : Int)) = (↑(b.getD ((j + (1 : Int) - (1 : Int)).tmod (↑b.length : Int)).toNat (0 : UInt8)).toNat : Int) * (131 : Int) + (↑(b.getD (((j + (1 : Int) - (1 : Int)) * (7 : Int) + (3 : Int)).tmod (↑b.length : Int)).toNat (0 : UInt8)).toNat : Int) * (1117 : Int), IntKind.i64.wrap ((j + (1 : Int) - (1 : Int)) * (29 : Int)) = (j + (1 : Int) - (1 : Int)) * (29 : Int), IntKind.i64.wrap ((↑(b.getD ((j + (1 : Int) - (1 : Int)).tmod (↑b.length : Int)).toNat (0 : UInt8)).toNat : Int) * (131 : Int) + (↑(b.getD (((j + (1 : Int) - (1 : Int)) * (7 : Int) + (3 : Int)).tmod (↑b.length : Int)).toNat (0 : UInt8)).toNat : Int) * (1117 : Int) + (j + (1 : Int) - (1 : Int)) * (29 : Int)) = (↑(b.getD ((j + (1 : Int) - (1 : Int)).tmod (↑b.length : Int)).toNat (0 : UInt8)).toNat : Int) * (131 : Int) + (↑(b.getD (((j + (1 : Int) - (1 : Int)) * (7 : Int) + (3 : Int)).tmod (↑b.length : Int)).toNat (0 : UInt8)).toNat : Int) * (1117 : Int) + (j + (1 : Int) - (1 : Int)) * (29 : Int), (↑b.length : Int) ≠ (0 : Int), IntKind.i64.wrap ((j + (1 : Int) - (1 : Int)).tdiv (↑b.length : Int)) = (j + (1 : Int) - (1 : Int)).tdiv (↑b.length : Int), IntKind.i64.wrap ((j + (1 : Int) - (1 : Int)).tdiv (↑b.length : Int) * (53 : Int)) = (j + (1 : Int) - (1 : Int)).tdiv (↑b.length : Int) * (53 : Int), IntKind.i64.wrap ((↑(b.getD ((j + (1 : Int) - (1 : Int)).tmod (↑b.length : Int)).toNat (0 : UInt8)).toNat : Int) * (131 : Int) + (↑(b.getD (((j + (1 : Int) - (1 : Int)) * (7 : Int) + (3 : Int)).tmod (↑b.length : Int)).toNat (0 : UInt8)).toNat : Int) * (1117 : Int) + (j + (1 : Int) - (1 : Int)) * (29 : Int) + (j + (1 : Int) - (1 : Int)).tdiv (↑b.length : Int) * (53 : Int)) = (↑(b.getD ((j + (1 : Int) - (1 : Int)).tmod (↑b.length : Int)).toNat (0 : UInt8)).toNat : Int) * (131 : Int) + (↑(b.getD (((j + (1 : Int) - (1 : Int)) * (7 : Int) + (3 : Int)).tmod (↑b.length : Int)).toNat (0 : UInt8)).toNat : Int) * (1117 : Int) + (j + (1 : Int) - (1 : Int)) * (29 : Int) + (j + (1 : Int) - (1 : Int)).tdiv (↑b.length : Int) * (53 : Int)] ⟨(by assumption), (by exact (aT8 (by omega) (by omega)).1), (by exact (aT8 (by omega) (by omega)).2.1), (by exact (aT8 (by omega) (by omega)).2.2), (by have := V8 (b := b) (k := j + 1 - 1) (by omega) (by omega) (by omega); exact w6 (by unfold W3 at this; omega) (by unfold W3 at this; omega)), (by have := V8 (b := b) (k := j + 1 - 1) (by omega) (by omega) (by omega); exact w6 (by unfold W3 at this; omega) (by unfold W3 at this; omega)), (by have := V8 (b := b) (k := j + 1 - 1) (by omega) (by omega) (by omega); exact w6 (by unfold W3 at this; omega) (by unfold W3 at this; omega)), (by have := V8 (b := b) (k := j + 1 - 1) (by omega) (by omega) (by omega); exact w6 (by unfold W3 at this; omega) (by unfold W3 at this; omega)), (by assumption), (by exact (aT8 (by omega) (by omega)).1), (by exact (aT8 (by omega) (by omega)).2.1), (by exact (aT8 (by omega) (by omega)).2.2), (by have := V8 (b := b) (k := j + 1 - 1) (by omega) (by omega) (by omega); exact w6 (by unfold W3 at this; omega) (by unfold W3 at this; omega)), (by have := V8 (b := b) (k := j + 1 - 1) (by omega) (by omega) (by omega); exact w6 (by unfold W3 at this; omega) (by unfold W3 at this; omega)), (by have := V8 (b := b) (k := j + 1 - 1) (by omega) (by omega) (by omega); exact w6 (by unfold W3 at this; omega) (by unfold W3 at this; omega)), (by have := V8 (b := b) (k := j + 1 - 1) (by omega) (by omega) (by omega); exact w6 (by unfold W3 at this; omega) (by unfold W3 at this; omega)), (by have := V8 (b := b) (k := j + 1 - 1) (by omega) (by omega) (by omega); exact w6 (by unfold W3 at this; omega) (by unfold W3 at this; omega)), (by assumption), (by have := aF7 (b := b) (k := j + 1 - 1) (by omega) (by omega) (by omega); exact w6 (by unfold W3 at this; omega) (by unfold W3 at this; omega)), (by have := aF7 (b := b) (k := j + 1 - 1) (by omega) (by omega) (by omega); exact w6 (by unfold W3 at this; omega) (by unfold W3 at this; omega)), (by have := aF7 (b := b) (k := j + 1 - 1) (by omega) (by omega) (by omega); exact w6 (by unfold W3 at this; omega) (by unfold W3 at this; omega)), trivial⟩ ?_
     clear G; intro ρ a w G; refine b9 (wp_seq ?_); refine m9 G ⟨[], [], []⟩ b0 trivial [(1, iA n), (4, iA 0), (6, iA (aD1 ((↑(b.getD ((j + 1 - 1).tmod (↑b.length : Int)).toNat 0).toNat : Int) * 131 + (↑(b.getD (((j + 1 - 1) * 7 + 3).tmod (↑b.length : Int)).toNat 0).toNat : Int) * 1117 + (j + 1 - 1) * 29 + (j + 1 - 1).tdiv (↑b.length : Int) * 53) (((↑(b.getD ((j + 1 - 1).tmod (↑b.length : Int)).toNat 0).toNat : Int) * 131 + (↑(b.getD (((j + 1 - 1) * 7 + 3).tmod (↑b.length : Int)).toNat 0).toNat : Int) * 1117 + (j + 1 - 1) * 29 + (j + 1 - 1).tdiv (↑b.length : Int) * 53).tdiv 64)))] [(64 : Int) ≠ (0 : Int), IntKind.i64.wrap (((↑(b.getD ((j + (1 : Int) - (1 : Int)).tmod (↑b.length : Int)).toNat (0 : UInt8)).toNat : Int) * (131 : Int) + (↑(b.getD (((j + (1 : Int) - (1 : Int)) * (7 : Int) + (3 : Int)).tmod (↑b.length : Int)).toNat (0 : UInt8)).toNat : Int) * (1117 : Int) + (j + (1 : Int) - (1 : Int)) * (29 : Int) + (j + (1 : Int) - (1 : Int)).tdiv (↑b.length : Int) * (53 : Int)).tdiv (64 : Int)) = ((↑(b.getD ((j + (1 : Int) - (1 : Int)).tmod (↑b.length : Int)).toNat (0 : UInt8)).toNat : Int) * (131 : Int) + (↑(b.getD (((j + (1 : Int) - (1 : Int)) * (7 : Int) + (3 : Int)).tmod (↑b.length : Int)).toNat (0 : UInt8)).toNat : Int) * (1117 : Int) + (j + (1 : Int) - (1 : Int)) * (29 : Int) + (j + (1 : Int) - (1 : Int)).tdiv (↑b.length : Int) * (53 : Int)).tdiv (64 : Int)] ⟨(by simp [h0, h1, h2]), (by have := V8 (b := b) (k := j + 1 - 1) (by omega) (by omega) (by omega); exact w6 (by unfold W3 at this; omega) (by unfold W3 at this; omega)), trivial⟩ fun ρ a w G => b9 (wp_seq ?_); refine m9 G ⟨[], [], []⟩ b0 trivial [(4, iA ((aD1 ((↑(b.getD ((j + 1 - 1).tmod (↑b.length : Int)).toNat 0).toNat : Int) * 131 + (↑(b.getD (((j + 1 - 1) * 7 + 3).tmod (↑b.length : Int)).toNat 0).toNat : Int) * 1117 + (j + 1 - 1) * 29 + (j + 1 - 1).tdiv (↑b.length : Int) * 53) (((↑(b.getD ((j + 1 - 1).tmod (↑b.length : Int)).toNat 0).toNat : Int) * 131 + (↑(b.getD (((j + 1 - 1) * 7 + 3).tmod (↑b.length : Int)).toNat 0).toNat : Int) * 1117 + (j + 1 - 1) * 29 + (j + 1 - 1).tdiv (↑b.length : Int) * 53).tdiv 64)).tmod n))] [n ≠ (0 : Int)] ⟨(by omega), trivial⟩ fun ρ a w G => b9 (wp_ret ?_); exact i7 (v := iA ((aD1 ((↑(b.getD ((j + 1 - 1).tmod (↑b.length : Int)).toNat 0).toNat : Int) * 131 + (↑(b.getD (((j + 1 - 1) * 7 + 3).tmod (↑b.length : Int)).toNat 0).toNat : Int) * 1117 + (j + 1 - 1) * 29 + (j + 1 - 1).tdiv (↑b.length : Int) * 53) (((↑(b.getD ((j + 1 - 1).tmod (↑b.length : Int)).toNat 0).toNat : Int) * 131 + (↑(b.getD (((j + 1 - 1) * 7 + 3).tmod (↑b.length : Int)).toNat 0).toNat : Int) * 1117 + (j + 1 - 1) * 29 + (j + 1 - 1).tdiv (↑b.length : Int) * 53).tdiv 64)).tmod n)) G [0, 1] (by kernel_rfl) (by kernel_rfl) (by kernel_rfl) (by have e1 : (pk b j n : Int) = ((aD1 ((↑(b.getD ((j + 1 - 1).tmod (↑b.length : Int)).toNat 0).toNat : Int) * 131 + (↑(b.getD (((j + 1 - 1) * 7 + 3).tmod (↑b.length : Int)).toNat 0).toNat : Int) * 1117 + (j + 1 - 1) * 29 + (j + 1 - 1).tdiv (↑b.length : Int) * 53) (((↑(b.getD ((j + 1 - 1).tmod (↑b.length : Int)).toNat 0).toNat : Int) * 131 + (↑(b.getD (((j + 1 - 1) * 7 + 3).tmod (↑b.length : Int)).toNat 0).toNat : Int) * 1117 + (j + 1 - 1) * 29 + (j + 1 - 1).tdiv (↑b.length : Int) * 53).tdiv 64)).tmod n) := (by exact bn9 (by omega) (by omega) (by omega)); (first | rw [e1] | simp only [e1]) <;> rfl)
    · have q2 := Y8 h2; refine rT G _ h2 ?_; refine wp_seq ?_; refine m9 G ⟨[], [], []⟩ b0 trivial [(0, .ptr 0 0), (1, iA n), (4, iA ((↑(b.getD (j + 1 - 1).toNat 0).toNat : Int).tmod n)), (5, iA (j + 1 - 1))] [(0 : Int) ≤ j + (1 : Int) - (1 : Int), j + (1 : Int) - (1 : Int) < (↑b.length : Int), (j + (1 : Int) - (1 : Int)).toNat < b.length, IntKind.i64.wrap (↑(b.getD (j + (1 : Int) - (1 : Int)).toNat (0 : UInt8)).toNat : Int) = (↑(b.getD (j + (1 : Int) - (1 : Int)).toNat (0 : UInt8)).toNat : Int), n ≠ (0 : Int)] ⟨(by omega), (by assumption), (by omega), (by have := aw3 (b.getD (j + 1 - 1).toNat 0); exact w6 (by omega) (by omega)), (by omega), trivial⟩ fun ρ a w G => b9 (wp_ret (H5 ?_)); exact i7 (v := iA ((↑(b.getD (j + 1 - 1).toNat 0).toNat : Int).tmod n)) G [0, 1] (by kernel_rfl) (by kernel_rfl) (by kernel_rfl) (by have e1 : (pk b j n : Int) = ((↑(b.getD (j + 1 - 1).toNat 0).toNat : Int).tmod n) := (by exact bo0 (by omega) (by omega) (by omega)); (first | rw [e1] | simp only [e1]) <;> rfl)
   · have q1 := eq_of_beq h1; refine rT G _ h1 ?_; refine wp_seq ?_; refine l0 G [(0, .ptr 0 0), (1, iA n), (4, iA 0)] fun ρ a w G => b9 (wp_ret (H5 ?_)); exact i7 (v := iA 0) G [0, 1] (by kernel_rfl) (by kernel_rfl) (by kernel_rfl) (by have e1 : (pk b j n : Int) = (0) := (by exact bo1 (by omega)); (first | rw [e1] | simp only [e1]) <;> rfl)
  · have q0 := Y8 h0; refine m9 G ⟨[], [(decide (n < (1 : Int)), true)], us [(3, 8, 0), (1009, 1009, 0)]⟩ b0 ⟨(by assumption), trivial⟩ [(0, .ptr 0 0), (1, iA n), (4, iA 0), (24, bA true)] [] trivial fun ρ a w G => b9 ?_; refine rT G (true) (by kernel_rfl) ?_; refine wp_seq ?_; refine l0 G [(0, .ptr 0 0), (1, iA n), (4, iA 0)] fun ρ a w G => b9 (wp_ret (H5 ?_)); exact i7 (v := iA 0) G [0, 1] (by kernel_rfl) (by kernel_rfl) (by kernel_rfl) (by have e1 : (pk b j n : Int) = (0) := (by exact bi9 (by omega)); (first | rw [e1] | simp only [e1]) <;> rfl)
theorem K1 (b : List UInt8) (j : Int) (l : List Int) (hl : l ≠ []) (r0 : 0 ≤ j) (r1 : j ≤ 1000000000) : p7.ok Try.prog ⟨34, [.ptr 0 0, .ref 2], [.box [.ref 1, iA j], dY b, dI l], [.box [.ref 1, iA (j + 1)], dY b, dI l], iA (nm b j l)⟩ := by
 refine m8 12 Try.func34 (by rfl) (by kernel_rfl) (by kernel_rfl) ?_; intro ι φ ψ w0 w F ρ0 ρ a G; replace G := p6.at G [.box [.ref 1, iA j], dY b, dI l] [(0, .ptr 0 0), (1, .ref 2)]; refine wp_seq ?_; refine l0 G [(0, .ptr 0 0), (1, .ref 2), (4, iA 0)] fun ρ a w G => b9 (wp_seq ?_); refine v5 (dk := p5) G ⟨[(4, _, [0, 1])], [], []⟩ (b6 (o0 (b) (j) ((↑l.length : Int)) (by assumption) (by assumption)) b0) trivial [0, 1, 2] [.box [.ref 1, iA (j + 1)], dY b, dI l] [(4, iA (l.getD (pk b j (↑l.length : Int)).toNat 0))] [(0 : Int) ≤ pk b j (↑l.length : Int), pk b j (↑l.length : Int) < (↑l.length : Int), (pk b j (↑l.length : Int)).toNat < l.length] ⟨(by exact (aQ8 b r0 r1 hl).1), (by exact (aQ8 b r0 r1 hl).2.1), (by exact (aQ8 b r0 r1 hl).2.2), trivial⟩ fun ρ a w G => b9 (wp_ret ?_); exact i7 (v := iA (l.getD (pk b j (↑l.length : Int)).toNat 0)) G [0, 1, 2] (by kernel_rfl) (by kernel_rfl) (by kernel_rfl) (by kernel_rfl)
theorem aO6 (c : List UInt8) (hc : c.length ≤ 2000) : p7.ok Try.prog ⟨15, [.ref 0], [dY c], [dY c, .box [.ref 0, iA 0]], .ptr 1 0⟩ := by
 refine m8 11 Try.func15 (by rfl) (by kernel_rfl) (by kernel_rfl) ?_; intro ι φ ψ w0 w F ρ0 ρ a G; replace G := p6.at G [dY c] [(0, .ref 0)]; refine wp_seq ?_; refine l0 G [(0, .ref 0), (2, .v (.pointer none))] fun ρ a w G => b9 (wp_seq (wp_seq ?_)); refine l0 G [(0, .ref 0), (2, .v (.pointer none)), (5, bA (decide ((↑c.length : Int) > 2000)))] fun ρ a w G => b9 ?_; cases h0 : (decide ((↑c.length : Int) > (2000 : Int)))
 ·have q0 := Y9 h0; refine rF G _ h0 ?_; refine wp_skip (b9 (wp_seq ?_)); refine D8 G [0, 17] [dY c, .box [.ref 0, iA 0]] [(2, .ptr 1 0)] fun ρ a w G => b9 (wp_ret ?_); exact i7 (v := .ptr 1 0) G [0, 1] (by kernel_rfl) (by kernel_rfl) (by kernel_rfl) (by kernel_rfl)
 ·have q0 := Y8 h0; exact False.elim (by omega)
theorem aO5 (c : List UInt8) (hc : 2000 < c.length) : p7.ok Try.prog ⟨15, [.ref 0], [dY c], [dY c, .box [.ref 2, iA 0], dY ((c.take 2000).drop 0)], .ptr 1 0⟩ := by
 refine m8 11 Try.func15 (by rfl) (by kernel_rfl) (by kernel_rfl) ?_; intro ι φ ψ w0 w F ρ0 ρ a G; replace G := p6.at G [dY c] [(0, .ref 0)]; refine wp_seq ?_; refine l0 G [(0, .ref 0), (2, .v (.pointer none))] fun ρ a w G => b9 (wp_seq (wp_seq ?_)); refine l0 G [(0, .ref 0), (2, .v (.pointer none)), (5, bA (decide ((↑c.length : Int) > 2000)))] fun ρ a w G => b9 ?_; cases h0 : (decide ((↑c.length : Int) > (2000 : Int)))
 ·have q0 := Y9 h0; exact False.elim (by omega)
 ·have q0 := Y8 h0; refine rT G _ h0 ?_; refine v5 (dk := p5) G ⟨[], [], []⟩ b0 trivial [0, 9] [dY c, dY (List.drop 0 (List.take (Int.toNat 2000) c))] [(0, .ref 1), (2, .v (.pointer none))] [(0 : Int) ≤ (2000 : Int), (2000 : Int) ≤ (↑c.length : Int)] ⟨(by simp [h0]), (by omega), trivial⟩ fun ρ a w G => b9 (wp_seq ?_); refine D8 G [0, 1, 18] [dY c, dY (List.drop 0 (List.take (Int.toNat 2000) c)), .box [.ref 1, iA 0]] [(2, .ptr 2 0)] fun ρ a w G => b9 (wp_ret ?_); exact i7 (v := .ptr 2 0) G [0, 2, 1] (by kernel_rfl) (by kernel_rfl) (by kernel_rfl) (by kernel_rfl)
abbrev dwS (b : List UInt8) (j : Int) (vs ars : List Int) (bd : List d9) : List It := [.box [.ref 1, iA j], dY b, dI vs, dI ars, dT bd]
abbrev exO (e : f5) : List It := [.tree (.exprs e.kids)]
abbrev exA (e : f5) (r : Nat) : AV := .agg [iA e.kind, iA e.value, .tref r]
theorem bm8 {b : List UInt8} {nv j : Int} (h : pk b j 3 = 0) : l7 b nv j = ⟨1, nm b (j + 1) atL, []⟩ := if_pos h
theorem bm7 {b : List UInt8} {nv j : Int} (h : ¬ pk b j 3 = 0) : l7 b nv j = ⟨2, pk b (j + 1) nv, []⟩ := if_neg h
theorem ad6 (b : List UInt8) (j : Int) (vs ars : List Int) (bd : List d9) (r0 : 0 ≤ j) (r1 : j ≤ 900000000) : p7.ok Try.prog ⟨64, [.ptr 0 0, pA 2], dwS b j vs ars bd, dwS b (j + 2) vs ars bd ++ exO (l7 b vs.length j), exA (l7 b vs.length j) 5⟩ := by
 refine m8 18 Try.func64 (by rfl) (by kernel_rfl) (by kernel_rfl) ?_; intro ι φ ψ w0 w F ρ0 ρ a G; replace G := p6.at G [.box [.ref 1, iA j], dY b, dI vs, dI ars, dT bd] [(0, .ptr 0 0), (1, pA 2)]; refine wp_seq ?_; refine D8 G [0, 1, 2, 3, 4, 5, 13] [.box [.ref 1, iA j], dY b, dI vs, dI ars, dT bd, .box (pL 2), .box [iA 0, iA 0, .v (.slice none 0 0)]] [(0, .ptr 0 0), (3, .ptr 5 0), (4, .ptr 6 0)] fun ρ a w G => b9 (wp_seq (wp_seq ?_)); refine v5 (dk := p5) G ⟨[(1, _, [0, 1])], [], []⟩ (b6 (o0 (b) (j) (3) (by assumption) (by omega)) b0) trivial (rg 7) [.box [.ref 1, iA (j + 1)], dY b, dI vs, dI ars, dT bd, .box (pL 2), .box [iA 0, iA 0, .v (.slice none 0 0)]] [(0, .ptr 0 0), (3, .ptr 5 0), (4, .ptr 6 0), (7, bA (pk b j 3 == 0))] [] trivial fun ρ a w G => b9 ?_; cases h0 : (pk b j (3 : Int) == (0 : Int))
 ·have q0 := ne_of_beq_false h0; refine rF G _ h0 ?_; refine wp_skip (b9 (wp_seq ?_)); refine v5 (dk := p5) G ⟨[(4, _, [0, 1])], [], []⟩ (b6 (o0 (b) (j + 1) ((↑vs.length : Int)) (by omega) (by omega)) b0) trivial [0, 1, 2, 3, 4, 6] [.box [.ref 1, iA (j + 1 + 1)], dY b, dI vs, dI ars, dT bd, .box [iA 2, iA (pk b (j + 1) (↑vs.length : Int)), .v (.slice none 0 0)]] [(4, .ptr 5 0)] [] trivial fun ρ a w G => b9 (wp_ret ?_); have Gx := G.nilT 6 (.exprs []) [.box [.ref 1, iA (j + 1 + 1)], dY b, dI vs, dI ars, dT bd, .box [iA 2, iA (pk b (j + 1) (↑vs.length : Int)), .tref 6]] [(4, .ptr 5 0)]; clear G; obtain ⟨ρ, G⟩ := Gx; replace G := p6.at G [.box [.ref 1, iA (j + 1 + 1)], dY b, dI vs, dI ars, dT bd, .box [iA 2, iA (pk b (j + 1) (↑vs.length : Int)), .tref 6], .tree (D.exprs [])] [(4, .ptr 5 0)]; exact i7 (v := .agg [iA 2, iA (pk b (j + 1) (↑vs.length : Int)), .tref 6]) G [0, 1, 2, 3, 4, 6] (by kernel_rfl) (by kernel_rfl) (by show _ = List.map (It.ren (nth [0, 1, 2, 3, 4, 6])) [.box [.ref 1, iA (j + 2)], dY b, dI vs, dI ars, dT bd, .tree (D.exprs (l7 b (↑vs.length : Int) j).kids)]; have e1 : (j + 2 : Int) = (j + 1 + 1) := (by omega); rw [e1]; rw [bm7 (by omega)] <;> rfl) (by show _ = AV.ren (nth [0, 1, 2, 3, 4, 6]) (.agg [iA (l7 b (↑vs.length : Int) j).kind, iA (l7 b (↑vs.length : Int) j).value, .tref 5]); rw [bm7 (by omega)] <;> rfl)
 ·have q0 := eq_of_beq h0; refine rT G _ h0 ?_; refine wp_seq ?_; refine v5 (dk := p5) G ⟨[(2, _, [0, 1, 15])], [], []⟩ (b6 (p7.lend (K1 (b) (j + 1) atL (by simp [h0]) (by omega) (by omega)) [.no, .no, .row 3]) b0) trivial (rg 7) [.box [.ref 1, iA (j + 1 + 1)], dY b, dI vs, dI ars, dT bd, .box (pL 2), .box [iA 1, iA (nm b (j + 1) atL), .v (.slice none 0 0)]] [(0, .ptr 0 0), (3, .ptr 5 0), (4, .ptr 6 0)] [] trivial fun ρ a w G => b9 (wp_ret (H5 ?_)); have Gx := G.nilT 7 (.exprs []) [.box [.ref 1, iA (j + 1 + 1)], dY b, dI vs, dI ars, dT bd, .box (pL 2), .box [iA 1, iA (nm b (j + 1) atL), .tref 7]] [(0, .ptr 0 0), (3, .ptr 5 0), (4, .ptr 6 0)]; clear G; obtain ⟨ρ, G⟩ := Gx; replace G := p6.at G [.box [.ref 1, iA (j + 1 + 1)], dY b, dI vs, dI ars, dT bd, .box (pL 2), .box [iA 1, iA (nm b (j + 1) atL), .tref 7], .tree (D.exprs [])] [(0, .ptr 0 0), (3, .ptr 5 0), (4, .ptr 6 0)]; exact i7 (v := .agg [iA 1, iA (nm b (j + 1) atL), .tref 7]) G [0, 1, 2, 3, 4, 7] (by kernel_rfl) (by kernel_rfl) (by show _ = List.map (It.ren (nth [0, 1, 2, 3, 4, 7])) [.box [.ref 1, iA (j + 2)], dY b, dI vs, dI ars, dT bd, .tree (D.exprs (l7 b (↑vs.length : Int) j).kids)]; have e1 : (j + 2 : Int) = (j + 1 + 1) := (by omega); rw [e1]; rw [bm8 (by omega)] <;> rfl) (by show _ = AV.ren (nth [0, 1, 2, 3, 4, 7]) (.agg [iA (l7 b (↑vs.length : Int) j).kind, iA (l7 b (↑vs.length : Int) j).value, .tref 5]); rw [bm8 (by omega)] <;> rfl)
theorem aO4 (vs ars : List Int) (bd : List d9) (e : f5) : p7.ok Try.prog (fnC 69 [pA 0, eA e 3] ([dI vs, dI ars, dT bd] ++ eS e) (bA (l6 vs.length ars.length e))) := aV6 ⟨vs, ars, bd⟩ e
abbrev drC (b : List UInt8) (vs ars : List Int) (bd : List d9) (d : Nat) (j n : Int) : p7 := ⟨68, [.ptr 0 0, pA 2, iA n], dwS b j vs ars bd, dwS b (D2 b vs.length ars.length d j).2 vs ars bd ++ exO (D2 b vs.length ars.length d j).1, exA (D2 b vs.length ars.length d j).1 5⟩
section
variable {b : List UInt8} {nv na : Int} {d : Nat} {j : Int}
theorem bl4 (h : d < 2) : D2 b nv na d j = (l7 b nv j, j + 2) := by
 match d, h with
 | 0, _ => rfl
 | 1, _ => simp [D2]
theorem bg4 (h : 0 < d) (h1 : pk b j 4 = 0) : D2 b nv na (d + 1) j = (l7 b nv (j + 1), j + 3) := by rw [D2, if_neg (by omega), if_pos h1]
theorem bb1 (h : 0 < d) (h1 : ¬ pk b j 4 = 0) (h2 : nm b (j + 1) E3 = 3) (h3 : na = 0) : D2 b nv na (d + 1) j = (l7 b nv (j + 2), j + 4) := by rw [D2, if_neg (by omega), if_neg h1, if_pos h2, if_pos h3]
theorem aI0 (h : 0 < d) (h1 : ¬ pk b j 4 = 0) (h2 : nm b (j + 1) E3 = 3) (h3 : ¬ na = 0) : D2 b nv na (d + 1) j = (⟨3, pk b (j + 2) na, [l7 b nv (j + 3)]⟩, j + 5) := by rw [D2, if_neg (by omega), if_neg h1, if_pos h2, if_neg h3]
abbrev W4 (b : List UInt8) (nv na : Int) (d : Nat) (j : Int) (k : Nat) : List f5 × Int := y7 (D2 b nv na d) k (j + 2)
theorem bl3 (h : 0 < d) (h1 : ¬ pk b j 4 = 0) (h2 : ¬ nm b (j + 1) E3 = 3) {m : Int} (h3 : 0 ≤ m) (h4 : ¬ m > 0) : D2 b nv na (d + 1) j = (⟨nm b (j + 1) E3, 0, (W4 b nv na d j (l9 (nm b (j + 1) E3) - m).toNat).1⟩, (W4 b nv na d j (l9 (nm b (j + 1) E3) - m).toNat).2) := by
 have e : m = 0 := by omega
 rw [e, Int.sub_zero, D2, if_neg (by omega), if_neg h1, if_neg h2]
theorem aR8 {x m : Int} (h3 : m > 0) (h4 : m ≤ x) : W4 b nv na d j (x - (m - 1)).toNat = ((W4 b nv na d j (x - m).toNat).1 ++ [(D2 b nv na d (W4 b nv na d j (x - m).toNat).2).1], (D2 b nv na d (W4 b nv na d j (x - m).toNat).2).2) := by
 rw [show (x - (m - 1)).toNat = (x - m).toNat + 1 by omega]; rfl
theorem bm9 (r0 : 0 ≤ j) (r1 : j ≤ 900000000) : 0 ≤ l9 (nm b (j + 1) E3) ∧ l9 (nm b (j + 1) E3) ≤ 3 := by
 have h := ai9 b (k := j + 1) (l := E3) (by omega) (by omega) (by simp)
 simp only [List.mem_append, List.mem_cons, List.not_mem_nil, or_false] at h
 rcases h with h | h | h | h | h | h | h | h | h <;> rw [h] <;> decide
theorem bl6 (r0 : 0 ≤ j) {k : Nat} (hk : k ≤ 3) : j + 2 ≤ (W4 b nv na d j k).2 ∧ (W4 b nv na d j k).2 ≤ j + 2 + 3 * cE d := by
 have hc := au1 d
 have h := a51 (f := D2 b nv na d) (c := cE d) (m := 3) (by omega) k (j + 2) hk fun i _ _ => aI1 b nv na d i
 have h4 : (k : Int) * cE d ≤ 3 * cE d := Int.mul_le_mul_of_nonneg_right (by omega) (by omega)
 unfold W4; omega
theorem bl5 {x m : Int} (r0 : 0 ≤ j) (h3 : m > 0) (h4 : m ≤ x) (h5 : x ≤ 3) (r1 : j + cE (d + 1) ≤ 800000000) : (W4 b nv na d j (x - m).toNat).2 + cE d ≤ 800000000 := by
 have hc := au1 d
 have hce : cE (d + 1) = 5 + 3 * cE d := rfl
 have hm : (x - m).toNat ≤ 2 := by omega
 have h := a51 (f := D2 b nv na d) (c := cE d) (m := 2) (by omega) (x - m).toNat (j + 2) hm fun i _ _ => aI1 b nv na d i
 have h4 : ((x - m).toNat : Int) * cE d ≤ 2 * cE d := Int.mul_le_mul_of_nonneg_right (by omega) (by omega)
 unfold W4; omega
end
theorem aQ0 (b : List UInt8) (vs ars : List Int) (bd : List d9) (d : Nat) (hd : d < 2) (j n : Int) (hn : n = d) (r0 : 0 ≤ j) (r1 : j ≤ 900000000) : p7.ok Try.prog (drC b vs ars bd d j n) := by
 refine m8 62 Try.func68 (by rfl) (by kernel_rfl) (by kernel_rfl) ?_; intro ι φ ψ w0 w F ρ0 ρ a G; replace G := p6.at G [.box [.ref 1, iA j], dY b, dI vs, dI ars, dT bd] [(0, .ptr 0 0), (1, pA 2), (2, iA n)]; refine wp_seq ?_; refine D8 G [0, 1, 2, 3, 4, 5, 13] [.box [.ref 1, iA j], dY b, dI vs, dI ars, dT bd, .box (pL 2), .box [iA 0, iA 0, .v (.slice none 0 0)]] [(0, .ptr 0 0), (2, iA n), (4, .ptr 5 0), (6, .ptr 6 0)] fun ρ a w G => b9 (wp_seq (wp_seq ?_)); cases h0 : (decide (n < (2 : Int)))
 ·have q0 := Y9 h0; exact False.elim (by omega)
 ·have q0 := Y8 h0; refine m9 G ⟨[], [(decide (n < (2 : Int)), true)], [(3, 0), (4, 0), (5, 0), (1006, 0)]⟩ b0 ⟨(by assumption), trivial⟩ [(0, .ptr 0 0), (2, iA n), (4, .ptr 5 0), (6, .ptr 6 0), (16, bA true)] [] trivial fun ρ a w G => b9 ?_; refine rT G (true) (by kernel_rfl) ?_; refine wp_seq ?_; refine v5 (dk := p5) G ⟨[(2, _, (rg 5))], [], []⟩ (b6 (ad6 (b) (j) (vs) (ars) (bd) (by assumption) (by assumption)) b0) trivial [0, 1, 2, 3, 4, 5, 6, 23] [.box [.ref 1, iA (j + 2)], dY b, dI vs, dI ars, dT bd, .box (pL 2), .box [iA (l7 b (↑vs.length : Int) j).kind, iA (l7 b (↑vs.length : Int) j).value, .tref 7], .tree (D.exprs (l7 b (↑vs.length : Int) j).kids)] [(0, .ptr 0 0), (2, iA n), (4, .ptr 5 0), (6, .ptr 6 0)] [] trivial fun ρ a w G => b9 (wp_ret (H5 ?_)); exact i7 (v := .agg [iA (l7 b (↑vs.length : Int) j).kind, iA (l7 b (↑vs.length : Int) j).value, .tref 7]) G [0, 1, 2, 3, 4, 7] (by kernel_rfl) (by kernel_rfl) (by show _ = List.map (It.ren (nth [0, 1, 2, 3, 4, 7])) [.box [.ref 1, iA (D2 b (↑vs.length : Int) (↑ars.length : Int) d j).snd], dY b, dI vs, dI ars, dT bd, .tree (D.exprs (D2 b (↑vs.length : Int) (↑ars.length : Int) d j).fst.kids)]; rw [bl4 hd] <;> rfl) (by show _ = AV.ren (nth [0, 1, 2, 3, 4, 7]) (.agg [iA (D2 b (↑vs.length : Int) (↑ars.length : Int) d j).fst.kind, iA (D2 b (↑vs.length : Int) (↑ars.length : Int) d j).fst.value, .tref 5]); rw [bl4 hd] <;> rfl)
abbrev ae2 (b : List UInt8) (vs : List Int) (ars : List Int) (d : Nat) (j : Int) (k : Int) := W4 b (↑vs.length : Int) (↑ars.length : Int) d j (l9 (nm b (j + 1) E3) - k).toNat
abbrev ab4 (b : List UInt8) (vs : List Int) (ars : List Int) (bd : List d9) (d : Nat) (j : Int) : List It := [.box [.ref 1, iA (D2 b (↑vs.length : Int) (↑ars.length : Int) (d + 1) j).snd], dY b, dI vs, dI ars, dT bd, .tree (D.exprs (D2 b (↑vs.length : Int) (↑ars.length : Int) (d + 1) j).fst.kids)]
abbrev ab3 (b : List UInt8) (vs : List Int) (ars : List Int) (d : Nat) (j : Int) : AV := (.agg [iA (D2 b (↑vs.length : Int) (↑ars.length : Int) (d + 1) j).fst.kind, iA (D2 b (↑vs.length : Int) (↑ars.length : Int) (d + 1) j).fst.value, .tref 5])
abbrev ae1 : It := .box [iA 0, iA 0, .v (.slice none 0 0)]
abbrev aC9 (b : List UInt8) (j : Int) : It := .box [iA (nm b (j + 1) E3), iA 0, .tref 8]
abbrev H3 (n : Int) (r0 : List (Nat × AV)) : List (Nat × AV) := (0, .ptr 0 0) :: (2, iA n) :: (4, .ptr 5 0) :: (6, .ptr 6 0) :: r0
theorem a83 (b : List UInt8) (vs ars : List Int) (bd : List d9) (d : Nat) (hd : 0 < d) (hd2 : d ≤ 100) (ih : ∀ (j n : Int), n = d → 0 ≤ j → j + cE d ≤ 800000000 → p7.ok Try.prog (drC b vs ars bd d j n)) (j n : Int) (hn : n = ((d + 1 : Nat) : Int)) (r0 : 0 ≤ j) (r1 : j + cE (d + 1) ≤ 800000000) : p7.ok Try.prog (drC b vs ars bd (d + 1) j n) := by
  refine m8 62 Try.func68 (by rfl) (by kernel_rfl) (by kernel_rfl) ?_; intro ι φ ψ w0 w F ρ0 ρ a G; replace G := p6.at G [.box [.ref 1, iA j], dY b, dI vs, dI ars, dT bd] [(0, .ptr 0 0), (1, pA 2), (2, iA n)]; have hc := au1 d; have hce : cE (d + 1) = 5 + 3 * cE d := rfl; have har := bm9 (b := b) (j := j) r0 (by omega); refine wp_seq ?_; refine D8 G [0, 1, 2, 3, 4, 5, 13] [.box [.ref 1, iA j], dY b, dI vs, dI ars, dT bd, .box (pL 2), ae1] (H3 n []) fun ρ a w G => b9 (wp_seq (wp_seq ?_)); cases h0 : (decide (n < (2 : Int)))
  ·
   have q0 := Y9 h0; refine v5 (dk := p5) G ⟨[(4, _, [0, 1])], [(decide (n < (2 : Int)), false)], [(3, 0), (4, 0), (5, 0), (1006, 0)]⟩ (b6 (o0 (b) (j) (4) (by assumption) (by omega)) b0) ⟨(by assumption), trivial⟩ (rg 7) [.box [.ref 1, iA (j + 1)], dY b, dI vs, dI ars, dT bd, .box (pL 2), ae1] (H3 n [(16, bA (pk b j 4 == 0))]) [] trivial fun ρ a w G => b9 ?_; cases h1 : (pk b j (4 : Int) == (0 : Int))
   ·
    have q1 := ne_of_beq_false h1; refine rF G _ h1 ?_; refine wp_skip (b9 (wp_seq ?_)); refine v5 (dk := p5) G ⟨[(2, _, [0, 1, 15])], [], []⟩ (b6 (p7.lend (K1 (b) (j + 1) E3 (by simp [h0, h1]) (by omega) (by omega)) [.no, .no, .row 3]) b0) trivial (rg 7) [.box [.ref 1, iA (j + 1 + 1)], dY b, dI vs, dI ars, dT bd, .box (pL 2), ae1] (H3 n [(7, iA (nm b (j + 1) E3))]) [] trivial fun ρ a w G => b9 (wp_seq (wp_seq ?_)); refine l0 G (H3 n [(7, iA (nm b (j + 1) E3)), (24, bA (nm b (j + 1) E3 == 3))]) fun ρ a w G => b9 ?_; cases h2 : (nm b (j + (1 : Int)) E3 == (3 : Int))
    ·
     have q2 := ne_of_beq_false h2; refine rF G _ h2 ?_; refine wp_skip (b9 (wp_seq ?_)); refine D8 G [0, 1, 2, 3, 4, 5, 6, 23] [.box [.ref 1, iA (j + 1 + 1)], dY b, dI vs, dI ars, dT bd, .box (pL 2), ae1, .box [iA (nm b (j + 1) E3), iA 0, .v (.slice none 0 0)]] (H3 n [(7, iA (nm b (j + 1) E3)), (8, .ptr 7 0)]) fun ρ a w G => b9 (wp_seq (wp_seq ?_)); refine m9 G ⟨[(1, _, [])], [], []⟩ (b6 (aV8 (nm b (j + 1) E3)) b0) trivial (H3 n [(8, .ptr 7 0), (9, iA (l9 (nm b (j + 1) E3)))]) [] trivial fun ρ a w G => b9 (wp_block ?_); have Gx := G.nilT 8 (.exprs []) [.box [.ref 1, iA (j + 1 + 1)], dY b, dI vs, dI ars, dT bd, .box (pL 2), ae1, aC9 b j] (H3 n [(8, .ptr 7 0), (9, iA (l9 (nm b (j + 1) E3)))]); clear G; obtain ⟨ρ, G⟩ := Gx; replace G := p6.at G [.box [.ref 1, iA (j + 1 + 1)], dY b, dI vs, dI ars, dT bd, .box (pL 2), ae1, aC9 b j, .tree (D.exprs [])] (H3 n [(8, .ptr 7 0), (9, iA (l9 (nm b (j + 1) E3)))]); replace G := G.as [.box [.ref 1, iA (W4 b (↑vs.length : Int) (↑ars.length : Int) d j (l9 (nm b (j + 1) E3) - l9 (nm b (j + 1) E3)).toNat).snd], dY b, dI vs, dI ars, dT bd, .box (pL 2), .box [iA 0, iA 0, .v (.slice none 0 0)], .box [iA (nm b (j + 1) E3), iA 0, .tref 8], .tree (D.exprs (W4 b (↑vs.length : Int) (↑ars.length : Int) d j (l9 (nm b (j + 1) E3) - l9 (nm b (j + 1) E3)).toNat).fst)] (H3 n [(8, .ptr 7 0), (9, iA (l9 (nm b (j + 1) E3)))]) (by have e1 : ((W4 b (↑vs.length : Int) (↑ars.length : Int) d j (l9 (nm b (j + 1) E3) - l9 (nm b (j + 1) E3)).toNat).snd : Int) = (j + 1 + 1) := (by rw [Int.sub_self]; show j + 2 = j + 1 + 1; omega); have e2 : ((W4 b (↑vs.length : Int) (↑ars.length : Int) d j (l9 (nm b (j + 1) E3) - l9 (nm b (j + 1) E3)).toNat).fst : List f5) = ([]) := (by rw [Int.sub_self]; rfl); (first | rw [e1, e2] | simp only [e1, e2]) <;> rfl) (by kernel_rfl); refine F4 (κ := Int) (fun k => 0 ≤ k ∧ k ≤ l9 (nm b (j + 1) E3)) (fun k => k.toNat) (fun k => [.box [.ref 1, iA (W4 b vs.length ars.length d j (l9 (nm b (j + 1) E3) - k).toNat).2], dY b, dI vs, dI ars, dT bd, .box (pL 2), ae1, aC9 b j, .tree (.exprs (W4 b vs.length ars.length d j (l9 (nm b (j + 1) E3) - k).toNat).1)]) (fun k => [(0, .ptr 0 0), (2, iA n), (4, .ptr 5 0), (6, .ptr 6 0), (8, .ptr 7 0), (9, iA k)]) (l9 (nm b (j + 1) E3)) (by omega) (p6.at G _ _) ?_; clear G; intro k ρ a w hp G; replace G := p6.at G [.box [.ref 1, iA (ae2 b vs ars d j k).snd], dY b, dI vs, dI ars, dT bd, .box (pL 2), ae1, aC9 b j, .tree (D.exprs (ae2 b vs ars d j k).fst)] (H3 n [(8, .ptr 7 0), (9, iA k)]); have hkb := bl6 (b := b) (nv := vs.length) (na := ars.length) (d := d) (j := j) r0 (k := (l9 (nm b (j + 1) E3) - k).toNat) (by omega); have hkl : (W4 b vs.length ars.length d j (l9 (nm b (j + 1) E3) - k).toNat).1.length = (l9 (nm b (j + 1) E3) - k).toNat := aB9 _ _ _; refine wp_seq (wp_seq ?_); refine l0 G (H3 n [(8, .ptr 7 0), (9, iA k), (48, bA (decide (k > 0)))]) fun ρ a w G => b9 ?_; cases h4 : (decide (k > (0 : Int)))
     · have q4 := Y9 h4; refine rF G _ h4 ?_; refine wp_exit (D9 (D9 (D7 (b9 (wp_seq ?_))))); refine D8 G [0, 1, 2, 3, 4, 6, 8] [.box [.ref 1, iA (ae2 b vs ars d j k).snd], dY b, dI vs, dI ars, dT bd, .box [iA (nm b (j + 1) E3), iA 0, .tref 6], .tree (D.exprs (ae2 b vs ars d j k).fst)] [(6, .ptr 5 0)] fun ρ a w G => b9 (wp_ret ?_); exact i7 (v := .agg [iA (nm b (j + 1) E3), iA 0, .tref 6]) G [0, 1, 2, 3, 4, 6] (by kernel_rfl) (by kernel_rfl) (by show _ = List.map (It.ren (nth [0, 1, 2, 3, 4, 6])) (ab4 b vs ars bd d j); unfold ab4; rw [bl3 (m := k) hd (by omega) (by omega) (by omega) (by omega)] <;> rfl) (by show _ = AV.ren (nth [0, 1, 2, 3, 4, 6]) (ab3 b vs ars d j); unfold ab3; rw [bl3 (m := k) hd (by omega) (by omega) (by omega) (by omega)] <;> rfl)
     · have q4 := Y8 h4; refine rT G _ h4 ?_; refine wp_skip (b9 (wp_seq (wp_block ?_))); refine rd1 (dk := p5) G ⟨[(6, _, (rg 5))], [], []⟩ (b6 (ih ((W4 b (↑vs.length : Int) (↑ars.length : Int) d j (l9 (nm b (j + 1) E3) - k).toNat).snd) (n - 1) (by omega) (by omega) (by exact bl5 (by omega) (by omega) (by omega) (by omega) r1)) b0) trivial [0, 1, 0, 0, 0, 16, 60, 124, 255, 511, 1023] [0, 1, 2, 3, 4, 5, 6, 7, 73] [.box [.ref 1, iA (D2 b (↑vs.length : Int) (↑ars.length : Int) d (ae2 b vs ars d j k).snd).snd], dY b, dI vs, dI ars, dT bd, .box (pL 2), ae1, aC9 b j, .tree (D.exprs ((ae2 b vs ars d j k).fst ++ [f5.mk (D2 b (↑vs.length : Int) (↑ars.length : Int) d (ae2 b vs ars d j k).snd).fst.kind (D2 b (↑vs.length : Int) (↑ars.length : Int) d (ae2 b vs ars d j k).snd).fst.value (D2 b (↑vs.length : Int) (↑ars.length : Int) d (ae2 b vs ars d j k).snd).fst.kids]))] (H3 n [(8, .ptr 7 0), (9, iA k)]) [IntKind.i64.wrap (n - (1 : Int)) = n - (1 : Int), (W4 b (↑vs.length : Int) (↑ars.length : Int) d j (l9 (nm b (j + (1 : Int)) E3) - k).toNat).fst.length + [f5.mk (D2 b (↑vs.length : Int) (↑ars.length : Int) d (W4 b (↑vs.length : Int) (↑ars.length : Int) d j (l9 (nm b (j + (1 : Int)) E3) - k).toNat).snd).fst.kind (D2 b (↑vs.length : Int) (↑ars.length : Int) d (W4 b (↑vs.length : Int) (↑ars.length : Int) d j (l9 (nm b (j + (1 : Int)) E3) - k).toNat).snd).fst.value (D2 b (↑vs.length : Int) (↑ars.length : Int) d (W4 b (↑vs.length : Int) (↑ars.length : Int) d j (l9 (nm b (j + (1 : Int)) E3) - k).toNat).snd).fst.kids].length ≤ (9223372036854775807 : Nat), ((W4 b (↑vs.length : Int) (↑ars.length : Int) d j (l9 (nm b (j + (1 : Int)) E3) - k).toNat).fst.length + [f5.mk (D2 b (↑vs.length : Int) (↑ars.length : Int) d (W4 b (↑vs.length : Int) (↑ars.length : Int) d j (l9 (nm b (j + (1 : Int)) E3) - k).toNat).snd).fst.kind (D2 b (↑vs.length : Int) (↑ars.length : Int) d (W4 b (↑vs.length : Int) (↑ars.length : Int) d j (l9 (nm b (j + (1 : Int)) E3) - k).toNat).snd).fst.value (D2 b (↑vs.length : Int) (↑ars.length : Int) d (W4 b (↑vs.length : Int) (↑ars.length : Int) d j (l9 (nm b (j + (1 : Int)) E3) - k).toNat).snd).fst.kids].length) * (40 : Nat) ≤ (140737488355328 : Nat)] ⟨(by exact w6 (by omega) (by omega)), (by simp only [List.length_cons, List.length_nil]; omega), (by simp only [List.length_cons, List.length_nil]; omega), trivial⟩ ?_; intro ρ a w G; refine o5 ?_; refine b9 ?_; refine m9 G ⟨[], [], []⟩ b0 trivial (H3 n [(8, .ptr 7 0), (9, iA (k - 1))]) [IntKind.i64.wrap (k - (1 : Int)) = k - (1 : Int)] ⟨(by exact w6 (by omega) (by omega)), trivial⟩ fun ρ a w G => b9 ?_; exact m0 G (k - 1) (by omega) (by omega) (rg 9) [.box [.ref 1, iA (W4 b (↑vs.length : Int) (↑ars.length : Int) d j (l9 (nm b (j + 1) E3) - (k - 1)).toNat).snd], dY b, dI vs, dI ars, dT bd, .box (pL 2), .box [iA 0, iA 0, .v (.slice none 0 0)], .box [iA (nm b (j + 1) E3), iA 0, .tref 8], .tree (D.exprs (W4 b (↑vs.length : Int) (↑ars.length : Int) d j (l9 (nm b (j + 1) E3) - (k - 1)).toNat).fst)] [(0, .ptr 0 0), (2, iA n), (4, .ptr 5 0), (6, .ptr 6 0), (8, .ptr 7 0), (9, iA (k - 1))] (by kernel_rfl) (by kernel_rfl) (by kernel_rfl) (by have e1 : ((W4 b (↑vs.length : Int) (↑ars.length : Int) d j (l9 (nm b (j + 1) E3) - (k - 1)).toNat).snd : Int) = ((D2 b (↑vs.length : Int) (↑ars.length : Int) d (W4 b (↑vs.length : Int) (↑ars.length : Int) d j (l9 (nm b (j + 1) E3) - k).toNat).snd).snd) := (by rw [aR8 (by omega) (by omega)]; done); have e2 : ((W4 b (↑vs.length : Int) (↑ars.length : Int) d j (l9 (nm b (j + 1) E3) - (k - 1)).toNat).fst : List f5) = ((W4 b (↑vs.length : Int) (↑ars.length : Int) d j (l9 (nm b (j + 1) E3) - k).toNat).fst ++ [f5.mk (D2 b (↑vs.length : Int) (↑ars.length : Int) d (W4 b (↑vs.length : Int) (↑ars.length : Int) d j (l9 (nm b (j + 1) E3) - k).toNat).snd).fst.kind (D2 b (↑vs.length : Int) (↑ars.length : Int) d (W4 b (↑vs.length : Int) (↑ars.length : Int) d j (l9 (nm b (j + 1) E3) - k).toNat).snd).fst.value (D2 b (↑vs.length : Int) (↑ars.length : Int) d (W4 b (↑vs.length : Int) (↑ars.length : Int) d j (l9 (nm b (j + 1) E3) - k).toNat).snd).fst.kids]) := (by rw [aR8 (by omega) (by omega)]; (simp only [f5.eta]; done)); (first | rw [e1, e2] | simp only [e1, e2]) <;> rfl) (by kernel_rfl)
    ·
     have q2 := eq_of_beq h2; refine rT G _ h2 ?_; refine wp_seq (wp_seq ?_); refine l0 G (H3 n [(7, iA (nm b (j + 1) E3)), (28, bA ((↑ars.length : Int) == 0))]) fun ρ a w G => b9 ?_; cases h3 : ((↑ars.length : Int) == (0 : Int))
     · have q3 := ne_of_beq_false h3; refine rF G _ h3 ?_; refine wp_skip (b9 (wp_seq ?_)); refine rd1 (dk := p5) G ⟨[(5, _, [0, 1]), (8, _, (rg 5))], [], []⟩ (b6 (o0 (b) (j + 1 + 1) ((↑ars.length : Int)) (by omega) (by omega)) (b6 (ad6 (b) (j + 1 + 1 + 1) (vs) (ars) (bd) (by omega) (by omega)) b0)) trivial [0, 0, 0, 4, 12, 30, 0, 0, 254, 510, 1023, 2047] [0, 1, 2, 3, 4, 5, 6, 79] [.box [.ref 1, iA (j + 1 + 1 + 1 + 2)], dY b, dI vs, dI ars, dT bd, .box (pL 2), .box [iA (nm b (j + 1) E3), iA (pk b (j + 1 + 1) (↑ars.length : Int)), .tref 7], .tree (D.exprs [f5.mk (l7 b (↑vs.length : Int) (j + 1 + 1 + 1)).kind (l7 b (↑vs.length : Int) (j + 1 + 1 + 1)).value (l7 b (↑vs.length : Int) (j + 1 + 1 + 1)).kids])] (H3 n [(7, iA (nm b (j + 1) E3))]) [] trivial fun ρ a w G => b9 (wp_ret (H5 ?_)); exact i7 (v := .agg [iA (nm b (j + 1) E3), iA (pk b (j + 1 + 1) (↑ars.length : Int)), .tref 7]) G [0, 1, 2, 3, 4, 7] (by kernel_rfl) (by kernel_rfl) (by show _ = List.map (It.ren (nth [0, 1, 2, 3, 4, 7])) (ab4 b vs ars bd d j); unfold ab4; have e1 : ((D2 b (↑vs.length : Int) (↑ars.length : Int) (d + 1) j).snd : Int) = (j + 1 + 1 + 1 + 2) := (by rw [aI0 hd (by omega) (by omega) (by omega)]; (simp only [Int.add_assoc, Int.reduceAdd, f5.eta, f5.kids, f5.kind, f5.value]; done)); have e2 : ((D2 b (↑vs.length : Int) (↑ars.length : Int) (d + 1) j).fst.kids : List f5) = ([f5.mk (l7 b (↑vs.length : Int) (j + 1 + 1 + 1)).kind (l7 b (↑vs.length : Int) (j + 1 + 1 + 1)).value (l7 b (↑vs.length : Int) (j + 1 + 1 + 1)).kids]) := (by rw [aI0 hd (by omega) (by omega) (by omega)]; show [_] = _; simp only [Int.add_assoc, Int.reduceAdd, f5.eta]; done); (first | rw [e1, e2] | simp only [e1, e2]) <;> rfl) (by show _ = AV.ren (nth [0, 1, 2, 3, 4, 7]) (ab3 b vs ars d j); unfold ab3; have e1 : ((D2 b (↑vs.length : Int) (↑ars.length : Int) (d + 1) j).fst.kind : Int) = (nm b (j + 1) E3) := (by rw [aI0 hd (by omega) (by omega) (by omega)]; (simp only [Int.add_assoc, Int.reduceAdd, f5.eta, f5.kids, f5.kind, f5.value]; omega)); have e2 : ((D2 b (↑vs.length : Int) (↑ars.length : Int) (d + 1) j).fst.value : Int) = (pk b (j + 1 + 1) (↑ars.length : Int)) := (by rw [aI0 hd (by omega) (by omega) (by omega)]; (simp only [Int.add_assoc, Int.reduceAdd, f5.eta, f5.kids, f5.kind, f5.value]; done)); (first | rw [e1, e2] | simp only [e1, e2]) <;> rfl)
     · have q3 := eq_of_beq h3; refine rT G _ h3 ?_; refine wp_seq ?_; refine v5 (dk := p5) G ⟨[(2, _, (rg 5))], [], []⟩ (b6 (ad6 (b) (j + 1 + 1) (vs) (ars) (bd) (by omega) (by omega)) b0) trivial [0, 1, 2, 3, 4, 5, 6, 23] [.box [.ref 1, iA (j + 1 + 1 + 2)], dY b, dI vs, dI ars, dT bd, .box (pL 2), .box [iA (l7 b (↑vs.length : Int) (j + 1 + 1)).kind, iA (l7 b (↑vs.length : Int) (j + 1 + 1)).value, .tref 7], .tree (D.exprs (l7 b (↑vs.length : Int) (j + 1 + 1)).kids)] (H3 n [(7, iA (nm b (j + 1) E3))]) [] trivial fun ρ a w G => b9 (wp_ret (H5 (H5 ?_))); exact i7 (v := .agg [iA (l7 b (↑vs.length : Int) (j + 1 + 1)).kind, iA (l7 b (↑vs.length : Int) (j + 1 + 1)).value, .tref 7]) G [0, 1, 2, 3, 4, 7] (by kernel_rfl) (by kernel_rfl) (by show _ = List.map (It.ren (nth [0, 1, 2, 3, 4, 7])) (ab4 b vs ars bd d j); unfold ab4; have e1 : ((D2 b (↑vs.length : Int) (↑ars.length : Int) (d + 1) j).snd : Int) = (j + 1 + 1 + 2) := (by rw [bb1 hd (by omega) (by omega) (by omega)]; (simp only [Int.add_assoc, Int.reduceAdd, f5.eta, f5.kids, f5.kind, f5.value]; done)); have e2 : ((D2 b (↑vs.length : Int) (↑ars.length : Int) (d + 1) j).fst : f5) = (l7 b (↑vs.length : Int) (j + 1 + 1)) := (by rw [bb1 hd (by omega) (by omega) (by omega)]; (simp only [Int.add_assoc, Int.reduceAdd, f5.eta, f5.kids, f5.kind, f5.value]; done)); (first | rw [e1, e2] | simp only [e1, e2]) <;> rfl) (by show _ = AV.ren (nth [0, 1, 2, 3, 4, 7]) (ab3 b vs ars d j); unfold ab3; have e1 : ((D2 b (↑vs.length : Int) (↑ars.length : Int) (d + 1) j).fst.kind : Int) = ((l7 b (↑vs.length : Int) (j + 1 + 1)).kind) := (by rw [bb1 hd (by omega) (by omega) (by omega)]; (simp only [Int.add_assoc, Int.reduceAdd, f5.eta, f5.kids, f5.kind, f5.value]; done)); have e2 : ((D2 b (↑vs.length : Int) (↑ars.length : Int) (d + 1) j).fst.value : Int) = ((l7 b (↑vs.length : Int) (j + 1 + 1)).value) := (by rw [bb1 hd (by omega) (by omega) (by omega)]; (simp only [Int.add_assoc, Int.reduceAdd, f5.eta, f5.kids, f5.kind, f5.value]; done)); (first | rw [e1, e2] | simp only [e1, e2]) <;> rfl)
   · have q1 := eq_of_beq h1; refine rT G _ h1 ?_; refine wp_seq ?_; refine v5 (dk := p5) G ⟨[(2, _, (rg 5))], [], []⟩ (b6 (ad6 (b) (j + 1) (vs) (ars) (bd) (by omega) (by omega)) b0) trivial [0, 1, 2, 3, 4, 5, 6, 23] [.box [.ref 1, iA (j + 1 + 2)], dY b, dI vs, dI ars, dT bd, .box (pL 2), .box [iA (l7 b (↑vs.length : Int) (j + 1)).kind, iA (l7 b (↑vs.length : Int) (j + 1)).value, .tref 7], .tree (D.exprs (l7 b (↑vs.length : Int) (j + 1)).kids)] (H3 n []) [] trivial fun ρ a w G => b9 (wp_ret (H5 ?_)); exact i7 (v := .agg [iA (l7 b (↑vs.length : Int) (j + 1)).kind, iA (l7 b (↑vs.length : Int) (j + 1)).value, .tref 7]) G [0, 1, 2, 3, 4, 7] (by kernel_rfl) (by kernel_rfl) (by show _ = List.map (It.ren (nth [0, 1, 2, 3, 4, 7])) (ab4 b vs ars bd d j); unfold ab4; have e1 : ((D2 b (↑vs.length : Int) (↑ars.length : Int) (d + 1) j).snd : Int) = (j + 1 + 2) := (by rw [bg4 hd (by omega)]; (simp only [Int.add_assoc, Int.reduceAdd, f5.eta, f5.kids, f5.kind, f5.value]; done)); rw [e1]; rw [bg4 hd (by omega)] <;> rfl) (by show _ = AV.ren (nth [0, 1, 2, 3, 4, 7]) (ab3 b vs ars d j); unfold ab3; rw [bg4 hd (by omega)] <;> rfl)
  · have q0 := Y8 h0; refine m9 G ⟨[], [(decide (n < (2 : Int)), true)], [(3, 0), (4, 0), (5, 0), (1006, 0)]⟩ b0 ⟨(by assumption), trivial⟩ (H3 n [(16, bA true)]) [] trivial fun ρ a w G => b9 ?_; refine rT G (true) (by kernel_rfl) ?_; refine wp_seq ?_; refine v5 (dk := p5) G ⟨[(2, _, (rg 5))], [], []⟩ (b6 (ad6 (b) (j) (vs) (ars) (bd) (by assumption) (by omega)) b0) trivial [0, 1, 2, 3, 4, 5, 6, 23] [.box [.ref 1, iA (j + 2)], dY b, dI vs, dI ars, dT bd, .box (pL 2), .box [iA (l7 b (↑vs.length : Int) j).kind, iA (l7 b (↑vs.length : Int) j).value, .tref 7], .tree (D.exprs (l7 b (↑vs.length : Int) j).kids)] (H3 n []) [] trivial fun ρ a w G => b9 (wp_ret (H5 ?_)); exact i7 (v := .agg [iA (l7 b (↑vs.length : Int) j).kind, iA (l7 b (↑vs.length : Int) j).value, .tref 7]) G [0, 1, 2, 3, 4, 7] (by kernel_rfl) (by kernel_rfl) (by show _ = List.map (It.ren (nth [0, 1, 2, 3, 4, 7])) (ab4 b vs ars bd d j); unfold ab4; have e1 : ((D2 b (↑vs.length : Int) (↑ars.length : Int) (d + 1) j).snd : Int) = (j + 2) := (by rw [aI0 hd (by omega) (by omega) (by omega)]; (simp only [Int.add_assoc, Int.reduceAdd, f5.eta, f5.kids, f5.kind, f5.value]; omega)); have e2 : ((D2 b (↑vs.length : Int) (↑ars.length : Int) (d + 1) j).fst : f5) = (l7 b (↑vs.length : Int) j) := (by rw [aI0 hd (by omega) (by omega) (by omega)]; (simp only [Int.add_assoc, Int.reduceAdd, f5.eta, f5.kids, f5.kind, f5.value]; omega)); (first | rw [e1, e2] | simp only [e1, e2]) <;> rfl) (by show _ = AV.ren (nth [0, 1, 2, 3, 4, 7]) (ab3 b vs ars d j); unfold ab3; have e1 : ((D2 b (↑vs.length : Int) (↑ars.length : Int) (d + 1) j).fst.kind : Int) = ((l7 b (↑vs.length : Int) j).kind) := (by rw [aI0 hd (by omega) (by omega) (by omega)]; (simp only [Int.add_assoc, Int.reduceAdd, f5.eta, f5.kids, f5.kind, f5.value]; omega)); have e2 : ((D2 b (↑vs.length : Int) (↑ars.length : Int) (d + 1) j).fst.value : Int) = ((l7 b (↑vs.length : Int) j).value) := (by rw [aI0 hd (by omega) (by omega) (by omega)]; (simp only [Int.add_assoc, Int.reduceAdd, f5.eta, f5.kids, f5.kind, f5.value]; omega)); (first | rw [e1, e2] | simp only [e1, e2]) <;> rfl)
theorem a64 (b : List UInt8) (vs ars : List Int) (bd : List d9) : ∀ (d : Nat) (j n : Int), d ≤ 100 → n = d → 0 ≤ j → j + cE d ≤ 800000000 → p7.ok Try.prog (drC b vs ars bd d j n)
 | 0, j, n, _, hn, r0, r1 => aQ0 b vs ars bd 0 (by omega) j n hn r0 (by have := au1 0; omega)
 | 1, j, n, _, hn, r0, r1 => aQ0 b vs ars bd 1 (by omega) j n hn r0 (by have := au1 1; omega)
 | d + 2, j, n, hd, hn, r0, r1 => a83 b vs ars bd (d + 1) (by omega) (by omega) (fun j n => a64 b vs ars bd (d + 1) j n (by omega)) j n hn r0 r1
abbrev smC (b : List UInt8) (vs ars : List Int) (bd : List d9) (j : Int) : p7 := ⟨65, [.ptr 0 0, pA 2], dwS b j vs ars bd, dwS b (x5 b vs.length ars.length j).2 vs ars bd ++ exO (x5 b vs.length ars.length j).1, exA (x5 b vs.length ars.length j).1 5⟩
section
variable {b : List UInt8} {nv na : Nat} {j : Int}
theorem bi3 (h : l6 nv na (D2 b nv na (nm b j V0).toNat (j + 1)).1 = true) : x5 b nv na j = D2 b nv na (nm b j V0).toNat (j + 1) := if_pos h
theorem bi2 (h : l6 nv na (D2 b nv na (nm b j V0).toNat (j + 1)).1 = false) : x5 b nv na j = (l7 b nv (D2 b nv na (nm b j V0).toNat (j + 1)).2, (D2 b nv na (nm b j V0).toNat (j + 1)).2 + 2) := if_neg (by rw [h]; decide)
theorem bn5 (r0 : 0 ≤ j) (r1 : j ≤ 700000000) : cE (nm b j V0).toNat ≤ 364 := cE4 (dp4 b r0 (by omega)).2.2
end
abbrev S4 (b : List UInt8) (vs : List Int) (ars : List Int) (j : Int) := D2 b (↑vs.length : Int) (↑ars.length : Int) (nm b j V0).toNat (j + 1)
theorem U7 (b : List UInt8) (vs ars : List Int) (bd : List d9) (j : Int) (r0 : 0 ≤ j) (r1 : j ≤ 700000000) : p7.ok Try.prog (smC b vs ars bd j) := by
 have hdr := fun (i n : Int) => a64 b vs ars bd (nm b j V0).toNat i n (Nat.le_trans (dp4 b r0 (by omega)).2.2 (by omega))
 refine m8 19 Try.func65 (by rfl) (by kernel_rfl) (by kernel_rfl) ?_; intro ι φ ψ w0 w F ρ0 ρ a G; replace G := p6.at G [.box [.ref 1, iA j], dY b, dI vs, dI ars, dT bd] [(0, .ptr 0 0), (1, pA 2)]; have hd4 := bn5 (b := b) r0 r1; have hdb := aI1 b vs.length ars.length (nm b j V0).toNat (j + 1); refine wp_seq ?_; refine D8 G [0, 1, 2, 3, 4, 5, 13] [.box [.ref 1, iA j], dY b, dI vs, dI ars, dT bd, .box (pL 2), .box [iA 0, iA 0, .v (.slice none 0 0)]] [(0, .ptr 0 0), (3, .ptr 5 0), (4, .ptr 6 0)] fun ρ a w G => b9 (wp_seq ?_); refine rd1 (dk := p5) G ⟨[(4, _, [0, 1, 31]), (5, _, (rg 5))], [], []⟩ (b6 (p7.lend (K1 (b) (j) V0 (by exact List.cons_ne_nil _ _) (by assumption) (by omega)) [.no, .no, .row 3]) (b6 (hdr (j + 1) (nm b j V0) (by exact bg5 b (by omega) (by omega)) (by omega) (by omega)) b0)) trivial [0, 0, 0, 0, 12, 31, 0, 127] [0, 1, 2, 3, 4, 5, 6, 47, 55] [.box [.ref 1, iA (S4 b vs ars j).snd], dY b, dI vs, dI ars, dT bd, .box (pL 2), .box [iA 0, iA 0, .v (.slice none 0 0)], .tree (D.exprs (S4 b vs ars j).fst.kids), .box [iA (S4 b vs ars j).fst.kind, iA (S4 b vs ars j).fst.value, .tref 7]] [(0, .ptr 0 0), (3, .ptr 5 0), (4, .ptr 6 0), (5, .ptr 8 0)] [] trivial fun ρ a w G => b9 (wp_seq (wp_seq ?_)); refine m9 G ⟨[(2, _, [2, 3, 4, 7])], [], []⟩ (b6 (p7.lend (aO4 (vs) (ars) (bd) ((D2 b (↑vs.length : Int) (↑ars.length : Int) (nm b j V0).toNat (j + 1)).fst)) [.no, .no, .no, .tree]) b0) trivial [(0, .ptr 0 0), (3, .ptr 5 0), (4, .ptr 6 0), (5, .ptr 8 0), (14, bA (l6 vs.length ars.length (S4 b vs ars j).fst))] [] trivial fun ρ a w G => b9 ?_; cases h0 : (l6 vs.length ars.length (D2 b (↑vs.length : Int) (↑ars.length : Int) (nm b j V0).toNat (j + (1 : Int))).fst)
 ·refine rF G _ h0 ?_; refine wp_skip (b9 (wp_seq ?_)); refine v5 (dk := p5) G ⟨[(2, _, (rg 5))], [], []⟩ (b6 (ad6 (b) ((D2 b (↑vs.length : Int) (↑ars.length : Int) (nm b j V0).toNat (j + 1)).snd) (vs) (ars) (bd) (by omega) (by omega)) b0) trivial [0, 1, 2, 3, 4, 6, 25] [.box [.ref 1, iA ((S4 b vs ars j).snd + 2)], dY b, dI vs, dI ars, dT bd, .box [iA (l7 b (↑vs.length : Int) (S4 b vs ars j).snd).kind, iA (l7 b (↑vs.length : Int) (S4 b vs ars j).snd).value, .tref 6], .tree (D.exprs (l7 b (↑vs.length : Int) (S4 b vs ars j).snd).kids)] [(4, .ptr 5 0)] [] trivial fun ρ a w G => b9 (wp_ret ?_); exact i7 (v := .agg [iA (l7 b (↑vs.length : Int) (D2 b (↑vs.length : Int) (↑ars.length : Int) (nm b j V0).toNat (j + 1)).snd).kind, iA (l7 b (↑vs.length : Int) (D2 b (↑vs.length : Int) (↑ars.length : Int) (nm b j V0).toNat (j + 1)).snd).value, .tref 6]) G [0, 1, 2, 3, 4, 6] (by kernel_rfl) (by kernel_rfl) (by show _ = List.map (It.ren (nth [0, 1, 2, 3, 4, 6])) [.box [.ref 1, iA (x5 b vs.length ars.length j).snd], dY b, dI vs, dI ars, dT bd, .tree (D.exprs (x5 b vs.length ars.length j).fst.kids)]; rw [bi2 (by with_reducible assumption)] <;> rfl) (by show _ = AV.ren (nth [0, 1, 2, 3, 4, 6]) (.agg [iA (x5 b vs.length ars.length j).fst.kind, iA (x5 b vs.length ars.length j).fst.value, .tref 5]); rw [bi2 (by with_reducible assumption)] <;> rfl)
 ·refine rT G _ h0 ?_; refine wp_seq ?_; refine D8 G (rg 8) [.box [.ref 1, iA (S4 b vs ars j).snd], dY b, dI vs, dI ars, dT bd, .box (pL 2), .box [iA (S4 b vs ars j).fst.kind, iA (S4 b vs ars j).fst.value, .tref 7], .tree (D.exprs (S4 b vs ars j).fst.kids)] [(0, .ptr 0 0), (3, .ptr 5 0), (4, .ptr 6 0)] fun ρ a w G => b9 (wp_ret (H5 ?_)); exact i7 (v := .agg [iA (D2 b (↑vs.length : Int) (↑ars.length : Int) (nm b j V0).toNat (j + 1)).fst.kind, iA (D2 b (↑vs.length : Int) (↑ars.length : Int) (nm b j V0).toNat (j + 1)).fst.value, .tref 7]) G [0, 1, 2, 3, 4, 7] (by kernel_rfl) (by kernel_rfl) (by show _ = List.map (It.ren (nth [0, 1, 2, 3, 4, 7])) [.box [.ref 1, iA (x5 b vs.length ars.length j).snd], dY b, dI vs, dI ars, dT bd, .tree (D.exprs (x5 b vs.length ars.length j).fst.kids)]; rw [bi3 (by with_reducible assumption)] <;> rfl) (by show _ = AV.ren (nth [0, 1, 2, 3, 4, 7]) (.agg [iA (x5 b vs.length ars.length j).fst.kind, iA (x5 b vs.length ars.length j).fst.value, .tref 5]); rw [bi3 (by with_reducible assumption)] <;> rfl)
abbrev stO (s : d9) : List It := [.tree (.exprs s.index.kids), .tree (.exprs s.value.kids), .tree (.stmts s.body), .tree (.stmts s.els)]
abbrev stA (s : d9) (r : Nat) : AV := .agg [iA s.kind, iA s.target, iA s.index.kind, iA s.index.value, .tref r, iA s.value.kind, iA s.value.value, .tref (r + 1), iA s.count, .tref (r + 2), .tref (r + 3)]
abbrev dsC (b : List UInt8) (vs ars : List Int) (bd : List d9) (d : Nat) (j n : Int) : p7 := ⟨59, [.ptr 0 0, pA 2, iA n], dwS b j vs ars bd, dwS b (r7 b vs.length ars.length d j).2 vs ars bd ++ stO (r7 b vs.length ars.length d j).1, stA (r7 b vs.length ars.length d j).1 5⟩
abbrev dbC (b : List UInt8) (vs ars : List Int) (bd : List d9) (d : Nat) (m : Nat) (j n c : Int) : p7 := ⟨51, [.ptr 0 0, pA 2, iA n, iA c], dwS b j vs ars bd, dwS b (y7 (r7 b vs.length ars.length d) m j).2 vs ars bd ++ [.tree (.stmts (y7 (r7 b vs.length ars.length d) m j).1)], .tref 5⟩
section
variable {b : List UInt8} {nv na d : Nat} {j : Int}
theorem aZ1 (h : nm b j D0 = 2) (h1 : 0 < (na : Int)) : r7 b nv na d j = soS b nv na (j + 1) := by
 cases d <;> (rw [r7, if_pos ⟨h, by omega⟩])
theorem bi1 (h : nm b j D0 = 3) (h1 : 0 < d) : r7 b nv na (d + 1) j = ifS b nv na (r7 b nv na d) (j + 1) := by
 rw [r7, if_neg (by omega), if_pos ⟨h, by omega⟩]
theorem bi0 (h : nm b j D0 = 4) (h1 : 0 < d) : r7 b nv na (d + 1) j = rpS b (r7 b nv na d) (j + 1) := by
 rw [r7, if_neg (by omega), if_neg (by omega), if_pos ⟨h, by omega⟩]
theorem X8 (h : ¬ (nm b j D0 = 2 ∧ 0 < (na : Int))) (h1 : d < 2 ∨ (¬ nm b j D0 = 3 ∧ ¬ nm b j D0 = 4)) : r7 b nv na d j = dfS b nv na (nm b j D0) (j + 1) := by
 match d, h1 with
 | 0, _ => rw [r7, if_neg (by omega)]
 | d + 1, h1 => rw [r7, if_neg (by omega), if_neg (by omega), if_neg (by omega)]
theorem bg6 {kd : Int} (h : kd = 5) : dfS b nv na kd j = (⟨5, pk b j nv, noE, (x5 b nv na (j + 1)).1, 0, [], []⟩, (x5 b nv na (j + 1)).2) := by rw [dfS, if_pos h]
theorem aI2 {kd : Int} (h : ¬ kd = 5) : dfS b nv na kd j = (⟨1, pk b j nv, noE, (x5 b nv na (j + 1)).1, 0, [], []⟩, (x5 b nv na (j + 1)).2) := by rw [dfS, if_neg h]
end
section
variable (b : List UInt8) {j : Int}
theorem bq0 (r0 : 0 ≤ j) (r1 : j ≤ 1000000000) : 0 ≤ nm b j ibL ∧ nm b j ibL ≤ 2 := ax1 b (by simp) aN4 r0 r1
theorem bp9 (r0 : 0 ≤ j) (r1 : j ≤ 1000000000) : 0 ≤ nm b j ieL ∧ nm b j ieL ≤ 2 := ax1 b (by simp) aN2 r0 r1
theorem bn8 (r0 : 0 ≤ j) (r1 : j ≤ 1000000000) : 0 ≤ nm b j rbL ∧ nm b j rbL ≤ 2 := ax1 b (by simp) aL3 r0 r1
theorem bb8 (d : Nat) : (d = 0 ∧ cS (d - 1) = 402 ∧ cS d ≤ 2010) ∨ cS d = 402 + 4 * cS (d - 1) := by
 cases d with
 | zero => exact .inl ⟨rfl, rfl, by decide⟩
 | succ d => exact .inr rfl
end
section
variable {b : List UInt8} {nv na d : Nat} {j : Int}
theorem aK3 (h : nm b j D0 = 3) (h1 : 1 < d) : r7 b nv na d j = ifS b nv na (r7 b nv na (d - 1)) (j + 1) := by
 match d, h1 with
 | d + 1, h1 => exact bi1 h (by omega)
theorem aK2 (h : nm b j D0 = 4) (h1 : 1 < d) : r7 b nv na d j = rpS b (r7 b nv na (d - 1)) (j + 1) := by
 match d, h1 with
 | d + 1, h1 => exact bi0 h (by omega)
end
abbrev V4 (b : List UInt8) (vs : List Int) (ars : List Int) (d : Nat) (j : Int) (k : Nat) := r7 b vs.length ars.length d (y7 (r7 b vs.length ars.length d) k j).snd
abbrev al0 (n : Int) (c : Int) (r0 : List (Nat × AV)) : List (Nat × AV) := (0, .ptr 0 0) :: (2, iA n) :: (3, iA c) :: (5, .ptr 5 0) :: (8, .v (.slice none 0 0)) :: (9, .tref 6) :: r0
theorem a84 (b : List UInt8) (vs ars : List Int) (bd : List d9) (d m : Nat) (ih : ∀ (j n : Int), n = d → 0 ≤ j → j + cS d ≤ 600000000 → p7.ok Try.prog (dsC b vs ars bd d j n)) (j n c : Int) (hn : n = d) (hm : c = m) (hm2 : m ≤ 4) (B : Int) (hB : (m : Int) * cS d ≤ B) (r0 : 0 ≤ j) (r1 : j + B ≤ 600000000) : p7.ok Try.prog (dbC b vs ars bd d m j n c) := by
 refine m8 25 Try.func51 (by rfl) (by kernel_rfl) (by kernel_rfl) ?_; intro ι φ ψ w0 w F ρ0 ρ a G; replace G := p6.at G [.box [.ref 1, iA j], dY b, dI vs, dI ars, dT bd] [(0, .ptr 0 0), (1, pA 2), (2, iA n), (3, iA c)]; have hc := am7 d; refine wp_seq ?_; refine D8 G (rg 6) [.box [.ref 1, iA j], dY b, dI vs, dI ars, dT bd, .box (pL 2)] [(0, .ptr 0 0), (2, iA n), (3, iA c), (5, .ptr 5 0), (8, .v (.slice none 0 0))] fun ρ a w G => b9 (wp_seq ?_); refine D8 G (rg 7) [.box [.ref 1, iA j], dY b, dI vs, dI ars, dT bd, .box (pL 2), .tree (D.stmts [])] (al0 n c []) fun ρ a w G => b9 (wp_seq (wp_seq ?_)); refine l0 G (al0 n c [(10, iA 0)]) fun ρ a w G => b9 (wp_block ?_); refine F4 (κ := Nat) (fun k => k ≤ m) (fun k => m - k) (fun k => [.box [.ref 1, iA (y7 (r7 b vs.length ars.length d) k j).2], dY b, dI vs, dI ars, dT bd, .box (pL 2), .tree (.stmts (y7 (r7 b vs.length ars.length d) k j).1)]) (fun k => [(0, .ptr 0 0), (2, iA n), (3, iA c), (5, .ptr 5 0), (8, .v (.slice none 0 0)), (9, .tref 6), (10, iA k)]) (0) (by omega) (p6.at G _ _) ?_; clear G; intro k ρ a w hp G; replace G := p6.at G [.box [.ref 1, iA (y7 (r7 b vs.length ars.length d) k j).snd], dY b, dI vs, dI ars, dT bd, .box (pL 2), .tree (D.stmts (y7 (r7 b vs.length ars.length d) k j).fst)] (al0 n c [(10, iA (↑k : Int))]); have hkb := bd7 b vs.length ars.length (k := j) (i := k) hB (by omega) r0 (by omega); have hkl : (y7 (r7 b vs.length ars.length d) k j).1.length = k := aB9 _ _ _; refine wp_seq (wp_seq ?_); refine l0 G (al0 n c [(10, iA (↑k : Int)), (14, bA (decide ((↑k : Int) < c)))]) fun ρ a w G => b9 ?_; cases h0 : (decide ((↑k : Int) < c))
 ·have q0 := Y9 h0; refine rF G _ h0 ?_; refine wp_exit (D9 (D9 (D7 (b9 (wp_seq ?_))))); refine D8 G [0, 1, 2, 3, 4, 6] [.box [.ref 1, iA (y7 (r7 b vs.length ars.length d) k j).snd], dY b, dI vs, dI ars, dT bd, .tree (D.stmts (y7 (r7 b vs.length ars.length d) k j).fst)] [(8, .tref 5)] fun ρ a w G => b9 (wp_ret ?_); exact i7 (v := .tref 5) G (rg 6) (by kernel_rfl) (by kernel_rfl) (by show _ = List.map (It.ren (nth (rg 6))) [.box [.ref 1, iA (y7 (r7 b vs.length ars.length d) m j).snd], dY b, dI vs, dI ars, dT bd, .tree (D.stmts (y7 (r7 b vs.length ars.length d) m j).fst)]; rw [show m = k by omega] <;> rfl) (by kernel_rfl)
 ·have q0 := Y8 h0; refine rT G _ h0 ?_; refine wp_skip (b9 (wp_seq (wp_block ?_))); refine v5 (dk := p5) G ⟨[(4, _, (rg 5))], [], []⟩ (b6 (ih ((y7 (r7 b vs.length ars.length d) k j).snd) (n) (by assumption) (by have := aS3 b vs.length ars.length (k := j) (i := k) hB (by omega) r0 (by omega); omega) (by have := aS3 b vs.length ars.length (k := j) (i := k) hB (by omega) r0 (by omega); omega)) b0) trivial [0, 1, 2, 3, 4, 5, 55] [.box [.ref 1, iA (V4 b vs ars d j k).snd], dY b, dI vs, dI ars, dT bd, .box (pL 2), .tree (D.stmts ((y7 (r7 b vs.length ars.length d) k j).fst ++ [d9.mk (V4 b vs ars d j k).fst.kind (V4 b vs ars d j k).fst.target (f5.mk (V4 b vs ars d j k).fst.index.kind (V4 b vs ars d j k).fst.index.value (V4 b vs ars d j k).fst.index.kids) (f5.mk (V4 b vs ars d j k).fst.value.kind (V4 b vs ars d j k).fst.value.value (V4 b vs ars d j k).fst.value.kids) (V4 b vs ars d j k).fst.count (V4 b vs ars d j k).fst.body (V4 b vs ars d j k).fst.els]))] (al0 n c [(10, iA (↑k : Int))]) [(y7 (r7 b vs.length ars.length d) k j).fst.length + [d9.mk (r7 b vs.length ars.length d (y7 (r7 b vs.length ars.length d) k j).snd).fst.kind (r7 b vs.length ars.length d (y7 (r7 b vs.length ars.length d) k j).snd).fst.target (f5.mk (r7 b vs.length ars.length d (y7 (r7 b vs.length ars.length d) k j).snd).fst.index.kind (r7 b vs.length ars.length d (y7 (r7 b vs.length ars.length d) k j).snd).fst.index.value (r7 b vs.length ars.length d (y7 (r7 b vs.length ars.length d) k j).snd).fst.index.kids) (f5.mk (r7 b vs.length ars.length d (y7 (r7 b vs.length ars.length d) k j).snd).fst.value.kind (r7 b vs.length ars.length d (y7 (r7 b vs.length ars.length d) k j).snd).fst.value.value (r7 b vs.length ars.length d (y7 (r7 b vs.length ars.length d) k j).snd).fst.value.kids) (r7 b vs.length ars.length d (y7 (r7 b vs.length ars.length d) k j).snd).fst.count (r7 b vs.length ars.length d (y7 (r7 b vs.length ars.length d) k j).snd).fst.body (r7 b vs.length ars.length d (y7 (r7 b vs.length ars.length d) k j).snd).fst.els].length ≤ (9223372036854775807 : Nat), ((y7 (r7 b vs.length ars.length d) k j).fst.length + [d9.mk (r7 b vs.length ars.length d (y7 (r7 b vs.length ars.length d) k j).snd).fst.kind (r7 b vs.length ars.length d (y7 (r7 b vs.length ars.length d) k j).snd).fst.target (f5.mk (r7 b vs.length ars.length d (y7 (r7 b vs.length ars.length d) k j).snd).fst.index.kind (r7 b vs.length ars.length d (y7 (r7 b vs.length ars.length d) k j).snd).fst.index.value (r7 b vs.length ars.length d (y7 (r7 b vs.length ars.length d) k j).snd).fst.index.kids) (f5.mk (r7 b vs.length ars.length d (y7 (r7 b vs.length ars.length d) k j).snd).fst.value.kind (r7 b vs.length ars.length d (y7 (r7 b vs.length ars.length d) k j).snd).fst.value.value (r7 b vs.length ars.length d (y7 (r7 b vs.length ars.length d) k j).snd).fst.value.kids) (r7 b vs.length ars.length d (y7 (r7 b vs.length ars.length d) k j).snd).fst.count (r7 b vs.length ars.length d (y7 (r7 b vs.length ars.length d) k j).snd).fst.body (r7 b vs.length ars.length d (y7 (r7 b vs.length ars.length d) k j).snd).fst.els].length) * (152 : Nat) ≤ (140737488355328 : Nat)] ⟨(by simp only [List.length_cons, List.length_nil]; omega), (by simp only [List.length_cons, List.length_nil]; omega), trivial⟩ ?_; intro ρ a w G; refine o5 ?_; refine b9 ?_; refine m9 G ⟨[], [], []⟩ b0 trivial (al0 n c [(10, iA ((↑k : Int) + 1))]) [IntKind.i64.wrap ((↑k : Int) + (1 : Int)) = (↑k : Int) + (1 : Int)] ⟨(by exact w6 (by omega) (by omega)), trivial⟩ fun ρ a w G => b9 ?_; exact m0 G (k + 1) (by have := aS3 b vs.length ars.length (k := j) (i := k) hB (by omega) r0 (by omega); omega) (by have := aS3 b vs.length ars.length (k := j) (i := k) hB (by omega) r0 (by omega); omega) (rg 7) [.box [.ref 1, iA (y7 (r7 b vs.length ars.length d) (k + 1) j).snd], dY b, dI vs, dI ars, dT bd, .box (pL 2), .tree (D.stmts (y7 (r7 b vs.length ars.length d) (k + 1) j).fst)] [(0, .ptr 0 0), (2, iA n), (3, iA c), (5, .ptr 5 0), (8, .v (.slice none 0 0)), (9, .tref 6), (10, iA (↑(k + 1) : Int))] (by kernel_rfl) (by kernel_rfl) (by kernel_rfl) (by have e1 : ((y7 (r7 b vs.length ars.length d) (k + 1) j).fst : List d9) = ((y7 (r7 b vs.length ars.length d) k j).fst ++ [d9.mk (r7 b vs.length ars.length d (y7 (r7 b vs.length ars.length d) k j).snd).fst.kind (r7 b vs.length ars.length d (y7 (r7 b vs.length ars.length d) k j).snd).fst.target (f5.mk (r7 b vs.length ars.length d (y7 (r7 b vs.length ars.length d) k j).snd).fst.index.kind (r7 b vs.length ars.length d (y7 (r7 b vs.length ars.length d) k j).snd).fst.index.value (r7 b vs.length ars.length d (y7 (r7 b vs.length ars.length d) k j).snd).fst.index.kids) (f5.mk (r7 b vs.length ars.length d (y7 (r7 b vs.length ars.length d) k j).snd).fst.value.kind (r7 b vs.length ars.length d (y7 (r7 b vs.length ars.length d) k j).snd).fst.value.value (r7 b vs.length ars.length d (y7 (r7 b vs.length ars.length d) k j).snd).fst.value.kids) (r7 b vs.length ars.length d (y7 (r7 b vs.length ars.length d) k j).snd).fst.count (r7 b vs.length ars.length d (y7 (r7 b vs.length ars.length d) k j).snd).fst.body (r7 b vs.length ars.length d (y7 (r7 b vs.length ars.length d) k j).snd).fst.els]) := (by show _ ++ [_] = _ ++ [_]; rw [f5.eta, f5.eta, d9.eta]; done); (first | rw [e1] | simp only [e1]) <;> rfl) (by kernel_rfl)
abbrev al4 (b : List UInt8) (vs : List Int) (ars : List Int) (d : Nat) (j : Int) := y7 (r7 b vs.length ars.length (d - 1)) (nm b (x5 b vs.length ars.length (j + 1)).snd ibL).toNat ((x5 b vs.length ars.length (j + 1)).snd + 1)
abbrev ae0 (b : List UInt8) (vs : List Int) (ars : List Int) (d : Nat) (j : Int) := y7 (r7 b vs.length ars.length (d - 1)) (nm b (j + 1 + 1) rbL).toNat (j + 1 + 1 + 1)
abbrev al3 (b : List UInt8) (vs : List Int) (ars : List Int) (d : Nat) (j : Int) := y7 (r7 b vs.length ars.length (d - 1)) (nm b (al4 b vs ars d j).snd ieL).toNat ((al4 b vs ars d j).snd + 1)
abbrev N3 (b : List UInt8) (vs : List Int) (ars : List Int) (bd : List d9) (d : Nat) (j : Int) : List It := [.box [.ref 1, iA (r7 b vs.length ars.length d j).snd], dY b, dI vs, dI ars, dT bd, .tree (D.exprs (r7 b vs.length ars.length d j).fst.index.kids), .tree (D.exprs (r7 b vs.length ars.length d j).fst.value.kids), .tree (D.stmts (r7 b vs.length ars.length d j).fst.body), .tree (D.stmts (r7 b vs.length ars.length d j).fst.els)]
abbrev N2 (b : List UInt8) (vs : List Int) (ars : List Int) (d : Nat) (j : Int) : AV := (.agg [iA (r7 b vs.length ars.length d j).fst.kind, iA (r7 b vs.length ars.length d j).fst.target, iA (r7 b vs.length ars.length d j).fst.index.kind, iA (r7 b vs.length ars.length d j).fst.index.value, .tref 5, iA (r7 b vs.length ars.length d j).fst.value.kind, iA (r7 b vs.length ars.length d j).fst.value.value, .tref 6, iA (r7 b vs.length ars.length d j).fst.count, .tref 7, .tref 8])
abbrev ad9 : It := .box [iA 0, iA 0, iA 0, iA 0, .v (.slice none 0 0), iA 0, iA 0, .v (.slice none 0 0), iA 0, .v (.slice none 0 0), .v (.slice none 0 0)]
abbrev v9 (b : List UInt8) (vs : List Int) (ars : List Int) (j : Int) : It := .tree (D.exprs (x5 b vs.length ars.length (j + 1 + 1)).fst.kids)
abbrev bh5 (b : List UInt8) (vs : List Int) (ars : List Int) (j : Int) : It := .box [.ref 1, iA (x5 b vs.length ars.length (j + 1 + 1)).snd]
abbrev al2 (b : List UInt8) (vs : List Int) (ars : List Int) (j : Int) : It := .box [iA 1, iA (pk b (j + 1) (↑vs.length : Int)), iA 0, iA 0, .tref 7, iA (x5 b vs.length ars.length (j + 1 + 1)).fst.kind, iA (x5 b vs.length ars.length (j + 1 + 1)).fst.value, .tref 6, iA 0, .v (.slice none 0 0), .v (.slice none 0 0)]
abbrev X3 (b : List UInt8) (vs : List Int) (ars : List Int) (j : Int) : It := .box [iA 1, iA (pk b (j + 1) (↑vs.length : Int)), iA 0, iA 0, .tref 7, iA (x5 b vs.length ars.length (j + 1 + 1)).fst.kind, iA (x5 b vs.length ars.length (j + 1 + 1)).fst.value, .tref 6, iA 0, .tref 8, .v (.slice none 0 0)]
abbrev X2 (b : List UInt8) (vs : List Int) (ars : List Int) (j : Int) : It := .box [iA 1, iA (pk b (j + 1) (↑vs.length : Int)), iA 0, iA 0, .tref 7, iA (x5 b vs.length ars.length (j + 1 + 1)).fst.kind, iA (x5 b vs.length ars.length (j + 1 + 1)).fst.value, .tref 6, iA 0, .tref 8, .tref 9]
abbrev ay6 (b : List UInt8) (vs : List Int) (ars : List Int) (j : Int) : It := .box [iA 1, iA (pk b (j + 1) (↑vs.length : Int)), iA 0, iA 0, .v (.slice none 0 0), iA (x5 b vs.length ars.length (j + 1 + 1)).fst.kind, iA (x5 b vs.length ars.length (j + 1 + 1)).fst.value, .tref 7, iA 0, .v (.slice none 0 0), .v (.slice none 0 0)]
abbrev ay5 (b : List UInt8) (vs : List Int) (ars : List Int) (j : Int) : It := .box [iA 1, iA (pk b (j + 1) (↑vs.length : Int)), iA 0, iA 0, .v (.slice none 0 0), iA (x5 b vs.length ars.length (j + 1 + 1)).fst.kind, iA (x5 b vs.length ars.length (j + 1 + 1)).fst.value, .tref 6, iA 0, .v (.slice none 0 0), .v (.slice none 0 0)]
abbrev ay4 (b : List UInt8) (vs : List Int) (j : Int) : It := .box [iA 1, iA (pk b (j + 1) (↑vs.length : Int)), iA 0, iA 0, .v (.slice none 0 0), iA 0, iA 0, .v (.slice none 0 0), iA 0, .v (.slice none 0 0), .v (.slice none 0 0)]
abbrev aX5 (b : List UInt8) (vs : List Int) (ars : List Int) (j : Int) : It := .box [iA (nm b j D0), iA (pk b (j + 1) (↑ars.length : Int)), iA (l7 b (↑vs.length : Int) (j + 1 + 1)).kind, iA (l7 b (↑vs.length : Int) (j + 1 + 1)).value, .tref 6, iA (x5 b vs.length ars.length (j + 1 + 1 + 2)).fst.kind, iA (x5 b vs.length ars.length (j + 1 + 1 + 2)).fst.value, .tref 7, iA 0, .tref 8, .v (.slice none 0 0)]
abbrev aX4 (b : List UInt8) (vs : List Int) (ars : List Int) (j : Int) : It := .box [iA (nm b j D0), iA (pk b (j + 1) (↑ars.length : Int)), iA (l7 b (↑vs.length : Int) (j + 1 + 1)).kind, iA (l7 b (↑vs.length : Int) (j + 1 + 1)).value, .tref 6, iA (x5 b vs.length ars.length (j + 1 + 1 + 2)).fst.kind, iA (x5 b vs.length ars.length (j + 1 + 1 + 2)).fst.value, .tref 7, iA 0, .tref 8, .tref 9]
abbrev ay3 : It := .box [iA 1, iA 0, iA 0, iA 0, .v (.slice none 0 0), iA 0, iA 0, .v (.slice none 0 0), iA 0, .v (.slice none 0 0), .v (.slice none 0 0)]
abbrev aX3 (b : List UInt8) (vs : List Int) (ars : List Int) (j : Int) : It := .box [iA (nm b j D0), iA (pk b (j + 1) (↑vs.length : Int)), iA 0, iA 0, .tref 7, iA (x5 b vs.length ars.length (j + 1 + 1)).fst.kind, iA (x5 b vs.length ars.length (j + 1 + 1)).fst.value, .tref 6, iA 0, .v (.slice none 0 0), .v (.slice none 0 0)]
abbrev aX2 (b : List UInt8) (vs : List Int) (ars : List Int) (j : Int) : It := .box [iA (nm b j D0), iA (pk b (j + 1) (↑vs.length : Int)), iA 0, iA 0, .tref 7, iA (x5 b vs.length ars.length (j + 1 + 1)).fst.kind, iA (x5 b vs.length ars.length (j + 1 + 1)).fst.value, .tref 6, iA 0, .tref 8, .v (.slice none 0 0)]
abbrev aX1 (b : List UInt8) (vs : List Int) (ars : List Int) (j : Int) : It := .box [iA (nm b j D0), iA (pk b (j + 1) (↑vs.length : Int)), iA 0, iA 0, .tref 7, iA (x5 b vs.length ars.length (j + 1 + 1)).fst.kind, iA (x5 b vs.length ars.length (j + 1 + 1)).fst.value, .tref 6, iA 0, .tref 8, .tref 9]
abbrev ac7 (b : List UInt8) (vs : List Int) (j : Int) : It := .tree (D.exprs (l7 b (↑vs.length : Int) (j + 1 + 1)).kids)
abbrev ai1 (b : List UInt8) (vs : List Int) (ars : List Int) (j : Int) : It := .tree (D.exprs (x5 b vs.length ars.length (j + 1 + 1 + 2)).fst.kids)
abbrev ai0 (b : List UInt8) (vs : List Int) (ars : List Int) (j : Int) : It := .box [.ref 1, iA (x5 b vs.length ars.length (j + 1 + 1 + 2)).snd]
abbrev ah9 (b : List UInt8) (vs : List Int) (ars : List Int) (j : Int) : It := .tree (D.exprs (x5 b vs.length ars.length (j + 1)).fst.kids)
abbrev v7 (b : List UInt8) (vs : List Int) (ars : List Int) (bd : List d9) (j : Int) (r0 : List It) : List It := bh5 b vs ars j :: dY b :: dI vs :: dI ars :: dT bd :: r0
abbrev O4 (r0 : List (Nat × AV)) : List (Nat × AV) := (0, .ptr 0 0) :: (4, .ptr 5 0) :: (6, .ptr 6 0) :: (8, .ptr 7 0) :: r0
abbrev ab2 (b : List UInt8) (j : Int) (n : Int) (r0 : List (Nat × AV)) : List (Nat × AV) := (0, .ptr 0 0) :: (2, iA n) :: (4, .ptr 5 0) :: (6, .ptr 6 0) :: (7, iA (nm b j D0)) :: (8, .ptr 7 0) :: r0
abbrev N1 (r0 : List It) : List It := .tree (D.exprs []) :: .tree (D.stmts []) :: r0
abbrev L7 (b : List UInt8) (vs : List Int) (ars : List Int) (bd : List d9) (r0 : List It) : List It := dY b :: dI vs :: dI ars :: dT bd :: .box (pL 2) :: ad9 :: r0
abbrev ak9 (b : List UInt8) (vs : List Int) (ars : List Int) (bd : List d9) (d : Nat) (j : Int) (r0 : List It) : List It := .box [.ref 1, iA (ae0 b vs ars d j).snd] :: dY b :: dI vs :: dI ars :: dT bd :: r0
theorem aZ7 (b : List UInt8) (vs ars : List Int) (bd : List d9) (d : Nat) (hd : d ≤ 3) (ih : ∀ (j n c : Int), 1 < d → n = (d : Int) - 1 → 0 ≤ c → c ≤ 2 → 0 ≤ j → j + 2 * cS (d - 1) ≤ 600000000 → p7.ok Try.prog (dbC b vs ars bd (d - 1) c.toNat j n c)) (j n : Int) (hn : n = d) (r0 : 0 ≤ j) (r1 : j + cS d ≤ 600000000) : p7.ok Try.prog (dsC b vs ars bd d j n) := by
  refine m8 100 Try.func59 (by rfl) (by kernel_rfl) (by kernel_rfl) ?_; intro ι φ ψ w0 w F ρ0 ρ a G; replace G := p6.at G [.box [.ref 1, iA j], dY b, dI vs, dI ars, dT bd] [(0, .ptr 0 0), (1, pA 2), (2, iA n)]; have hc := am7 (d - 1); have hcd := bb8 d; have hcn := am7 d; have hsm := aP8 b vs.length ars.length (k := j + 1) (by omega) (by omega); have hib := bq0 b (j := (x5 b vs.length ars.length (j + 1)).2) (by omega) (by omega); have hbb := bd7 b vs.length ars.length (k := (x5 b vs.length ars.length (j + 1)).2 + 1) (i := (nm b (x5 b vs.length ars.length (j + 1)).2 ibL).toNat) (bj8 hib.1 hib.2 (show 0 ≤ cS (d - 1) by omega)) (Nat.le_refl _) (by omega) (by omega); have hie := bp9 b (j := (y7 (r7 b vs.length ars.length (d - 1)) (nm b (x5 b vs.length ars.length (j + 1)).2 ibL).toNat ((x5 b vs.length ars.length (j + 1)).2 + 1)).2) (by omega) (by omega); have hrb := bn8 b (j := j + 1 + 1) (by omega) (by omega); refine wp_seq ?_; refine D8 G [0, 1, 2, 3, 4, 5, 13] (.box [.ref 1, iA j] :: (L7 b vs ars bd [])) [(0, .ptr 0 0), (2, iA n), (4, .ptr 5 0), (6, .ptr 6 0)] fun ρ a w G => b9 (wp_seq ?_); refine v5 (dk := p5) G ⟨[(2, _, [0, 1, 15])], [], []⟩ (b6 (p7.lend (K1 (b) (j) D0 (by exact List.cons_ne_nil _ _) (by assumption) (by omega)) [.no, .no, .row 3]) b0) trivial (rg 7) (.box [.ref 1, iA (j + 1)] :: (L7 b vs ars bd [])) [(0, .ptr 0 0), (2, iA n), (4, .ptr 5 0), (6, .ptr 6 0), (7, iA (nm b j D0))] [] trivial fun ρ a w G => b9 (wp_seq ?_); refine D8 G [0, 1, 2, 3, 4, 5, 6, 23] (.box [.ref 1, iA (j + 1)] :: (L7 b vs ars bd [.box [iA (nm b j D0), iA 0, iA 0, iA 0, .v (.slice none 0 0), iA 0, iA 0, .v (.slice none 0 0), iA 0, .v (.slice none 0 0), .v (.slice none 0 0)]])) (ab2 b j n []) fun ρ a w G => b9 (wp_seq (wp_block (wp_seq ?_))); cases h0 : (nm b j D0 == (2 : Int))
  ·
   have q0 := ne_of_beq_false h0; refine m9 G ⟨[], [(nm b j D0 == (2 : Int), false)], us [(3, 6, 0), (1007, 1007, 0)]⟩ b0 ⟨(by assumption), trivial⟩ (ab2 b j n [(27, bA false)]) [] trivial fun ρ a w G => b9 ?_; refine rF G (false) (by kernel_rfl) ?_; refine wp_seq ?_; cases h1 : (nm b j D0 == (3 : Int))
   ·
    have q1 := ne_of_beq_false h1; refine m9 G ⟨[], [(nm b j D0 == (3 : Int), false)], [(3, 0), (4, 0), (1005, 0)]⟩ b0 ⟨(by assumption), trivial⟩ (ab2 b j n [(50, bA false)]) [] trivial fun ρ a w G => b9 ?_; refine rF G (false) (by kernel_rfl) ?_; refine wp_seq ?_; cases h2 : (nm b j D0 == (4 : Int))
    ·
     have q2 := ne_of_beq_false h2; refine m9 G ⟨[], [(nm b j D0 == (4 : Int), false)], [(3, 0), (4, 0), (1005, 0)]⟩ b0 ⟨(by assumption), trivial⟩ (ab2 b j n [(79, bA false)]) [] trivial fun ρ a w G => b9 ?_; refine rF G (false) (by kernel_rfl) ?_; refine wp_seq (wp_seq ?_); refine l0 G (O4 [(15, bA (nm b j D0 != 5))]) fun ρ a w G => b9 ?_; cases h3 : (nm b j D0 != (5 : Int))
     · have q3 := bne_eq_false_iff_eq.1 h3; refine rF G _ h3 ?_; refine wp_skip (b9 (wp_seq ?_)); refine v5 (dk := p5) G ⟨[(4, _, [0, 1])], [], []⟩ (b6 (o0 (b) (j + 1) ((↑vs.length : Int)) (by omega) (by omega)) b0) trivial (rg 8) (.box [.ref 1, iA (j + 1 + 1)] :: (L7 b vs ars bd [.box [iA (nm b j D0), iA (pk b (j + 1) (↑vs.length : Int)), iA 0, iA 0, .v (.slice none 0 0), iA 0, iA 0, .v (.slice none 0 0), iA 0, .v (.slice none 0 0), .v (.slice none 0 0)]])) (O4 []) [] trivial fun ρ a w G => b9 ?_; refine v5 (dk := p5) G ⟨[(2, _, (rg 5))], [], []⟩ (b6 (U7 (b) (vs) (ars) (bd) (j + 1 + 1) (by omega) (by omega)) b0) trivial [0, 1, 2, 3, 4, 6, 7, 24] (v7 b vs ars bd j [ad9, .box [iA (nm b j D0), iA (pk b (j + 1) (↑vs.length : Int)), iA 0, iA 0, .v (.slice none 0 0), iA (x5 b vs.length ars.length (j + 1 + 1)).fst.kind, iA (x5 b vs.length ars.length (j + 1 + 1)).fst.value, .tref 7, iA 0, .v (.slice none 0 0), .v (.slice none 0 0)], v9 b vs ars j]) [(6, .ptr 5 0), (8, .ptr 6 0)] [] trivial ?_; intro ρ a w G; refine o5 ?_; refine b9 (wp_seq ?_); refine D8 G [0, 1, 2, 3, 4, 5, 7] (v7 b vs ars bd j [.box [iA (nm b j D0), iA (pk b (j + 1) (↑vs.length : Int)), iA 0, iA 0, .v (.slice none 0 0), iA (x5 b vs.length ars.length (j + 1 + 1)).fst.kind, iA (x5 b vs.length ars.length (j + 1 + 1)).fst.value, .tref 6, iA 0, .v (.slice none 0 0), .v (.slice none 0 0)], v9 b vs ars j]) [(6, .ptr 5 0)] fun ρ a w G => b9 (wp_ret ?_); have Gx := G.nilT 7 (.exprs []) (v7 b vs ars bd j [aX3 b vs ars j, v9 b vs ars j]) [(6, .ptr 5 0)]; clear G; obtain ⟨ρ, G⟩ := Gx; replace G := p6.at G (v7 b vs ars bd j [aX3 b vs ars j, v9 b vs ars j, .tree (D.exprs [])]) [(6, .ptr 5 0)]; have Gx := G.nilT 8 (.stmts []) (v7 b vs ars bd j [aX2 b vs ars j, v9 b vs ars j, .tree (D.exprs [])]) [(6, .ptr 5 0)]; clear G; obtain ⟨ρ, G⟩ := Gx; replace G := p6.at G (v7 b vs ars bd j (aX2 b vs ars j :: v9 b vs ars j :: (N1 []))) [(6, .ptr 5 0)]; have Gx := G.nilT 9 (.stmts []) (v7 b vs ars bd j (aX1 b vs ars j :: v9 b vs ars j :: (N1 []))) [(6, .ptr 5 0)]; clear G; obtain ⟨ρ, G⟩ := Gx; replace G := p6.at G (v7 b vs ars bd j (aX1 b vs ars j :: v9 b vs ars j :: (N1 [.tree (D.stmts [])]))) [(6, .ptr 5 0)]; exact i7 (v := .agg [iA (nm b j D0), iA (pk b (j + 1) (↑vs.length : Int)), iA 0, iA 0, .tref 7, iA (x5 b vs.length ars.length (j + 1 + 1)).fst.kind, iA (x5 b vs.length ars.length (j + 1 + 1)).fst.value, .tref 6, iA 0, .tref 8, .tref 9]) G [0, 1, 2, 3, 4, 7, 6, 8, 9] (by kernel_rfl) (by kernel_rfl) (by show _ = List.map (It.ren (nth [0, 1, 2, 3, 4, 7, 6, 8, 9])) (N3 b vs ars bd d j); unfold N3; rw [X8 (by omega) (by omega), bg6 (by omega)] <;> rfl) (by show _ = AV.ren (nth [0, 1, 2, 3, 4, 7, 6, 8, 9]) (N2 b vs ars d j); unfold N2; have e1 : ((r7 b vs.length ars.length d j).fst.kind : Int) = (nm b j D0) := (by rw [X8 (by omega) (by omega), bg6 (by omega)]; show (5 : Int) = _; omega); rw [e1]; rw [X8 (by omega) (by omega), bg6 (by omega)] <;> rfl)
     · have q3 := bne_iff_ne.1 h3; refine rT G _ h3 ?_; refine D8 G (rg 8) (.box [.ref 1, iA (j + 1)] :: (L7 b vs ars bd [ay3])) (O4 []) fun ρ a w G => b9 (wp_seq ?_); refine v5 (dk := p5) G ⟨[(4, _, [0, 1])], [], []⟩ (b6 (o0 (b) (j + 1) ((↑vs.length : Int)) (by omega) (by omega)) b0) trivial (rg 8) (.box [.ref 1, iA (j + 1 + 1)] :: (L7 b vs ars bd [ay4 b vs j])) (O4 []) [] trivial fun ρ a w G => b9 ?_; refine v5 (dk := p5) G ⟨[(2, _, (rg 5))], [], []⟩ (b6 (U7 (b) (vs) (ars) (bd) (j + 1 + 1) (by omega) (by omega)) b0) trivial [0, 1, 2, 3, 4, 6, 7, 24] (v7 b vs ars bd j [ad9, ay6 b vs ars j, v9 b vs ars j]) [(6, .ptr 5 0), (8, .ptr 6 0)] [] trivial ?_; intro ρ a w G; refine o5 ?_; refine b9 (wp_seq ?_); refine D8 G [0, 1, 2, 3, 4, 5, 7] (v7 b vs ars bd j [ay5 b vs ars j, v9 b vs ars j]) [(6, .ptr 5 0)] fun ρ a w G => b9 (wp_ret ?_); have Gx := G.nilT 7 (.exprs []) (v7 b vs ars bd j [al2 b vs ars j, v9 b vs ars j]) [(6, .ptr 5 0)]; clear G; obtain ⟨ρ, G⟩ := Gx; replace G := p6.at G (v7 b vs ars bd j [al2 b vs ars j, v9 b vs ars j, .tree (D.exprs [])]) [(6, .ptr 5 0)]; have Gx := G.nilT 8 (.stmts []) (v7 b vs ars bd j [X3 b vs ars j, v9 b vs ars j, .tree (D.exprs [])]) [(6, .ptr 5 0)]; clear G; obtain ⟨ρ, G⟩ := Gx; replace G := p6.at G (v7 b vs ars bd j (X3 b vs ars j :: v9 b vs ars j :: (N1 []))) [(6, .ptr 5 0)]; have Gx := G.nilT 9 (.stmts []) (v7 b vs ars bd j (X2 b vs ars j :: v9 b vs ars j :: (N1 []))) [(6, .ptr 5 0)]; clear G; obtain ⟨ρ, G⟩ := Gx; replace G := p6.at G (v7 b vs ars bd j (X2 b vs ars j :: v9 b vs ars j :: (N1 [.tree (D.stmts [])]))) [(6, .ptr 5 0)]; exact i7 (v := .agg [iA 1, iA (pk b (j + 1) (↑vs.length : Int)), iA 0, iA 0, .tref 7, iA (x5 b vs.length ars.length (j + 1 + 1)).fst.kind, iA (x5 b vs.length ars.length (j + 1 + 1)).fst.value, .tref 6, iA 0, .tref 8, .tref 9]) G [0, 1, 2, 3, 4, 7, 6, 8, 9] (by kernel_rfl) (by kernel_rfl) (by show _ = List.map (It.ren (nth [0, 1, 2, 3, 4, 7, 6, 8, 9])) (N3 b vs ars bd d j); unfold N3; rw [X8 (by omega) (by omega), aI2 (by omega)] <;> rfl) (by show _ = AV.ren (nth [0, 1, 2, 3, 4, 7, 6, 8, 9]) (N2 b vs ars d j); unfold N2; rw [X8 (by omega) (by omega), aI2 (by omega)] <;> rfl)
    ·
     have q2 := eq_of_beq h2; refine m9 G ⟨[], [(nm b j D0 == (4 : Int), true)], [(3, 0), (4, 0), (1005, 0)]⟩ b0 ⟨(by assumption), trivial⟩ (ab2 b j n [(79, bA (decide (n > 1)))]) [] trivial fun ρ a w G => b9 ?_; cases h4 : (decide (n > (1 : Int)))
     ·
      have q4 := Y9 h4; refine rF G _ h4 ?_; refine wp_seq (wp_seq ?_); refine l0 G (O4 [(15, bA (nm b j D0 != 5))]) fun ρ a w G => b9 ?_; cases h5 : (nm b j D0 != (5 : Int))
      · have q5 := bne_eq_false_iff_eq.1 h5; exact False.elim (by omega)
      · have q5 := bne_iff_ne.1 h5; refine rT G _ h5 ?_; refine D8 G (rg 8) (.box [.ref 1, iA (j + 1)] :: (L7 b vs ars bd [ay3])) (O4 []) fun ρ a w G => b9 (wp_seq ?_); refine v5 (dk := p5) G ⟨[(4, _, [0, 1])], [], []⟩ (b6 (o0 (b) (j + 1) ((↑vs.length : Int)) (by omega) (by omega)) b0) trivial (rg 8) (.box [.ref 1, iA (j + 1 + 1)] :: (L7 b vs ars bd [ay4 b vs j])) (O4 []) [] trivial fun ρ a w G => b9 ?_; refine v5 (dk := p5) G ⟨[(2, _, (rg 5))], [], []⟩ (b6 (U7 (b) (vs) (ars) (bd) (j + 1 + 1) (by omega) (by omega)) b0) trivial [0, 1, 2, 3, 4, 6, 7, 24] (v7 b vs ars bd j [ad9, ay6 b vs ars j, v9 b vs ars j]) [(6, .ptr 5 0), (8, .ptr 6 0)] [] trivial ?_; intro ρ a w G; refine o5 ?_; refine b9 (wp_seq ?_); refine D8 G [0, 1, 2, 3, 4, 5, 7] (v7 b vs ars bd j [ay5 b vs ars j, v9 b vs ars j]) [(6, .ptr 5 0)] fun ρ a w G => b9 (wp_ret ?_); have Gx := G.nilT 7 (.exprs []) (v7 b vs ars bd j [al2 b vs ars j, v9 b vs ars j]) [(6, .ptr 5 0)]; clear G; obtain ⟨ρ, G⟩ := Gx; replace G := p6.at G (v7 b vs ars bd j [al2 b vs ars j, v9 b vs ars j, .tree (D.exprs [])]) [(6, .ptr 5 0)]; have Gx := G.nilT 8 (.stmts []) (v7 b vs ars bd j [X3 b vs ars j, v9 b vs ars j, .tree (D.exprs [])]) [(6, .ptr 5 0)]; clear G; obtain ⟨ρ, G⟩ := Gx; replace G := p6.at G (v7 b vs ars bd j (X3 b vs ars j :: v9 b vs ars j :: (N1 []))) [(6, .ptr 5 0)]; have Gx := G.nilT 9 (.stmts []) (v7 b vs ars bd j (X2 b vs ars j :: v9 b vs ars j :: (N1 []))) [(6, .ptr 5 0)]; clear G; obtain ⟨ρ, G⟩ := Gx; replace G := p6.at G (v7 b vs ars bd j (X2 b vs ars j :: v9 b vs ars j :: (N1 [.tree (D.stmts [])]))) [(6, .ptr 5 0)]; exact i7 (v := .agg [iA 1, iA (pk b (j + 1) (↑vs.length : Int)), iA 0, iA 0, .tref 7, iA (x5 b vs.length ars.length (j + 1 + 1)).fst.kind, iA (x5 b vs.length ars.length (j + 1 + 1)).fst.value, .tref 6, iA 0, .tref 8, .tref 9]) G [0, 1, 2, 3, 4, 7, 6, 8, 9] (by kernel_rfl) (by kernel_rfl) (by show _ = List.map (It.ren (nth [0, 1, 2, 3, 4, 7, 6, 8, 9])) (N3 b vs ars bd d j); unfold N3; rw [X8 (by omega) (by omega), aI2 (by omega)] <;> rfl) (by show _ = AV.ren (nth [0, 1, 2, 3, 4, 7, 6, 8, 9]) (N2 b vs ars d j); unfold N2; rw [X8 (by omega) (by omega), aI2 (by omega)] <;> rfl)
     · have q4 := Y8 h4; refine rT G _ h4 ?_; refine wp_seq ?_; refine v5 (dk := p5) G ⟨[(2, _, [0, 1, 16])], [], []⟩ (b6 (p7.lend (K1 (b) (j + 1) rcL (by simp [h0, h1, h2, h4]) (by omega) (by omega)) [.no, .no, .row 3]) b0) trivial (rg 8) (.box [.ref 1, iA (j + 1 + 1)] :: (L7 b vs ars bd [.box [iA (nm b j D0), iA 0, iA 0, iA 0, .v (.slice none 0 0), iA 0, iA 0, .v (.slice none 0 0), iA (nm b (j + 1) rcL), .v (.slice none 0 0), .v (.slice none 0 0)]])) [(0, .ptr 0 0), (2, iA n), (4, .ptr 5 0), (6, .ptr 6 0), (8, .ptr 7 0)] [] trivial fun ρ a w G => b9 ?_; refine rd1 (dk := p5) G ⟨[(6, _, [0, 1, 48]), (7, _, (rg 5))], [], []⟩ (b6 (p7.lend (K1 (b) (j + 1 + 1) rbL (by simp [h0, h1, h2, h4]) (by omega) (by omega)) [.no, .no, .row 3]) (b6 (ih (j + 1 + 1 + 1) (n - 1) (nm b (j + 1 + 1) rbL) (by omega) (by omega) (by omega) (by omega) (by omega) (by omega)) b0)) trivial [0, 0, 0, 4, 0, 0, 48, 127, 255, 511] [0, 1, 2, 3, 4, 6, 7, 64] (ak9 b vs ars bd d j [ad9, .box [iA (nm b j D0), iA 0, iA 0, iA 0, .v (.slice none 0 0), iA 0, iA 0, .v (.slice none 0 0), iA (nm b (j + 1) rcL), .tref 7, .v (.slice none 0 0)], .tree (D.stmts (ae0 b vs ars d j).fst)]) [(6, .ptr 5 0), (8, .ptr 6 0)] [IntKind.i64.wrap (n - (1 : Int)) = n - (1 : Int)] ⟨(by exact w6 (by omega) (by omega)), trivial⟩ ?_; intro ρ a w G; refine o5 ?_; refine b9 (wp_seq ?_); refine D8 G [0, 1, 2, 3, 4, 5, 7] (ak9 b vs ars bd d j [.box [iA (nm b j D0), iA 0, iA 0, iA 0, .v (.slice none 0 0), iA 0, iA 0, .v (.slice none 0 0), iA (nm b (j + 1) rcL), .tref 6, .v (.slice none 0 0)], .tree (D.stmts (ae0 b vs ars d j).fst)]) [(6, .ptr 5 0)] fun ρ a w G => b9 (wp_ret ?_); have Gx := G.nilT 7 (.exprs []) (ak9 b vs ars bd d j [.box [iA (nm b j D0), iA 0, iA 0, iA 0, .tref 7, iA 0, iA 0, .v (.slice none 0 0), iA (nm b (j + 1) rcL), .tref 6, .v (.slice none 0 0)], .tree (D.stmts (ae0 b vs ars d j).fst)]) [(6, .ptr 5 0)]; clear G; obtain ⟨ρ, G⟩ := Gx; replace G := p6.at G (ak9 b vs ars bd d j [.box [iA (nm b j D0), iA 0, iA 0, iA 0, .tref 7, iA 0, iA 0, .v (.slice none 0 0), iA (nm b (j + 1) rcL), .tref 6, .v (.slice none 0 0)], .tree (D.stmts (ae0 b vs ars d j).fst), .tree (D.exprs [])]) [(6, .ptr 5 0)]; have Gx := G.nilT 8 (.exprs []) (ak9 b vs ars bd d j [.box [iA (nm b j D0), iA 0, iA 0, iA 0, .tref 7, iA 0, iA 0, .tref 8, iA (nm b (j + 1) rcL), .tref 6, .v (.slice none 0 0)], .tree (D.stmts (ae0 b vs ars d j).fst), .tree (D.exprs [])]) [(6, .ptr 5 0)]; clear G; obtain ⟨ρ, G⟩ := Gx; replace G := p6.at G (ak9 b vs ars bd d j [.box [iA (nm b j D0), iA 0, iA 0, iA 0, .tref 7, iA 0, iA 0, .tref 8, iA (nm b (j + 1) rcL), .tref 6, .v (.slice none 0 0)], .tree (D.stmts (ae0 b vs ars d j).fst), .tree (D.exprs []), .tree (D.exprs [])]) [(6, .ptr 5 0)]; have Gx := G.nilT 9 (.stmts []) (ak9 b vs ars bd d j [.box [iA (nm b j D0), iA 0, iA 0, iA 0, .tref 7, iA 0, iA 0, .tref 8, iA (nm b (j + 1) rcL), .tref 6, .tref 9], .tree (D.stmts (ae0 b vs ars d j).fst), .tree (D.exprs []), .tree (D.exprs [])]) [(6, .ptr 5 0)]; clear G; obtain ⟨ρ, G⟩ := Gx; replace G := p6.at G (ak9 b vs ars bd d j (.box [iA (nm b j D0), iA 0, iA 0, iA 0, .tref 7, iA 0, iA 0, .tref 8, iA (nm b (j + 1) rcL), .tref 6, .tref 9] :: .tree (D.stmts (ae0 b vs ars d j).fst) :: .tree (D.exprs []) :: (N1 []))) [(6, .ptr 5 0)]; exact i7 (v := .agg [iA (nm b j D0), iA 0, iA 0, iA 0, .tref 7, iA 0, iA 0, .tref 8, iA (nm b (j + 1) rcL), .tref 6, .tref 9]) G [0, 1, 2, 3, 4, 7, 8, 6, 9] (by kernel_rfl) (by kernel_rfl) (by show _ = List.map (It.ren (nth [0, 1, 2, 3, 4, 7, 8, 6, 9])) (N3 b vs ars bd d j); unfold N3; rw [aK2 (by omega) (by omega)] <;> rfl) (by show _ = AV.ren (nth [0, 1, 2, 3, 4, 7, 8, 6, 9]) (N2 b vs ars d j); unfold N2; have e1 : ((r7 b vs.length ars.length d j).fst.kind : Int) = (nm b j D0) := (by rw [aK2 (by omega) (by omega)]; show (4 : Int) = _; omega); rw [e1]; rw [aK2 (by omega) (by omega)] <;> rfl)
   ·
    have q1 := eq_of_beq h1; refine m9 G ⟨[], [(nm b j D0 == (3 : Int), true)], [(3, 0), (4, 0), (1005, 0)]⟩ b0 ⟨(by assumption), trivial⟩ (ab2 b j n [(50, bA (decide (n > 1)))]) [] trivial fun ρ a w G => b9 ?_; cases h6 : (decide (n > (1 : Int)))
    ·
     have q6 := Y9 h6; refine rF G _ h6 ?_; refine wp_seq ?_; cases h7 : (nm b j D0 == (4 : Int))
     ·
      have q7 := ne_of_beq_false h7; refine m9 G ⟨[], [(nm b j D0 == (4 : Int), false)], [(3, 0), (4, 0), (1005, 0)]⟩ b0 ⟨(by assumption), trivial⟩ (ab2 b j n [(79, bA false)]) [] trivial fun ρ a w G => b9 ?_; refine rF G (false) (by kernel_rfl) ?_; refine wp_seq (wp_seq ?_); refine l0 G (O4 [(15, bA (nm b j D0 != 5))]) fun ρ a w G => b9 ?_; cases h8 : (nm b j D0 != (5 : Int))
      · have q8 := bne_eq_false_iff_eq.1 h8; exact False.elim (by omega)
      · have q8 := bne_iff_ne.1 h8; refine rT G _ h8 ?_; refine D8 G (rg 8) (.box [.ref 1, iA (j + 1)] :: (L7 b vs ars bd [ay3])) (O4 []) fun ρ a w G => b9 (wp_seq ?_); refine v5 (dk := p5) G ⟨[(4, _, [0, 1])], [], []⟩ (b6 (o0 (b) (j + 1) ((↑vs.length : Int)) (by omega) (by omega)) b0) trivial (rg 8) (.box [.ref 1, iA (j + 1 + 1)] :: (L7 b vs ars bd [ay4 b vs j])) (O4 []) [] trivial fun ρ a w G => b9 ?_; refine v5 (dk := p5) G ⟨[(2, _, (rg 5))], [], []⟩ (b6 (U7 (b) (vs) (ars) (bd) (j + 1 + 1) (by omega) (by omega)) b0) trivial [0, 1, 2, 3, 4, 6, 7, 24] (v7 b vs ars bd j [ad9, ay6 b vs ars j, v9 b vs ars j]) [(6, .ptr 5 0), (8, .ptr 6 0)] [] trivial ?_; intro ρ a w G; refine o5 ?_; refine b9 (wp_seq ?_); refine D8 G [0, 1, 2, 3, 4, 5, 7] (v7 b vs ars bd j [ay5 b vs ars j, v9 b vs ars j]) [(6, .ptr 5 0)] fun ρ a w G => b9 (wp_ret ?_); have Gx := G.nilT 7 (.exprs []) (v7 b vs ars bd j [al2 b vs ars j, v9 b vs ars j]) [(6, .ptr 5 0)]; clear G; obtain ⟨ρ, G⟩ := Gx; replace G := p6.at G (v7 b vs ars bd j [al2 b vs ars j, v9 b vs ars j, .tree (D.exprs [])]) [(6, .ptr 5 0)]; have Gx := G.nilT 8 (.stmts []) (v7 b vs ars bd j [X3 b vs ars j, v9 b vs ars j, .tree (D.exprs [])]) [(6, .ptr 5 0)]; clear G; obtain ⟨ρ, G⟩ := Gx; replace G := p6.at G (v7 b vs ars bd j (X3 b vs ars j :: v9 b vs ars j :: (N1 []))) [(6, .ptr 5 0)]; have Gx := G.nilT 9 (.stmts []) (v7 b vs ars bd j (X2 b vs ars j :: v9 b vs ars j :: (N1 []))) [(6, .ptr 5 0)]; clear G; obtain ⟨ρ, G⟩ := Gx; replace G := p6.at G (v7 b vs ars bd j (X2 b vs ars j :: v9 b vs ars j :: (N1 [.tree (D.stmts [])]))) [(6, .ptr 5 0)]; exact i7 (v := .agg [iA 1, iA (pk b (j + 1) (↑vs.length : Int)), iA 0, iA 0, .tref 7, iA (x5 b vs.length ars.length (j + 1 + 1)).fst.kind, iA (x5 b vs.length ars.length (j + 1 + 1)).fst.value, .tref 6, iA 0, .tref 8, .tref 9]) G [0, 1, 2, 3, 4, 7, 6, 8, 9] (by kernel_rfl) (by kernel_rfl) (by show _ = List.map (It.ren (nth [0, 1, 2, 3, 4, 7, 6, 8, 9])) (N3 b vs ars bd d j); unfold N3; rw [X8 (by omega) (by omega), aI2 (by omega)] <;> rfl) (by show _ = AV.ren (nth [0, 1, 2, 3, 4, 7, 6, 8, 9]) (N2 b vs ars d j); unfold N2; rw [X8 (by omega) (by omega), aI2 (by omega)] <;> rfl)
     · have q7 := eq_of_beq h7; exact False.elim (by omega)
    ·
     have q6 := Y8 h6; refine rT G _ h6 ?_; refine wp_seq ?_; refine v5 (dk := p5) G ⟨[(2, _, (rg 5))], [], []⟩ (b6 (U7 (b) (vs) (ars) (bd) (j + 1) (by omega) (by omega)) b0) trivial [0, 1, 2, 3, 4, 5, 6, 7, 24] (.box [.ref 1, iA (x5 b vs.length ars.length (j + 1)).snd] :: (L7 b vs ars bd [.box [iA (nm b j D0), iA 0, iA 0, iA 0, .v (.slice none 0 0), iA (x5 b vs.length ars.length (j + 1)).fst.kind, iA (x5 b vs.length ars.length (j + 1)).fst.value, .tref 8, iA 0, .v (.slice none 0 0), .v (.slice none 0 0)], ah9 b vs ars j])) [(0, .ptr 0 0), (2, iA n), (4, .ptr 5 0), (6, .ptr 6 0), (8, .ptr 7 0)] [] trivial fun ρ a w G => b9 (wp_seq ?_); refine rd1 (dk := p5) G ⟨[(6, _, [0, 1, 49]), (7, _, (rg 5))], [], []⟩ (b6 (p7.lend (K1 (b) ((x5 b vs.length ars.length (j + 1)).snd) ibL (by simp [h0, h1, h6]) (by omega) (by omega)) [.no, .no, .row 3]) (b6 (ih ((x5 b vs.length ars.length (j + 1)).snd + 1) (n - 1) (nm b (x5 b vs.length ars.length (j + 1)).snd ibL) (by omega) (by omega) (by omega) (by omega) (by omega) (by omega)) b0)) trivial [0, 0, 0, 4, 0, 0, 48, 127, 255, 511] [0, 1, 2, 3, 4, 5, 6, 7, 8, 65] (.box [.ref 1, iA (al4 b vs ars d j).snd] :: (L7 b vs ars bd [.box [iA (nm b j D0), iA 0, iA 0, iA 0, .v (.slice none 0 0), iA (x5 b vs.length ars.length (j + 1)).fst.kind, iA (x5 b vs.length ars.length (j + 1)).fst.value, .tref 8, iA 0, .tref 9, .v (.slice none 0 0)], ah9 b vs ars j, .tree (D.stmts (al4 b vs ars d j).fst)])) [(0, .ptr 0 0), (2, iA n), (4, .ptr 5 0), (6, .ptr 6 0), (8, .ptr 7 0)] [IntKind.i64.wrap (n - (1 : Int)) = n - (1 : Int)] ⟨(by exact w6 (by omega) (by omega)), trivial⟩ fun ρ a w G => b9 ?_; refine rd1 (dk := p5) G ⟨[(6, _, [0, 1, 50]), (7, _, (rg 5))], [], []⟩ (b6 (p7.lend (K1 (b) ((y7 (r7 b vs.length ars.length (d - 1)) (nm b (x5 b vs.length ars.length (j + 1)).snd ibL).toNat ((x5 b vs.length ars.length (j + 1)).snd + 1)).snd) ieL (by simp [h0, h1, h6]) (by omega) (by omega)) [.no, .no, .row 3]) (b6 (ih ((y7 (r7 b vs.length ars.length (d - 1)) (nm b (x5 b vs.length ars.length (j + 1)).snd ibL).toNat ((x5 b vs.length ars.length (j + 1)).snd + 1)).snd + 1) (n - 1) (nm b (y7 (r7 b vs.length ars.length (d - 1)) (nm b (x5 b vs.length ars.length (j + 1)).snd ibL).toNat ((x5 b vs.length ars.length (j + 1)).snd + 1)).snd ieL) (by omega) (by omega) (by omega) (by omega) (by omega) (by omega)) b0)) trivial [0, 0, 0, 4, 0, 0, 48, 127, 255, 511] [0, 1, 2, 3, 4, 6, 7, 8, 9, 66] [.box [.ref 1, iA (al3 b vs ars d j).snd], dY b, dI vs, dI ars, dT bd, ad9, .box [iA (nm b j D0), iA 0, iA 0, iA 0, .v (.slice none 0 0), iA (x5 b vs.length ars.length (j + 1)).fst.kind, iA (x5 b vs.length ars.length (j + 1)).fst.value, .tref 7, iA 0, .tref 8, .tref 9], ah9 b vs ars j, .tree (D.stmts (al4 b vs ars d j).fst), .tree (D.stmts (al3 b vs ars d j).fst)] [(6, .ptr 5 0), (8, .ptr 6 0)] [IntKind.i64.wrap (n - (1 : Int)) = n - (1 : Int)] ⟨(by exact w6 (by omega) (by omega)), trivial⟩ ?_; intro ρ a w G; refine o5 ?_; refine b9 (wp_seq ?_); refine D8 G [0, 1, 2, 3, 4, 5, 7, 8, 9] [.box [.ref 1, iA (al3 b vs ars d j).snd], dY b, dI vs, dI ars, dT bd, .box [iA (nm b j D0), iA 0, iA 0, iA 0, .v (.slice none 0 0), iA (x5 b vs.length ars.length (j + 1)).fst.kind, iA (x5 b vs.length ars.length (j + 1)).fst.value, .tref 6, iA 0, .tref 7, .tref 8], ah9 b vs ars j, .tree (D.stmts (al4 b vs ars d j).fst), .tree (D.stmts (al3 b vs ars d j).fst)] [(6, .ptr 5 0)] fun ρ a w G => b9 (wp_ret ?_); have Gx := G.nilT 9 (.exprs []) [.box [.ref 1, iA (al3 b vs ars d j).snd], dY b, dI vs, dI ars, dT bd, .box [iA (nm b j D0), iA 0, iA 0, iA 0, .tref 9, iA (x5 b vs.length ars.length (j + 1)).fst.kind, iA (x5 b vs.length ars.length (j + 1)).fst.value, .tref 6, iA 0, .tref 7, .tref 8], ah9 b vs ars j, .tree (D.stmts (al4 b vs ars d j).fst), .tree (D.stmts (al3 b vs ars d j).fst)] [(6, .ptr 5 0)]
     clear G; obtain ⟨ρ, G⟩ := Gx; replace G := p6.at G [.box [.ref 1, iA (al3 b vs ars d j).snd], dY b, dI vs, dI ars, dT bd, .box [iA (nm b j D0), iA 0, iA 0, iA 0, .tref 9, iA (x5 b vs.length ars.length (j + 1)).fst.kind, iA (x5 b vs.length ars.length (j + 1)).fst.value, .tref 6, iA 0, .tref 7, .tref 8], ah9 b vs ars j, .tree (D.stmts (al4 b vs ars d j).fst), .tree (D.stmts (al3 b vs ars d j).fst), .tree (D.exprs [])] [(6, .ptr 5 0)]; exact i7 (v := .agg [iA (nm b j D0), iA 0, iA 0, iA 0, .tref 9, iA (x5 b vs.length ars.length (j + 1)).fst.kind, iA (x5 b vs.length ars.length (j + 1)).fst.value, .tref 6, iA 0, .tref 7, .tref 8]) G [0, 1, 2, 3, 4, 9, 6, 7, 8] (by kernel_rfl) (by kernel_rfl) (by show _ = List.map (It.ren (nth [0, 1, 2, 3, 4, 9, 6, 7, 8])) (N3 b vs ars bd d j); unfold N3; rw [aK3 (by omega) (by omega)] <;> rfl) (by show _ = AV.ren (nth [0, 1, 2, 3, 4, 9, 6, 7, 8]) (N2 b vs ars d j); unfold N2; have e1 : ((r7 b vs.length ars.length d j).fst.kind : Int) = (nm b j D0) := (by rw [aK3 (by omega) (by omega)]; show (3 : Int) = _; omega); rw [e1]; rw [aK3 (by omega) (by omega)] <;> rfl)
  ·
   have q0 := eq_of_beq h0; refine m9 G ⟨[], [(nm b j D0 == (2 : Int), true)], us [(3, 6, 0), (1007, 1007, 0)]⟩ b0 ⟨(by assumption), trivial⟩ (ab2 b j n [(27, bA (decide ((↑ars.length : Int) > 0)))]) [] trivial fun ρ a w G => b9 ?_; cases h9 : (decide ((↑ars.length : Int) > (0 : Int)))
   ·
    have q9 := Y9 h9; refine rF G _ h9 ?_; refine wp_seq ?_; cases h10 : (nm b j D0 == (3 : Int))
    ·
     have q10 := ne_of_beq_false h10; refine m9 G ⟨[], [(nm b j D0 == (3 : Int), false)], [(3, 0), (4, 0), (1005, 0)]⟩ b0 ⟨(by assumption), trivial⟩ (ab2 b j n [(50, bA false)]) [] trivial fun ρ a w G => b9 ?_; refine rF G (false) (by kernel_rfl) ?_; refine wp_seq ?_; cases h11 : (nm b j D0 == (4 : Int))
     ·
      have q11 := ne_of_beq_false h11; refine m9 G ⟨[], [(nm b j D0 == (4 : Int), false)], [(3, 0), (4, 0), (1005, 0)]⟩ b0 ⟨(by assumption), trivial⟩ (ab2 b j n [(79, bA false)]) [] trivial fun ρ a w G => b9 ?_; refine rF G (false) (by kernel_rfl) ?_; refine wp_seq (wp_seq ?_); refine l0 G (O4 [(15, bA (nm b j D0 != 5))]) fun ρ a w G => b9 ?_; cases h12 : (nm b j D0 != (5 : Int))
      · have q12 := bne_eq_false_iff_eq.1 h12; exact False.elim (by omega)
      · have q12 := bne_iff_ne.1 h12; refine rT G _ h12 ?_; refine D8 G (rg 8) (.box [.ref 1, iA (j + 1)] :: (L7 b vs ars bd [ay3])) (O4 []) fun ρ a w G => b9 (wp_seq ?_); refine v5 (dk := p5) G ⟨[(4, _, [0, 1])], [], []⟩ (b6 (o0 (b) (j + 1) ((↑vs.length : Int)) (by omega) (by omega)) b0) trivial (rg 8) (.box [.ref 1, iA (j + 1 + 1)] :: (L7 b vs ars bd [ay4 b vs j])) (O4 []) [] trivial fun ρ a w G => b9 ?_; refine v5 (dk := p5) G ⟨[(2, _, (rg 5))], [], []⟩ (b6 (U7 (b) (vs) (ars) (bd) (j + 1 + 1) (by omega) (by omega)) b0) trivial [0, 1, 2, 3, 4, 6, 7, 24] (v7 b vs ars bd j [ad9, ay6 b vs ars j, v9 b vs ars j]) [(6, .ptr 5 0), (8, .ptr 6 0)] [] trivial ?_; intro ρ a w G; refine o5 ?_; refine b9 (wp_seq ?_); refine D8 G [0, 1, 2, 3, 4, 5, 7] (v7 b vs ars bd j [ay5 b vs ars j, v9 b vs ars j]) [(6, .ptr 5 0)] fun ρ a w G => b9 (wp_ret ?_); have Gx := G.nilT 7 (.exprs []) (v7 b vs ars bd j [al2 b vs ars j, v9 b vs ars j]) [(6, .ptr 5 0)]; clear G; obtain ⟨ρ, G⟩ := Gx; replace G := p6.at G (v7 b vs ars bd j [al2 b vs ars j, v9 b vs ars j, .tree (D.exprs [])]) [(6, .ptr 5 0)]; have Gx := G.nilT 8 (.stmts []) (v7 b vs ars bd j [X3 b vs ars j, v9 b vs ars j, .tree (D.exprs [])]) [(6, .ptr 5 0)]; clear G; obtain ⟨ρ, G⟩ := Gx; replace G := p6.at G (v7 b vs ars bd j (X3 b vs ars j :: v9 b vs ars j :: (N1 []))) [(6, .ptr 5 0)]; have Gx := G.nilT 9 (.stmts []) (v7 b vs ars bd j (X2 b vs ars j :: v9 b vs ars j :: (N1 []))) [(6, .ptr 5 0)]; clear G; obtain ⟨ρ, G⟩ := Gx; replace G := p6.at G (v7 b vs ars bd j (X2 b vs ars j :: v9 b vs ars j :: (N1 [.tree (D.stmts [])]))) [(6, .ptr 5 0)]; exact i7 (v := .agg [iA 1, iA (pk b (j + 1) (↑vs.length : Int)), iA 0, iA 0, .tref 7, iA (x5 b vs.length ars.length (j + 1 + 1)).fst.kind, iA (x5 b vs.length ars.length (j + 1 + 1)).fst.value, .tref 6, iA 0, .tref 8, .tref 9]) G [0, 1, 2, 3, 4, 7, 6, 8, 9] (by kernel_rfl) (by kernel_rfl) (by show _ = List.map (It.ren (nth [0, 1, 2, 3, 4, 7, 6, 8, 9])) (N3 b vs ars bd d j); unfold N3; rw [X8 (by omega) (by omega), aI2 (by omega)] <;> rfl) (by show _ = AV.ren (nth [0, 1, 2, 3, 4, 7, 6, 8, 9]) (N2 b vs ars d j); unfold N2; rw [X8 (by omega) (by omega), aI2 (by omega)] <;> rfl)
     · have q11 := eq_of_beq h11; exact False.elim (by omega)
    · have q10 := eq_of_beq h10; exact False.elim (by omega)
   · have q9 := Y8 h9; refine rT G _ h9 ?_; refine wp_seq ?_; refine v5 (dk := p5) G ⟨[(4, _, [0, 1])], [], []⟩ (b6 (o0 (b) (j + 1) ((↑ars.length : Int)) (by omega) (by omega)) b0) trivial (rg 8) (.box [.ref 1, iA (j + 1 + 1)] :: (L7 b vs ars bd [.box [iA (nm b j D0), iA (pk b (j + 1) (↑ars.length : Int)), iA 0, iA 0, .v (.slice none 0 0), iA 0, iA 0, .v (.slice none 0 0), iA 0, .v (.slice none 0 0), .v (.slice none 0 0)]])) (O4 []) [] trivial fun ρ a w G => b9 (wp_seq ?_); refine v5 (dk := p5) G ⟨[(2, _, (rg 5))], [], []⟩ (b6 (ad6 (b) (j + 1 + 1) (vs) (ars) (bd) (by omega) (by omega)) b0) trivial [0, 1, 2, 3, 4, 5, 6, 7, 24] (.box [.ref 1, iA (j + 1 + 1 + 2)] :: (L7 b vs ars bd [.box [iA (nm b j D0), iA (pk b (j + 1) (↑ars.length : Int)), iA (l7 b (↑vs.length : Int) (j + 1 + 1)).kind, iA (l7 b (↑vs.length : Int) (j + 1 + 1)).value, .tref 8, iA 0, iA 0, .v (.slice none 0 0), iA 0, .v (.slice none 0 0), .v (.slice none 0 0)], ac7 b vs j])) (O4 []) [] trivial fun ρ a w G => b9 ?_; refine v5 (dk := p5) G ⟨[(2, _, (rg 5))], [], []⟩ (b6 (U7 (b) (vs) (ars) (bd) (j + 1 + 1 + 2) (by omega) (by omega)) b0) trivial [0, 1, 2, 3, 4, 6, 7, 8, 25] [ai0 b vs ars j, dY b, dI vs, dI ars, dT bd, ad9, .box [iA (nm b j D0), iA (pk b (j + 1) (↑ars.length : Int)), iA (l7 b (↑vs.length : Int) (j + 1 + 1)).kind, iA (l7 b (↑vs.length : Int) (j + 1 + 1)).value, .tref 7, iA (x5 b vs.length ars.length (j + 1 + 1 + 2)).fst.kind, iA (x5 b vs.length ars.length (j + 1 + 1 + 2)).fst.value, .tref 8, iA 0, .v (.slice none 0 0), .v (.slice none 0 0)], ac7 b vs j, ai1 b vs ars j] [(6, .ptr 5 0), (8, .ptr 6 0)] [] trivial ?_; intro ρ a w G; refine o5 ?_; refine b9 (wp_seq ?_); refine D8 G [0, 1, 2, 3, 4, 5, 7, 8] [ai0 b vs ars j, dY b, dI vs, dI ars, dT bd, .box [iA (nm b j D0), iA (pk b (j + 1) (↑ars.length : Int)), iA (l7 b (↑vs.length : Int) (j + 1 + 1)).kind, iA (l7 b (↑vs.length : Int) (j + 1 + 1)).value, .tref 6, iA (x5 b vs.length ars.length (j + 1 + 1 + 2)).fst.kind, iA (x5 b vs.length ars.length (j + 1 + 1 + 2)).fst.value, .tref 7, iA 0, .v (.slice none 0 0), .v (.slice none 0 0)], ac7 b vs j, ai1 b vs ars j] [(6, .ptr 5 0)] fun ρ a w G => b9 (wp_ret ?_); have Gx := G.nilT 8 (.stmts []) [ai0 b vs ars j, dY b, dI vs, dI ars, dT bd, aX5 b vs ars j, ac7 b vs j, ai1 b vs ars j] [(6, .ptr 5 0)]; clear G; obtain ⟨ρ, G⟩ := Gx; replace G := p6.at G [ai0 b vs ars j, dY b, dI vs, dI ars, dT bd, aX5 b vs ars j, ac7 b vs j, ai1 b vs ars j, .tree (D.stmts [])] [(6, .ptr 5 0)]; have Gx := G.nilT 9 (.stmts []) [ai0 b vs ars j, dY b, dI vs, dI ars, dT bd, aX4 b vs ars j, ac7 b vs j, ai1 b vs ars j, .tree (D.stmts [])] [(6, .ptr 5 0)]; clear G; obtain ⟨ρ, G⟩ := Gx; replace G := p6.at G [ai0 b vs ars j, dY b, dI vs, dI ars, dT bd, aX4 b vs ars j, ac7 b vs j, ai1 b vs ars j, .tree (D.stmts []), .tree (D.stmts [])] [(6, .ptr 5 0)]; exact i7 (v := .agg [iA (nm b j D0), iA (pk b (j + 1) (↑ars.length : Int)), iA (l7 b (↑vs.length : Int) (j + 1 + 1)).kind, iA (l7 b (↑vs.length : Int) (j + 1 + 1)).value, .tref 6, iA (x5 b vs.length ars.length (j + 1 + 1 + 2)).fst.kind, iA (x5 b vs.length ars.length (j + 1 + 1 + 2)).fst.value, .tref 7, iA 0, .tref 8, .tref 9]) G [0, 1, 2, 3, 4, 6, 7, 8, 9] (by kernel_rfl) (by kernel_rfl) (by show _ = List.map (It.ren (nth [0, 1, 2, 3, 4, 6, 7, 8, 9])) (N3 b vs ars bd d j); unfold N3; rw [aZ1 (by omega) (by omega)] <;> rfl) (by show _ = AV.ren (nth [0, 1, 2, 3, 4, 6, 7, 8, 9]) (N2 b vs ars d j); unfold N2; have e1 : ((r7 b vs.length ars.length d j).fst.kind : Int) = (nm b j D0) := (by rw [aZ1 (by omega) (by omega)]; show (2 : Int) = _; omega); rw [e1]; rw [aZ1 (by omega) (by omega)] <;> rfl)
theorem aI8 (b : List UInt8) (vs ars : List Int) (bd : List d9) (d : Nat) (h : ∀ (j n : Int), n = d → 0 ≤ j → j + cS d ≤ 600000000 → p7.ok Try.prog (dsC b vs ars bd d j n)) (m : Nat) (j n c B : Int) (hn : n = d) (hm : c = m) (hm2 : m ≤ 4) (hB : (m : Int) * cS d ≤ B) (r0 : 0 ≤ j) (r1 : j + B ≤ 600000000) : p7.ok Try.prog (dbC b vs ars bd d m j n c) :=
 a84 b vs ars bd d m h j n c hn hm hm2 B hB r0 r1
theorem a54 (b : List UInt8) (vs ars : List Int) (bd : List d9) : ∀ (d : Nat), d ≤ 3 → ∀ (j n : Int), n = d → 0 ≤ j → j + cS d ≤ 600000000 → p7.ok Try.prog (dsC b vs ars bd d j n)
 | 0, hd, j, n, hn, r0, r1 => aZ7 b vs ars bd 0 (by omega) (fun j n c h => absurd h (by omega)) j n hn r0 r1
 | d + 1, hd, j, n, hn, r0, r1 => aZ7 b vs ars bd (d + 1) hd (fun j n c h hn h0 h2 r0 r1 => aI8 b vs ars bd d (a54 b vs ars bd d (by omega)) c.toNat j n c (2 * cS d) (by omega) (by omega) (by omega) (bj8 h0 h2 (Int.le_trans (by decide) (am7 d))) r0 (by simpa using r1)) j n hn r0 r1
theorem bm6 : cS 3 = 34170 := by decide
theorem bh2 (b : List UInt8) (vs ars : List Int) (bd : List d9) (j n c : Int) (hn : n = 3) (h0 : 0 ≤ c) (h4 : c ≤ 4) (r0 : 0 ≤ j) (r1 : j ≤ 100000000) : p7.ok Try.prog (dbC b vs ars bd 3 c.toNat j n c) :=
 aI8 b vs ars bd 3 (a54 b vs ars bd 3 (by omega)) c.toNat j n c (4 * cS 3) (by omega) (by omega) (by omega) (bo5 h0 h4 (by rw [bm6]; decide)) r0 (by rw [bm6]; omega)
abbrev pgC (b : List UInt8) (j : Int) : p7 := ⟨37, [.ptr 0 0], [.box [.ref 1, iA j], dY b], [.box [.ref 1, iA (r9 b j).2], dY b] ++ oP (m5 b j), oA 2⟩
theorem aQ7 {b : List UInt8} {l : List Int} {n i p : Int} (h : i > 0) (h2 : i ≤ n) : v8 b l (n - (i - 1)).toNat p = v8 b l (n - i).toNat p ++ [nm b (p + (n - i)) l] := by
 rw [show (n - (i - 1)).toNat = (n - i).toNat + 1 by omega, a23, show (((n - i).toNat : Nat) : Int) = n - i by omega]
theorem aQ6 {b : List UInt8} {l : List Int} {n p : Int} : v8 b l (n - n).toNat p = [] := by rw [Int.sub_self]; rfl
theorem an8 (vs ars : List Int) (bd : List d9) (hb : s5 bd ≤ 1048576) : p7.ok Try.prog (fnC 52 [pA 0] [dI vs, dI ars, dT bd] (bA (A0 ⟨vs, ars, bd⟩))) := Z5 ⟨vs, ars, bd⟩ hb
theorem bo3 {b : List UInt8} {j : Int} (h : A0 ⟨X6 b j, asD b j, (y7 (r7 b (X6 b j).length (asD b j).length 3) (nm b (kp2 b j) nbL).toNat (kp2 b j + 1)).1⟩ = true) : m5 b j = ⟨X6 b j, asD b j, (r9 b j).1⟩ := if_pos h
theorem bo2 {b : List UInt8} {j : Int} (h : A0 ⟨X6 b j, asD b j, (y7 (r7 b (X6 b j).length (asD b j).length 3) (nm b (kp2 b j) nbL).toNat (kp2 b j + 1)).1⟩ = false) : m5 b j = fbP := if_neg (by intro h2; have h3 : A0 ⟨X6 b j, asD b j, (y7 (r7 b (X6 b j).length (asD b j).length 3) (nm b (kp2 b j) nbL).toNat (kp2 b j + 1)).1⟩ = true := h2; rw [h] at h3; cases h3)
theorem bj3 (b : List UInt8) (j : Int) : j + 1 + (nm b j R7 - 0) = C5 b j := by unfold C5; omega
theorem bj2 (b : List UInt8) (j : Int) : v8 b viL (nm b j R7 - 0).toNat (j + 1) = X6 b j := by unfold X6; rw [Int.sub_zero]
theorem bj1 (b : List UInt8) (j : Int) : C5 b j + 1 + (nm b (C5 b j) Q6 - 0) = kp2 b j := by unfold kp2; omega
theorem bj0 (b : List UInt8) (j : Int) : v8 b aiL (nm b (C5 b j) Q6 - 0).toNat (C5 b j + 1) = asD b j := by unfold asD; rw [Int.sub_zero]
abbrev al1 (b : List UInt8) (j : Int) := y7 (r7 b (X6 b j).length (asD b j).length 3) (nm b (kp2 b j) nbL).toNat (kp2 b j + 1)
abbrev aP2 (b : List UInt8) (j : Int) : List It := [.box [.ref 1, iA (r9 b j).snd], dY b, .row 3 (D.ints (m5 b j).vars), .row 3 (D.ints (m5 b j).arrays), .tree (D.stmts (m5 b j).body)]
abbrev J5 : It := .box [.v (.slice none 0 0), .v (.slice none 0 0), .v (.slice none 0 0)]
abbrev av9 : It := .box [.ref 4, .v (.slice none 0 0), .v (.slice none 0 0)]
abbrev aX0 : It := .tree (D.stmts [d9.mk 1 1 (f5.mk 0 0 []) (f5.mk 2 0 []) 0 [] []])
theorem Z3 (b : List UInt8) (j : Int) (r0 : 0 ≤ j) (r1 : j ≤ 10000000) : p7.ok Try.prog (pgC b j) := by
  refine m8 52 Try.func37 (by rfl) (by kernel_rfl) (by kernel_rfl) ?_; intro ι φ ψ w0 w F ρ0 ρ a G; replace G := p6.at G [.box [.ref 1, iA j], dY b] [(0, .ptr 0 0)]; have hnv := bf4 b r0 (by omega); have hk1 := a32 b r0 r1; have hk2 := a31 b r0 r1; have hna := bf7 b (k := C5 b j) (by omega) (by omega); have hnb := bj6 b (k := kp2 b j) (by omega) (by omega); have hvl := aX7 b r0 r1; have hal := a68 b r0 r1; have hbd := a66 b r0 r1; have hbs : s5 (y7 (r7 b (X6 b j).length (asD b j).length 3) (nm b (kp2 b j) nbL).toNat (kp2 b j + 1)).1 ≤ 1048576 := Nat.le_trans hbd.2.2 (by omega); refine wp_seq ?_; refine D8 G [0, 1, 2] [.box [.ref 1, iA j], dY b, J5] [(0, .ptr 0 0), (2, .ptr 2 0)] fun ρ a w G => b9 (wp_seq ?_); refine D8 G [0, 1, 2, 11] [.box [.ref 1, iA j], dY b, J5, J5] [(0, .ptr 0 0), (2, .ptr 2 0), (3, .ptr 3 0)] fun ρ a w G => b9 (wp_seq (wp_seq ?_)); refine v5 (dk := p5) G ⟨[(2, _, [0, 1, 12])], [], []⟩ (b6 (p7.lend (K1 (b) (j) R7 (by exact List.cons_ne_nil _ _) (by assumption) (by omega)) [.no, .no, .row 3]) b0) trivial (rg 4) [.box [.ref 1, iA (j + 1)], dY b, J5, J5] [(0, .ptr 0 0), (2, .ptr 2 0), (3, .ptr 3 0), (4, iA (nm b j R7))] [] trivial fun ρ a w G => b9 (wp_block ?_); have Gx := G.nil 4 3 (.ints []) 1 [.box [.ref 1, iA (j + 1)], dY b, J5, av9] [(0, .ptr 0 0), (2, .ptr 2 0), (3, .ptr 3 0), (4, iA (nm b j R7))]; clear G; obtain ⟨ρ, G⟩ := Gx; replace G := p6.at G [.box [.ref 1, iA (j + 1)], dY b, J5, av9, .row 3 (D.ints [])] [(0, .ptr 0 0), (2, .ptr 2 0), (3, .ptr 3 0), (4, iA (nm b j R7))]; replace G := G.as [.box [.ref 1, iA (j + 1 + (nm b j R7 - nm b j R7))], dY b, .box [.v (.slice none 0 0), .v (.slice none 0 0), .v (.slice none 0 0)], .box [.ref 4, .v (.slice none 0 0), .v (.slice none 0 0)], .row 3 (D.ints (v8 b viL (nm b j R7 - nm b j R7).toNat (j + 1)))] [(0, .ptr 0 0), (2, .ptr 2 0), (3, .ptr 3 0), (4, iA (nm b j R7))] (by have e1 : (j + 1 + (nm b j R7 - nm b j R7) : Int) = (j + 1) := (by omega); have e2 : (v8 b viL (nm b j R7 - nm b j R7).toNat (j + 1) : List Int) = ([]) := (by exact aQ6); (first | rw [e1, e2] | simp only [e1, e2]) <;> rfl) (by kernel_rfl); refine F4 (κ := Int) (fun i => 0 ≤ i ∧ i ≤ nm b j R7) (fun i => i.toNat) (fun i => [.box [.ref 1, iA (j + 1 + (nm b j R7 - i))], dY b, J5, av9, .row 3 (.ints (v8 b viL (nm b j R7 - i).toNat (j + 1)))]) (fun i => [(0, .ptr 0 0), (2, .ptr 2 0), (3, .ptr 3 0), (4, iA i)]) (nm b j R7) (by omega) (p6.at G _ _) ?_; clear G; intro i ρ a w hp G; replace G := p6.at G [.box [.ref 1, iA (j + 1 + (nm b j R7 - i))], dY b, J5, av9, .row 3 (D.ints (v8 b viL (nm b j R7 - i).toNat (j + 1)))] [(0, .ptr 0 0), (2, .ptr 2 0), (3, .ptr 3 0), (4, iA i)]; have hlen : (v8 b viL (nm b j R7 - i).toNat (j + 1)).length = (nm b j R7 - i).toNat := Q5 _ _ _ _; refine wp_seq (wp_seq ?_); refine l0 G [(0, .ptr 0 0), (2, .ptr 2 0), (3, .ptr 3 0), (4, iA i), (11, bA (decide (i > 0)))] fun ρ a w G => b9 ?_; cases h0 : (decide (i > (0 : Int)))
  ·
   have q0 := Y9 h0
   obtain rfl : i = 0 := by omega
   rw [bj3, bj2] at G; refine rF G (false) (by kernel_rfl) ?_; refine wp_exit (D9 (D9 (D7 (b9 (wp_seq (wp_seq ?_)))))); refine v5 (dk := p5) G ⟨[(2, _, [0, 1, 13])], [], []⟩ (b6 (p7.lend (K1 (b) (C5 b j) Q6 (by simp [h0]) (by omega) (by omega)) [.no, .no, .row 3]) b0) trivial (rg 5) [.box [.ref 1, iA (C5 b j + 1)], dY b, J5, av9, .row 3 (D.ints (X6 b j))] [(0, .ptr 0 0), (2, .ptr 2 0), (3, .ptr 3 0), (5, iA (nm b (C5 b j) Q6))] [] trivial fun ρ a w G => b9 (wp_block ?_); have Gx := G.nil 5 3 (.ints []) 1 [.box [.ref 1, iA (C5 b j + 1)], dY b, J5, .box [.ref 4, .ref 5, .v (.slice none 0 0)], .row 3 (D.ints (X6 b j))] [(0, .ptr 0 0), (2, .ptr 2 0), (3, .ptr 3 0), (5, iA (nm b (C5 b j) Q6))]; clear G; obtain ⟨ρ, G⟩ := Gx; replace G := p6.at G [.box [.ref 1, iA (C5 b j + 1)], dY b, J5, .box [.ref 4, .ref 5, .v (.slice none 0 0)], .row 3 (D.ints (X6 b j)), .row 3 (D.ints [])] [(0, .ptr 0 0), (2, .ptr 2 0), (3, .ptr 3 0), (5, iA (nm b (C5 b j) Q6))]; have Gx := G.nilT 6 (.stmts []) [.box [.ref 1, iA (C5 b j + 1)], dY b, J5, .box [.ref 4, .ref 5, .tref 6], .row 3 (D.ints (X6 b j)), .row 3 (D.ints [])] [(0, .ptr 0 0), (2, .ptr 2 0), (3, .ptr 3 0), (5, iA (nm b (C5 b j) Q6))]; clear G; obtain ⟨ρ, G⟩ := Gx; replace G := p6.at G [.box [.ref 1, iA (C5 b j + 1)], dY b, J5, .box [.ref 4, .ref 5, .tref 6], .row 3 (D.ints (X6 b j)), .row 3 (D.ints []), .tree (D.stmts [])] [(0, .ptr 0 0), (2, .ptr 2 0), (3, .ptr 3 0), (5, iA (nm b (C5 b j) Q6))]; replace G := G.as [.box [.ref 1, iA (C5 b j + 1 + (nm b (C5 b j) Q6 - nm b (C5 b j) Q6))], dY b, .box [.v (.slice none 0 0), .v (.slice none 0 0), .v (.slice none 0 0)], .box [.ref 4, .ref 5, .tref 6], .row 3 (D.ints (X6 b j)), .row 3 (D.ints (v8 b aiL (nm b (C5 b j) Q6 - nm b (C5 b j) Q6).toNat (C5 b j + 1))), .tree (D.stmts [])] [(0, .ptr 0 0), (2, .ptr 2 0), (3, .ptr 3 0), (5, iA (nm b (C5 b j) Q6))] (by have e1 : (C5 b j + 1 + (nm b (C5 b j) Q6 - nm b (C5 b j) Q6) : Int) = (C5 b j + 1) := (by simp [h0]); have e2 : (v8 b aiL (nm b (C5 b j) Q6 - nm b (C5 b j) Q6).toNat (C5 b j + 1) : List Int) = ([]) := (by exact aQ6); (first | rw [e1, e2] | simp only [e1, e2]) <;> rfl) (by kernel_rfl); refine F4 (κ := Int) (fun i2 => 0 ≤ i2 ∧ i2 ≤ nm b (C5 b j) Q6) (fun i2 => i2.toNat) (fun i2 => [.box [.ref 1, iA (C5 b j + 1 + (nm b (C5 b j) Q6 - i2))], dY b, J5, .box [.ref 4, .ref 5, .tref 6], .row 3 (D.ints (X6 b j)), .row 3 (.ints (v8 b aiL (nm b (C5 b j) Q6 - i2).toNat (C5 b j + 1))), .tree (D.stmts [])]) (fun i2 => [(0, .ptr 0 0), (2, .ptr 2 0), (3, .ptr 3 0), (5, iA i2)]) (nm b (C5 b j) Q6) (by omega) (p6.at G _ _) ?_; clear G; intro i2 ρ a w hp G; replace G := p6.at G [.box [.ref 1, iA (C5 b j + 1 + (nm b (C5 b j) Q6 - i2))], dY b, J5, .box [.ref 4, .ref 5, .tref 6], .row 3 (D.ints (X6 b j)), .row 3 (D.ints (v8 b aiL (nm b (C5 b j) Q6 - i2).toNat (C5 b j + 1))), .tree (D.stmts [])] [(0, .ptr 0 0), (2, .ptr 2 0), (3, .ptr 3 0), (5, iA i2)]; have hlen : (v8 b aiL (nm b (C5 b j) Q6 - i2).toNat (C5 b j + 1)).length = (nm b (C5 b j) Q6 - i2).toNat := Q5 _ _ _ _; refine wp_seq (wp_seq ?_); refine l0 G [(0, .ptr 0 0), (2, .ptr 2 0), (3, .ptr 3 0), (5, iA i2), (26, bA (decide (i2 > 0)))] fun ρ a w G => b9 ?_; cases h1 : (decide (i2 > (0 : Int)))
   ·
    have q1 := Y9 h1
    obtain rfl : i2 = 0 := by omega
    rw [bj1, bj0] at G; refine rF G (false) (by kernel_rfl) ?_; refine wp_exit (D9 (D9 (D7 (b9 (wp_seq ?_))))); refine rd1 (dk := p5) G ⟨[(4, _, [0, 1, 31]), (5, _, [0, 1, 4, 5, 6])], [], []⟩ (b6 (p7.lend (K1 (b) (kp2 b j) nbL (by simp [h0, h1]) (by omega) (by omega)) [.no, .no, .row 3]) (b6 (p7.lend (bh2 (b) (X6 b j) (asD b j) ([]) (kp2 b j + 1) (3) (nm b (kp2 b j) nbL) (by kernel_rfl) (by omega) (by omega) (by omega) (by omega)) [.no, .no, .row 3, .row 3, .tree]) b0)) trivial [0, 0, 0, 0, 12, 31, 63, 127] [0, 1, 2, 3, 4, 5, 47] [.box [.ref 1, iA (al1 b j).snd], dY b, J5, .box [.ref 4, .ref 5, .tref 6], .row 3 (D.ints (X6 b j)), .row 3 (D.ints (asD b j)), .tree (D.stmts (al1 b j).fst)] [(2, .ptr 2 0), (3, .ptr 3 0)] [] trivial fun ρ a w G => b9 (wp_seq (wp_seq ?_)); refine m9 G ⟨[(1, _, [4, 5, 6])], [], []⟩ (b6 (p7.lend (an8 (X6 b j) (asD b j) ((y7 (r7 b (X6 b j).length (asD b j).length 3) (nm b (kp2 b j) nbL).toNat (kp2 b j + 1)).fst) (by assumption)) [.row 3, .row 3, .tree]) b0) trivial [(2, .ptr 2 0), (3, .ptr 3 0), (45, bA (A0 (m6.mk (X6 b j) (asD b j) (al1 b j).fst)))] [] trivial fun ρ a w G => b9 ?_; cases h2 : (A0 (m6.mk (X6 b j) (asD b j) (y7 (r7 b (X6 b j).length (asD b j).length (3 : Nat)) (nm b (kp2 b j) nbL).toNat (kp2 b j + (1 : Int))).fst))
    · refine rF G _ h2 ?_; refine wp_skip (b9 (wp_seq ?_)); refine D8 G [0, 1, 2, 7, 31] [.box [.ref 1, iA (al1 b j).snd], dY b, .box [.ref 3, .v (.slice none 0 0), .tref 4], .row 3 (D.ints ([0] ++ ([1] ++ []))), aX0] [(2, .ptr 2 0)] fun ρ a w G => b9 (wp_ret ?_); have Gx := G.nil 5 3 (.ints []) 1 [.box [.ref 1, iA (al1 b j).snd], dY b, .box [.ref 3, .ref 5, .tref 4], .row 3 (D.ints ([0] ++ ([1] ++ []))), aX0] [(2, .ptr 2 0)]; clear G; obtain ⟨ρ, G⟩ := Gx; replace G := p6.at G [.box [.ref 1, iA (al1 b j).snd], dY b, .box [.ref 3, .ref 5, .tref 4], .row 3 (D.ints ([0] ++ ([1] ++ []))), aX0, .row 3 (D.ints [])] [(2, .ptr 2 0)]; exact i7 (v := .agg [.ref 3, .ref 5, .tref 4]) G [0, 1, 3, 5, 4] (by kernel_rfl) (by kernel_rfl) (by show _ = List.map (It.ren (nth [0, 1, 3, 5, 4])) (aP2 b j); unfold aP2; rw [bo2 (by with_reducible assumption)] <;> rfl) (by kernel_rfl)
    · refine rT G _ h2 ?_; refine wp_seq ?_; refine D8 G [0, 1, 2, 4, 5, 6] [.box [.ref 1, iA (al1 b j).snd], dY b, .box [.ref 3, .ref 4, .tref 5], .row 3 (D.ints (X6 b j)), .row 3 (D.ints (asD b j)), .tree (D.stmts (al1 b j).fst)] [(2, .ptr 2 0)] fun ρ a w G => b9 (wp_ret (H5 ?_)); exact i7 (v := .agg [.ref 3, .ref 4, .tref 5]) G [0, 1, 3, 4, 5] (by kernel_rfl) (by kernel_rfl) (by show _ = List.map (It.ren (nth [0, 1, 3, 4, 5])) (aP2 b j); unfold aP2; rw [bo3 (by with_reducible assumption)] <;> rfl) (by kernel_rfl)
   · have q1 := Y8 h1; refine rT G _ h1 ?_; refine wp_skip (b9 (wp_seq (wp_block ?_))); refine rd1 (dk := p5) G ⟨[(4, _, [0, 1, 31])], [], []⟩ (b6 (p7.lend (K1 (b) (C5 b j + 1 + (nm b (C5 b j) Q6 - i2)) aiL (by simp [h0, h1]) (by omega) (by omega)) [.no, .no, .row 3]) b0) trivial [0, 1, 0, 0, 12, 28, 63, 127, 255] [0, 1, 2, 3, 4, 6, 55] [.box [.ref 1, iA (C5 b j + 1 + (nm b (C5 b j) Q6 - i2) + 1)], dY b, J5, .box [.ref 4, .ref 6, .tref 5], .row 3 (D.ints (X6 b j)), .tree (D.stmts []), .row 3 (D.ints (v8 b aiL (nm b (C5 b j) Q6 - i2).toNat (C5 b j + 1) ++ ([nm b (C5 b j + 1 + (nm b (C5 b j) Q6 - i2)) aiL] ++ [])))] [(0, .ptr 0 0), (2, .ptr 2 0), (3, .ptr 3 0), (5, iA i2)] [(v8 b aiL (nm b (C5 b j) Q6 - i2).toNat (C5 b j + (1 : Int))).length + ([nm b (C5 b j + (1 : Int) + (nm b (C5 b j) Q6 - i2)) aiL] ++ []).length ≤ (9223372036854775807 : Nat), ((v8 b aiL (nm b (C5 b j) Q6 - i2).toNat (C5 b j + (1 : Int))).length + ([nm b (C5 b j + (1 : Int) + (nm b (C5 b j) Q6 - i2)) aiL] ++ []).length) * (8 : Nat) ≤ (140737488355328 : Nat)] ⟨(by simp only [List.length_append, List.length_cons, List.length_nil, Q5]; omega), (by simp only [List.length_append, List.length_cons, List.length_nil, Q5]; omega), trivial⟩ ?_; intro ρ a w G; refine o5 ?_; refine b9 ?_; refine m9 G ⟨[], [], []⟩ b0 trivial [(0, .ptr 0 0), (2, .ptr 2 0), (3, .ptr 3 0), (5, iA (i2 - 1))] [IntKind.i64.wrap (i2 - (1 : Int)) = i2 - (1 : Int)] ⟨(by exact w6 (by omega) (by omega)), trivial⟩ fun ρ a w G => b9 ?_; exact m0 G (i2 - 1) (by omega) (by omega) [0, 1, 2, 3, 4, 6, 5] [.box [.ref 1, iA (C5 b j + 1 + (nm b (C5 b j) Q6 - (i2 - 1)))], dY b, .box [.v (.slice none 0 0), .v (.slice none 0 0), .v (.slice none 0 0)], .box [.ref 4, .ref 5, .tref 6], .row 3 (D.ints (X6 b j)), .row 3 (D.ints (v8 b aiL (nm b (C5 b j) Q6 - (i2 - 1)).toNat (C5 b j + 1))), .tree (D.stmts [])] [(0, .ptr 0 0), (2, .ptr 2 0), (3, .ptr 3 0), (5, iA (i2 - 1))] (by kernel_rfl) (by kernel_rfl) (by kernel_rfl) (by have e1 : (C5 b j + 1 + (nm b (C5 b j) Q6 - (i2 - 1)) : Int) = (C5 b j + 1 + (nm b (C5 b j) Q6 - i2) + 1) := (by omega); have e2 : (v8 b aiL (nm b (C5 b j) Q6 - (i2 - 1)).toNat (C5 b j + 1) : List Int) = (v8 b aiL (nm b (C5 b j) Q6 - i2).toNat (C5 b j + 1) ++ ([nm b (C5 b j + 1 + (nm b (C5 b j) Q6 - i2)) aiL] ++ [])) := (by exact aQ7 (by omega) (by omega)); (first | rw [e1, e2] | simp only [e1, e2]) <;> rfl) (by kernel_rfl)
  · have q0 := Y8 h0; refine rT G _ h0 ?_; refine wp_skip (b9 (wp_seq (wp_block ?_))); refine rd1 (dk := p5) G ⟨[(4, _, [0, 1, 29])], [], []⟩ (b6 (p7.lend (K1 (b) (j + 1 + (nm b j R7 - i)) viL (by simp [h0]) (by omega) (by omega)) [.no, .no, .row 3]) b0) trivial [0, 1, 0, 0, 12, 28, 63, 127, 255] [0, 1, 2, 3, 53] [.box [.ref 1, iA (j + 1 + (nm b j R7 - i) + 1)], dY b, J5, av9, .row 3 (D.ints (v8 b viL (nm b j R7 - i).toNat (j + 1) ++ ([nm b (j + 1 + (nm b j R7 - i)) viL] ++ [])))] [(0, .ptr 0 0), (2, .ptr 2 0), (3, .ptr 3 0), (4, iA i)] [(v8 b viL (nm b j R7 - i).toNat (j + (1 : Int))).length + ([nm b (j + (1 : Int) + (nm b j R7 - i)) viL] ++ []).length ≤ (9223372036854775807 : Nat), ((v8 b viL (nm b j R7 - i).toNat (j + (1 : Int))).length + ([nm b (j + (1 : Int) + (nm b j R7 - i)) viL] ++ []).length) * (8 : Nat) ≤ (140737488355328 : Nat)] ⟨(by simp only [List.length_append, List.length_cons, List.length_nil, Q5]; omega), (by simp only [List.length_append, List.length_cons, List.length_nil, Q5]; omega), trivial⟩ ?_; intro ρ a w G; refine o5 ?_; refine b9 ?_; refine m9 G ⟨[], [], []⟩ b0 trivial [(0, .ptr 0 0), (2, .ptr 2 0), (3, .ptr 3 0), (4, iA (i - 1))] [IntKind.i64.wrap (i - (1 : Int)) = i - (1 : Int)] ⟨(by exact w6 (by omega) (by omega)), trivial⟩ fun ρ a w G => b9 ?_; exact m0 G (i - 1) (by omega) (by omega) (rg 5) [.box [.ref 1, iA (j + 1 + (nm b j R7 - (i - 1)))], dY b, .box [.v (.slice none 0 0), .v (.slice none 0 0), .v (.slice none 0 0)], .box [.ref 4, .v (.slice none 0 0), .v (.slice none 0 0)], .row 3 (D.ints (v8 b viL (nm b j R7 - (i - 1)).toNat (j + 1)))] [(0, .ptr 0 0), (2, .ptr 2 0), (3, .ptr 3 0), (4, iA (i - 1))] (by kernel_rfl) (by kernel_rfl) (by kernel_rfl) (by have e1 : (j + 1 + (nm b j R7 - (i - 1)) : Int) = (j + 1 + (nm b j R7 - i) + 1) := (by omega); have e2 : (v8 b viL (nm b j R7 - (i - 1)).toNat (j + 1) : List Int) = (v8 b viL (nm b j R7 - i).toNat (j + 1) ++ ([nm b (j + 1 + (nm b j R7 - i)) viL] ++ [])) := (by exact aQ7 (by omega) (by omega)); (first | rw [e1, e2] | simp only [e1, e2]) <;> rfl) (by kernel_rfl)
section
variable {b : List UInt8} {p : m6} {j : Int}
end
def ag3 (k v r : Int) : d8 := if k = 3 then ⟨4, r, v, r, 0⟩ else if k = 11 then ⟨7, r, r, r + 1, r + 2⟩ else ⟨6, r, k, r, r + 1⟩
mutual
def b5 : f5 → Int → List d8
 | ⟨k, v, ks⟩, r => if k = 1 then [⟨1, r, v, 0, 0⟩] else if k = 2 then [⟨2, r, v, 0, 0⟩] else k8 ks r ++ [ag3 k v r]
def k8 : List f5 → Int → List d8
 | [], _ => []
 | e :: t, r => b5 e r ++ k8 t (r + 1)
end
theorem aa9 (e : f5) (r : Int) : b5 e r = if e.kind = 1 then [⟨1, r, e.value, 0, 0⟩] else if e.kind = 2 then [⟨2, r, e.value, 0, 0⟩] else k8 e.kids r ++ [ag3 e.kind e.value r] := by cases e; rw [b5]; rfl
theorem ac2 : ∀ (a b : List f5) (r : Int), k8 (a ++ b) r = k8 a r ++ k8 b (r + a.length)
 | [], b, r => by simp [k8]
 | e :: t, b, r => by
  simp only [List.cons_append, k8, List.append_assoc]
  rw [ac2 t b (r + 1)]
  congr 2
  simp only [List.length_cons]
  rw [show r + 1 + (t.length : Int) = r + ((t.length + 1 : Nat) : Int) by omega]
theorem am6 {ks : List f5} {k : Nat} {r : Int} (hk : k < ks.length) : k8 (ks.take (k + 1)) r = k8 (ks.take k) r ++ b5 (ks.getD k default) (r + k) := by
 rw [t6 _ _ hk, ac2, A7 hk]
 simp [k8, List.length_take, Nat.min_eq_left (Nat.le_of_lt hk)]
mutual
theorem O3 : ∀ (e : f5) (r : Int), (b5 e r).length ≤ 1 + L9 e
 | ⟨k, v, ks⟩, r => by
  have h := U6 ks r
  rw [b5]
  simp only [L9]
  split
  ·simp
  ·split
   ·simp
   ·simp only [List.length_append, List.length_cons, List.length_nil]; omega
theorem U6 : ∀ (ks : List f5) (r : Int), (k8 ks r).length ≤ G2 ks
 | [], _ => by simp [k8]
 | e :: t, r => by
  have h1 := O3 e r
  have h2 := U6 t (r + 1)
  simp only [k8, G2, List.length_append]; omega
end
abbrev F8 : Type := List d8 × List Int × Int
def D3 (x : F8) (n : Int) (c : List d8) : F8 := (x.1 ++ c, x.2.1 ++ List.replicate c.length n, x.2.2)
def a12 (l : List d8) (i : Nat) (n : Int) : List d8 := l.set i ⟨(l.getD i default).op, (l.getD i default).a, n, (l.getD i default).c, (l.getD i default).d⟩
def be7 (l : List d8) (i : Nat) (n : Int) : List d8 := l.set i ⟨(l.getD i default).op, n, (l.getD i default).b, (l.getD i default).c, (l.getD i default).d⟩
mutual
def K4 : d9 → Int → F8 → F8
 | ⟨k, t, i, v, c, b, e⟩, d, x =>
  if k = 4 then D3 (k6 b (d + 1) (D3 (x.1, x.2.1, x.2.2 + 1) x.2.2 [⟨1, 9 + d, c, 0, 0⟩])) x.2.2 [⟨10, 9 + d, ((x.1.length + 1 : Nat) : Int), 0, 0⟩]
  else if k = 1 then D3 (D3 (x.1, x.2.1, x.2.2 + 1) x.2.2 (b5 v 0)) x.2.2 [⟨3, t, 0, 0, 0⟩]
  else if k = 5 then D3 (D3 (D3 (x.1, x.2.1, x.2.2 + 1) x.2.2 (b5 v 0)) x.2.2 [⟨11, 0, 0, 0, 0⟩]) x.2.2 [⟨3, t, 0, 0, 0⟩]
  else if k = 2 then D3 (D3 (D3 (x.1, x.2.1, x.2.2 + 1) x.2.2 (b5 v 0)) x.2.2 (b5 i 1)) x.2.2 [⟨5, t, 1, 0, 0⟩]
  else
   (fun (y : F8) =>
    (fun (z : F8) =>
     (fun (u : F8) => (be7 u.1 (z.1.length - 1) (u.1.length : Int), u.2)) (k6 e (d + 1) (a12 z.1 y.1.length (z.1.length : Int), z.2)))
    (D3 (k6 b (d + 1) (D3 y x.2.2 [⟨9, 0, 0, 0, 0⟩])) x.2.2 [⟨8, 0, 0, 0, 0⟩]))
   (D3 (x.1, x.2.1, x.2.2 + 1) x.2.2 (b5 v 0))
def k6 : List d9 → Int → F8 → F8
 | [], _, x => x
 | s :: r, d, x => k6 r d (K4 s d x)
end
theorem aN8 (a b : List d9) (d : Int) (x : F8) : k6 (a ++ b) d x = k6 b d (k6 a d x) := by
 induction a generalizing x with
 | nil => rfl
 | cons s r ih => simp only [List.cons_append, k6]; exact ih _
theorem at7 {ss : List d9} {k : Nat} {d : Int} {x : F8} (hk : k < ss.length) : k6 (ss.take (k + 1)) d x = K4 (ss.getD k default) d (k6 (ss.take k) d x) := by
 rw [t6 _ _ hk, aN8, A7 hk]
 simp [k6]
mutual
def aU8 : d9 → Nat
 | ⟨k, _, i, v, _, b, e⟩ => if k = 4 then 2 + av6 b else if k = 1 then (b5 v 0).length + 1 else if k = 5 then (b5 v 0).length + 2 else if k = 2 then (b5 v 0).length + (b5 i 1).length + 1 else (b5 v 0).length + 2 + av6 b + av6 e
def av6 : List d9 → Nat
 | [] => 0
 | s :: r => aU8 s + av6 r
end
mutual
theorem bb4 : ∀ (s : d9) (d : Int) (x : F8), (K4 s d x).1.length = x.1.length + aU8 s ∧ (K4 s d x).2.1.length = x.2.1.length + aU8 s
 | ⟨k, t, i, v, c, b, e⟩, d, x => by
  rw [K4, aU8]
  split
  ·have h := G8 b (d + 1) (D3 (x.1, x.2.1, x.2.2 + 1) x.2.2 [⟨1, 9 + d, c, 0, 0⟩])
   simp only [D3, List.length_append, List.length_cons, List.length_nil, List.length_replicate] at h ⊢
   omega
  ·split
   ·simp only [D3, List.length_append, List.length_cons, List.length_nil, List.length_replicate]; omega
   ·split
    ·simp only [D3, List.length_append, List.length_cons, List.length_nil, List.length_replicate]; omega
    ·split
     ·simp only [D3, List.length_append, List.length_cons, List.length_nil, List.length_replicate]; omega
     ·simp only
      generalize hy : D3 (x.1, x.2.1, x.2.2 + 1) x.2.2 (b5 v 0) = y
      have hy1 : y.1.length = x.1.length + (b5 v 0).length := by rw [← hy]; simp [D3]
      have hy2 : y.2.1.length = x.2.1.length + (b5 v 0).length := by rw [← hy]; simp [D3]
      have h1 := G8 b (d + 1) (D3 y x.2.2 [⟨9, 0, 0, 0, 0⟩])
      generalize k6 b (d + 1) (D3 y x.2.2 [⟨9, 0, 0, 0, 0⟩]) = z at h1 ⊢
      have h2 := G8 e (d + 1) (a12 (D3 z x.2.2 [⟨8, 0, 0, 0, 0⟩]).1 y.1.length ((D3 z x.2.2 [⟨8, 0, 0, 0, 0⟩]).1.length : Int), (D3 z x.2.2 [⟨8, 0, 0, 0, 0⟩]).2)
      simp only [D3, be7, a12, List.length_set, List.length_append, List.length_cons, List.length_nil, List.length_replicate] at h1 h2 ⊢
      omega
theorem G8 : ∀ (ss : List d9) (d : Int) (x : F8), (k6 ss d x).1.length = x.1.length + av6 ss ∧ (k6 ss d x).2.1.length = x.2.1.length + av6 ss
 | [], _, _ => ⟨rfl, rfl⟩
 | s :: r, d, x => by
  have h1 := bb4 s d x
  have h2 := G8 r d (K4 s d x)
  rw [k6, av6]
  omega
end
mutual
theorem bb3 : ∀ s : d9, aU8 s ≤ 4 + 4 * E5 s
 | ⟨k, t, i, v, c, b, e⟩ => by
  have h1 := O3 v 0
  have h2 := O3 i 1
  have h3 := K0 b
  have h4 := K0 e
  rw [aU8]
  simp only [E5]
  (repeat' split) <;> omega
theorem K0 : ∀ ss : List d9, av6 ss ≤ 4 * s5 ss
 | [] => Nat.zero_le _
 | s :: r => by
  have h1 := bb3 s
  have h2 := K0 r
  simp only [av6, s5]; omega
end
section
variable {P : Program} {ι κ : Type} {φ ψ : Nat → Prop} {w0 w : World} {F : ι → Rs} {ρ ρ0 : Nat → Value} {N m n : Nat} {S : List It} {tm : List (Nat × AV)} {a : Act}
theorem It.res_ren' {σ : Nat → Nat} {i j : Nat} {ρ : Nat → Value} (x : It) (h : σ i = j) : (x.ren σ).res ρ j = x.res (fun i => ρ (σ i)) i := by
 subst h; exact It.res_ren x
def mv (i n j : Nat) : Nat := if natEq j i then n else j
theorem as3 {f : AV → AV} {t : Nat} {y : AV} : ∀ {tm : List (Nat × AV)}, x9 (tm.map fun p => (p.1, f p.2)) t = some y → ∃ x, x9 tm t = some x ∧ y = f x
 | [], h => by cases h
 | (k, z) :: r, h => by
  simp only [x9, List.map_cons] at h ⊢
  split at h
  ·rename_i hk; cases h; exact ⟨z, by rw [if_pos hk], rfl⟩
  ·rename_i hk
   obtain ⟨x, h1, h2⟩ := as3 h
   exact ⟨x, by rw [if_neg hk]; exact h1, h2⟩
theorem bg2 {i n : Nat} {x : AV} : ∀ j ∈ (x.ren (mv i n)).ids, (∃ k ∈ x.ids, mv i n k = j) := by
 have key : (∀ x : AV, ∀ j ∈ (x.ren (mv i n)).ids, ∃ k ∈ x.ids, mv i n k = j) ∧ (∀ l : List AV, ∀ j ∈ AV.idsL (AV.renL (mv i n) l), ∃ k ∈ AV.idsL l, mv i n k = j) := by
  have hL : ∀ (l : List AV), (∀ x ∈ l, ∀ j ∈ (x.ren (mv i n)).ids, ∃ k ∈ x.ids, mv i n k = j) → ∀ j ∈ AV.idsL (AV.renL (mv i n) l), ∃ k ∈ AV.idsL l, mv i n k = j := by
   intro l
   induction l with
   | nil => intro _ j hj; cases hj
   | cons y r ih =>
    intro h j hj
    simp only [AV.renL, AV.idsL, List.mem_append] at hj ⊢
    rcases hj with hj | hj
    ·obtain ⟨k, h1, h2⟩ := h y List.mem_cons_self j hj
     exact ⟨k, .inl h1, h2⟩
    ·obtain ⟨k, h1, h2⟩ := ih (fun x hx => h x (List.mem_cons_of_mem _ hx)) j hj
     exact ⟨k, .inr h1, h2⟩
  have hx : ∀ x : AV, ∀ j ∈ (x.ren (mv i n)).ids, ∃ k ∈ x.ids, mv i n k = j := fun x => goX hL x
  exact ⟨hx, fun l => hL l fun x _ => hx x⟩
 exact key.1 x
where
 goX {i n : Nat} (hL : ∀ (l : List AV), (∀ x ∈ l, ∀ j ∈ (x.ren (mv i n)).ids, ∃ k ∈ x.ids, mv i n k = j) → ∀ j ∈ AV.idsL (AV.renL (mv i n) l), ∃ k ∈ AV.idsL l, mv i n k = j) : ∀ x : AV, ∀ j ∈ (x.ren (mv i n)).ids, ∃ k ∈ x.ids, mv i n k = j
  | .v _, j, hj => by cases hj
  | .ptr a b, j, hj => ⟨a, List.mem_singleton.2 rfl, (List.mem_singleton.1 hj).symm⟩
  | .ea a b c d, j, hj => ⟨a, List.mem_singleton.2 rfl, (List.mem_singleton.1 hj).symm⟩
  | .ref a, j, hj => ⟨a, List.mem_singleton.2 rfl, (List.mem_singleton.1 hj).symm⟩
  | .tref a, j, hj => ⟨a, List.mem_singleton.2 rfl, (List.mem_singleton.1 hj).symm⟩
  | .agg l, j, hj => hL l (fun x _ => goX hL x) j hj
  | .tup l, j, hj => hL l (fun x _ => goX hL x) j hj
  | .fn _ l, j, hj => hL l (fun x _ => goX hL x) j hj
  | .bm _ l, j, hj => hL l (fun x _ => goX hL x) j hj
theorem p6.shift (G : p6 φ ψ w0 F N m ρ0 ρ S tm a w) (i n : Nat) (S1 : List It) (tm1 : List (Nat × AV)) (hn : (natEq S.length n && decide (i < n)) = true := by kernel_rfl) (hS : S1 = (S.map (It.ren (mv i n))).set i .dead ++ [(s9 S i).ren (mv i n)] := by kernel_rfl) (ht : tm1 = tm.map (fun p => (p.1, p.2.ren (mv i n))) := by kernel_rfl) :
  ∃ ρ', p6 φ ψ w0 F N m ρ0 ρ' S1 tm1 a w := by
 subst hS
 subst ht
 simp only [Bool.and_eq_true, natEq, beq_iff_eq, decide_eq_true_eq] at hn
 obtain ⟨hn, hin⟩ := hn
 have hlen : ((S.map (It.ren (mv i n))).set i .dead ++ [(s9 S i).ren (mv i n)]).length = n + 1 := by simp [hn]
 have hat : ∀ j, s9 ((S.map (It.ren (mv i n))).set i .dead ++ [(s9 S i).ren (mv i n)]) j = if j = n then (s9 S i).ren (mv i n) else if j = i then .dead else (s9 S j).ren (mv i n) := fun j => by
  by_cases e : j = n
  ·subst e
   rw [if_pos rfl]
   simp only [s9, List.getD_eq_getElem?_getD]
   rw [List.getElem?_append_right (by simp [hn])]
   simp [hn]
  ·rw [if_neg e]
   by_cases e2 : j = i
   ·subst e2
    rw [if_pos rfl]
    simp only [s9, List.getD_eq_getElem?_getD]
    rw [List.getElem?_append_left (by simp; omega)]
    simp [show j < S.length by omega]
   ·rw [if_neg e2]
    simp only [s9, List.getD_eq_getElem?_getD]
    rcases Nat.lt_or_ge j n with h | h
    ·rw [List.getElem?_append_left (by simp; omega), List.getElem?_set_ne (fun h => e2 h.symm), List.getElem?_map, List.getElem?_eq_getElem (by omega)]
     rfl
    ·rw [List.getElem?_eq_none (by simp; omega), List.getElem?_eq_none (by omega)]; rfl
 have hbd : ∀ x : AV, (∀ j ∈ x.ids, j < n) → ∀ j ∈ (x.ren (mv i n)).ids, j < n + 1 := fun x h j hj => by
  obtain ⟨k, h1, h2⟩ := bg2 j hj
  have := h k h1
  rw [← h2]; unfold mv
  split <;> omega
 let ρ1 : Nat → Value := fun j => if j = n then ρ i else ρ j
 have hmv : ∀ j, j < n → ρ1 (mv i n j) = ρ j := fun j hj => by
  show (if mv i n j = n then ρ i else ρ (mv i n j)) = ρ j
  by_cases e : j = i
  ·subst e; simp [mv, natEq]
  ·have h : mv i n j = j := by simp [mv, natEq, e]
   rw [h, if_neg (by omega)]
 have hval : ∀ x : AV, (∀ j ∈ x.ids, j < n) → (x.ren (mv i n)).val ρ1 = x.val ρ := fun x h => by
  rw [AV.val_ren]
  exact AV.val_congr x fun j hj => hmv j (h j hj)
 have hids : ∀ j, ∀ q ∈ (s9 S j).ids, q < n := fun j q hq => by have := (G.bd j).1 q hq; omega
 have hitem : ∀ j, ∀ q ∈ ((s9 S j).ren (mv i n)).ids, q < n + 1 := fun j q hq => by
  cases hx : s9 S j with
  | box cs =>
   rw [hx] at hq
   have h1 := hids j
   rw [hx] at h1
   exact hbd (.agg cs) h1 q hq
  | _ => rw [hx] at hq; cases hq
 refine ⟨ρ1, G.size, G.defs, fun t y hy => ?_, fun t y hy j hj => ?_, fun j => ⟨fun q hq => ?_, fun hj => B9 hj⟩, ?_, ?_, fun j hj => ?_⟩
 ·obtain ⟨x, h1, rfl⟩ := as3 hy
  rw [G.tmv t x h1, hval x fun j hj => by have := G.tmi t x h1 j hj; omega]
 ·obtain ⟨x, h1, rfl⟩ := as3 hy
  rw [hlen]
  exact hbd x (fun j hj => by have := G.tmi t x h1 j hj; omega) j hj
 ·rw [hlen]
  rw [hat] at hq
  split at hq
  ·exact hitem i q hq
  ·split at hq
   ·cases hq
   ·exact hitem j q hq
 ·refine G.mem.map (fun k : ι ⊕ Nat => (match k with | .inl q => some (.inl q) | .inr j => if j = n then some (.inr i) else if j = i then none else some (.inr j) : Option (ι ⊕ Nat))) ?_ ?_
  ·intro k k' x h1 h2
   match k, k' with
   | .inl q, .inl q' => simp at h1 h2; rw [← h1] at h2; simpa using h2.symm
   | .inl q, .inr j => simp at h1; subst h1; simp at h2; split at h2 <;> simp at h2
   | .inr j, .inl q => simp at h2; subst h2; simp at h1; split at h1 <;> simp at h1
   | .inr j, .inr j' =>
    simp only at h1 h2
    by_cases e1 : j = n <;> by_cases e2 : j' = n
    ·rw [e1, e2]
    ·rw [if_pos e1] at h1
     rw [if_neg e2] at h2
     by_cases e3 : j' = i
     ·rw [if_pos e3] at h2; cases h2
     ·rw [if_neg e3] at h2
      simp at h1 h2
      rw [← h1] at h2
      exact absurd (Sum.inr.inj h2) e3
    ·rw [if_pos e2] at h2
     rw [if_neg e1] at h1
     by_cases e3 : j = i
     ·rw [if_pos e3] at h1; cases h1
     ·rw [if_neg e3] at h1
      simp at h1 h2
      rw [← h2] at h1
      exact absurd (Sum.inr.inj h1) e3
    ·rw [if_neg e1] at h1
     rw [if_neg e2] at h2
     by_cases e3 : j = i
     ·rw [if_pos e3] at h1; cases h1
     ·by_cases e4 : j' = i
      ·rw [if_pos e4] at h2; cases h2
      ·rw [if_neg e3] at h1
       rw [if_neg e4] at h2
       simp at h1 h2
       rw [← h1] at h2
       rw [Sum.inr.inj h2]
  ·intro k
   match k with
   | .inl q => exact .inl ⟨_, rfl, rfl⟩
   | .inr j =>
    by_cases e : j = n
    ·refine .inl ⟨.inr i, by simp [e], ?_⟩
     simp only [o6]
     rw [hat, if_pos e]
     subst e
     have h1 : mv i j i = j := by simp [mv, natEq]
     rw [It.res_ren' (s9 S i) h1]
     exact It.res_congr _ (fun q hq => hmv q (hids i q hq)) (.inr (.inr (hmv i hin)))
    ·by_cases e2 : j = i
     ·refine .inr ?_
      simp only [o6]
      rw [hat, if_neg e, if_pos e2]
      rfl
     ·refine .inl ⟨.inr j, by simp [e, e2], ?_⟩
      simp only [o6]
      rw [hat, if_neg e, if_neg e2]
      rcases Nat.lt_or_ge j n with hj | hj
      ·have h1 : mv i n j = j := by simp [mv, natEq, e2]
       rw [It.res_ren' (s9 S j) h1]
       exact It.res_congr _ (fun q hq => hmv q (hids j q hq)) (.inr (.inr (hmv j hj)))
      ·rw [B9 (by omega)]; rfl
 ·have := G.le; rw [hlen]; omega
 ·have := G.le
  show (if j = n then ρ i else ρ j) = ρ0 j
  rw [if_neg (by omega)]; exact G.old j hj
end
abbrev rN (l : List d8) : It := .row 38 (.instrs l)
abbrev rI (l : List Int) : It := .row 3 (.ints l)
theorem C6 (l : List d8) (fr : List Int) (at0 n o x y z u : Int) (h1 : l.length ≤ 8000000) (h2 : fr.length ≤ 8000000) : p7.ok Try.prog ⟨58, [.agg [.ref 0, .ref 1, iA at0], iA n, .agg [iA o, iA x, iA y, iA z, iA u]], [rN l, rI fr], [.dead, .dead, rN (l ++ [⟨o, x, y, z, u⟩]), rI (fr ++ [n])], .agg [.ref 2, .ref 3, iA at0]⟩ := by
 refine m8 20 Try.func58 (by rfl) (by kernel_rfl) (by kernel_rfl) ?_; intro ι φ ψ w0 w F ρ0 ρ a G; replace G := p6.at G [.row 38 (D.instrs l), .row 3 (D.ints fr)] [(0, .agg [.ref 0, .ref 1, iA at0]), (1, iA n), (2, .agg [iA o, iA x, iA y, iA z, iA u])]; refine wp_seq ?_; refine D8 G [0, 1, 2, 10, 18] [.row 38 (D.instrs l), .row 3 (D.ints fr), .box [.ref 0, .ref 1, iA at0], .box [iA o, iA x, iA y, iA z, iA u], .box [.v (.slice none 0 0), .v (.slice none 0 0), iA 0]] [(1, iA n), (3, .ptr 2 0), (5, .ptr 3 0), (6, .ptr 4 0)] fun ρ a w G => b9 (wp_seq ?_); refine v5 (dk := p5) G ⟨[], [], []⟩ b0 trivial [0, 1, 2, 4, 37] [.dead, .row 3 (D.ints fr), .box [.ref 4, .ref 1, iA at0], .box [.v (.slice none 0 0), .v (.slice none 0 0), iA 0], .row 38 (D.instrs (l ++ ([d8.mk o x y z u] ++ [])))] [(1, iA n), (3, .ptr 2 0), (6, .ptr 3 0)] [l.length + ([d8.mk o x y z u] ++ []).length ≤ (9223372036854775807 : Nat), (l.length + ([d8.mk o x y z u] ++ []).length) * (40 : Nat) ≤ (140737488355328 : Nat)] ⟨(by simp only [List.length_append, List.length_cons, List.length_nil]; omega), (by simp only [List.length_append, List.length_cons, List.length_nil]; omega), trivial⟩ fun ρ a w G => b9 (wp_seq ?_); refine v5 (dk := p5) G ⟨[], [], []⟩ b0 trivial [0, 1, 2, 3, 4, 37] [.dead, .dead, .box [.ref 4, .ref 5, iA at0], .box [.v (.slice none 0 0), .v (.slice none 0 0), iA 0], .row 38 (D.instrs (l ++ ([d8.mk o x y z u] ++ []))), .row 3 (D.ints (fr ++ ([n] ++ [])))] [(3, .ptr 2 0), (6, .ptr 3 0)] [fr.length + ([n] ++ []).length ≤ (9223372036854775807 : Nat), (fr.length + ([n] ++ []).length) * (8 : Nat) ≤ (140737488355328 : Nat)] ⟨(by simp only [List.length_append, List.length_cons, List.length_nil]; omega), (by simp only [List.length_append, List.length_cons, List.length_nil]; omega), trivial⟩ fun ρ a w G => b9 (wp_seq ?_); refine D8 G [0, 1, 3, 4, 5] [.dead, .dead, .box [.ref 3, .ref 4, iA at0], .row 38 (D.instrs (l ++ ([d8.mk o x y z u] ++ []))), .row 3 (D.ints (fr ++ ([n] ++ [])))] [(6, .ptr 2 0)] fun ρ a w G => b9 (wp_ret ?_); exact i7 (v := .agg [.ref 3, .ref 4, iA at0]) G [0, 1, 3, 4] (by kernel_rfl) (by kernel_rfl) (by kernel_rfl) (by kernel_rfl)
abbrev l7C (l : List d8) (fr : List Int) (at0 n : Int) (e : f5) (reg : Int) : p7 := ⟨67, [.agg [.ref 0, .ref 1, iA at0], iA n, eA e 2, iA reg], [rN l, rI fr, dE e.kids], [.dead, .dead, dE e.kids, rN (l ++ b5 e reg), rI (fr ++ List.replicate (b5 e reg).length n)], .agg [.ref 3, .ref 4, iA at0]⟩
theorem ce1 {e : f5} {r : Int} (k : e.kind = 1) : b5 e r = [⟨1, r, e.value, 0, 0⟩] := by rw [aa9, if_pos k]
theorem ce2 {e : f5} {r : Int} (k : e.kind = 2) : b5 e r = [⟨2, r, e.value, 0, 0⟩] := by rw [aa9, if_neg (by omega), if_pos k]
theorem ao0 (ks : List f5) (k : Nat) : G2 (ks.take k) ≤ G2 ks ∧ (k < ks.length → G2 (ks.take k) + 1 + L9 (ks.getD k default) ≤ G2 ks) ∧ (ks.take k).length ≤ G2 (ks.take k) := by
 refine ⟨?_, fun h => ?_, aD8 _⟩
 ·have := L8 (ks.take k) (ks.drop k)
  rw [List.take_append_drop] at this
  omega
 ·have h1 := L8 (ks.take (k + 1)) (ks.drop (k + 1))
  rw [List.take_append_drop, t6 _ _ h, L8, ← A7 (d := default) h] at h1
  simp only [G2] at h1
  omega
section
variable {e : f5} {l : List d8} {fr : List Int} {n reg : Int} {k : Nat}
theorem az0 (e : f5) : L9 e = G2 e.kids := by cases e; rfl
theorem bh0 (h0 : 0 ≤ reg) (h1 : reg + L9 e ≤ 2000000) (hk : k < e.kids.length) : 0 ≤ reg + (k : Int) ∧ reg + (k : Int) + L9 (e.kids.getD k default) ≤ 2000000 := by
 have h2 := (ao0 e.kids k).2.1 hk
 have h3 := (ao0 e.kids k).2.2
 rw [List.length_take] at h3
 rw [az0] at h1
 omega
theorem bh1 (h2 : l.length + L9 e ≤ 5000000) (hk : k < e.kids.length) : (l ++ k8 (e.kids.take k) reg).length + L9 (e.kids.getD k default) ≤ 5000000 := by
 have h3 := (ao0 e.kids k).2.1 hk
 have h4 := U6 (e.kids.take k) reg
 rw [az0] at h2
 rw [List.length_append]
 omega
theorem R3 (h2 : l.length + L9 e ≤ 5000000) : (l ++ k8 (e.kids.take k) reg).length ≤ 5000000 := by
 have h3 := (ao0 e.kids k).1
 have h4 := U6 (e.kids.take k) reg
 rw [az0] at h2
 rw [List.length_append]
 omega
theorem Z2 (h3 : fr.length = l.length) : (fr ++ List.replicate (k8 (e.kids.take k) reg).length n).length = (l ++ k8 (e.kids.take k) reg).length := by simp [h3]
theorem bb5 (hk : k < e.kids.length) : l ++ k8 (e.kids.take (k + 1)) reg = l ++ k8 (e.kids.take k) reg ++ b5 (e.kids.getD k default) (reg + (k : Int)) := by rw [am6 hk, List.append_assoc]
theorem a59 (hk : k < e.kids.length) : fr ++ List.replicate (k8 (e.kids.take (k + 1)) reg).length n = fr ++ List.replicate (k8 (e.kids.take k) reg).length n ++ List.replicate (b5 (e.kids.getD k default) (reg + (k : Int))).length n := by
 rw [am6 hk, List.length_append, List.append_assoc, List.replicate_append_replicate]
theorem a58 : l = l ++ k8 (e.kids.take 0) reg := by simp [k8]
theorem aV0 : fr = fr ++ List.replicate (k8 (e.kids.take 0) reg).length n := by simp [k8]
theorem aN9 (k1 : ¬ e.kind = 1) (k2 : ¬ e.kind = 2) (hk : e.kids.length ≤ k) {x : d8} (hx : ag3 e.kind e.value reg = x) : l ++ b5 e reg = l ++ k8 (e.kids.take k) reg ++ [x] := by
 rw [aa9, if_neg k1, if_neg k2, List.take_of_length_le hk, hx, List.append_assoc]
theorem aC5 (k1 : ¬ e.kind = 1) (k2 : ¬ e.kind = 2) (hk : e.kids.length ≤ k) : fr ++ List.replicate (b5 e reg).length n = fr ++ List.replicate (k8 (e.kids.take k) reg).length n ++ [n] := by
 rw [aa9, if_neg k1, if_neg k2, List.take_of_length_le hk, List.append_assoc, List.length_append, List.length_cons, List.length_nil, List.replicate_succ']
theorem la3 (k : e.kind = 3) : ag3 e.kind e.value reg = ⟨4, reg, e.value, reg, 0⟩ := by rw [ag3, if_pos k]
theorem bp5 (k : e.kind = 11) : ag3 e.kind e.value reg = ⟨7, reg, reg, reg + 1, reg + 2⟩ := by rw [ag3, if_neg (by omega), if_pos k]
theorem la0 (k3 : ¬ e.kind = 3) (k : ¬ e.kind = 11) : ag3 e.kind e.value reg = ⟨6, reg, e.kind, reg, reg + 1⟩ := by rw [ag3, if_neg k3, if_neg k]
end
abbrev R0 (e : f5) (l : List d8) (fr : List Int) (n : Int) (reg : Int) : List It := [.dead, .dead, dE e.kids, .row 38 (D.instrs (l ++ b5 e reg)), .row 3 (D.ints (fr ++ List.replicate (b5 e reg).length n))]
abbrev ah8 : It := .box [.v (.slice none 0 0), .v (.slice none 0 0), iA 0]
abbrev C2 (n : Int) (reg : Int) (r0 : List (Nat × AV)) : List (Nat × AV) := (1, iA n) :: (3, iA reg) :: (4, .ptr 3 0) :: (6, .ptr 4 0) :: (8, .ptr 5 0) :: r0
abbrev W8 (e : f5) (at0 : Int) (r0 : List It) : List It := .dead :: .dead :: dE e.kids :: .box [.ref 6, .ref 7, iA at0] :: .box (eL e 2) :: r0
theorem aZ8 (e : f5) (ih : ∀ (u : f5), u ∈ e.kids → ∀ (l : List d8) (fr : List Int) (at0 n reg : Int), 0 ≤ reg → reg + L9 u ≤ 2000000 → l.length + L9 u ≤ 5000000 → fr.length = l.length → p7.ok Try.prog (l7C l fr at0 n u reg)) (l : List d8) (fr : List Int) (at0 n reg : Int) (r0 : 0 ≤ reg) (r1 : reg + L9 e ≤ 2000000) (r2 : l.length + L9 e ≤ 5000000) (r3 : fr.length = l.length) : p7.ok Try.prog (l7C l fr at0 n e reg) := by
  refine m8 82 Try.func67 (by rfl) (by kernel_rfl) (by kernel_rfl) ?_; intro ι φ ψ w0 w F ρ0 ρ a G; replace G := p6.at G [.row 38 (D.instrs l), .row 3 (D.ints fr), dE e.kids] [(0, .agg [.ref 0, .ref 1, iA at0]), (1, iA n), (2, eA e 2), (3, iA reg)]
  have hlen : e.kids.length ≤ L9 e := by cases e; exact aD8 _
  refine wp_seq ?_; refine D8 G [0, 1, 2, 3, 11, 19] [.row 38 (D.instrs l), .row 3 (D.ints fr), dE e.kids, .box [.ref 0, .ref 1, iA at0], .box (eL e 2), ah8] (C2 n reg []) fun ρ a w G => b9 (wp_seq (wp_seq ?_)); refine l0 G (C2 n reg [(11, iA e.kind)]) fun ρ a w G => b9 (wp_block (wp_seq ?_)); refine l0 G (C2 n reg [(11, iA e.kind), (12, bA (e.kind == 1))]) fun ρ a w G => b9 ?_; cases h0 : (e.kind == (1 : Int))
  ·
   have q0 := ne_of_beq_false h0; refine rF G _ h0 ?_; refine wp_seq ?_; refine l0 G (C2 n reg [(21, bA (e.kind == 2))]) fun ρ a w G => b9 ?_; cases h1 : (e.kind == (2 : Int))
   ·
    have q1 := ne_of_beq_false h1; refine rF G _ h1 ?_; refine wp_skip ?_; refine o5 ?_; refine b9 (wp_seq (wp_seq ?_)); refine l0 G (C2 n reg [(9, iA 0)]) fun ρ a w G => b9 (wp_block ?_); have Gx := G.shift 0 6 [.dead, .row 3 (D.ints fr), dE e.kids, .box [.ref 6, .ref 1, iA at0], .box (eL e 2), ah8, .row 38 (D.instrs l)] (C2 n reg [(9, iA 0)]); clear G; obtain ⟨ρ, G⟩ := Gx; have Gx := G.shift 1 7 (W8 e at0 [ah8, .row 38 (D.instrs l), .row 3 (D.ints fr)]) (C2 n reg [(9, iA 0)]); clear G; obtain ⟨ρ, G⟩ := Gx; replace G := G.as (W8 e at0 [.box [.v (.slice none 0 0), .v (.slice none 0 0), iA 0], .row 38 (D.instrs (l ++ k8 (List.take 0 e.kids) reg)), .row 3 (D.ints (fr ++ List.replicate (k8 (List.take 0 e.kids) reg).length n))]) (C2 n reg [(9, iA 0)]) (by have e1 : (l ++ k8 (List.take 0 e.kids) reg : List d8) = (l) := (by exact a58.symm); have e2 : (fr ++ List.replicate (k8 (List.take 0 e.kids) reg).length n : List Int) = (fr) := (by exact aV0.symm); (first | rw [e1, e2] | simp only [e1, e2]) <;> rfl) (by kernel_rfl); refine F4 (κ := Nat) (fun k => k ≤ e.kids.length) (fun k => e.kids.length - k) (fun k => [.dead, .dead, dE e.kids, .box [.ref 6, .ref 7, iA at0], .box (eL e 2), ah8, .row 38 (.instrs (l ++ k8 (e.kids.take k) reg)), .row 3 (.ints (fr ++ List.replicate (k8 (e.kids.take k) reg).length n))]) (fun k => [(1, iA n), (3, iA reg), (4, .ptr 3 0), (6, .ptr 4 0), (8, .ptr 5 0), (9, iA k)]) (0) (by simp [h0, h1]) (p6.at G _ _) ?_; clear G; intro k ρ a w hp G; replace G := p6.at G (W8 e at0 [ah8, .row 38 (D.instrs (l ++ k8 (List.take k e.kids) reg)), .row 3 (D.ints (fr ++ List.replicate (k8 (List.take k e.kids) reg).length n))]) (C2 n reg [(9, iA (↑k : Int))]); refine wp_seq (wp_seq ?_); refine l0 G (C2 n reg [(9, iA (↑k : Int)), (34, bA (decide ((↑k : Int) < (↑e.kids.length : Int))))]) fun ρ a w G => b9 ?_; cases h2 : (decide ((↑k : Int) < (↑e.kids.length : Int)))
    ·
     have q2 := Y9 h2; refine rF G _ h2 ?_; refine wp_exit (D9 (D9 (D7 (b9 (wp_seq (wp_seq ?_)))))); refine l0 G (C2 n reg [(49, iA e.kind)]) fun ρ a w G => b9 (wp_block (wp_seq ?_)); refine l0 G (C2 n reg [(49, iA e.kind), (50, bA (e.kind == 3))]) fun ρ a w G => b9 ?_; cases h3 : (e.kind == (3 : Int))
     ·
      have q3 := ne_of_beq_false h3; refine rF G _ h3 ?_; refine wp_seq ?_; refine l0 G (C2 n reg [(60, bA (e.kind == 11))]) fun ρ a w G => b9 ?_; cases h4 : (e.kind == (11 : Int))
      · have q4 := ne_of_beq_false h4; refine rF G _ h4 ?_; refine wp_skip ?_; refine o5 ?_; refine b9 (wp_seq ?_); refine v5 (dk := p5) G ⟨[(9, _, [6, 7])], [], []⟩ (b6 (C6 (l ++ k8 (List.take k e.kids) reg) (fr ++ List.replicate (k8 (List.take k e.kids) reg).length n) (at0) (n) (6) (reg) (e.kind) (reg) (reg + 1) (by have := R3 (k := k) (reg := reg) r2; have := Z2 (e := e) (n := n) (k := k) (reg := reg) r3; omega) (by have := R3 (k := k) (reg := reg) r2; have := Z2 (e := e) (n := n) (k := k) (reg := reg) r3; omega)) b0) trivial [0, 1, 2, 5, 80, 81] [.dead, .dead, dE e.kids, .box [.ref 4, .ref 5, iA at0], .row 38 (D.instrs (l ++ k8 (List.take k e.kids) reg ++ [d8.mk 6 reg e.kind reg (reg + 1)])), .row 3 (D.ints (fr ++ List.replicate (k8 (List.take k e.kids) reg).length n ++ [n]))] [(8, .ptr 3 0)] [IntKind.i64.wrap (reg + (1 : Int)) = reg + (1 : Int)] ⟨(by exact w6 (by omega) (by omega)), trivial⟩ fun ρ a w G => b9 (wp_ret ?_); exact i7 (v := .agg [.ref 4, .ref 5, iA at0]) G [0, 1, 2, 4, 5] (by kernel_rfl) (by kernel_rfl) (by show _ = List.map (It.ren (nth [0, 1, 2, 4, 5])) (R0 e l fr n reg); unfold R0; have e1 : (l ++ b5 e reg : List d8) = (l ++ k8 (List.take k e.kids) reg ++ [d8.mk 6 reg e.kind reg (reg + 1)]) := (by exact aN9 (by omega) (by omega) (by omega) (la0 (by omega) (by omega))); have e2 : (fr ++ List.replicate (b5 e reg).length n : List Int) = (fr ++ List.replicate (k8 (List.take k e.kids) reg).length n ++ [n]) := (by exact aC5 (by omega) (by omega) (by omega)); (first | rw [e1, e2] | simp only [e1, e2]) <;> rfl) (by kernel_rfl)
      · have q4 := eq_of_beq h4; refine rT G _ h4 ?_; refine wp_seq ?_; refine v5 (dk := p5) G ⟨[(9, _, [6, 7])], [], []⟩ (b6 (C6 (l ++ k8 (List.take k e.kids) reg) (fr ++ List.replicate (k8 (List.take k e.kids) reg).length n) (at0) (n) (7) (reg) (reg) (reg + 1) (reg + 2) (by have := R3 (k := k) (reg := reg) r2; have := Z2 (e := e) (n := n) (k := k) (reg := reg) r3; omega) (by have := R3 (k := k) (reg := reg) r2; have := Z2 (e := e) (n := n) (k := k) (reg := reg) r3; omega)) b0) trivial [0, 1, 2, 3, 4, 5, 6, 7, 80, 81] (W8 e at0 [.box [.ref 8, .ref 9, iA at0], .dead, .dead, .row 38 (D.instrs (l ++ k8 (List.take k e.kids) reg ++ [d8.mk 7 reg reg (reg + 1) (reg + 2)])), .row 3 (D.ints (fr ++ List.replicate (k8 (List.take k e.kids) reg).length n ++ [n]))]) (C2 n reg []) [IntKind.i64.wrap (reg + (1 : Int)) = reg + (1 : Int), IntKind.i64.wrap (reg + (2 : Int)) = reg + (2 : Int)] ⟨(by exact w6 (by omega) (by omega)), (by exact w6 (by omega) (by omega)), trivial⟩ fun ρ a w G => b9 (wp_ret (ah0 (H5 ?_))); exact i7 (v := .agg [.ref 8, .ref 9, iA at0]) G [0, 1, 2, 8, 9] (by kernel_rfl) (by kernel_rfl) (by show _ = List.map (It.ren (nth [0, 1, 2, 8, 9])) (R0 e l fr n reg); unfold R0; have e1 : (l ++ b5 e reg : List d8) = (l ++ k8 (List.take k e.kids) reg ++ [d8.mk 7 reg reg (reg + 1) (reg + 2)]) := (by exact aN9 (by omega) (by omega) (by omega) (bp5 (by omega))); have e2 : (fr ++ List.replicate (b5 e reg).length n : List Int) = (fr ++ List.replicate (k8 (List.take k e.kids) reg).length n ++ [n]) := (by exact aC5 (by omega) (by omega) (by omega)); (first | rw [e1, e2] | simp only [e1, e2]) <;> rfl) (by kernel_rfl)
     · have q3 := eq_of_beq h3; refine rT G _ h3 ?_; refine wp_seq ?_; refine v5 (dk := p5) G ⟨[(7, _, [6, 7])], [], []⟩ (b6 (C6 (l ++ k8 (List.take k e.kids) reg) (fr ++ List.replicate (k8 (List.take k e.kids) reg).length n) (at0) (n) (4) (reg) (e.value) (reg) (0) (by have := R3 (k := k) (reg := reg) r2; have := Z2 (e := e) (n := n) (k := k) (reg := reg) r3; omega) (by have := R3 (k := k) (reg := reg) r2; have := Z2 (e := e) (n := n) (k := k) (reg := reg) r3; omega)) b0) trivial [0, 1, 2, 3, 4, 5, 6, 7, 64, 65] (W8 e at0 [.box [.ref 8, .ref 9, iA at0], .dead, .dead, .row 38 (D.instrs (l ++ k8 (List.take k e.kids) reg ++ [d8.mk 4 reg e.value reg 0])), .row 3 (D.ints (fr ++ List.replicate (k8 (List.take k e.kids) reg).length n ++ [n]))]) (C2 n reg []) [] trivial fun ρ a w G => b9 (wp_ret (ah0 (H5 ?_))); exact i7 (v := .agg [.ref 8, .ref 9, iA at0]) G [0, 1, 2, 8, 9] (by kernel_rfl) (by kernel_rfl) (by show _ = List.map (It.ren (nth [0, 1, 2, 8, 9])) (R0 e l fr n reg); unfold R0; have e1 : (l ++ b5 e reg : List d8) = (l ++ k8 (List.take k e.kids) reg ++ [d8.mk 4 reg e.value reg 0]) := (by exact aN9 (by omega) (by omega) (by omega) (la3 (by omega))); have e2 : (fr ++ List.replicate (b5 e reg).length n : List Int) = (fr ++ List.replicate (k8 (List.take k e.kids) reg).length n ++ [n]) := (by exact aC5 (by omega) (by omega) (by omega)); (first | rw [e1, e2] | simp only [e1, e2]) <;> rfl) (by kernel_rfl)
    · have q2 := Y8 h2; refine rT G _ h2 ?_; refine wp_skip (b9 (wp_seq (wp_block ?_))); refine rd1 (dk := p5) G ⟨[(10, _, [6, 7, 56])], [], []⟩ (b6 (ih (e.kids.getD k default) (by exact a42 (by omega)) (l ++ k8 (List.take k e.kids) reg) (fr ++ List.replicate (k8 (List.take k e.kids) reg).length n) (at0) (n) (reg + (↑k : Int)) (by have := R3 (k := k) (reg := reg) r2; have := Z2 (e := e) (n := n) (k := k) (reg := reg) r3; omega) (by exact (bh0 r0 r1 (by omega)).2) (by exact bh1 r2 (by omega)) (by exact Z2 r3)) b0) trivial [0, 0, 0, 4, 0, 28, 60, 0, 0, 384, 1023, 2047] [0, 1, 2, 3, 4, 5, 88, 89] (W8 e at0 [ah8, .row 38 (D.instrs (l ++ k8 (List.take k e.kids) reg ++ b5 (e.kids.getD k default) (reg + (↑k : Int)))), .row 3 (D.ints (fr ++ List.replicate (k8 (List.take k e.kids) reg).length n ++ List.replicate (b5 (e.kids.getD k default) (reg + (↑k : Int))).length n))]) (C2 n reg [(9, iA (↑k : Int))]) [(0 : Int) ≤ (↑k : Int), (↑k : Int) < (↑e.kids.length : Int), k < e.kids.length, IntKind.i64.wrap (reg + (↑k : Int)) = reg + (↑k : Int)] ⟨(by simp [h0, h1, h2]), (by assumption), (by have := R3 (k := k) (reg := reg) r2; have := Z2 (e := e) (n := n) (k := k) (reg := reg) r3; omega), (by exact w6 (by omega) (by omega)), trivial⟩ ?_; intro ρ a w G; refine o5 ?_; refine b9 ?_; refine m9 G ⟨[], [], []⟩ b0 trivial (C2 n reg [(9, iA ((↑k : Int) + 1))]) [IntKind.i64.wrap ((↑k : Int) + (1 : Int)) = (↑k : Int) + (1 : Int)] ⟨(by exact w6 (by omega) (by omega)), trivial⟩ fun ρ a w G => b9 ?_; exact m0 G (k + 1) (by have := R3 (k := k) (reg := reg) r2; have := Z2 (e := e) (n := n) (k := k) (reg := reg) r3; omega) (by have := R3 (k := k) (reg := reg) r2; have := Z2 (e := e) (n := n) (k := k) (reg := reg) r3; omega) (rg 8) [.dead, .dead, dE e.kids, .box [.ref 6, .ref 7, iA at0], .box (eL e 2), .box [.v (.slice none 0 0), .v (.slice none 0 0), iA 0], .row 38 (D.instrs (l ++ k8 (List.take (k + 1) e.kids) reg)), .row 3 (D.ints (fr ++ List.replicate (k8 (List.take (k + 1) e.kids) reg).length n))] [(1, iA n), (3, iA reg), (4, .ptr 3 0), (6, .ptr 4 0), (8, .ptr 5 0), (9, iA (↑(k + 1) : Int))] (by kernel_rfl) (by kernel_rfl) (by kernel_rfl) (by have e1 : (l ++ k8 (List.take (k + 1) e.kids) reg : List d8) = (l ++ k8 (List.take k e.kids) reg ++ b5 (e.kids.getD k default) (reg + (↑k : Int))) := (by exact bb5 (by omega)); have e2 : (fr ++ List.replicate (k8 (List.take (k + 1) e.kids) reg).length n : List Int) = (fr ++ List.replicate (k8 (List.take k e.kids) reg).length n ++ List.replicate (b5 (e.kids.getD k default) (reg + (↑k : Int))).length n) := (by exact a59 (by omega)); (first | rw [e1, e2] | simp only [e1, e2]) <;> rfl) (by kernel_rfl)
   · have q1 := eq_of_beq h1; refine rT G _ h1 ?_; refine wp_seq ?_; refine v5 (dk := p5) G ⟨[(6, _, [0, 1])], [], []⟩ (b6 (C6 (l) (fr) (at0) (n) (2) (reg) (e.value) (0) (0) (by omega) (by omega)) b0) trivial [0, 1, 2, 3, 4, 5, 54, 55] [.dead, .dead, dE e.kids, .box [.ref 0, .ref 1, iA at0], .box (eL e 2), .box [.ref 6, .ref 7, iA at0], .row 38 (D.instrs (l ++ [d8.mk 2 reg e.value 0 0])), .row 3 (D.ints (fr ++ [n]))] (C2 n reg []) [] trivial fun ρ a w G => b9 (wp_ret (ah0 (H5 ?_))); exact i7 (v := .agg [.ref 6, .ref 7, iA at0]) G [0, 1, 2, 6, 7] (by kernel_rfl) (by kernel_rfl) (by show _ = List.map (It.ren (nth [0, 1, 2, 6, 7])) (R0 e l fr n reg); unfold R0; rw [ce2 (by omega)] <;> rfl) (by kernel_rfl)
  · have q0 := eq_of_beq h0; refine rT G _ h0 ?_; refine wp_seq ?_; refine v5 (dk := p5) G ⟨[(6, _, [0, 1])], [], []⟩ (b6 (C6 (l) (fr) (at0) (n) (1) (reg) (e.value) (0) (0) (by omega) (by omega)) b0) trivial [0, 1, 2, 3, 4, 5, 54, 55] [.dead, .dead, dE e.kids, .box [.ref 0, .ref 1, iA at0], .box (eL e 2), .box [.ref 6, .ref 7, iA at0], .row 38 (D.instrs (l ++ [d8.mk 1 reg e.value 0 0])), .row 3 (D.ints (fr ++ [n]))] (C2 n reg []) [] trivial fun ρ a w G => b9 (wp_ret (ah0 (H5 ?_))); exact i7 (v := .agg [.ref 6, .ref 7, iA at0]) G [0, 1, 2, 6, 7] (by kernel_rfl) (by kernel_rfl) (by show _ = List.map (It.ren (nth [0, 1, 2, 6, 7])) (R0 e l fr n reg); unfold R0; rw [ce1 (by omega)] <;> rfl) (by kernel_rfl)
theorem aI5 (e : f5) : ∀ (l : List d8) (fr : List Int) (at0 n reg : Int), 0 ≤ reg → reg + L9 e ≤ 2000000 → l.length + L9 e ≤ 5000000 → fr.length = l.length → p7.ok Try.prog (l7C l fr at0 n e reg) :=
 f5.ind (P := fun e => ∀ (l : List d8) (fr : List Int) (at0 n reg : Int), 0 ≤ reg → reg + L9 e ≤ 2000000 → l.length + L9 e ≤ 5000000 → fr.length = l.length → p7.ok Try.prog (l7C l fr at0 n e reg)) (fun k v ks ih l fr at0 n reg r0 r1 r2 r3 => aZ8 ⟨k, v, ks⟩ (fun u hu => ih u hu) l fr at0 n reg r0 r1 r2 r3) e
end Go.Proofs.Ythikdkjjdeehoaa
