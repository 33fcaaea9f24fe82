/-
  LVerifyDistrust: the statement, whatever the argument. Conditions: none beyond the statement's own.
-/
import Derived.Test.YthikdkjjdeehoaaGreatK1
import Derived.Test.YthikdkjjdeehoaaGreatK2
import Derived.Test.YthikdkjjdeehoaaGreatK3
import Derived.Test.YthikdkjjdeehoaaGreatK4
import Derived.Test.YthikdkjjdeehoaaGreatK5
import Derived.Test.YthikdkjjdeehoaaGreatK6
import Derived.Test.YthikdkjjdeehoaaGreatK7
import Derived.Test.YthikdkjjdeehoaaGreatEnter1M
import Derived.Test.YthikdkjjdeehoaaGreatEnter2M
import Derived.Test.YthikdkjjdeehoaaGreatEnter3M
set_option maxRecDepth 100000
set_option maxHeartbeats 16000000
set_option linter.unusedVariables false
set_option linter.unusedSimpArgs false
open Bool renaming and_eq_true → cg5
open List renaming all_eq_true → ch3, take_of_length_le → ch9
open True renaming intro → ch8
namespace Go.Proofs.YthikdkjjdeehoaaGreat.exLVerifyDistrust
open Go Go.RowKit Go.Proofs.YthikdkjjdeehoaaGreat
noncomputable section
theorem cf8 : ¬ ((!true) = true) := by decide
def jn (xs : List Int) (k : Nat) : List Int := (xs.take k).map fun x => Z6 x 2
theorem cg1 (xs : List Int) : jn xs 0 = [] := rfl
theorem bB6 {xs : List Int} {k : Nat} (h : k ≤ xs.length) : (jn xs k).length = k := by unfold jn; simp [Nat.min_eq_left h]
theorem bl1 {xs : List Int} {k : Nat} (h : k < xs.length) : jn xs (k + 1) = jn xs k ++ [Z6 (xs.getD k 0) 2] := by
 unfold jn
 rw [m8 _ _ h, List.map_append, ← m5 (d := 0) h]; rfl
theorem bB7 {xs : List Int} {k : Nat} (h : xs.length ≤ k) (ho : xs.all f8 = true) : jn xs k = xs.map fun l => l4 l 2 := by
 unfold jn
 rw [ch9 h]
 refine List.map_congr_left fun x hx => ?_
 have hl := ch3.1 ho x hx
 exact bQ7 hl (by decide)
theorem a56 {v ar : List Int} {l : List d7} {k i : Nat} (hk : v.length ≤ k) (hi : ar.length ≤ i) (hn : ¬ (z9 ⟨v, ar, l⟩).1 = 5) : z9 ⟨jn v k, jn ar i, l⟩ = z9 ⟨v, ar, l⟩ := by
 have hc : t9 ⟨v, ar, l⟩ = true := by
  cases h : t9 ⟨v, ar, l⟩
  ·exact absurd (by rw [bY8 h]) hn
  ·rfl
 have hh := (t0 hc).1
 simp only [B5, cg5, decide_eq_true_eq] at hh
 rw [bB7 hk hh.1.1.1.1, bB7 hi hh.1.1.1.2]
 show z9 (av9 ⟨v, ar, l⟩) = _
 obtain ⟨m, hm, e⟩ := bF0 hc
 obtain ⟨m', hm', e'⟩ := bF0 (bX7 hc)
 have h2 := bD5 hc m'
 have : m' = m := by rw [aj0 (h2.1.1 hm'), ← aj0 hm]
 rw [e', h2.2, this, e]
theorem br0 {v ar : List Int} {l : List d7} {k i : Nat} (hk : v.length ≤ k) (hi : ar.length ≤ i) (hn : ¬ (z9 ⟨v, ar, l⟩).1 = 5) : (z9 ⟨jn v k, jn ar i, l⟩).1 = (z9 ⟨v, ar, l⟩).1 := by rw [a56 hk hi hn]
theorem bq9 {v ar : List Int} {l : List d7} {k i : Nat} (hk : v.length ≤ k) (hi : ar.length ≤ i) (hn : ¬ (z9 ⟨v, ar, l⟩).1 = 5) : true = ((z9 ⟨jn v k, jn ar i, l⟩).2 == (z9 ⟨v, ar, l⟩).2) := by rw [a56 hk hi hn]; simp
abbrev m0 (c : List UInt8) := z9 (d8.mk (j8 c).vars (j8 c).arrays (j8 c).list)
abbrev x9 (c : List UInt8) (r0 : List (Nat × AV)) : List (Nat × AV) := (2, bA false) :: (3, .ptr 4 0) :: (4, iA (m0 c).fst) :: (5, iA (m0 c).snd) :: (6, iA (m0 c).fst) :: (7, iA (m0 c).snd) :: (8, .ptr 5 0) :: r0
abbrev v5 (c : List UInt8) (r0 : List It) : List It := dY c :: .row 3 (D.ints (j8 c).vars) :: .row 3 (D.ints (j8 c).arrays) :: .row 86 (D.instrs (j8 c).list) :: .box (pL 1) :: r0
theorem b94 (c : List UInt8) : j9.ok Tryz.prog ⟨10, [.ref 0], [dY c], [dY c], bA true⟩ := by
  refine F9 94 Tryz.func10 [dY c] [(0, .ref 0)] fun G => ?_; have hsz := bX9 c; refine wp_seq (k8 G f7 [(2, bA false)] fun G => b6 (wp_seq (wp_seq (k8 G f7 [(15, bA (decide ((c.length : Int) > 1048576)))] fun G => b6 (rcD G (fun h0 q0 => ?_) fun h0 q0 => ?_)))))
  ·
   refine wp_skip (b6 (wp_seq (j7 G (s6 1 [0] (bG2 c)) [0, 9, 10, 11, 17] (v5 c []) [(2, bA false), (3, .ptr 4 0)] fun G => b6 (wp_seq (k8 G (s6 1 [1, 2, 3] (j9.lend (at1 ((j8 c).vars) ((j8 c).arrays) ((j8 c).list)) [.row 3, .row 3, .row 86])) [(4, iA (m0 c).fst), (5, iA (m0 c).snd)] fun G => b6 (wp_seq (k8 G (s6 1 [1, 2, 3] (j9.lend (a73 ((j8 c).vars) ((j8 c).arrays) ((j8 c).list)) [.row 3, .row 3, .row 86])) [(6, iA (m0 c).fst), (7, iA (m0 c).snd)] fun G => b6 (wp_seq (j7 G f7 [0, 1, 2, 3, 4, 29] (v5 c [.box [.v (.slice none 0 0), .v (.slice none 0 0), .ref 3]]) (x9 c []) fun G => b6 (wp_seq (wp_seq (D7 G f7 (x9 c [(9, iA 0)]) fun G => b6 (wp_block ?_))))))))))))); obtain ⟨ρ, G⟩ := G.nil 6 3 (.ints []) 1 (v5 c [.box [.ref 6, .v (.slice none 0 0), .ref 3]]) [(2, bA false), (3, .ptr 4 0), (4, iA (z9 (d8.mk (j8 c).vars (j8 c).arrays (j8 c).list)).fst), (5, iA (z9 (d8.mk (j8 c).vars (j8 c).arrays (j8 c).list)).snd), (6, iA (z9 (d8.mk (j8 c).vars (j8 c).arrays (j8 c).list)).fst), (7, iA (z9 (d8.mk (j8 c).vars (j8 c).arrays (j8 c).list)).snd), (8, .ptr 5 0), (9, iA 0)]; obtain ⟨ρ, G⟩ := G.nil 7 3 (.ints []) 1 (v5 c [.box [.ref 6, .ref 7, .ref 3], .row 3 (D.ints [])]) [(2, bA false), (3, .ptr 4 0), (4, iA (z9 (d8.mk (j8 c).vars (j8 c).arrays (j8 c).list)).fst), (5, iA (z9 (d8.mk (j8 c).vars (j8 c).arrays (j8 c).list)).snd), (6, iA (z9 (d8.mk (j8 c).vars (j8 c).arrays (j8 c).list)).fst), (7, iA (z9 (d8.mk (j8 c).vars (j8 c).arrays (j8 c).list)).snd), (8, .ptr 5 0), (9, iA 0)]; refine s8 (κ := Nat) (fun k => k ≤ (j8 c).vars.length) (fun k => (j8 c).vars.length - k) (fun k => [dY c, .row 3 (D.ints (j8 c).vars), .row 3 (D.ints (j8 c).arrays), .row 86 (D.instrs (j8 c).list), .box (pL 1), .box [.ref 6, .ref 7, .ref 3], .row 3 (.ints (jn (j8 c).vars k)), .row 3 (D.ints [])]) (fun k => [(2, bA false), (3, .ptr 4 0), (4, iA (z9 (d8.mk (j8 c).vars (j8 c).arrays (j8 c).list)).fst), (5, iA (z9 (d8.mk (j8 c).vars (j8 c).arrays (j8 c).list)).snd), (6, iA (z9 (d8.mk (j8 c).vars (j8 c).arrays (j8 c).list)).fst), (7, iA (z9 (d8.mk (j8 c).vars (j8 c).arrays (j8 c).list)).snd), (8, .ptr 5 0), (9, iA k)]) 0 (by omega) (t7.at G _ _) ?_; clear G; intro k ρ a w hp G; replace G := t7.at G (v5 c [.box [.ref 6, .ref 7, .ref 3], .row 3 (D.ints (jn (j8 c).vars k)), .row 3 (D.ints [])]) (x9 c [(9, iA k)])
   have hjl := bB6 (xs := (j8 c).vars) hp; have hpk := hp; refine wp_seq (wp_seq (k8 G f7 [(35, bA (decide ((k : Int) < ((j8 c).vars.length : Int))))] fun G => b6 (rcD G (fun h1 q1 => ?_) fun h1 q1 => ?_)))
   ·
    refine wp_exit (s4 (s4 (r8 (b6 (wp_seq (wp_seq (D7 G f7 (x9 c [(10, iA 0)]) fun G => b6 (wp_block ?_)))))))); refine s8 (κ := Nat) (fun i => i ≤ (j8 c).arrays.length) (fun i => (j8 c).arrays.length - i) (fun i => [dY c, .row 3 (D.ints (j8 c).vars), .row 3 (D.ints (j8 c).arrays), .row 86 (D.instrs (j8 c).list), .box (pL 1), .box [.ref 6, .ref 7, .ref 3], .row 3 (D.ints (jn (j8 c).vars k)), .row 3 (.ints (jn (j8 c).arrays i))]) (fun i => [(2, bA false), (3, .ptr 4 0), (4, iA (z9 (d8.mk (j8 c).vars (j8 c).arrays (j8 c).list)).fst), (5, iA (z9 (d8.mk (j8 c).vars (j8 c).arrays (j8 c).list)).snd), (6, iA (z9 (d8.mk (j8 c).vars (j8 c).arrays (j8 c).list)).fst), (7, iA (z9 (d8.mk (j8 c).vars (j8 c).arrays (j8 c).list)).snd), (8, .ptr 5 0), (10, iA i)]) 0 (by omega) (t7.at G _ _) ?_; clear G; intro i ρ a w hp G; replace G := t7.at G (v5 c [.box [.ref 6, .ref 7, .ref 3], .row 3 (D.ints (jn (j8 c).vars k)), .row 3 (D.ints (jn (j8 c).arrays i))]) (x9 c [(10, iA i)]); have hjm := bB6 (xs := (j8 c).arrays) hp; refine wp_seq (wp_seq (k8 G f7 [(53, bA (decide ((i : Int) < ((j8 c).arrays.length : Int))))] fun G => b6 (rcD G (fun h2 q2 => ?_) fun h2 q2 => ?_)))
    ·
     refine wp_exit (s4 (s4 (r8 (b6 (wp_seq (j7 G (s6 1 [6, 7, 3] (j9.lend (at1 (jn (j8 c).vars k) (jn (j8 c).arrays i) ((j8 c).list)) [.row 3, .row 3, .row 86])) [0] [dY c] [(2, bA false), (4, iA (m0 c).fst), (5, iA (m0 c).snd), (6, iA (m0 c).fst), (7, iA (m0 c).snd), (11, iA (z9 (d8.mk (jn (j8 c).vars k) (jn (j8 c).arrays i) (j8 c).list)).fst), (12, iA (z9 (d8.mk (jn (j8 c).vars k) (jn (j8 c).arrays i) (j8 c).list)).snd)] fun G => b6 (wp_seq ?_))))))); cases h3 : ((z9 (d8.mk (j8 c).vars (j8 c).arrays (j8 c).list)).fst == 5)
     ·
      have q3 := ne_of_beq_false h3; cases h4 : ((z9 (d8.mk (jn (j8 c).vars k) (jn (j8 c).arrays i) (j8 c).list)).fst == (z9 (d8.mk (j8 c).vars (j8 c).arrays (j8 c).list)).fst)
      · have q4 := ne_of_beq_false h4; exact False.elim (by have h9 := br0 (v := (j8 c).vars) (ar := (j8 c).arrays) (l := (j8 c).list) (k := k) (i := i) (by omega) (by omega) (by omega); omega)
      · have q4 := eq_of_beq h4; refine k8 G (H8 (fc (a := (z9 (d8.mk (j8 c).vars (j8 c).arrays (j8 c).list)).fst == (z9 (d8.mk (j8 c).vars (j8 c).arrays (j8 c).list)).fst) (b := true) (by simp [h0, h1, h2, h3, h4]) (fc (a := (z9 (d8.mk (j8 c).vars (j8 c).arrays (j8 c).list)).snd == (z9 (d8.mk (j8 c).vars (j8 c).arrays (j8 c).list)).snd) (b := true) (by simp [h0, h1, h2, h3, h4]) (fc h3 (fc h4 fz)))) (us [(4, 6, 0), (1007, 1007, 0), (9, 11, 1), (12, 15, 2), (16, 18, 3), (19, 19, 2), (1019, 1019, 3), (20, 20, 1), (1020, 1020, 2), (1021, 1021, 1)])) [(2, bA ((z9 (d8.mk (jn (j8 c).vars k) (jn (j8 c).arrays i) (j8 c).list)).snd == (m0 c).snd))] fun G => b6 (wp_ret ?_); exact J3 ((z9 (d8.mk (jn (j8 c).vars k) (jn (j8 c).arrays i) (j8 c).list)).snd == (z9 (d8.mk (j8 c).vars (j8 c).arrays (j8 c).list)).snd) G [0] (bq9 (by omega) (by omega) (by omega))
     · have q3 := eq_of_beq h3; refine k8 G (H8 (fc (a := (z9 (d8.mk (j8 c).vars (j8 c).arrays (j8 c).list)).fst == (z9 (d8.mk (j8 c).vars (j8 c).arrays (j8 c).list)).fst) (b := true) (by simp [h0, h1, h2, h3]) (fc (a := (z9 (d8.mk (j8 c).vars (j8 c).arrays (j8 c).list)).snd == (z9 (d8.mk (j8 c).vars (j8 c).arrays (j8 c).list)).snd) (b := true) (by simp [h0, h1, h2, h3]) (fc h3 fz))) (us [(4, 6, 0), (1007, 1007, 0), (9, 11, 1), (12, 15, 2), (19, 19, 2), (20, 20, 1), (1020, 1020, 2), (1021, 1021, 1)])) [(2, bA true)] fun G => b6 (wp_ret ?_); exact M4 G [0]
    · refine wp_skip (b6 (wp_seq (wp_block (M5 G (s6 7 [] (an5 ((j8 c).arrays.getD i 0) 2)) [0, 1, 0, 4, 0, 28, 60, 124, 252, 511, 1023, 2047] [0, 1, 2, 3, 4, 5, 6, 80] (v5 c [.box [.ref 6, .ref 7, .ref 3], .row 3 (D.ints (jn (j8 c).vars k)), .row 3 (D.ints (jn (j8 c).arrays i ++ ([Z6 ((j8 c).arrays.getD i 0) 2] ++ [])))]) (x9 c [(10, iA i)]) (iX i i ((j8 c).arrays.length) (aP ((jn (j8 c).arrays i).length + ([Z6 ((j8 c).arrays.getD i (0 : Int)) (2 : Int)] ++ []).length) 8 [])) (iK (by omega) (aK (by simp; omega) ch8)) fun G => l0 (b6 (E1 G f7 [(10, iA ((i : Int) + 1))] [wO ((i : Int) + 1)] (o1 (by omega)) fun G => b6 ?_)))))); exact I6 G (i + 1) (by omega) (by omega) (rg 8) (by have e1 : (jn (j8 c).arrays (i + 1) : List Int) = (jn (j8 c).arrays i ++ ([Z6 ((j8 c).arrays.getD i 0) 2] ++ [])) := (bl1 (by omega)); (first | rw [e1] | simp only [e1]) <;> rfl)
   · refine wp_skip (b6 (wp_seq (wp_block (M5 G (s6 7 [] (an5 ((j8 c).vars.getD k 0) 2)) [0, 1, 0, 4, 0, 28, 60, 124, 252, 511, 1023, 2047] [0, 1, 2, 3, 4, 5, 7, 80] (v5 c [.box [.ref 7, .ref 6, .ref 3], .row 3 (D.ints []), .row 3 (D.ints (jn (j8 c).vars k ++ ([Z6 ((j8 c).vars.getD k 0) 2] ++ [])))]) (x9 c [(9, iA k)]) (iX k k ((j8 c).vars.length) (aP ((jn (j8 c).vars k).length + ([Z6 ((j8 c).vars.getD k (0 : Int)) (2 : Int)] ++ []).length) 8 [])) (iK (by omega) (aK (by simp; omega) ch8)) fun G => l0 (b6 (E1 G f7 [(9, iA ((k : Int) + 1))] [wO ((k : Int) + 1)] (o1 (by omega)) fun G => b6 ?_)))))); exact I6 G (k + 1) (by omega) (by omega) [0, 1, 2, 3, 4, 5, 7, 6] (by have e1 : (jn (j8 c).vars (k + 1) : List Int) = (jn (j8 c).vars k ++ ([Z6 ((j8 c).vars.getD k 0) 2] ++ [])) := (bl1 (by omega)); (first | rw [e1] | simp only [e1]) <;> rfl)
  · refine wp_seq (k8 G f7 [(2, bA true)] fun G => b6 (wp_ret (l5 ?_))); exact M4 G [0]
theorem ca4 (u : Value) (c : List UInt8) (w : World) (hp : L9 w u c.length 1 (u8s c)) : Calls Tryz.prog 10 #[u] w fun e w' => e = .returned (.bool true) ∧ Below w.heap.size w w' :=
 bs8 (b94 c) u w (hp.rowF fun _ _ => trivial)
end
end Go.Proofs.YthikdkjjdeehoaaGreat.exLVerifyDistrust

namespace Go.Proofs.YthikdkjjdeehoaaGreat.exLVerifyDistrust
open Go Go.RowKit Go.ChangeShapes Go.WideShapes Go.ChangeAt Go.Proofs.YthikdkjjdeehoaaGreat
theorem lifted (os : Os) (started : os.Started) (H : Type) (enc : TypeId × Value → H) :
  ReturnsInHanded {} Tryz.checked os 10 .any (Rows.fnVerifyDistrustSpec.pre6 enc Tryz.prog Tryz.f10 Rows.fnVerifyDistrustRow.domain false) (Rows.fnVerifyDistrustSpec.post enc Tryz.prog Tryz.f10 false true false false) := by
 refine returnsInHanded_of_change (C := Tryz.checked) own started (by kernel_rfl) Tryz.func10
  (ChangeSpec.witness6 (enc := enc) (C := Tryz.checked) false ⟨#[], #[.slice none 0 0], []⟩ 8 (by kernel_rfl) (by kernel_rfl) (by kernel_rfl) (by kernel_rfl)) ?_
 intro W base args ds gs before hval0 hW hcnd _
 have hval : ∀ (j : Nat) t v, Tryz.f10.params[j]? = some t → args[j]? = some v → Value.okWide Tryz.prog W .any base t v := hval0
 have hW' := hW
 obtain ⟨p, q, hA0, hV, rfl, hfz, hnd⟩ := hW
 have hA : DataW.TrodAll enc Tryz.prog W 0 (fun _ => true) true Tryz.f10.params.toList args.toList ds p := hA0
 rw [Tryz.params10] at hA hval
 obtain ⟨v0, vs0, d0, ds0, p0, q0, hargs, rfl, rfl, h0, r0⟩ := trodAll_cons hA
 obtain ⟨rfl, rfl, rfl⟩ := trodAll_nil r0
 obtain rfl : args = #[v0] := by cases args; simp_all
 obtain ⟨rfl, rfl⟩ := trodVars_none hV
 have k0 := h0
 have lt0 : ∀ x ∈ p0, x.block < W.heap.size := by obtain ⟨m, hm⟩ := k0; exact DataW.trod_lt m _ _ _ hm
 obtain ⟨a0, len0, cap0, rfl⟩ := okWide_slice Tryz.underlying22 (hval 0 22 v0 rfl rfl)
 obtain ⟨x0, hx0⟩ : ∃ l : List UInt8, L9 W (.slice a0 len0 cap0) l.length 1 (u8s l) := by
  obtain ⟨fuel, hf⟩ := h0
  exact aM9 Tryz.underlying22 hf
 clear hA0 hval0
 refine (ca4 _ x0 W hx0).mono fun e W' ⟨he, bel⟩ => ?_
 subst he
 exact ⟨_, rfl, _, _, _, [], _, [], hW', trodAll_mk1 (shut_bool Tryz.underlying4 _), (trodAll_cons_mk (Below.trod bL6 (by kernel_rfl) (of_decide_eq_true (by kernel_rfl)) k0 bel lt0) trodAll_mk0), rfl, bel.frame _, fun h => by cases h⟩
theorem facts : joinedFacts Tryz.pinned.checked.prog 10 Tryz.f10 Rows.fnVerifyDistrustSpec Rows.fnVerifyDistrustRow = true := by
 unfold joinedFacts
 rw [may_enter, lifts_final, make_is]
 kernel_rfl
theorem over : Rows.fnVerifyDistrustRow.holds Tryz.pinned (OpenSpec.ofChange Rows.fnVerifyDistrustSpec) :=
 OpenClaim.holds_of_wide 10 Tryz.f10 rfl rfl rfl rfl rfl rfl rfl ⟨rfl, rfl, rfl, rfl, rfl⟩ rfl rfl rfl rfl rfl (by kernel_rfl) Tryz.func10 facts
  (of_decide_eq_true (by kernel_rfl)) (by unfold Func.isWrapper; first | (rw [if_pos (by decide +kernel)]; kernel_rfl) | (rw [if_neg (by decide +kernel)]; exact ⟨rfl, rfl⟩))
  (fun os started H enc _ => lifted os started H enc)
theorem proved : Rows.FnVerifyDistrustSaid := over
end Go.Proofs.YthikdkjjdeehoaaGreat.exLVerifyDistrust
