/-
  The program's CodeValid: instructions. Conditions: the arguments are code.
-/
import Derived.Test.YtjlnaiifegjneaaImplCode
namespace Go.Proofs.Ytjlnaiifegjneaa
open Go Go.RowKit

set_option maxHeartbeats 1000000 in
theorem indexFunc_ins0 (p : LIns → Bool) (f : FuncId) (v : Value) (xs : List LIns) (w : World) (h : InsRow w v xs) (he : ∀ args w, (callFunc f args).run Try.prog w = .ok (.enter f args) w)
    (hf : ∀ x w', Below w.heap.size w w' → Calls Try.prog f #[x.v] w' fun e w'' => e = .returned (.bool (p x)) ∧ Below w'.heap.size w' w'') :
    Calls Try.prog 92 #[v, .func (.func f) #[] #[]] w fun e w' => ∃ r : Int, e = .returned (.int .i64 r) ∧ decide (0 ≤ r) = xs.any p ∧ Below w.heap.size w w' := by
  obtain ⟨a1, c1, rfl, -, hm1, -, hc1⟩ := h.ins
  have HF := show Hid _ from hf
  clear h hf
  go_enter Try.func92, Try.ntmps92
  go_wp2_with fail
  go_loopw [5, 8] (fun _ i wr => ∃ k : Nat, k ≤ xs.length ∧ i = .int .i64 k ∧ (xs.take k).any p = false ∧ Below w.heap.size w wr) (fun _ i _ => xs.length - (intOf i).toNat)
  case atStart => exact ⟨0, Nat.zero_le _, rfl, rfl, Below.refl _ _⟩
  case round =>
    obtain ⟨k, hk, rfl, ha, hb⟩ := hrel
    have HA := show Hid _ from ha
    clear ha
    by_cases hlt : k < xs.length
    · obtain ⟨b1, o1, rfl, hb1, i0, i1, i2, i3, i4⟩ := hc1 k hlt
      rw [← (bcell hb).1 _ _ hb1] at i0 i1 i2 i3 i4
      clear hc1
      cases hp : p xs[k]
      all_goals
        have HP := show Hid _ from hp
        clear hp
        go_wp2_with fail
        refine (HF.out xs[k] _ hb).mono ?_
        rintro e w1 ⟨rfl, hb2⟩
        rw [HP.out]
        go_wp2_with fail
      · go_roundw
        case rel => exact ⟨k + 1, by omega, by go_num, by rw [take_succ_get _ _ hlt, List.any_append, HA.out]; simp [HP.out], hb.trans (hb2.mono hb.size)⟩
        case measure => simp [intOf]; omega
      · go_ret
        exact ⟨_, rfl, by rw [decide_eq_true (by omega)]; symm; rw [List.any_eq_true]; exact ⟨_, List.getElem_mem hlt, HP.out⟩, hb.trans (hb2.mono hb.size)⟩
    · go_wp2_with fail
      go_ret
      refine ⟨_, rfl, ?_, hb⟩
      have := HA.out
      rw [List.take_of_length_le (by omega)] at this
      rw [this]; rfl

theorem containsFunc_ins0 (p : LIns → Bool) (f : FuncId) (v : Value) (xs : List LIns) (w : World) (h : InsRow w v xs) (he : ∀ args w, (callFunc f args).run Try.prog w = .ok (.enter f args) w)
    (hf : ∀ x w', Below w.heap.size w w' → Calls Try.prog f #[x.v] w' fun e w'' => e = .returned (.bool (p x)) ∧ Below w'.heap.size w' w'') :
    Calls Try.prog 54 #[v, .func (.func f) #[] #[]] w fun e w' => e = .returned (.bool (xs.any p)) ∧ Below w.heap.size w w' := by
  obtain ⟨a1, c1, rfl, -⟩ := h.open
  have HF := show Hid _ from hf
  have HE := show Hid _ from he
  clear hf he
  go_enter Try.func54, Try.ntmps54
  go_wp2_with fail
  refine (indexFunc_ins0 p f _ xs _ h HE.out HF.out).mono ?_
  rintro e w1 ⟨r, rfl, hr, hb⟩
  have HR := show Hid _ from hr
  clear hr
  go_wp2_with fail
  go_ret
  exact ⟨ret_bool HR.out, hb⟩

set_option maxHeartbeats 1000000 in
theorem indexFunc_ins1 (p : LIns → Bool) (f : FuncId) (q : Value) (v : Value) (xs : List LIns) (w : World) (h : InsRow w v xs) (he : ∀ args w, (callFunc f args).run Try.prog w = .ok (.enter f args) w)
    (hf : ∀ x w', Below w.heap.size w w' → Calls Try.prog f #[x.v, q] w' fun e w'' => e = .returned (.bool (p x)) ∧ Below w'.heap.size w' w'') :
    Calls Try.prog 92 #[v, .func (.func f) #[] #[q]] w fun e w' => ∃ r : Int, e = .returned (.int .i64 r) ∧ decide (0 ≤ r) = xs.any p ∧ Below w.heap.size w w' := by
  obtain ⟨a1, c1, rfl, -, hm1, -, hc1⟩ := h.ins
  have HF := show Hid _ from hf
  clear h hf
  go_enter Try.func92, Try.ntmps92
  go_wp2_with fail
  go_loopw [5, 8] (fun _ i wr => ∃ k : Nat, k ≤ xs.length ∧ i = .int .i64 k ∧ (xs.take k).any p = false ∧ Below w.heap.size w wr) (fun _ i _ => xs.length - (intOf i).toNat)
  case atStart => exact ⟨0, Nat.zero_le _, rfl, rfl, Below.refl _ _⟩
  case round =>
    obtain ⟨k, hk, rfl, ha, hb⟩ := hrel
    have HA := show Hid _ from ha
    clear ha
    by_cases hlt : k < xs.length
    · obtain ⟨b1, o1, rfl, hb1, i0, i1, i2, i3, i4⟩ := hc1 k hlt
      rw [← (bcell hb).1 _ _ hb1] at i0 i1 i2 i3 i4
      clear hc1
      cases hp : p xs[k]
      all_goals
        have HP := show Hid _ from hp
        clear hp
        go_wp2_with fail
        refine (HF.out xs[k] _ hb).mono ?_
        rintro e w1 ⟨rfl, hb2⟩
        rw [HP.out]
        go_wp2_with fail
      · go_roundw
        case rel => exact ⟨k + 1, by omega, by go_num, by rw [take_succ_get _ _ hlt, List.any_append, HA.out]; simp [HP.out], hb.trans (hb2.mono hb.size)⟩
        case measure => simp [intOf]; omega
      · go_ret
        exact ⟨_, rfl, by rw [decide_eq_true (by omega)]; symm; rw [List.any_eq_true]; exact ⟨_, List.getElem_mem hlt, HP.out⟩, hb.trans (hb2.mono hb.size)⟩
    · go_wp2_with fail
      go_ret
      refine ⟨_, rfl, ?_, hb⟩
      have := HA.out
      rw [List.take_of_length_le (by omega)] at this
      rw [this]; rfl

theorem containsFunc_ins1 (p : LIns → Bool) (f : FuncId) (q : Value) (v : Value) (xs : List LIns) (w : World) (h : InsRow w v xs) (he : ∀ args w, (callFunc f args).run Try.prog w = .ok (.enter f args) w)
    (hf : ∀ x w', Below w.heap.size w w' → Calls Try.prog f #[x.v, q] w' fun e w'' => e = .returned (.bool (p x)) ∧ Below w'.heap.size w' w'') :
    Calls Try.prog 54 #[v, .func (.func f) #[] #[q]] w fun e w' => e = .returned (.bool (xs.any p)) ∧ Below w.heap.size w w' := by
  obtain ⟨a1, c1, rfl, -⟩ := h.open
  have HF := show Hid _ from hf
  have HE := show Hid _ from he
  clear hf he
  go_enter Try.func54, Try.ntmps54
  go_wp2_with fail
  refine (indexFunc_ins1 p f q _ xs _ h HE.out HF.out).mono ?_
  rintro e w1 ⟨r, rfl, hr, hb⟩
  have HR := show Hid _ from hr
  clear hr
  go_wp2_with fail
  go_ret
  exact ⟨ret_bool HR.out, hb⟩

set_option maxHeartbeats 4000000 in
theorem impl_shape (op : Int) (w : World) :
    Calls Try.prog 118 #[.int .i64 op] w fun e w' => e = .returned (.string ⟨(shpStr op).toArray⟩) ∧ Below w.heap.size w w' := by
  by_cases h : 1 ≤ op ∧ op ≤ 13
  · obtain ⟨h1, h2⟩ := h
    have h : op = 1 ∨ op = 2 ∨ op = 3 ∨ op = 4 ∨ op = 5 ∨ op = 6 ∨ op = 7 ∨ op = 8 ∨ op = 9 ∨ op = 10 ∨ op = 11 ∨ op = 12 ∨ op = 13 := by omega
    clear h1 h2
    rcases h with rfl | rfl | rfl | rfl | rfl | rfl | rfl | rfl | rfl | rfl | rfl | rfl | rfl
    all_goals
      go_enter Try.func118, Try.ntmps118
      go_wp2_with fail
      refine (impl_within _ 1 13 _).mono ?_
      rintro e w1 ⟨rfl, rfl⟩
      go_wp2_with fail
      go_ret
      exact ⟨by simp [shpStr], by go_grown⟩
  · have hF : Hid (shpStr op = []) := shp_empty h
    have hb : (decide ((1 : Int) ≤ op) && decide (op ≤ 13)) = false := by
      rw [Bool.eq_false_iff]; simp only [ne_eq, Bool.and_eq_true, decide_eq_true_eq]; exact h
    have HB := show Hid _ from hb
    clear h hb
    go_enter Try.func118, Try.ntmps118
    go_wp2_with fail
    refine (impl_within _ 1 13 _).mono ?_
    rintro e w1 ⟨rfl, rfl⟩
    rw [HB.out]
    go_wp2_with fail
    go_ret
    exact ⟨by rw [hF.out]; rfl, Below.refl _ _⟩

theorem impl_fields (x : LIns) (w : World) :
    Calls Try.prog 119 #[x.v] w fun e w' => ∃ u, e = .returned u ∧ Own w' w.heap.size w'.heap.size 3 1 u 4 (ints [x.a, x.b, x.c, x.d]) ∧ Below w.heap.size w w' := by
  obtain ⟨x0, x1, x2, x3, x4⟩ := x
  go_enter Try.func119, Try.ntmps119
  go_wp2_with fail
  go_ret
  refine ⟨_, rfl, (own_built _ #[.int .i64 x1, .int .i64 x2, .int .i64 x3, .int .i64 x4] 4 1 _ (by simp) rfl (by omega)).wide (by simp) (by simp), by go_grown⟩

set_option maxHeartbeats 2000000 in
theorem impl_fieldOk (v1 v2 v3 : Value) (c : LCode) (kd : UInt8) (n : Int) (w : World) (h1 : Row w v1 c.vars.length 1 (ints c.vars)) (h2 : Row w v2 c.arrays.length 1 (ints c.arrays)) (h3 : InsRow w v3 c.list) :
    Calls Try.prog 120 #[.agg #[v1, v2, v3], .int .u8 kd.toNat, .int .i64 n] w fun e w' => e = .returned (.bool (rangeOk2 c kd n)) ∧ Below w.heap.size w w' := by
  obtain ⟨a1, k1, rfl, -, q1, -, -⟩ := h1.open1
  obtain ⟨a2, k2, rfl, -, q2, -, -⟩ := h2.open1
  obtain ⟨a3, k3, rfl, -, q3, -, -⟩ := h3.open
  have hk : kd.toNat < 256 := kd.toNat_lt
  have HK : Hid (∀ m : UInt8, (kd = m) = ((kd.toNat : Int) = (m.toNat : Int))) := fun m => by
    rw [eq_iff_iff]
    constructor
    · rintro rfl; rfl
    · intro h; exact UInt8.toNat_inj.1 (by omega)
  clear h1 h2 h3
  obtain ⟨z, hz⟩ : ∃ z, z = kd.toNat := ⟨_, rfl⟩
  rw [← hz] at hk ⊢
  have HZ := show Hid _ from hz
  clear hz
  go_enter Try.func120, Try.ntmps120
  go_wp2_with (go_at_call 89; refine (impl_within _ _ _ _).mono ?_; rintro e w1 ⟨rfl, rfl⟩)
  all_goals go_ret
  all_goals refine ⟨ret_bool ?_, by go_grown⟩
  all_goals unfold rangeOk2
  all_goals simp only [HK.out, ← HZ.out, show (UInt8.toNat 114) = 114 from rfl, show (UInt8.toNat 110) = 110 from rfl, show (UInt8.toNat 118) = 118 from rfl, show (UInt8.toNat 97) = 97 from rfl, show (UInt8.toNat 111) = 111 from rfl, show (UInt8.toNat 105) = 105 from rfl]
  all_goals clear HK HZ hk q1 q2 q3
  all_goals simp_all
  all_goals (rw [Bool.eq_iff_iff]; simp)

end Go.Proofs.Ytjlnaiifegjneaa
