/-
  Optimization of code: threaded and trimmed code is valid; threading twice is threading once; the search for a fixed point ends. No program in sight. Conditions: valid code.
-/
import Derived.Test.YtjlnaiifegjneaaPure10
namespace Go.Proofs.Ytjlnaiifegjneaa

theorem aim_op (x : LIns) (t : Int) : (aimF x t).op = x.op := by unfold aimF; split <;> (try split) <;> rfl
theorem aim_self {x : LIns} (_h : 0 ≤ tgtOf x) : aimF x (tgtOf x) = x := by
  unfold aimF tgtOf
  split
  · rfl
  · split
    · simp only []
    · rfl
theorem aim_aim (x : LIns) (t u : Int) : aimF (aimF x t) u = aimF x u := by
  unfold aimF
  by_cases h8 : x.op = 8
  · simp [h8]
  · by_cases h9 : x.op = 9 ∨ x.op = 10
    · simp only [if_neg h8, if_pos h9]
    · simp only [if_neg h8, if_neg h9]
theorem aim_tgt {x : LIns} (h : 0 ≤ tgtOf x) (t : Int) : tgtOf (aimF x t) = t := by
  unfold tgtOf at h
  unfold tgtOf aimF
  by_cases h8 : x.op = 8
  · simp [h8]
  · by_cases h9 : x.op = 9 ∨ x.op = 10
    · simp only [if_neg h8, if_pos h9]
    · rw [if_neg h8, if_neg h9] at h; omega

theorem op_cases {x : LIns} (h1 : 1 ≤ x.op) (h2 : x.op ≤ 13) : x.op = 1 ∨ x.op = 2 ∨ x.op = 3 ∨ x.op = 4 ∨ x.op = 5 ∨ x.op = 6 ∨ x.op = 7 ∨ x.op = 8 ∨ x.op = 9 ∨ x.op = 10 ∨ x.op = 11 ∨ x.op = 12 ∨ x.op = 13 := by omega

theorem insOk_aim {c d : LCode} {x : LIns} (h : insOk c x = true) (_hv : d.vars = c.vars) (_ha : d.arrays = c.arrays) {t : Int} (hx : 0 ≤ tgtOf x) (h0 : 0 ≤ t) (h1 : t < d.list.length) : insOk d (aimF x t) = true := by
  have h' := h
  unfold insOk at h ⊢
  simp only [Bool.and_eq_true, decide_eq_true_eq] at h
  obtain ⟨⟨ho1, ho2⟩, hp⟩ := h
  rw [aim_op]
  cases x with
  | mk op a b c' d' =>
  simp only at *
  rcases op_cases (x := ⟨op, a, b, c', d'⟩) ho1 ho2 with e | e | e | e | e | e | e | e | e | e | e | e | e <;> simp only at e <;> subst e <;>
    simp [fldStr, partOk, rangeOk, aimF, tgtOf] at hp hx ⊢ <;> simp_all

theorem insOk_other {c d : LCode} {x : LIns} (h : insOk c x = true) (_hv : d.vars = c.vars) (_ha : d.arrays = c.arrays) (hx : tgtOf x < 0) : insOk d x = true := by
  unfold insOk at h ⊢
  simp only [Bool.and_eq_true, decide_eq_true_eq] at h
  obtain ⟨⟨ho1, ho2⟩, hp⟩ := h
  cases x with
  | mk op a b c' d' =>
  simp only at *
  rcases op_cases (x := ⟨op, a, b, c', d'⟩) ho1 ho2 with e | e | e | e | e | e | e | e | e | e | e | e | e <;> simp only at e <;> subst e <;>
    simp [fldStr, partOk, rangeOk, tgtOf] at hp hx ⊢ <;> simp_all <;> omega

theorem reach_get {c : LCode} {i : Nat} (h : i < c.list.length) : (reachB c).getD i false = true ↔ Rc c (i : Int) := by
  simp [reachB, h]

theorem nx_nat {c : LCode} {i : Nat} (h : i < c.list.length) : nx c (i : Int) = nextS c.list[i] i := by
  have := nx_at (c := c) (t := (i : Int)) (by simpa using h)
  simpa using this

/-- From a place that is reached on something is kept. -/
theorem kept_from {c : LCode} (hc : codeOk c = true) : ∀ (d i : Nat), c.list.length - i = d → i < c.list.length → Rc c (i : Int) → ∃ j, i ≤ j ∧ j < c.list.length ∧ keepB c j = true := by
  intro d
  induction d with
  | zero => intro i h1 h2; omega
  | succ d ih =>
    intro i h1 h2 hr
    cases hk : keepB c i
    · unfold keepB at hk
      rw [(reach_get h2).2 hr] at hk
      simp only [Bool.true_and, Bool.not_eq_false'] at hk
      unfold hopB at hk
      rw [insAt_get h2] at hk
      simp only [Bool.and_eq_true, decide_eq_true_eq] at hk
      have hm : (i : Int) + 1 ∈ nx c (i : Int) := by
        rw [nx_nat h2]
        unfold nextS
        simp [hk.1, hk.2]
      have hok := nx_ok hc (Rc.nonneg hc hr) hm
      have hr1 := Rc.step hr hm
      have e : (i : Int) + 1 = ((i + 1 : Nat) : Int) := by omega
      rw [e] at hr1 hok
      obtain ⟨j, a, b, e⟩ := ih (i + 1) (by omega) (by omega) hr1
      exact ⟨j, by omega, b, e⟩
    · exact ⟨i, Nat.le_refl _, h2, hk⟩

theorem plc_mono (ks : List Bool) {a b : Nat} (h : a ≤ b) : plc ks a ≤ plc ks b := by
  unfold plc
  have : ks.take a = (ks.take b).take a := by rw [List.take_take, Nat.min_eq_left h]
  rw [this]
  exact List.Sublist.count_le _ (List.take_sublist _ _)
theorem plc_lt {ks : List Bool} {i j n : Nat} (h1 : i ≤ j) (h2 : j < n) (h3 : n ≤ ks.length) (h : ks.getD j false = true) : plc ks i < plc ks n := by
  have a := plc_mono ks h1
  have b := plc_mono ks (show j + 1 ≤ n by omega)
  rw [plc_succ ks j (by omega), if_pos h] at b
  omega
theorem trimL_len (c : LCode) (ks : List Bool) : ∀ k, k ≤ ks.length → (trimL c ks k).length = plc ks k := by
  intro k
  induction k with
  | zero => intro _; simp [trimL_zero, plc_zero]
  | succ k ih =>
    intro h
    rw [plc_succ ks k (by omega)]
    cases hk : ks.getD k false
    · rw [trimL_skip hk, ih (by omega)]; simp
    · rw [trimL_put hk, List.length_append, ih (by omega)]; simp
theorem trimL_mem {c : LCode} {ks : List Bool} {k : Nat} {x : LIns} (h : x ∈ trimL c ks k) : ∃ i, i < k ∧ ks.getD i false = true ∧ x = trI ks (insAt c i) := by
  unfold trimL at h
  rw [List.mem_flatMap] at h
  obtain ⟨i, hi, hx⟩ := h
  split at hx
  · rename_i hk
    simp at hx
    exact ⟨i, List.mem_range.1 hi, hk, hx⟩
  · simp at hx
theorem trimL_last (c : LCode) (ks : List Bool) : ∀ k, trimL c ks k ≠ [] → ∃ j, j < k ∧ ks.getD j false = true ∧ (∀ i, j < i → i < k → ks.getD i false = false) ∧ (trimL c ks k).getLast? = some (trI ks (insAt c j)) := by
  intro k
  induction k with
  | zero => intro h; exact absurd (trimL_zero c ks) h
  | succ k ih =>
    intro h
    cases hk : ks.getD k false
    · rw [trimL_skip hk] at h ⊢
      obtain ⟨j, h1, h2, h3, h4⟩ := ih h
      refine ⟨j, by omega, h2, fun i a b => ?_, h4⟩
      by_cases e : i = k
      · subst e; exact hk
      · exact h3 i a (by omega)
    · rw [trimL_put hk]
      exact ⟨k, by omega, hk, fun i a b => by omega, by simp⟩
theorem trI_op (ks : List Bool) (x : LIns) : (trI ks x).op = x.op := by unfold trI; split; exact aim_op _ _; rfl

theorem kept_rc {c : LCode} {i : Nat} (h : i < c.list.length) (hk : (keepL c).getD i false = true) : Rc c (i : Int) := by
  rw [keepL_get c i h] at hk
  unfold keepB at hk
  simp only [Bool.and_eq_true] at hk
  exact (reach_get h).1 hk.1

theorem tgt_next {x : LIns} (h : 0 ≤ tgtOf x) (i : Int) : tgtOf x ∈ nextS x i := by
  unfold tgtOf nextS at *
  by_cases h8 : x.op = 8
  · simp [h8]
  · by_cases h9 : x.op = 9 ∨ x.op = 10
    · rw [if_neg h8, if_pos h9]
      rw [if_neg (by omega), if_neg h8, if_pos h9]; simp
    · rw [if_neg h8, if_neg h9] at h; omega

theorem trim_ok {c : LCode} (hc : codeOk c = true) : codeOk (trimF c) = true := by
  obtain ⟨h1, h2, h3, h4, h5⟩ := codeOk_parts hc
  have hkl := keepL_len c
  have hlen : (trimL c (keepL c) c.list.length).length = plc (keepL c) c.list.length := trimL_len c _ _ (by omega)
  obtain ⟨j0, -, hj2, hj3⟩ := kept_from hc _ 0 rfl (by omega) Rc.zero
  have hpos : 0 < plc (keepL c) c.list.length := by
    have := plc_lt (ks := keepL c) (i := 0) (Nat.zero_le j0) hj2 (by omega) (by rw [keepL_get c _ hj2]; exact hj3)
    omega
  unfold codeOk
  simp only [Bool.and_eq_true, decide_eq_true_eq, List.all_eq_true]
  refine ⟨⟨⟨⟨h1, ?_⟩, ?_⟩, ?_⟩, ?_⟩
  · show 1 ≤ (trimL c (keepL c) c.list.length).length; omega
  · show (trimL c (keepL c) c.list.length).length ≤ 400
    have := trimL_le c (keepL c) c.list.length; omega
  · intro x hx
    obtain ⟨i, hi, hk, rfl⟩ := trimL_mem hx
    have hr := kept_rc hi hk
    rw [insAt_get hi]
    unfold trI
    split
    · rename_i ht
      have hm : tgtOf c.list[i] ∈ nx c (i : Int) := by rw [nx_nat hi]; exact tgt_next ht _
      have hok := nx_ok hc (by omega) hm
      obtain ⟨t, het⟩ : ∃ t : Nat, tgtOf c.list[i] = t := ⟨(tgtOf c.list[i]).toNat, by omega⟩
      have hrt := Rc.step hr hm
      rw [het] at hrt hok
      obtain ⟨j, a, b, e⟩ := kept_from hc _ t rfl (by omega) hrt
      have := plc_lt (ks := keepL c) a b (by omega) (by rw [keepL_get c _ b]; exact e)
      refine insOk_aim (d := trimF c) (h4 i hi) rfl rfl ht (by omega) ?_
      show _ < ((trimL c (keepL c) c.list.length).length : Int)
      rw [het, Int.toNat_natCast]; omega
    · rename_i ht
      exact insOk_other (d := trimF c) (h4 i hi) rfl rfl (by omega)
  · unfold lastOk
    obtain ⟨j, a, b, d, e⟩ := trimL_last c (keepL c) c.list.length (by intro h; rw [h] at hlen; simp at hlen; omega)
    show (match (trimL c (keepL c) c.list.length).getLast? with | some x => decide (x.op = 13) || decide (x.op = 8) | none => false) = true
    rw [e]
    simp only [trI_op, insAt_get a]
    by_cases e13 : c.list[j].op = 13
    · simp [e13]
    · by_cases e8 : c.list[j].op = 8
      · simp [e8]
      · exfalso
        have hl := last_ok hc j a e13 e8
        have hm : (j : Int) + 1 ∈ nx c (j : Int) := by
          rw [nx_nat a]; unfold nextS; rw [if_neg e13, if_neg e8]; split <;> simp
        have hr1 := Rc.step (kept_rc a b) hm
        rw [show (j : Int) + 1 = ((j + 1 : Nat) : Int) by omega] at hr1
        obtain ⟨i, p, q, r⟩ := kept_from hc _ (j + 1) rfl hl hr1
        have := d i (by omega) q
        rw [keepL_get c _ q, r] at this
        cases this

theorem chase_place {c : LCode} (hc : codeOk c = true) : ∀ (k : Nat) (x : Int), placeOk c x → placeOk c (chase c k x)
  | 0, _, h => h
  | k + 1, x, h => by
    cases hj : isJ c x
    · rw [chase_stop hj]; exact h
    · rw [chase_step hj]; exact chase_place hc k _ (jump_ok hc h hj)
theorem final_place {c : LCode} (hc : codeOk c = true) {x : Int} (h : placeOk c x) : placeOk c (finalT c x) := by
  unfold finalT; split
  · exact h
  · exact chase_place hc _ _ h
theorem thr_op (c : LCode) (x : LIns) : (thrI c x).op = x.op := by unfold thrI; split; exact aim_op _ _; rfl
theorem thr_len (c : LCode) : (thrF c).list.length = c.list.length := by simp [thrF]

theorem thr_ok {c : LCode} (hc : codeOk c = true) : codeOk (thrF c) = true := by
  obtain ⟨h1, h2, h3, h4, h5⟩ := codeOk_parts hc
  unfold codeOk
  simp only [Bool.and_eq_true, decide_eq_true_eq, List.all_eq_true]
  refine ⟨⟨⟨⟨h1, by rw [thr_len]; exact h2⟩, by rw [thr_len]; exact h3⟩, ?_⟩, ?_⟩
  · intro x hx
    obtain ⟨y, hy, rfl⟩ := List.mem_map.1 hx
    obtain ⟨i, hi, rfl⟩ := List.getElem_of_mem hy
    unfold thrI
    split
    · rename_i ht
      have hp := final_place hc ⟨ht, tgt_range (h4 i hi) ht⟩
      exact insOk_aim (d := thrF c) (h4 i hi) rfl rfl ht hp.1 (by rw [thr_len]; exact hp.2)
    · exact insOk_other (d := thrF c) (h4 i hi) rfl rfl (by omega)
  · unfold lastOk at h5 ⊢
    show (match (c.list.map (thrI c)).getLast? with | some x => decide (x.op = 13) || decide (x.op = 8) | none => false) = true
    rw [List.getLast?_map]
    cases hl : c.list.getLast? with
    | none => rw [hl] at h5; cases h5
    | some x => rw [hl] at h5; simpa [thr_op] using h5

/-! The chain of jumps ends within as many steps as there are places, or never. -/
theorem chase_add (c : LCode) : ∀ (a b : Nat) (x : Int), chase c (a + b) x = chase c b (chase c a x)
  | 0, b, x => by simp [chase]
  | a + 1, b, x => by
    rw [show a + 1 + b = (a + b) + 1 by omega]
    cases hj : isJ c x
    · rw [chase_stop hj, chase_stop hj, chase_stop hj]
    · rw [chase_step hj, chase_step hj, chase_add c a b]
theorem chase_jump {c : LCode} {x : Int} {k : Nat} (h : isJ c (chase c k x) = true) : ∀ j, j ≤ k → isJ c (chase c j x) = true := by
  intro j hj
  cases hf : isJ c (chase c j x)
  · have := chase_add c j (k - j) x
    rw [show j + (k - j) = k by omega, chase_stop hf] at this
    rw [this, hf] at h; cases h
  · rfl
/-- A chain that comes back runs on. -/
theorem chase_loop {c : LCode} {x : Int} {i j : Nat} (hij : i < j) (he : chase c i x = chase c j x) (hj : isJ c (chase c j x) = true) : ∀ k, isJ c (chase c k x) = true := by
  have hall := chase_jump hj
  intro k
  induction k using Nat.strongRecOn with
  | _ k ih =>
    rcases Nat.lt_or_ge k (j + 1) with h | h
    · exact hall k (by omega)
    · have h1 := chase_add c j (k - j) x
      have h2 := chase_add c i (k - j) x
      rw [← he, ← h2, show j + (k - j) = k by omega] at h1
      rw [h1]
      exact ih _ (by omega)
/-- Marks on the places that a chain has met. -/
theorem chase_marks {c : LCode} (hc : codeOk c = true) {x : Int} (hx : placeOk c x) : ∀ m, (∀ i j, i < j → j < m → chase c i x ≠ chase c j x) →
    ∃ bs : List Bool, bs.length = c.list.length ∧ bs.count false + m = c.list.length ∧ ∀ p : Nat, bs[p]? = some true → ∃ i, i < m ∧ chase c i x = p := by
  intro m
  induction m with
  | zero => intro _; exact ⟨List.replicate c.list.length false, by simp, by simp, fun p hp => by simp [List.getElem?_replicate] at hp⟩
  | succ m ih =>
    intro hd
    obtain ⟨bs, h1, h2, h3⟩ := ih fun i j a b => hd i j a (by omega)
    have hp := chase_place hc m x hx
    obtain ⟨p, hpe⟩ : ∃ p : Nat, chase c m x = p := ⟨(chase c m x).toNat, by have := hp.1; omega⟩
    have hpl : p < bs.length := by have := hp.2; rw [hpe] at this; omega
    have hb : bs[p]? = some false := by
      rw [List.getElem?_eq_getElem hpl]
      cases hb : bs[p]
      · rfl
      · obtain ⟨i, a, b⟩ := h3 p (by rw [List.getElem?_eq_getElem hpl, hb])
        exact absurd (b.trans hpe.symm) (hd i m a (by omega))
    refine ⟨bs.set p true, by simpa using h1, by have := count_set hb; omega, fun q hq => ?_⟩
    rcases set_true_inv hq with rfl | hq
    · exact ⟨m, by omega, hpe⟩
    · obtain ⟨i, a, b⟩ := h3 q hq
      exact ⟨i, by omega, b⟩
theorem chase_ever {c : LCode} (hc : codeOk c = true) {x : Int} (hx : placeOk c x) (h : isJ c (chase c c.list.length x) = true) : ∀ k, isJ c (chase c k x) = true := by
  by_cases hd : ∀ i j, i < j → j < c.list.length + 1 → chase c i x ≠ chase c j x
  · obtain ⟨bs, h1, h2, h3⟩ := chase_marks hc hx _ hd
    omega
  · have : ∃ i j, i < j ∧ j < c.list.length + 1 ∧ chase c i x = chase c j x := by
      apply Classical.byContradiction
      intro hn
      exact hd fun i j a b e => hn ⟨i, j, a, b, e⟩
    obtain ⟨i, j, a, b, e⟩ := this
    exact chase_loop a e (chase_jump h j (by omega))

theorem ins_thr {c : LCode} {i : Nat} (h : i < c.list.length) : insAt (thrF c) i = thrI c (insAt c i) := by
  rw [insAt_get h, insAt_get (by rw [thr_len]; exact h)]
  simp [thrF]
theorem isJ_thr {c : LCode} {x : Int} (h : placeOk c x) : isJ (thrF c) x = isJ c x := by
  unfold isJ
  rw [ins_thr (by have := h.1; have := h.2; omega), thr_op]

theorem final_again {c : LCode} (hc : codeOk c = true) {t : Int} (ht : placeOk c t) : finalT (thrF c) (finalT c t) = finalT c t := by
  cases hj : isJ c (chase c c.list.length t)
  · have e : finalT c t = chase c c.list.length t := by unfold finalT; rw [hj]; simp
    rw [e]
    have hf : isJ (thrF c) (chase c c.list.length t) = false := by rw [isJ_thr (chase_place hc _ _ ht)]; exact hj
    unfold finalT
    rw [chase_stop hf, hf]; simp
  · have e : finalT c t = t := by unfold finalT; rw [hj]; simp
    rw [e]
    have key : ∀ (k : Nat) (x : Int), placeOk c x → (∀ m, isJ c (chase c m x) = true) → isJ (thrF c) (chase (thrF c) k x) = true := by
      intro k
      induction k with
      | zero => intro x hx hv; rw [chase, isJ_thr hx]; exact hv 0
      | succ k ih =>
        intro x hx hv
        have hj0 : isJ c x = true := hv 0
        have hxl : x.toNat < c.list.length := by have := hx.1; have := hx.2; omega
        rw [chase_step (by rw [isJ_thr hx]; exact hj0), ins_thr hxl]
        have hop : (insAt c x.toNat).op = 8 := by unfold isJ at hj0; simpa using hj0
        have hpl := jump_ok hc hx hj0
        have htg : tgtOf (insAt c x.toNat) = (insAt c x.toNat).a := by unfold tgtOf; rw [if_pos hop]
        have hv1 : ∀ m, isJ c (chase c m (insAt c x.toNat).a) = true := fun m => by have := hv (m + 1); rwa [chase_step hj0] at this
        have hfin : finalT c (insAt c x.toNat).a = (insAt c x.toNat).a := by unfold finalT; rw [hv1]; simp
        have ha : (thrI c (insAt c x.toNat)).a = (insAt c x.toNat).a := by
          unfold thrI
          rw [htg, if_pos hpl.1, hfin]
          unfold aimF; rw [if_pos hop]
        rw [ha]
        exact ih _ hpl hv1
    have := key (thrF c).list.length t ht (chase_ever hc ht hj)
    unfold finalT
    rw [this]; simp

theorem thr_thr {c : LCode} (hc : codeOk c = true) : thrF (thrF c) = thrF c := by
  unfold thrF
  simp only [LCode.mk.injEq, true_and, List.map_map]
  apply List.map_congr_left
  intro x hx
  obtain ⟨i, hi, rfl⟩ := List.getElem_of_mem hx
  have hok := (codeOk_parts hc).2.2.2.1 i hi
  show thrI (thrF c) (thrI c c.list[i]) = thrI c c.list[i]
  by_cases ht : 0 ≤ tgtOf c.list[i]
  · have hp : placeOk c (tgtOf c.list[i]) := ⟨ht, tgt_range hok ht⟩
    have e : thrI c c.list[i] = aimF c.list[i] (finalT c (tgtOf c.list[i])) := by unfold thrI; rw [if_pos ht]
    rw [e]
    unfold thrI
    rw [aim_tgt ht, if_pos (final_place hc hp).1, aim_aim, final_again hc hp]
  · have e : thrI c c.list[i] = c.list[i] := by unfold thrI; rw [if_neg ht]
    rw [e]
    unfold thrI; rw [if_neg ht]

theorem trim_same {c : LCode} (hc : codeOk c = true) (h : (trimF c).list.length = c.list.length) : trimF c = c := by
  have hkl := keepL_len c
  have h' : plc (keepL c) c.list.length = c.list.length := by rw [← trimL_len c _ _ (by omega)]; exact h
  have hall : ∀ b ∈ keepL c, b = true := by
    have : (keepL c).count true = (keepL c).length := by
      unfold plc at h'; rw [List.take_of_length_le (by omega)] at h'; omega
    intro b hb
    exact (List.count_eq_length.1 this b hb).symm
  have hget : ∀ i, i < c.list.length → (keepL c).getD i false = true := fun i hi => by
    rw [List.getD_eq_getElem?_getD, List.getElem?_eq_getElem (by omega), Option.getD_some]
    exact hall _ (List.getElem_mem _)
  have hp : ∀ i, i ≤ c.list.length → plc (keepL c) i = i := by
    intro i
    induction i with
    | zero => intro _; exact plc_zero _
    | succ i ih => intro hi; rw [plc_succ _ _ (by omega), ih (by omega), if_pos (hget i (by omega))]
  have htr : ∀ i, i < c.list.length → trI (keepL c) (insAt c i) = insAt c i := by
    intro i hi
    rw [insAt_get hi]
    unfold trI
    split
    · rename_i ht
      have := tgt_range ((codeOk_parts hc).2.2.2.1 i hi) ht
      rw [hp _ (by omega), show ((tgtOf c.list[i]).toNat : Int) = tgtOf c.list[i] by omega]
      exact aim_self ht
    · rfl
  have key : ∀ k, k ≤ c.list.length → trimL c (keepL c) k = c.list.take k := by
    intro k
    induction k with
    | zero => intro _; simp [trimL_zero]
    | succ k ih =>
      intro hk
      rw [trimL_put (hget k (by omega)), ih (by omega), htr k (by omega), insAt_get (by omega), p_take_succ _ _ (by omega)]
  unfold trimF
  rw [key _ (Nat.le_refl _), List.take_of_length_le (Nat.le_refl _)]

/-- Threaded, then trimmed. -/
noncomputable def optG (c : LCode) : LCode := trimF (thrF c)
theorem optG_ok {c : LCode} (hc : codeOk c = true) : codeOk (optG c) = true := trim_ok (thr_ok hc)
inductive Opt : LCode → LCode → Prop
  | stop {c : LCode} : optG c = c → Opt c c
  | step {c r : LCode} : optG c ≠ c → Opt (optG c) r → Opt c r
theorem opt_fun {c r s : LCode} (h : Opt c r) : Opt c s → r = s := by
  induction h with
  | stop h => intro k; cases k with
    | stop => rfl
    | step k _ => exact absurd h k
  | step h _ ih => intro k; cases k with
    | stop k => exact absurd k h
    | step _ k => exact ih k
theorem optG_len (c : LCode) : (optG c).list.length ≤ c.list.length := by
  have := trimL_le (thrF c) (keepL (thrF c)) (thrF c).list.length
  rw [thr_len] at this
  unfold optG trimF
  rw [thr_len]
  exact this
open Classical in
noncomputable def optM (c : LCode) : Nat := 2 * c.list.length + (if thrF c = c then 0 else 1)
theorem optM_lt {c : LCode} (hc : codeOk c = true) (h : optG c ≠ c) : optM (optG c) < optM c := by
  have hl := optG_len c
  by_cases he : (optG c).list.length = c.list.length
  · have e : optG c = thrF c := trim_same (thr_ok hc) (by rw [thr_len]; exact he)
    have h1 : optM (optG c) = 2 * c.list.length := by
      unfold optM
      rw [he, e, if_pos (thr_thr hc)]; simp
    have h2 : optM c = 2 * c.list.length + 1 := by
      unfold optM
      rw [if_neg (by rw [← e]; exact h)]
    omega
  · have h1 : optM (optG c) ≤ 2 * (optG c).list.length + 1 := by unfold optM; split <;> omega
    have h2 : 2 * c.list.length ≤ optM c := by unfold optM; split <;> omega
    omega
theorem opt_ex : ∀ (m : Nat) (c : LCode), optM c ≤ m → codeOk c = true → ∃ r, Opt c r ∧ codeOk r = true := by
  intro m
  induction m using Nat.strongRecOn with
  | _ m ih =>
    intro c hm hc
    by_cases h : optG c = c
    · exact ⟨c, .stop h, hc⟩
    · obtain ⟨r, h1, h2⟩ := ih (optM (optG c)) (by have := optM_lt hc h; omega) _ (Nat.le_refl _) (optG_ok hc)
      exact ⟨r, .step h h1, h2⟩
open Classical in
noncomputable def optF (c : LCode) : LCode := if h : ∃ r, Opt c r then Classical.choose h else c
theorem optF_spec {c : LCode} (hc : codeOk c = true) : Opt c (optF c) ∧ codeOk (optF c) = true := by
  obtain ⟨r, h1, h2⟩ := opt_ex _ c (Nat.le_refl _) hc
  have hex : ∃ r, Opt c r := ⟨r, h1⟩
  have e : Opt c (optF c) := by unfold optF; rw [dif_pos hex]; exact Classical.choose_spec hex
  exact ⟨e, by rw [← opt_fun h1 e]; exact h2⟩
theorem optF_stop {c : LCode} (hc : codeOk c = true) (h : optG c = c) : optF c = c := opt_fun (optF_spec hc).1 (.stop h)
theorem optF_step {c : LCode} (hc : codeOk c = true) (h : optG c ≠ c) : optF (optG c) = optF c := by
  have h1 := (optF_spec (optG_ok hc)).1
  exact (opt_fun (optF_spec hc).1 (.step h h1)).symm

end Go.Proofs.Ytjlnaiifegjneaa
