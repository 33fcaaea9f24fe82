/-
  Which instructions of valid code can be reached: two searches and one set. No program in sight. Conditions: none.
-/
import Derived.Test.YtgpkdfefgcpbiaaPure1
namespace Go.Proofs.Ytgpkdfefgcpbiaa
set_option linter.unusedVariables false
set_option linter.unusedSimpArgs false

def tgtOf (x : LIns) : Int := if x.op = 8 then x.a else if x.op = 9 ∨ x.op = 10 then x.b else -1
/-- What may follow instruction i, in the reference's order. -/
def nextS (x : LIns) (i : Int) : List Int := if x.op = 13 then [] else if x.op = 8 then [x.a] else if x.op = 9 ∨ x.op = 10 then [i + 1, x.b] else [i + 1]
/-- In the program's. -/
def nextI (x : LIns) (i : Int) : List Int := (if 0 ≤ tgtOf x then [tgtOf x] else []) ++ (if x.op ≠ 8 ∧ x.op ≠ 13 then [i + 1] else [])

def nx (c : LCode) (t : Int) : List Int := match c.list[t.toNat]? with | some x => nextS x t | none => []
theorem nx_at {c : LCode} {t : Int} (h : t.toNat < c.list.length) : nx c t = nextS c.list[t.toNat] t := by simp [nx, h]

theorem codeOk_parts {c : LCode} (h : codeOk c = true) : headsB c.vars c.arrays = true ∧ 1 ≤ c.list.length ∧ c.list.length ≤ 400 ∧ (∀ (i : Nat) (hi : i < c.list.length), insOk c c.list[i] = true) ∧ lastOk c = true := by
  unfold codeOk at h
  simp only [Bool.and_eq_true, decide_eq_true_eq, List.all_eq_true] at h
  obtain ⟨⟨⟨⟨h1, h2⟩, h3⟩, h4⟩, h5⟩ := h
  exact ⟨h1, h2, h3, fun i hi => h4 _ (List.getElem_mem hi), h5⟩

theorem tgt_ok {c : LCode} {x : LIns} (h : insOk c x = true) (ho : x.op = 8 ∨ x.op = 9 ∨ x.op = 10) : 0 ≤ tgtOf x ∧ tgtOf x < c.list.length := by
  unfold insOk at h
  simp only [Bool.and_eq_true, decide_eq_true_eq] at h
  obtain ⟨_, ⟨⟨ha, hb⟩, _⟩, _⟩ := h
  rcases ho with ho | ho | ho
  · rw [ho] at ha
    simp [fldStr, partOk, rangeOk] at ha
    simp [tgtOf, ho]; omega
  · rw [ho] at hb
    simp [fldStr, partOk, rangeOk] at hb
    simp [tgtOf, ho]; omega
  · rw [ho] at hb
    simp [fldStr, partOk, rangeOk] at hb
    simp [tgtOf, ho]; omega

theorem last_ok {c : LCode} (h : codeOk c = true) (i : Nat) (hi : i < c.list.length) (h1 : c.list[i].op ≠ 13) (h2 : c.list[i].op ≠ 8) : i + 1 < c.list.length := by
  obtain ⟨_, hn, _, _, hl⟩ := codeOk_parts h
  rcases Nat.lt_or_ge (i + 1) c.list.length with hlt | hge
  · exact hlt
  · exfalso
    unfold lastOk at hl
    rw [List.getLast?_eq_getElem?, show c.list.length - 1 = i by omega, List.getElem?_eq_getElem hi] at hl
    simp at hl
    omega

theorem nx_ok {c : LCode} (h : codeOk c = true) {i t : Int} (hi : 0 ≤ i) (ht : t ∈ nx c i) : 0 ≤ t ∧ t < c.list.length := by
  by_cases hlt : i.toNat < c.list.length
  · rw [nx_at hlt] at ht
    have ho := (codeOk_parts h).2.2.2.1 _ hlt
    have hl := last_ok h _ hlt
    have hk := tgt_ok ho
    unfold nextS at ht
    unfold tgtOf at hk
    generalize c.list[i.toNat] = x at *
    by_cases h13 : x.op = 13
    · simp [h13] at ht
    · by_cases h8 : x.op = 8
      · simp [h8] at ht hk
        omega
      · have := hl h13 h8
        by_cases h9 : x.op = 9 ∨ x.op = 10
        · simp only [if_neg h13, if_neg h8, if_pos h9, List.mem_cons, List.not_mem_nil, or_false] at ht hk
          rcases ht with rfl | rfl
          · omega
          · exact hk (.inr h9)
        · simp only [if_neg h13, if_neg h8, if_neg h9, List.mem_cons, List.not_mem_nil, or_false] at ht
          omega
  · unfold nx at ht
    rw [List.getElem?_eq_none (by omega)] at ht
    simp at ht

theorem nextI_mem {c : LCode} {x : LIns} (h : insOk c x = true) (i t : Int) : t ∈ nextI x i ↔ t ∈ nextS x i := by
  have hk := tgt_ok h
  unfold nextI nextS
  by_cases h13 : x.op = 13
  · simp [h13, tgtOf]
  · by_cases h8 : x.op = 8
    · have hh := hk (.inl h8)
      simp [h8, tgtOf] at hh ⊢
      omega
    · by_cases h9 : x.op = 9 ∨ x.op = 10
      · have hh := hk (.inr h9)
        have e : tgtOf x = x.b := by simp [tgtOf, h8, h9]
        rw [e] at hh ⊢
        simp only [if_neg h13, if_neg h8, if_pos h9, if_pos hh.1, if_pos (show x.op ≠ 8 ∧ x.op ≠ 13 from ⟨h8, h13⟩)]
        simp [or_comm]
      · have e : tgtOf x = -1 := by simp [tgtOf, h8, h9]
        rw [e]
        simp [h13, h8, h9]

theorem nextI_len (x : LIns) (i : Int) : (nextI x i).length ≤ 2 := by
  unfold nextI; rw [List.length_append]; split <;> split <;> simp

/-- What can be reached from the first instruction. -/
inductive Rc (c : LCode) : Int → Prop
  | zero : Rc c 0
  | step {i t : Int} : Rc c i → t ∈ nx c i → Rc c t

noncomputable def reachB (c : LCode) : List Bool := (List.range c.list.length).map fun (j : Nat) => @decide (Rc c (j : Int)) (Classical.propDecidable _)

theorem Rc.nonneg {c : LCode} (h : codeOk c = true) {t : Int} (hr : Rc c t) : 0 ≤ t := by
  induction hr with
  | zero => omega
  | step _ ht ih => exact (nx_ok h ih ht).1

theorem reach_done {c : LCode} (hc : codeOk c = true) {bs : List Bool} (hl : bs.length = c.list.length) (hs : ∀ j : Nat, bs[j]? = some true → Rc c j) (h0 : bs[0]? = some true)
    (hcl : ∀ j : Nat, bs[j]? = some true → ∀ t ∈ nx c j, bs[t.toNat]? = some true) : bs = reachB c := by
  have key : ∀ t : Int, Rc c t → bs[t.toNat]? = some true := by
    intro t ht
    induction ht with
    | zero => exact h0
    | @step i t hi ht ih =>
      have hn := Rc.nonneg hc hi
      exact hcl i.toNat ih t (by rw [show ((i.toNat : Nat) : Int) = i by omega]; exact ht)
  apply List.ext_getElem
  · simp [reachB, hl]
  · intro j h1 h2
    have e : (reachB c)[j] = @decide (Rc c (j : Int)) (Classical.propDecidable _) := by simp [reachB]
    rw [e]
    by_cases hr : Rc c (j : Int)
    · have := key _ hr
      rw [Int.toNat_natCast, List.getElem?_eq_getElem h1] at this
      simp only [Option.some.injEq] at this
      rw [this]; simp [hr]
    · cases hb : bs[j]
      · simp [hr]
      · exact absurd (hs j (by rw [List.getElem?_eq_getElem h1, hb])) hr

theorem count_set {bs : List Bool} {k : Nat} (h : bs[k]? = some false) : (bs.set k true).count false + 1 = bs.count false := by
  induction bs generalizing k with
  | nil => simp at h
  | cons b r ih =>
    cases k with
    | zero => simp at h; subst h; simp
    | succ k =>
      simp at h
      have := ih h
      simp only [List.set_cons_succ, List.count_cons]
      omega

theorem set_true {bs : List Bool} {k j : Nat} (h : bs[j]? = some true) : (bs.set k true)[j]? = some true := by
  rw [List.getElem?_set]
  split
  · rename_i e; subst e
    have := (List.getElem?_eq_some_iff.1 h).1
    simp [this]
  · exact h
theorem set_true_inv {bs : List Bool} {k j : Nat} (h : (bs.set k true)[j]? = some true) : j = k ∨ bs[j]? = some true := by
  rw [List.getElem?_set] at h
  split at h
  · rename_i e; exact .inl e.symm
  · exact .inr h
theorem set_true_at {bs : List Bool} {k : Nat} (h : k < bs.length) : (bs.set k true)[k]? = some true := by simp [h]

/-- Between the rounds of the reference's search. -/
structure SInv (c : LCode) (qs : List Int) (bs : List Bool) : Prop where
  len : bs.length = c.list.length
  cnt : qs.length + bs.count false = c.list.length
  q : ∀ t ∈ qs, 0 ≤ t ∧ t < c.list.length ∧ Rc c t
  sound : ∀ j : Nat, bs[j]? = some true → Rc c j
  inq : ∀ j : Nat, bs[j]? = some true → (j : Int) ∈ qs
  zero : bs[0]? = some true

theorem SInv.start {c : LCode} (hc : codeOk c = true) : SInv c [0] ((List.replicate c.list.length false).set 0 true) := by
  have hn := (codeOk_parts hc).2.1
  have hone : ∀ j : Nat, ((List.replicate c.list.length false).set 0 true)[j]? = some true → j = 0 := by
    intro j h
    rcases set_true_inv h with h | h
    · exact h
    · rw [List.getElem?_replicate] at h; split at h <;> simp at h
  refine ⟨by simp, ?_, ?_, ?_, ?_, ?_⟩
  · have := count_set (bs := List.replicate c.list.length false) (k := 0) (by rw [List.getElem?_replicate, if_pos (by omega)])
    simp at this ⊢
    omega
  · intro t ht
    simp at ht; subst ht
    exact ⟨by omega, by omega, .zero⟩
  · intro j h; rw [hone j h]; exact .zero
  · intro j h; rw [hone j h]; simp
  · exact set_true_at (by simp; omega)

theorem SInv.push {c : LCode} {qs : List Int} {bs : List Bool} (h : SInv c qs bs) {t : Int} (h0 : 0 ≤ t) (h1 : t < c.list.length) (hr : Rc c t) (hb : bs[t.toNat]? = some false) :
    SInv c (qs ++ [t]) (bs.set t.toNat true) := by
  refine ⟨by simp [h.len], ?_, ?_, ?_, ?_, set_true h.zero⟩
  · have := count_set hb
    have := h.cnt
    simp; omega
  · intro u hu
    rcases List.mem_append.1 hu with hu | hu
    · exact h.q u hu
    · simp at hu; subst hu; exact ⟨h0, h1, hr⟩
  · intro j hj
    rcases set_true_inv hj with rfl | hj
    · rw [show ((t.toNat : Nat) : Int) = t by omega]; exact hr
    · exact h.sound j hj
  · intro j hj
    rcases set_true_inv hj with rfl | hj
    · simp; right; omega
    · exact List.mem_append_left _ (h.inq j hj)

/-- The first i of the queue have all their followers marked. -/
def Closed (c : LCode) (qs : List Int) (bs : List Bool) (i : Nat) : Prop := ∀ (m : Nat) (u : Int), m < i → qs[m]? = some u → ∀ t ∈ nx c u, bs[t.toNat]? = some true
theorem Closed.push {c : LCode} {qs : List Int} {bs : List Bool} {i : Nat} (h : Closed c qs bs i) (hi : i ≤ qs.length) (t : Int) (k : Nat) : Closed c (qs ++ [t]) (bs.set k true) i :=
  fun m u hm hu x hx => set_true (h m u hm (by rwa [List.getElem?_append_left (by omega)] at hu) x hx)
theorem Closed.done {c : LCode} (hc : codeOk c = true) {qs : List Int} {bs : List Bool} (h : SInv c qs bs) (hcl : Closed c qs bs qs.length) : bs = reachB c := by
  refine reach_done hc h.len h.sound h.zero fun j hj t ht => ?_
  obtain ⟨m, hm, he⟩ := List.getElem_of_mem (h.inq j hj)
  exact hcl m j hm (by rw [List.getElem?_eq_getElem hm, he]) t ht

/-- Between the rounds of the program's search. -/
structure IInv (c : LCode) (ls : List Int) (bs : List Bool) : Prop where
  len : bs.length = c.list.length
  cnt : ls.length + 2 * bs.count false ≤ 2 * c.list.length + 1
  l : ∀ t ∈ ls, 0 ≤ t ∧ t < c.list.length ∧ Rc c t
  sound : ∀ j : Nat, bs[j]? = some true → Rc c j
  zero : bs[0]? = some true ∨ (0 : Int) ∈ ls
  clos : ∀ j : Nat, bs[j]? = some true → ∀ t ∈ nx c j, bs[t.toNat]? = some true ∨ t ∈ ls

theorem IInv.start {c : LCode} (hc : codeOk c = true) : IInv c [0] (List.replicate c.list.length false) := by
  have hn := (codeOk_parts hc).2.1
  refine ⟨by simp, by simp; omega, ?_, ?_, .inr (by simp), ?_⟩
  · intro t ht
    simp at ht; subst ht
    exact ⟨by omega, by omega, .zero⟩
  · intro j h; rw [List.getElem?_replicate] at h; split at h <;> simp at h
  · intro j h; rw [List.getElem?_replicate] at h; split at h <;> simp at h

theorem IInv.skip {c : LCode} {ls : List Int} {i : Int} {bs : List Bool} (h : IInv c (ls ++ [i]) bs) (hb : bs[i.toNat]? = some true) : IInv c ls bs := by
  refine ⟨h.len, by have := h.cnt; simp at this; omega, fun t ht => h.l t (List.mem_append_left _ ht), h.sound, ?_, ?_⟩
  · rcases h.zero with h0 | h0
    · exact .inl h0
    · rcases List.mem_append.1 h0 with h0 | h0
      · exact .inr h0
      · simp at h0; subst h0; exact .inl hb
  · intro j hj t ht
    rcases h.clos j hj t ht with h1 | h1
    · exact .inl h1
    · rcases List.mem_append.1 h1 with h1 | h1
      · exact .inr h1
      · simp at h1; subst h1; exact .inl hb

theorem IInv.mark {c : LCode} (hc : codeOk c = true) {ls : List Int} {i : Int} {bs : List Bool} (h : IInv c (ls ++ [i]) bs) (hb : bs[i.toNat]? = some false) {news : List Int} (hl : news.length ≤ 2) (hm : ∀ t, t ∈ news ↔ t ∈ nx c i) :
    IInv c (ls ++ news) (bs.set i.toNat true) := by
  have hi := h.l i (by simp)
  have hlt : i.toNat < bs.length := (List.getElem?_eq_some_iff.1 hb).1
  refine ⟨by simp [h.len], ?_, ?_, ?_, ?_, ?_⟩
  · have := count_set hb
    have := h.cnt
    simp at this ⊢; omega
  · intro t ht
    rcases List.mem_append.1 ht with ht | ht
    · exact h.l t (List.mem_append_left _ ht)
    · have hx := (hm t).1 ht
      exact ⟨(nx_ok hc hi.1 hx).1, (nx_ok hc hi.1 hx).2, .step hi.2.2 hx⟩
  · intro j hj
    rcases set_true_inv hj with rfl | hj
    · rw [show ((i.toNat : Nat) : Int) = i by omega]; exact hi.2.2
    · exact h.sound j hj
  · rcases h.zero with h0 | h0
    · exact .inl (set_true h0)
    · rcases List.mem_append.1 h0 with h0 | h0
      · exact .inr (List.mem_append_left _ h0)
      · simp at h0; subst h0; exact .inl (set_true_at hlt)
  · intro j hj t ht
    rcases set_true_inv hj with rfl | hj
    · rw [show ((i.toNat : Nat) : Int) = i by omega] at ht
      exact .inr (List.mem_append_right _ ((hm t).2 ht))
    · rcases h.clos j hj t ht with h1 | h1
      · exact .inl (set_true h1)
      · rcases List.mem_append.1 h1 with h1 | h1
        · exact .inr (List.mem_append_left _ h1)
        · simp at h1; subst h1; exact .inl (set_true_at hlt)

theorem IInv.done {c : LCode} (hc : codeOk c = true) {bs : List Bool} (h : IInv c [] bs) : bs = reachB c := by
  refine reach_done hc h.len h.sound ?_ fun j hj t ht => ?_
  · rcases h.zero with h0 | h0
    · exact h0
    · simp at h0
  · rcases h.clos j hj t ht with h1 | h1
    · exact h1
    · simp at h1

end Go.Proofs.Ytgpkdfefgcpbiaa
