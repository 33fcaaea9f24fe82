/-
  Regions that draw their order, with a chain of operations that turn memory, each after the one before; the others only read and hand fixed values; one last store. Conditions: as the Bools say.
-/
import Derived.Test.YtgpkdfefgcpbiaaRegF
namespace Go.Proofs.Ytgpkdfefgcpbiaa
set_option linter.unusedVariables false
set_option linter.unusedSimpArgs false
open Go Go.RowKit

section
variable {P : Program}

/-- Edges that bind go back. -/
def backB2 (ops : Array Oper) : Bool := (List.range ops.size).all fun j => (ops[j]?).any fun o => o.after.all fun e => !Region.binds .any e || decide (e.on < j)
theorem back2_lt {ops : Array Oper} (hb : backB2 ops = true) {k : Nat} {o : Oper} (hk : k < ops.size) (ho : ops[k]? = some o) {e : Edge} (he : e ∈ o.after) (hbi : Region.binds .any e = true) : e.on < k := by
  have h1 := List.all_eq_true.1 hb k (List.mem_range.2 hk)
  rw [ho] at h1
  simp only [Option.any_some] at h1
  have h2 := Array.all_eq_true'.1 h1 e he
  rw [hbi] at h2
  simpa using h2
theorem some_ready2 {ops : Array Oper} (hb : backB2 ops = true) {listed : Array Bool} (hsz : listed.size = ops.size) : ∀ k, k < ops.size → listed.getD k true = false → Region.ready .any ops listed ≠ [] := by
  intro k
  induction k using Nat.strongRecOn with
  | _ k ih =>
    intro hk hl hn
    by_cases hall : ∃ j, j < k ∧ listed.getD j true = false
    · obtain ⟨j, hj, hlj⟩ := hall
      exact ih j hj (by omega) hlj hn
    · have hok : ops[k]? = some ops[k] := Array.getElem?_eq_getElem hk
      have : k ∈ Region.ready .any ops listed := by
        refine mem_ready.2 ⟨hl, ops[k], hok, fun e he hbi => ?_⟩
        have h2 := back2_lt hb hk hok he hbi
        cases h3 : listed.getD e.on true
        · exact absurd ⟨e.on, h2, h3⟩ hall
        · have : e.on < listed.size := by omega
          simp [this] at h3 ⊢
          exact h3
      rw [hn] at this
      cases this
/-- The last operation waits for all others, and is walked alone. -/
def lastB2 (l : List Oper) (n : Nat) : Bool :=
  match l[n]? with
  | none => false
  | some _ => decide (l.length = n + 1) && Region.sinkB .any l.toArray n && Region.chainB .any l.toArray n && backB2 l.toArray

theorem wpAny_last2 {l : List Oper} {n : Nat} {Q : Exit → Act → World → Prop} (I : Array Bool → Act → World → Prop) (hn : l.toArray.size = n + 1) (hs : Region.sinkB .any l.toArray n = true) (hc : Region.chainB .any l.toArray n = true) (hb : backB2 l.toArray = true)
    (step : ∀ listed a w, I listed a w → ∀ i o, i < n → l[i]? = some o → listed.getD i true = false → (∀ e ∈ o.after, Region.binds .any e = true → listed.getD e.on false = true) →
      ∀ Q' : Exit → Act → World → Prop, (∀ a w, I (listed.setIfInBounds i true) a w → Q' .normal a w) → wpList P l.toArray Q' [o] a w)
    (last : ∀ listed a w, I listed a w → (∀ j, j < n → listed.getD j true = true) → ∀ o, l[n]? = some o → wpList P l.toArray Q [o] a w) :
    ∀ (fuel : Nat) (listed : Array Bool) (a : Act) (w : World), HeadInv .any l.toArray n listed → listed.toList.count false = fuel → I listed a w → wpAny P .any l.toArray Q fuel listed a w := by
  intro fuel
  induction fuel with
  | zero =>
    intro listed a w inv hcnt _
    have := count_listed (inv.tail n (Nat.le_refl _) (by omega))
    omega
  | succ f ih =>
    intro listed a w inv hcnt hI
    refine ⟨fun h0 => absurd h0 (some_ready2 hb inv.size n (by omega) (inv.tail n (Nat.le_refl _) (by omega))), fun i hi => ?_⟩
    obtain ⟨h1, o, ho, h2⟩ := mem_ready.1 hi
    have ho' : l[i]? = some o := by simpa using ho
    have hcl := count_listed h1
    have hisz := (Array.getElem?_eq_some_iff.1 ho).1
    rcases Nat.lt_or_ge i n with hin | hin
    · have hs' := step listed a w hI i o hin ho' h1 h2 (fun e a w => e = .normal ∧ I (listed.setIfInBounds i true) a w) fun a w h => ⟨rfl, h⟩
      unfold wpOp
      rw [ho]
      simp only
      unfold wpList at hs'
      split
      · rename_i hw
        rw [if_pos hw] at hs'
        rcases hs' with hs' | ⟨_, a, w, he, _⟩
        · exact .inl (wp_strict (fun _ _ _ h => h.1) (Oper.wp_mono (fun a' w' h => ih _ a' w' (inv.set hi hin) (by omega) h.2) hs'))
        · cases he
      · rename_i hw
        rw [if_neg hw] at hs'
        exact ih _ _ _ (inv.set hi hin) (by omega) hs'.2
    · obtain rfl : i = n := by omega
      have hall : ∀ j, j < i → listed.getD j true = true := fun j hj => by
        cases hl : listed.getD j true
        · exact absurd hi (tail_waits hs hc (by omega) inv _ j rfl hj hl i (Nat.le_refl _))
        · rfl
      have hnone : Region.ready .any l.toArray (listed.setIfInBounds i true) = [] := by
        rw [List.eq_nil_iff_forall_not_mem]
        intro j hj
        obtain ⟨hj1, oj, hoj, _⟩ := mem_ready.1 hj
        have hjs := (Array.getElem?_eq_some_iff.1 hoj).1
        by_cases hji : j = i
        · subst hji; simp [inv.size, hn] at hj1
        · rw [getD_set_ne true (fun e => hji e.symm), hall j (by omega)] at hj1; cases hj1
      have hl := last listed a w hI hall o ho'
      unfold wpOp
      rw [ho]
      simp only
      unfold wpList at hl
      have hfin : ∀ a' w', Q .normal a' w' → wpAny P .any l.toArray Q f (listed.setIfInBounds i true) a' w' := fun a' w' hq => by
        cases f with
        | zero => exact ⟨hnone, hq⟩
        | succ f => exact ⟨fun _ => hq, fun j hj => by rw [hnone] at hj; cases hj⟩
      split
      · rename_i hw
        rw [if_pos hw] at hl
        exact hl.imp (Oper.wp_mono (fun a' w' h => hfin a' w' h)) id
      · rename_i hw
        rw [if_neg hw] at hl
        exact hfin _ _ hl

/-- Each of these is bound to come after the one before. -/
def chainJ (l : List Oper) : List Nat → Bool
  | [] => true
  | [_] => true
  | i :: j :: r => (match l[j]? with | some o => o.after.any (fun e => Region.binds .any e && e.on == i) | none => false) && chainJ l (j :: r)
theorem chainJ_at {l : List Oper} : ∀ {Js : List Nat}, chainJ l Js = true → ∀ (s j j' : Nat) (o : Oper), Js[s]? = some j → Js[s + 1]? = some j' → l[j']? = some o → ∃ e, e ∈ o.after ∧ Region.binds .any e = true ∧ e.on = j
  | [], _, s, j, j', o, h1, _, _ => by simp at h1
  | [x], _, s, j, j', o, h1, h2, _ => by simp at h2
  | x :: y :: r, h, 0, j, j', o, h1, h2, ho => by
    simp at h1 h2
    subst h1 h2
    simp only [chainJ, Bool.and_eq_true] at h
    rw [ho] at h
    obtain ⟨e, he, h3⟩ := Array.any_eq_true'.1 h.1
    simp only [Bool.and_eq_true, beq_iff_eq] at h3
    exact ⟨e, he, h3.1, h3.2⟩
  | x :: y :: r, h, s + 1, j, j', o, h1, h2, ho => by
    simp only [chainJ, Bool.and_eq_true] at h
    exact chainJ_at h.2 s j j' o (by simpa using h1) (by simpa using h2) ho

theorem getD_tf {a : Array Bool} {j : Nat} (h : j < a.size) : a.getD j true = a.getD j false := by simp [h]
def JV (Js : List Nat) (f : Nat → Value) : Nat → Value := fun j => f (Js.getD j 0)

/-- What is known on the way. -/
def ChI (A : (Nat → Value) → Act) (Js : List Nat) (U : Nat → Value) (St : Nat → (Nat → Value) → World → Prop) (n m : Nat) (listed : Array Bool) (a : Act) (w : World) : Prop :=
  listed.size = m ∧ ∃ f s, a = A f ∧ s ≤ Js.length ∧ St s (JV Js f) w ∧ (∀ (j i : Nat), Js[j]? = some i → (listed.getD i false = true ↔ j < s)) ∧ ∀ i, i < n → i ∉ Js → listed.getD i false = true → f i = U i

theorem wp_region_chain {id : Nat} {l : List Oper} {Q : Exit → Act → World → Prop} {a0 : Act} {wr : World} (n : Nat) (Js : List Nat) (U : Nat → Value) (St : Nat → (Nat → Value) → World → Prop)
    (hm : P.follows .mixedOrders = true) (hB : lastB2 l n = true) (hd : dstsB l = true) (hJ : chainJ l Js = true) (hJn : Js.all (fun i => decide (i < n)) = true) (hnd : Js.Nodup)
    (hSt : ∀ s g g' w, (∀ j, j < s → g j = g' j) → St s g w → St s g' w)
    (init : ∀ g, St 0 g wr.drew)
    (other : ∀ i o, i < n → i ∉ Js → l[i]? = some o → ∀ s f w, St s (JV Js f) w → (∀ e ∈ o.after, Region.binds .any e = true → e.on ∉ Js → f e.on = U e.on) →
      ∀ Q' : Exit → Act → World → Prop, Q' .normal ((putAll a0 l 0 f).put o.dst (U i)) w → wpList P l.toArray Q' [o] (putAll a0 l 0 f) w)
    (step : ∀ s j o, Js[s]? = some j → l[j]? = some o → ∀ f w, St s (JV Js f) w → (∀ e ∈ o.after, Region.binds .any e = true → e.on ∉ Js → f e.on = U e.on) →
      ∀ Q' : Exit → Act → World → Prop, (∀ v w', St (s + 1) (fun j => if j = s then v else JV Js f j) w' → Q' .normal ((putAll a0 l 0 f).put o.dst v) w') → wpList P l.toArray Q' [o] (putAll a0 l 0 f) w)
    (last : ∀ o, l[n]? = some o → ∀ f w, St Js.length (JV Js f) w → (∀ j, j < n → j ∉ Js → f j = U j) → wpList P l.toArray Q [o] (putAll a0 l 0 f) w) : (Code.region id l.toArray true).wp P Q a0 wr := by
  unfold lastB2 at hB
  cases ho : l[n]? with
  | none => rw [ho] at hB; cases hB
  | some o =>
    rw [ho] at hB
    simp only [Bool.and_eq_true, decide_eq_true_eq] at hB
    obtain ⟨⟨⟨hn, hs⟩, hc⟩, hb⟩ := hB
    have hn' : l.toArray.size = n + 1 := by simpa using hn
    have hlt : ∀ i, i ∈ Js → i < n := fun i hi => by simpa using List.all_eq_true.1 hJn i hi
    have inv0 : HeadInv .any l.toArray n (Array.replicate l.toArray.size false) :=
      ⟨by simp, fun j oj _ hl => (by rw [getD_replicate_false] at hl; cases hl), fun t _ ht => getD_in (by simpa using ht) (getD_replicate_false _ _)⟩
    refine wp_region_any hm (wpAny_last2 (ChI (putAll a0 l 0) Js U St n l.length) hn' hs hc hb ?_ ?_ _ _ _ _ inv0 (by simp) ?_)
    · rintro listed a w ⟨hsz, f, s, rfl, hsl, hst, hlj, hv⟩ i o' hin ho' hun hdep Q' hQ
      have hdep' : ∀ e ∈ o'.after, Region.binds .any e = true → e.on ∉ Js → f e.on = U e.on := fun e he hbi hnj => by
        have h2 := back2_lt hb (show i < l.toArray.size by omega) (show l.toArray[i]? = some o' by simpa using ho') he hbi
        exact hv _ (by omega) hnj (hdep e he hbi)
      have hput : ∀ v, (putAll a0 l 0 f).put o'.dst v = putAll a0 l 0 (upd f i v) := fun v => by
        have := putAll_upd l a0 0 i f o' v hd ho'; rw [Nat.zero_add] at this; exact this.symm
      by_cases hij : i ∈ Js
      · obtain ⟨j, hj⟩ := List.mem_iff_getElem?.1 hij
        have hll : l.length = n + 1 := by simpa using hn'
        have hjs : ¬ j < s := fun h => by
          rw [getD_tf (by omega), (hlj j i hj).2 h] at hun
          cases hun
        have hje : j = s := by
          rcases Nat.lt_or_ge s j with h | h
          · obtain ⟨j0, rfl⟩ : ∃ j0, j = j0 + 1 := ⟨j - 1, by omega⟩
            have hl0 : j0 < Js.length := by have := (List.getElem?_eq_some_iff.1 hj).1; omega
            obtain ⟨e, he, hbi, heo⟩ := chainJ_at hJ j0 Js[j0] i o' (List.getElem?_eq_getElem hl0) hj ho'
            have h3 := hdep e he hbi
            rw [heo] at h3
            have := (hlj j0 Js[j0] (List.getElem?_eq_getElem hl0)).1 h3
            omega
          · omega
        subst hje
        have hjl := (List.getElem?_eq_some_iff.1 hj).1
        refine step j i o' hj ho' f w hst hdep' Q' fun v w' hs' => hQ _ _ ⟨by simpa using hsz, upd f i v, j + 1, hput v, by omega, hSt _ _ _ _ (fun k hk => ?_) hs', fun k i' hk => ?_, fun i' hi' hn' hl' => ?_⟩
        · by_cases e : k = j
          · subst e
            rw [if_pos rfl]
            unfold JV
            rw [List.getD_eq_getElem?_getD, hj]
            simp [upd]
          · rw [if_neg e]
            unfold JV
            have hkl : k < Js.length := by omega
            have hne : Js[k] ≠ i := fun he => e ((List.getElem?_inj hkl hnd).1 ((List.getElem?_eq_getElem hkl).trans (by rw [he, hj])))
            rw [List.getD_eq_getElem?_getD, List.getElem?_eq_getElem hkl]
            simp only [Option.getD_some, upd]
            rw [if_neg hne]
        · by_cases e : i' = i
          · subst e
            have hkj : k = j := (List.getElem?_inj (List.getElem?_eq_some_iff.1 hk).1 hnd).1 (hk.trans hj.symm)
            subst hkj
            have hi' : i' < listed.size := by have := hlt i' hij; have h9 : l.length = n + 1 := by simpa using hn'
                                              omega
            simp [hi']
          · rw [getD_set_ne false (fun h => e h.symm)]
            rw [hlj k i' hk]
            constructor
            · intro h; omega
            · intro h
              rcases Nat.lt_or_ge k j with h' | h'
              · exact h'
              · have hkj : k = j := by omega
                subst hkj
                exact absurd (Option.some.inj (hk.symm.trans hj)) e
        · have hne : i' ≠ i := fun h => hn' (h ▸ hij)
          rw [getD_set_ne false (fun h => hne h.symm)] at hl'
          simp only [upd, if_neg hne]
          exact hv i' hi' hn' hl'
      · refine other i o' hin hij ho' s f w hst hdep' Q' (hQ _ _ ⟨by simpa using hsz, upd f i (U i), s, hput _, hsl, hSt _ _ _ _ (fun k hk => ?_) hst, fun k i' hk => ?_, fun i' hi' hn' hl' => ?_⟩)
        · unfold JV
          have hkl : k < Js.length := by omega
          have hne : Js[k] ≠ i := fun he => hij (he ▸ List.getElem_mem hkl)
          rw [List.getD_eq_getElem?_getD, List.getElem?_eq_getElem hkl]
          simp only [Option.getD_some, upd]
          rw [if_neg hne]
        · have hne : i' ≠ i := fun h => hij (h ▸ List.mem_of_getElem? hk)
          rw [getD_set_ne false (fun h => hne h.symm)]
          exact hlj k i' hk
        · by_cases e : i' = i
          · subst e; simp [upd]
          · rw [getD_set_ne false (fun h => e h.symm)] at hl'
            simp only [upd, if_neg e]
            exact hv i' hi' hn' hl'
    · rintro listed a w ⟨hsz, f, s, rfl, hsl, hst, hlj, hv⟩ hall0 o' ho'
      have h9 : l.length = n + 1 := by simpa using hn'
      have hall : ∀ j, j < n → listed.getD j false = true := fun j hj => by rw [← getD_tf (by omega)]; exact hall0 j hj
      have hse : s = Js.length := by
        rcases Nat.lt_or_ge s Js.length with h | h
        · have h1 := hall Js[s] (hlt _ (List.getElem_mem h))
          have := (hlj s Js[s] (List.getElem?_eq_getElem h)).1 h1
          omega
        · omega
      subst hse
      exact last o' ho' f w hst fun j hj hnj => hv j hj hnj (hall j hj)
    · obtain ⟨f, hf⟩ := putAll_self l a0 0
      refine ⟨by simp, f, 0, hf, Nat.zero_le _, init _, fun j i _ => ?_, fun i hi _ g => ?_⟩
      · rw [getD_replicate_false]; simp
      · rw [getD_replicate_false] at g; cases g

/-- What is known on the way: which of the operations that turn memory have come up, in whatever order. -/
def FlI (A : (Nat → Value) → Act) (Js : List Nat) (U : Nat → Value) (St : (Nat → Bool) → (Nat → Value) → World → Prop) (n m : Nat) (listed : Array Bool) (a : Act) (w : World) : Prop :=
  listed.size = m ∧ ∃ f, a = A f ∧ St (fun j => listed.getD (Js.getD j 0) false) (JV Js f) w ∧ ∀ i, i < n → i ∉ Js → listed.getD i false = true → f i = U i

theorem wp_region_flags {id : Nat} {l : List Oper} {Q : Exit → Act → World → Prop} {a0 : Act} {wr : World} (n : Nat) (Js : List Nat) (U : Nat → Value) (St : (Nat → Bool) → (Nat → Value) → World → Prop)
    (hm : P.follows .mixedOrders = true) (hB : lastB2 l n = true) (hd : dstsB l = true) (hJn : Js.all (fun i => decide (i < n)) = true) (hnd : Js.Nodup)
    (hSt : ∀ b b' g g' w, (∀ j, j < Js.length → b j = b' j) → (∀ j, j < Js.length → b j = true → g j = g' j) → St b g w → St b' g' w)
    (init : ∀ g, St (fun _ => false) g wr.drew)
    (other : ∀ i o, i < n → i ∉ Js → l[i]? = some o → ∀ b f w, St b (JV Js f) w → (∀ e ∈ o.after, Region.binds .any e = true → e.on ∉ Js → f e.on = U e.on) →
      ∀ Q' : Exit → Act → World → Prop, Q' .normal ((putAll a0 l 0 f).put o.dst (U i)) w → wpList P l.toArray Q' [o] (putAll a0 l 0 f) w)
    (step : ∀ j i o, Js[j]? = some i → l[i]? = some o → ∀ b f w, b j = false → St b (JV Js f) w → (∀ e ∈ o.after, Region.binds .any e = true → e.on ∉ Js → f e.on = U e.on) →
      (∀ e ∈ o.after, Region.binds .any e = true → ∀ k, Js[k]? = some e.on → b k = true) →
      ∀ Q' : Exit → Act → World → Prop, (∀ v w', St (fun k => if k = j then true else b k) (fun k => if k = j then v else JV Js f k) w' → Q' .normal ((putAll a0 l 0 f).put o.dst v) w') → wpList P l.toArray Q' [o] (putAll a0 l 0 f) w)
    (last : ∀ o, l[n]? = some o → ∀ f w, St (fun _ => true) (JV Js f) w → (∀ j, j < n → j ∉ Js → f j = U j) → wpList P l.toArray Q [o] (putAll a0 l 0 f) w) : (Code.region id l.toArray true).wp P Q a0 wr := by
  unfold lastB2 at hB
  cases ho : l[n]? with
  | none => rw [ho] at hB; cases hB
  | some o =>
    rw [ho] at hB
    simp only [Bool.and_eq_true, decide_eq_true_eq] at hB
    obtain ⟨⟨⟨hn, hs⟩, hc⟩, hb⟩ := hB
    have hn' : l.toArray.size = n + 1 := by simpa using hn
    have hll : l.length = n + 1 := by simpa using hn'
    have hlt : ∀ i, i ∈ Js → i < n := fun i hi => by simpa using List.all_eq_true.1 hJn i hi
    have inv0 : HeadInv .any l.toArray n (Array.replicate l.toArray.size false) :=
      ⟨by simp, fun j oj _ hl => (by rw [getD_replicate_false] at hl; cases hl), fun t _ ht => getD_in (by simpa using ht) (getD_replicate_false _ _)⟩
    refine wp_region_any hm (wpAny_last2 (FlI (putAll a0 l 0) Js U St n l.length) hn' hs hc hb ?_ ?_ _ _ _ _ inv0 (by simp) ?_)
    · rintro listed a w ⟨hsz, f, rfl, hst, hv⟩ i o' hin ho' hun hdep Q' hQ
      have hdep' : ∀ e ∈ o'.after, Region.binds .any e = true → e.on ∉ Js → f e.on = U e.on := fun e he hbi hnj => by
        have h2 := back2_lt hb (show i < l.toArray.size by omega) (show l.toArray[i]? = some o' by simpa using ho') he hbi
        exact hv _ (by omega) hnj (hdep e he hbi)
      have hput : ∀ v, (putAll a0 l 0 f).put o'.dst v = putAll a0 l 0 (upd f i v) := fun v => by
        have := putAll_upd l a0 0 i f o' v hd ho'; rw [Nat.zero_add] at this; exact this.symm
      by_cases hij : i ∈ Js
      · obtain ⟨j, hj⟩ := List.mem_iff_getElem?.1 hij
        have hjl := (List.getElem?_eq_some_iff.1 hj).1
        have hgd : ∀ k, k < Js.length → k ≠ j → Js.getD k 0 ≠ i := fun k hk hne he => by
          rw [List.getD_eq_getElem?_getD, List.getElem?_eq_getElem hk] at he
          exact hne ((List.getElem?_inj hk hnd).1 ((List.getElem?_eq_getElem hk).trans (by rw [hj]; exact congrArg some he)))
        have hgj : Js.getD j 0 = i := by rw [List.getD_eq_getElem?_getD, hj]; rfl
        refine step j i o' hj ho' _ f w (by show listed.getD (Js.getD j 0) false = false; rw [hgj, ← getD_tf (by omega)]; exact hun) hst hdep' (fun e he hbi k hk => ?_) Q' fun v w' hs' => hQ _ _ ⟨by simpa using hsz, upd f i v, hput v, hSt _ _ _ _ _ (fun k hk => ?_) (fun k hk _ => ?_) hs', fun i' hi' hn' hl' => ?_⟩
        · have := hdep e he hbi
          rw [List.getD_eq_getElem?_getD, hk]; exact this
        · by_cases e : k = j
          · subst e
            rw [if_pos rfl, hgj]
            have : i < listed.size := by omega
            simp [this]
          · rw [if_neg e, getD_set_ne false (fun h => hgd k hk e h.symm)]
        · by_cases e : k = j
          · subst e
            rw [if_pos rfl]
            unfold JV
            rw [hgj]; simp [upd]
          · rw [if_neg e]
            unfold JV
            simp only [upd]
            rw [if_neg (hgd k hk e)]
        · have hne : i' ≠ i := fun h => hn' (h ▸ hij)
          rw [getD_set_ne false (fun h => hne h.symm)] at hl'
          simp only [upd, if_neg hne]
          exact hv i' hi' hn' hl'
      · have hgd : ∀ k, k < Js.length → Js.getD k 0 ≠ i := fun k hk he => by
          rw [List.getD_eq_getElem?_getD, List.getElem?_eq_getElem hk] at he
          have he' : Js[k] = i := he
          exact hij (he' ▸ List.getElem_mem hk)
        refine other i o' hin hij ho' _ f w hst hdep' Q' (hQ _ _ ⟨by simpa using hsz, upd f i (U i), hput _, hSt _ _ _ _ _ (fun k hk => ?_) (fun k hk _ => ?_) hst, fun i' hi' hn' hl' => ?_⟩)
        · rw [getD_set_ne false (fun h => hgd k hk h.symm)]
        · unfold JV
          simp only [upd]
          rw [if_neg (hgd k hk)]
        · by_cases e : i' = i
          · subst e; simp [upd]
          · rw [getD_set_ne false (fun h => e h.symm)] at hl'
            simp only [upd, if_neg e]
            exact hv i' hi' hn' hl'
    · rintro listed a w ⟨hsz, f, rfl, hst, hv⟩ hall0 o' ho'
      have hall : ∀ j, j < n → listed.getD j false = true := fun j hj => by rw [← getD_tf (by omega)]; exact hall0 j hj
      refine last o' ho' f w (hSt _ _ _ _ _ (fun k hk => ?_) (fun _ _ _ => rfl) hst) fun j hj hnj => hv j hj hnj (hall j hj)
      rw [List.getD_eq_getElem?_getD, List.getElem?_eq_getElem hk]
      exact hall _ (hlt _ (List.getElem_mem hk))
    · obtain ⟨f, hf⟩ := putAll_self l a0 0
      refine ⟨by simp, f, hf, hSt _ _ _ _ _ (fun k _ => ?_) (fun _ _ h => by cases h) (init (JV Js f)), fun i hi _ g => ?_⟩
      · rw [getD_replicate_false]
      · rw [getD_replicate_false] at g; cases g

/-- The same; what comes behind the region is shown by itself. -/
theorem wp_region_flags2 {id : Nat} {l : List Oper} {Q : Exit → Act → World → Prop} {a0 : Act} {wr : World} (n : Nat) (Js : List Nat) (U : Nat → Value) (St : (Nat → Bool) → (Nat → Value) → World → Prop) (Fin : (Nat → Value) → World → Prop)
    (hm : P.follows .mixedOrders = true) (hB : lastB2 l n = true) (hd : dstsB l = true) (hJn : Js.all (fun i => decide (i < n)) = true) (hnd : Js.Nodup)
    (hSt : ∀ b b' g g' w, (∀ j, j < Js.length → b j = b' j) → (∀ j, j < Js.length → b j = true → g j = g' j) → St b g w → St b' g' w)
    (init : ∀ g, St (fun _ => false) g wr.drew)
    (other : ∀ i o, i < n → i ∉ Js → l[i]? = some o → ∀ b f w, St b (JV Js f) w → (∀ e ∈ o.after, Region.binds .any e = true → e.on ∉ Js → f e.on = U e.on) →
      ∀ Q' : Exit → Act → World → Prop, Q' .normal ((putAll a0 l 0 f).put o.dst (U i)) w → wpList P l.toArray Q' [o] (putAll a0 l 0 f) w)
    (step : ∀ j i o, Js[j]? = some i → l[i]? = some o → ∀ b f w, b j = false → St b (JV Js f) w → (∀ e ∈ o.after, Region.binds .any e = true → e.on ∉ Js → f e.on = U e.on) →
      (∀ e ∈ o.after, Region.binds .any e = true → ∀ k, Js[k]? = some e.on → b k = true) →
      ∀ Q' : Exit → Act → World → Prop, (∀ v w', St (fun k => if k = j then true else b k) (fun k => if k = j then v else JV Js f k) w' → Q' .normal ((putAll a0 l 0 f).put o.dst v) w') → wpList P l.toArray Q' [o] (putAll a0 l 0 f) w)
    (last : ∀ o, l[n]? = some o → ∀ f w, St (fun _ => true) (JV Js f) w → (∀ j, j < n → j ∉ Js → f j = U j) → ∀ Q' : Exit → Act → World → Prop, (∀ w', Fin (JV Js f) w' → Q' .normal (putAll a0 l 0 f) w') → wpList P l.toArray Q' [o] (putAll a0 l 0 f) w)
    (rest : ∀ f w, Fin (JV Js f) w → (∀ j, j < n → j ∉ Js → f j = U j) → Q .normal (putAll a0 l 0 f) w) : (Code.region id l.toArray true).wp P Q a0 wr :=
  wp_region_flags n Js U St hm hB hd hJn hnd hSt init other step fun o ho f w hst hu => last o ho f w hst hu Q fun w' h => rest f w' h hu

/-- The last operation by itself; then what comes behind, with the slots written out. -/
theorem wpList_cut {ops : Array Oper} {o : Oper} {a0 : Act} {w : World} {Q : Exit → Act → World → Prop} {A : Act} (G : World → Prop) (h : wpList P ops (fun e a w => e = .normal ∧ a = A ∧ G w) [o] a0 w) (k : ∀ w, G w → Q .normal A w) : wpList P ops Q [o] a0 w := by
  unfold wpList at *
  split
  · rename_i hw
    rw [if_pos hw] at h
    rcases h with h | ⟨_, a, w, he, _⟩
    · refine .inl (wp_strict (fun _ _ _ h => h.1) (Oper.wp_mono (fun a' w' h' => ?_) h))
      have h2 : Exit.normal = .normal ∧ a' = A ∧ G w' := h'
      show Q .normal a' w'
      rw [h2.2.1]
      exact k _ h2.2.2
    · cases he
  · rename_i hw
    rw [if_neg hw] at h
    have h2 : Exit.normal = .normal ∧ _ = A ∧ G w := h
    show Q .normal _ w
    rw [h2.2.1]
    exact k _ h2.2.2

end
/-- By three flags. -/
def Fl3 (b0 b1 b2 : Bool) (p000 p100 p010 p110 p101 p111 : Prop) : Prop :=
  match b0, b1, b2 with
  | false, false, false => p000
  | true, false, false => p100
  | false, true, false => p010
  | true, true, false => p110
  | true, false, true => p101
  | true, true, true => p111
  | _, _, _ => False
end Go.Proofs.Ytgpkdfefgcpbiaa
