/-
  Regions that draw their order: what each operation hands is known by a predicate of its own; each operation is walked once. Conditions: as the Bools say.
-/
import Derived.Test.YtgpkdfefgcpbiaaRInv
namespace Go.Proofs.Ytgpkdfefgcpbiaa
set_option linter.unusedVariables false
set_option linter.unusedSimpArgs false
open Go Go.RowKit

/-- A value more. -/
def upd (f : Nat → Value) (i : Nat) (v : Value) : Nat → Value := fun k => if k = i then v else f k

section
variable {P : Program}

/-- What the operations have handed, in its slots. -/
def putAll (a : Act) : List Oper → Nat → (Nat → Value) → Act
  | [], _, _ => a
  | o :: r, k, f => putAll (a.put o.dst (f k)) r (k + 1) f
/-- No slot is written twice. -/
def dstsB : List Oper → Bool
  | [] => true
  | o :: r => (match o.dst with | none => true | some d => r.all fun q => q.dst != some d) && dstsB r

theorem put_self (a : Act) (d : Option Tmp) : a.put d (match d with | some t => a.tmps.getD t undef | none => undef) = a := by
  cases d with
  | none => rfl
  | some t =>
    cases a
    rename_i ts ds
    simp only [Act.put, Act.mk.injEq, and_true]
    apply Array.ext (by simp)
    intro i h1 h2
    by_cases e : t = i
    · subst e; simp [h2]
    · simp only [Array.getElem_setIfInBounds_ne h2 e]
theorem put_put (a : Act) (d : Option Tmp) (v u : Value) : (a.put d v).put d u = a.put d u := by
  cases d with
  | none => rfl
  | some t => simp [Act.put]
theorem putAll_self (l : List Oper) : ∀ (a : Act) (k : Nat), ∃ f, a = putAll a l k f := by
  induction l with
  | nil => intro a k; exact ⟨fun _ => undef, rfl⟩
  | cons o r ih =>
    intro a k
    obtain ⟨f, hf⟩ := ih a (k + 1)
    refine ⟨fun i => if i = k then (match o.dst with | some t => a.tmps.getD t undef | none => undef) else f i, ?_⟩
    have key : ∀ (l : List Oper) (a : Act) (m : Nat) (f g : Nat → Value), (∀ i, m ≤ i → f i = g i) → putAll a l m f = putAll a l m g := by
      intro l
      induction l with
      | nil => intros; rfl
      | cons o r ih => intro a m f g h; simp only [putAll]; rw [h m (Nat.le_refl _)]; exact ih _ _ _ _ fun i hi => h i (by omega)
    simp only [putAll, if_true]
    rw [put_self, key r a (k + 1) _ f fun i hi => if_neg (by omega)]
    exact hf
theorem putAll_put (l : List Oper) : ∀ (a : Act) (k : Nat) (f : Nat → Value) (d : Option Tmp) (v : Value), (∀ t, d = some t → l.all fun q => q.dst != some t) → (putAll a l k f).put d v = putAll (a.put d v) l k f := by
  induction l with
  | nil => intros; rfl
  | cons o r ih =>
    intro a k f d v h
    simp only [putAll]
    rw [ih _ _ _ _ _ fun t ht => (by have := h t ht; simp only [List.all_cons, Bool.and_eq_true] at this; exact this.2)]
    congr 1
    refine (Act.put_comm a v (f k) fun t ht he => ?_).symm
    have := h t ht
    simp [he] at this
theorem putAll_upd (l : List Oper) : ∀ (a : Act) (k i : Nat) (f : Nat → Value) (o : Oper) (v : Value), dstsB l = true → l[i]? = some o → putAll a l k (upd f (k + i) v) = (putAll a l k f).put o.dst v := by
  induction l with
  | nil => intro a k i f o v _ h; simp at h
  | cons q r ih =>
    intro a k i f o v hd h
    simp only [dstsB, Bool.and_eq_true] at hd
    cases i with
    | zero =>
      simp at h
      subst h
      simp only [putAll, Nat.add_zero]
      rw [putAll_put r _ _ _ _ _ fun t ht => (by have := hd.1; rw [ht] at this; exact this), put_put]
      have key : ∀ (l : List Oper) (a : Act) (m : Nat) (f g : Nat → Value), (∀ i, m ≤ i → f i = g i) → putAll a l m f = putAll a l m g := by
        intro l
        induction l with
        | nil => intros; rfl
        | cons o r ih => intro a m f g h; simp only [putAll]; rw [h m (Nat.le_refl _)]; exact ih _ _ _ _ fun i hi => h i (by omega)
      rw [show upd f k v k = v by simp [upd]]
      exact key _ _ _ _ _ fun i hi => by simp only [upd]; rw [if_neg (by omega)]
    | succ i =>
      simp only [putAll]
      rw [show k + (i + 1) = (k + 1) + i by omega, ih _ _ _ _ _ _ hd.2 (by simpa using h)]
      rw [show upd f (k + 1 + i) v k = f k by simp only [upd]; rw [if_neg (by omega)]]

/-- What is known on the way: of the world, of each operation that has come up. -/
structure RelI (mk : (Nat → Value) → Act) (C : World → Prop) (R : Nat → Value → World → Prop) (n : Nat) (listed : Array Bool) (f : Nat → Value) (a : Act) (w : World) : Prop where
  act : a = mk f
  cls : C w
  val : ∀ i, i < n → listed.getD i false = true → R i (f i) w

theorem wp_region_rel {id : Nat} {l : List Oper} {Q : Exit → Act → World → Prop} {a0 : Act} {w : World} (C : World → Prop) (R : Nat → Value → World → Prop)
    (hm : P.follows .mixedOrders = true) (hb : backB l.toArray = true) (hd : dstsB l = true) (hC0 : C w.drew)
    (hR : ∀ i v w w', R i v w → Below w.heap.size w w' → R i v w')
    (step : ∀ i o, l[i]? = some o → ∀ f w, C w → (∀ e ∈ o.after, Region.binds .any e = true → R e.on (f e.on) w) →
      ∀ Q' : Exit → Act → World → Prop, (∀ v w', Below w.heap.size w w' → C w' → R i v w' → Q' .normal ((putAll a0 l 0 f).put o.dst v) w') → wpList P l.toArray Q' [o] (putAll a0 l 0 f) w)
    (done : ∀ f w, C w → (∀ j, j < l.length → R j (f j) w) → Q .normal (putAll a0 l 0 f) w) : (Code.region id l.toArray true).wp P Q a0 w := by
  refine wp_region_inv (fun listed a w => listed.size = l.length ∧ ∃ f, RelI (putAll a0 l 0) C R l.length listed f a w) hm hb ?_ ?_ ?_
  · obtain ⟨f, hf⟩ := putAll_self l a0 0
    refine ⟨by simp, f, hf, hC0, fun i hi g => ?_⟩
    rw [getD_replicate_false] at g; cases g
  · rintro listed a w ⟨hsz, f, rfl, hc, hv⟩ i o ho hun hdep Q' hQ
    refine step i o ho f w hc (fun e he hbi => ?_) Q' (fun v w' hbw hc' hr => hQ _ _ ⟨by simpa using hsz, upd f i v, (by rw [← Nat.zero_add i, putAll_upd l a0 0 i f _ v hd (by assumption)]), hc', fun j hj g => ?_⟩)
    · have hl := hdep e he hbi
      have : e.on < listed.size := by
        rcases Nat.lt_or_ge e.on listed.size with h | h
        · exact h
        · simp [Array.getElem?_eq_none h] at hl
      exact hv _ (by omega) hl
    · by_cases e : j = i
      · subst e; simpa [upd] using hr
      · rw [getD_set_ne false (fun h => e h.symm)] at g
        simp only [upd, if_neg e]
        exact hR _ _ _ _ (hv j hj g) hbw
  · rintro listed a w ⟨hsz, f, rfl, hc, hv⟩ hall
    refine done f w hc fun j hj => hv j hj ?_
    have := hall j hj
    have hlt : j < listed.size := by omega
    simp [hlt] at this ⊢
    exact this

/-- The last operation waits for all others, and is walked alone. -/
def lastB (l : List Oper) (n : Nat) : Bool :=
  match l[n]? with
  | none => false
  | some _ => decide (l.length = n + 1) && Region.sinkB .any l.toArray n && Region.chainB .any l.toArray n && backB l.toArray

theorem wpAny_last {l : List Oper} {n : Nat} {Q : Exit → Act → World → Prop} (I : Array Bool → Act → World → Prop) (hn : l.toArray.size = n + 1) (hs : Region.sinkB .any l.toArray n = true) (hc : Region.chainB .any l.toArray n = true) (hb : backB l.toArray = true)
    (step : ∀ listed a w, I listed a w → ∀ i o, i < n → l[i]? = some o → listed.getD i true = false → (∀ e ∈ o.after, Region.binds .any e = true → listed.getD e.on false = true) →
      ∀ Q' : Exit → Act → World → Prop, (∀ a w, I (listed.setIfInBounds i true) a w → Q' .normal a w) → wpList P l.toArray Q' [o] a w)
    (last : ∀ listed a w, I listed a w → (∀ j, j < n → listed.getD j true = true) → ∀ o, l[n]? = some o → wpList P l.toArray Q [o] a w) :
    ∀ (fuel : Nat) (listed : Array Bool) (a : Act) (w : World), HeadInv .any l.toArray n listed → listed.toList.count false = fuel → I listed a w → wpAny P .any l.toArray Q fuel listed a w := by
  intro fuel
  induction fuel with
  | zero =>
    intro listed a w inv hcnt _
    have := count_listed (inv.tail n (Nat.le_refl _) (by omega))
    omega
  | succ f ih =>
    intro listed a w inv hcnt hI
    refine ⟨fun h0 => absurd h0 (some_ready hb inv.size n (by omega) (inv.tail n (Nat.le_refl _) (by omega))), fun i hi => ?_⟩
    obtain ⟨h1, o, ho, h2⟩ := mem_ready.1 hi
    have ho' : l[i]? = some o := by simpa using ho
    have hcl := count_listed h1
    have hisz := (Array.getElem?_eq_some_iff.1 ho).1
    rcases Nat.lt_or_ge i n with hin | hin
    · have hs' := step listed a w hI i o hin ho' h1 h2 (fun e a w => e = .normal ∧ I (listed.setIfInBounds i true) a w) fun a w h => ⟨rfl, h⟩
      unfold wpOp
      rw [ho]
      simp only
      unfold wpList at hs'
      split
      · rename_i hw
        rw [if_pos hw] at hs'
        rcases hs' with hs' | ⟨_, a, w, he, _⟩
        · exact .inl (wp_strict (fun _ _ _ h => h.1) (Oper.wp_mono (fun a' w' h => ih _ a' w' (inv.set hi hin) (by omega) h.2) hs'))
        · cases he
      · rename_i hw
        rw [if_neg hw] at hs'
        exact ih _ _ _ (inv.set hi hin) (by omega) hs'.2
    · obtain rfl : i = n := by omega
      have hall : ∀ j, j < i → listed.getD j true = true := fun j hj => by
        cases hl : listed.getD j true
        · exact absurd hi (tail_waits hs hc (by omega) inv _ j rfl hj hl i (Nat.le_refl _))
        · rfl
      have hnone : Region.ready .any l.toArray (listed.setIfInBounds i true) = [] := by
        rw [List.eq_nil_iff_forall_not_mem]
        intro j hj
        obtain ⟨hj1, oj, hoj, _⟩ := mem_ready.1 hj
        have hjs := (Array.getElem?_eq_some_iff.1 hoj).1
        by_cases hji : j = i
        · subst hji; simp [inv.size, hn] at hj1
        · rw [getD_set_ne true (fun e => hji e.symm), hall j (by omega)] at hj1; cases hj1
      have hl := last listed a w hI hall o ho'
      unfold wpOp
      rw [ho]
      simp only
      unfold wpList at hl
      have hfin : ∀ a' w', Q .normal a' w' → wpAny P .any l.toArray Q f (listed.setIfInBounds i true) a' w' := fun a' w' hq => by
        cases f with
        | zero => exact ⟨hnone, hq⟩
        | succ f => exact ⟨fun _ => hq, fun j hj => by rw [hnone] at hj; cases hj⟩
      split
      · rename_i hw
        rw [if_pos hw] at hl
        exact hl.imp (Oper.wp_mono (fun a' w' h => hfin a' w' h)) id
      · rename_i hw
        rw [if_neg hw] at hl
        exact hfin _ _ hl

theorem wp_region_rel_last {id : Nat} {l : List Oper} {Q : Exit → Act → World → Prop} {a0 : Act} {w : World} (n : Nat) (C : World → Prop) (R : Nat → Value → World → Prop)
    (hm : P.follows .mixedOrders = true) (hB : lastB l n = true) (hd : dstsB l = true) (hC0 : C w.drew)
    (hR : ∀ i v w w', R i v w → Below w.heap.size w w' → R i v w')
    (step : ∀ i o, i < n → l[i]? = some o → ∀ f w, C w → (∀ e ∈ o.after, Region.binds .any e = true → R e.on (f e.on) w) →
      ∀ Q' : Exit → Act → World → Prop, (∀ v w', Below w.heap.size w w' → C w' → R i v w' → Q' .normal ((putAll a0 l 0 f).put o.dst v) w') → wpList P l.toArray Q' [o] (putAll a0 l 0 f) w)
    (last : ∀ o, l[n]? = some o → ∀ f w, C w → (∀ j, j < n → R j (f j) w) → wpList P l.toArray Q [o] (putAll a0 l 0 f) w) : (Code.region id l.toArray true).wp P Q a0 w := by
  unfold lastB at hB
  cases ho : l[n]? with
  | none => rw [ho] at hB; cases hB
  | some o =>
    rw [ho] at hB
    simp only [Bool.and_eq_true, decide_eq_true_eq] at hB
    obtain ⟨⟨⟨hn, hs⟩, hc⟩, hb⟩ := hB
    have hn' : l.toArray.size = n + 1 := by simpa using hn
    have inv0 : HeadInv .any l.toArray n (Array.replicate l.toArray.size false) :=
      ⟨by simp, fun j oj _ hl => (by rw [getD_replicate_false] at hl; cases hl), fun t _ ht => getD_in (by simpa using ht) (getD_replicate_false _ _)⟩
    refine wp_region_any hm (wpAny_last (fun listed a w => listed.size = l.length ∧ ∃ f, RelI (putAll a0 l 0) C R n listed f a w) hn' hs hc hb ?_ ?_ _ _ _ _ inv0 (by simp) ?_)
    · rintro listed a w ⟨hsz, f, rfl, hcc, hv⟩ i o' hin ho' hun hdep Q' hQ
      refine step i o' hin ho' f w hcc (fun e he hbi => ?_) Q' (fun v w' hbw hc' hr => hQ _ _ ⟨by simpa using hsz, upd f i v, (by rw [← Nat.zero_add i, putAll_upd l a0 0 i f _ v hd (by assumption)]), hc', fun j hj g => ?_⟩)
      · have h1 := List.all_eq_true.1 hb i (List.mem_range.2 (by omega))
        rw [show l.toArray[i]? = some o' by simpa using ho'] at h1
        simp only [Option.any_some] at h1
        have h2 := Array.all_eq_true'.1 h1 e he
        simp only [decide_eq_true_eq] at h2
        exact hv _ (by omega) (hdep e he hbi)
      · by_cases e : j = i
        · subst e; simpa [upd] using hr
        · rw [getD_set_ne false (fun h => e h.symm)] at g
          simp only [upd, if_neg e]
          exact hR _ _ _ _ (hv j hj g) hbw
    · rintro listed a w ⟨hsz, f, rfl, hcc, hv⟩ hall o' ho'
      refine last o' ho' f w hcc fun j hj => hv j hj ?_
      have := hall j hj
      have hlt : j < listed.size := by omega
      simp [hlt] at this ⊢
      exact this
    · obtain ⟨f, hf⟩ := putAll_self l a0 0
      refine ⟨by simp, f, hf, hC0, fun i hi g => ?_⟩
      rw [getD_replicate_false] at g; cases g

end

theorem upd_self {f : Nat → Value} {i : Nat} {v : Value} (h : f i = v) : ∃ g, f = upd g i v := ⟨f, by funext k; simp only [upd]; split; rename_i e; subst e; exact h; rfl⟩
theorem use_act {Q : Exit → Act → World → Prop} {a a' : Act} {w : World} (h : Q .normal a w) (e : a = a') : Q .normal a' w := e ▸ h

/-- Goes on holding while memory is laid. -/
def Stable (p : Value → World → Prop) : Prop := ∀ v w w', p v w → Below w.heap.size w w' → p v w'
def PV (L : List (Value → World → Prop)) (i : Nat) (v : Value) (w : World) : Prop := L.getD i (fun _ _ => True) v w
def StableL : List (Value → World → Prop) → Prop
  | [] => True
  | p :: r => Stable p ∧ StableL r
theorem PV.stable {L : List (Value → World → Prop)} (h : StableL L) : ∀ i v w w', PV L i v w → Below w.heap.size w w' → PV L i v w' := by
  induction L with
  | nil => intro i v w w' _ _; simp [PV]
  | cons p r ih =>
    intro i v w w' hp hb
    cases i with
    | zero => exact h.1 v w w' hp hb
    | succ i => exact ih h.2 i v w w' hp hb
def IsV (u : Value) : Value → World → Prop := fun x _ => x = u
def Emp (lo : Nat) (e : TypeId) (sz : Nat) : Value → World → Prop := fun x w => (∃ b, x = .slice (some b) 0 0) ∧ w.ownsRow lo e sz x 0 []
def Owns (lo : Nat) (e : TypeId) (sz n : Nat) (xs : List Value) : Value → World → Prop := fun x w => w.ownsRow lo e sz x n xs
def RowV (n sz : Nat) (xs : List Value) : Value → World → Prop := fun x w => Row w x n sz xs
def BoxV (lo : Nat) (cs : List Value) : Value → World → Prop := fun x w => ∃ g, x = .pointer (some ⟨g, 0, none⟩) ∧ Blk w g cs ∧ lo ≤ g
theorem st_is (u : Value) : Stable (IsV u) := fun _ _ _ h _ => h
theorem st_emp (lo : Nat) (e : TypeId) (sz : Nat) : Stable (Emp lo e sz) := fun _ _ _ h hb => ⟨h.1, owns_below h.2 hb (Nat.le_refl _)⟩
theorem st_owns (lo : Nat) (e : TypeId) (sz n : Nat) (xs : List Value) : Stable (Owns lo e sz n xs) := fun _ _ _ h hb => owns_below h hb (Nat.le_refl _)
theorem st_row (n sz : Nat) (xs : List Value) : Stable (RowV n sz xs) := fun _ _ _ h hb => Row.below h hb
theorem st_box (lo : Nat) (cs : List Value) : Stable (BoxV lo cs) := fun _ _ _ ⟨g, h1, h2, h3⟩ hb => ⟨g, h1, h2.below hb h2.lt, h3⟩
theorem st_true : Stable (fun _ _ => True) := fun _ _ _ _ _ => trivial

end Go.Proofs.Ytgpkdfefgcpbiaa
