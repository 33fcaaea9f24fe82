/- Part 4: functions on the way, plain laws. Conditions: as said. -/
import Derived.Deep.LoopGhost
import Derived.IntWalk
import Derived.WalkSpells
import Derived.Lib.SliceRun
import Derived.Test.YthikdkjjdeehoaaGreatK1
import Derived.Test.YthikdkjjdeehoaaGreatK3
set_option maxRecDepth 100000
set_option maxHeartbeats 16000000
set_option linter.unusedVariables false
set_option linter.unusedSimpArgs false
open Array renaming replicate → cj6
open Bool renaming and_eq_true → cg5, eq_iff_iff → cj8, not_eq_false' → cj0, not_eq_true' → ci3, or_eq_true → ck6
open Inhabited renaming default → cg3
open Int renaming mul_le_mul_of_nonneg_right → cl3
open List renaming all_eq_true → ch3, eq_nil_of_length_eq_zero → ci2, getD_eq_getElem?_getD → cg7, getElem?_append_left → ci0, getElem?_eq_getElem → cg6, getElem?_eq_none → ci9, getElem?_eq_some_iff → ch7, getElem_mem → ci6, length_cons → ch2, length_nil → ch6, map_cons → cj9, mem_append → ci4, mem_cons → ck2, mem_cons_of_mem → ck1, mem_cons_self → ck3, mem_of_getElem? → ci8, mem_range → ck9, mem_singleton → cj3, range → ci1, take → ch1, take_of_length_le → ch9
open Nat renaming le_refl → ch0, le_trans → cj4, lt_of_lt_of_le → cl0, lt_or_ge → ci7, mul_le_mul_right → ck7, zero_add → ck8, zero_le → ck4
open Option renaming isSome_iff_exists → cl2, map_eq_some_iff → ch4
open True renaming intro → ch8

namespace Go.Proofs.YthikdkjjdeehoaaGreat
open Go Go.RowKit
section
variable {P : Program} {ι : Type} {φ ψ : Nat → Prop} {w0 w w' : World} {F : ι → Rs} {ρ : Nat → Value} {S : Nat → It} {N m n : Nat} {ρ0 : Nat → Value}
theorem a88 {l : List Oper} {Q : Exit → Act → World → Prop} (I : Array Bool → Act → World → Prop) (hb : aj9 l.toArray = true)
  (step : ∀ listed a w, I listed a w → ∀ i o, l[i]? = some o → listed.getD i true = false → (∀ e ∈ o.after, Region.binds .any e = true → listed.getD e.on false = true) →
   ∀ Q' : Exit → Act → World → Prop, (∀ a w, I (listed.setIfInBounds i true) a w → Q' .normal a w) → wpList P l.toArray Q' [o] a w)
  (done : ∀ listed a w, I listed a w → (∀ j, j < l.length → listed.getD j true = true) → Q .normal a w) :
  ∀ (fuel : Nat) (listed : Array Bool) (a : Act) (w : World), listed.size = l.toArray.size → listed.toList.count false = fuel → I listed a w → wpAny P .any l.toArray Q fuel listed a w := by
 have hfin : ∀ (listed : Array Bool) (a : Act) (w : World), listed.size = l.toArray.size → Region.ready .any l.toArray listed = [] → I listed a w → Q .normal a w := by
  intro listed a w hsz hr hI
  refine done listed a w hI fun j hj => ?_
  cases hl : listed.getD j true
  ·exact absurd hr (a01 hb hsz j (by simpa using hj) hl)
  ·rfl
 intro fuel
 induction fuel with
 | zero =>
  intro listed a w hsz hc hI
  have hr : Region.ready .any l.toArray listed = [] := by
   rw [List.eq_nil_iff_forall_not_mem]
   intro j hj
   have := X5 (mem_ready.1 hj).1
   omega
  exact ⟨hr, hfin listed a w hsz hr hI⟩
 | succ f ih =>
  intro listed a w hsz hc hI
  refine ⟨fun hr => hfin listed a w hsz hr hI, fun i hi => ?_⟩
  obtain ⟨h1, o, ho, h2⟩ := mem_ready.1 hi
  have ho' : l[i]? = some o := by simpa using ho
  have hcl := X5 h1
  have hs := step listed a w hI i o ho' h1 h2 (fun e a w => e = .normal ∧ I (listed.setIfInBounds i true) a w) fun a w h => ⟨rfl, h⟩
  unfold wpOp
  rw [ho]
  simp only
  unfold wpList at hs
  split
  ·rename_i hw
   rw [if_pos hw] at hs
   rcases hs with hs | ⟨_, a, w, he, _⟩
   ·exact .inl (bn6 (fun _ _ _ h => h.1) (Oper.wp_mono (fun a' w' h => ih _ a' w' (by simpa using hsz) (by omega) h.2) hs))
   ·cases he
  ·rename_i hw
   rw [if_neg hw] at hs
   exact ih _ _ _ (by simpa using hsz) (by omega) hs.2
theorem aE3 {id : Nat} {l : List Oper} {Q : Exit → Act → World → Prop} {a : Act} {w : World} (I : Array Bool → Act → World → Prop) (hm : P.follows .mixedOrders = true) (hb : aj9 l.toArray = true)
  (h0 : I (cj6 l.length false) a w.drew)
  (step : ∀ listed a w, I listed a w → ∀ i o, l[i]? = some o → listed.getD i true = false → (∀ e ∈ o.after, Region.binds .any e = true → listed.getD e.on false = true) →
   ∀ Q' : Exit → Act → World → Prop, (∀ a w, I (listed.setIfInBounds i true) a w → Q' .normal a w) → wpList P l.toArray Q' [o] a w)
  (done : ∀ listed a w, I listed a w → (∀ j, j < l.length → listed.getD j true = true) → Q .normal a w) : (Code.region id l.toArray true).wp P Q a w :=
 wp_region_any hm (a88 I hb step done _ _ _ _ (by simp) (by simp) (by simpa using h0))
def RI (φ ψ : Nat → Prop) (w0 : World) (F : ι → Rs) (N m : Nat) (ρ0 : Nat → Value) (l : List Oper) (az : List Ac) (tm : Nat → Option AV) (S : Nat → It) (listed : Array Bool) (a : Act) (w : World) : Prop :=
 listed.size = l.length ∧ bH0 l (fun j => listed.getD j false) ∧ ∃ ρ, (∀ i, i < m → ρ i = ρ0 i) ∧ a.tmps.size = N ∧ a.defers = [] ∧ (∀ t x, tmD az (fun j => listed.getD j false) tm t = some x → a.tmps[t]? = some (x.val ρ)) ∧ l7 φ ψ w0 w (p7 F ρ (sD az (fun j => listed.getD j false) S))
theorem bb6 {ms : List Nat} {az : List Ac} (h : bU8 ms az = true) {i j : Nat} {a b : Ac} (ha : az[i]? = some a) (hb : az[j]? = some b) (hij : i ≠ j) (hm : af4 a b = true) : (j < i → bef ms j i = true) ∧ (i < j → bef ms i j = true) := by
 have hi := (ch7.1 ha).1
 have hj := (ch7.1 hb).1
 have h1 := ch3.1 (ch3.1 h i (ck9.2 hi)) j (ck9.2 hj)
 rw [ha, hb] at h1
 have hne : natEq i j = false := by simp [natEq, hij]
 simp only [hne, hm, Bool.not_true, Bool.false_or] at h1
 constructor
 ·intro hlt; rw [if_pos (by simpa using hlt)] at h1; exact h1
 ·intro hlt; rw [if_neg (by simp; omega)] at h1; exact h1
theorem bk3 {ms : List Nat} {n0 : Nat} {az : List Ac} (h : bA1 ms n0 az = true) {i : Nat} {a : Ac} (ha : az[i]? = some a) : ∀ id, (id ∈ a.t.res.ids ∨ id ∈ a.t.new.map (·.1) ∨ ∃ p ∈ a.t.new, id ∈ p.2.ids) → id < n0 ∨ (id - n0) / 8 = i ∨ bef ms ((id - n0) / 8) i = true := by
 intro id hid
 have hi := (ch7.1 ha).1
 have h1 := ch3.1 h i (ck9.2 hi)
 rw [ha] at h1
 have h2 := ch3.1 h1 id (by
  rcases hid with h | h | ⟨p, hp, h⟩
  ·exact List.mem_append_left _ (List.mem_append_left _ h)
  ·exact List.mem_append_left _ (List.mem_append_right _ h)
  ·exact List.mem_append_right _ (List.mem_flatMap.2 ⟨p, hp, h⟩))
 simp only [ck6, decide_eq_true_eq, natEq, beq_iff_eq] at h2
 rcases h2 with (h2 | h2) | h2
 ·exact .inl h2
 ·exact .inr (.inl h2)
 ·exact .inr (.inr h2)
theorem aS7 {dk : TypeId → Nat} {H : T1} (hH : ∀ i c τ, N3 H.calls i = some (c, τ) → c.ok P) (hF : R0 H.facts) {l : List Oper} {id : Nat} {Q : Exit → Act → World → Prop} {tm : List (Nat × AV)} {a : Act} {wr : World} (I0 : Inn φ ψ w0 F N m ρ0 n ρ (A0 tm) S a wr) {r : RS} (hrun : X3 P dk N l H l 0 tm S n = some r) (ho : v8 r.obs) (heq : r.acts.map (·.eqs.1) = r.acts.map (·.eqs.2)) (hew : r.acts.map (·.eqw.1) = r.acts.map (·.eqw.2))
  (ms : List Nat) (hm : P.follows .mixedOrders = true) (hb : aj9 l.toArray = true) (hms : aV4 ms l = true) (hord : bU8 ms r.acts = true) (hment : bA1 ms n r.acts = true) (hweak : bu6 ms S r.acts = true)
  (done : ∀ ρ' a' w' n', Inn φ ψ w0 F N m ρ0 n' ρ' (A0 r.tm) r.S a' w' → Q .normal a' w') : (Code.region id l.toArray true).wp P Q a wr := by
 obtain ⟨hlen, hfT, hfS, hat⟩ := bj0 l 0 n hrun ho
 have hmt : ∀ (i : Nat) ac, r.acts[i]? = some ac → ∀ t b, b.dst = some t → t ∈ ac.rt → af4 ac b = true := fun i ac _ t b hb ht => by
  simp [af4, hb, t4.2 ht]
 have hmd : ∀ ac b t, ac.dst = some t → b.dst = some t → af4 ac b = true := fun ac b t h1 h2 => by
  simp [af4, h1, h2, natEq]
 have hms' : ∀ (ac b : Ac) (j : Nat), j ∈ ac.ri → j ∈ b.t.new.map (·.1) → af4 ac b = true := fun ac b j h1 h2 => by
  obtain ⟨p, hp, rfl⟩ := List.mem_map.1 h2
  unfold af4
  have : b.t.new.any (fun p => memN p.1 ac.ri || ac.t.new.any fun q => natEq q.1 p.1) = true := List.any_eq_true.2 ⟨p, hp, by simp [t4.2 h1]⟩
  rw [this]; simp
 have hmn : ∀ (ac b : Ac) (j : Nat), j ∈ ac.t.new.map (·.1) → j ∈ b.t.new.map (·.1) → af4 ac b = true := fun ac b j h1 h2 => by
  obtain ⟨p, hp, rfl⟩ := List.mem_map.1 h2
  obtain ⟨q, hq, e⟩ := List.mem_map.1 h1
  unfold af4
  have : b.t.new.any (fun p => memN p.1 ac.ri || ac.t.new.any fun q => natEq q.1 p.1) = true := List.any_eq_true.2 ⟨p, hp, by
   have : ac.t.new.any (fun q => natEq q.1 p.1) = true := List.any_eq_true.2 ⟨q, hq, by simp [natEq, e]⟩
   rw [this]; simp⟩
  rw [this]; simp
 refine aE3 (RI φ ψ w0 F N m ρ0 l r.acts (A0 tm) S) hm hb ?_ ?_ ?_
 ·refine ⟨by simp, fun j o _ hj => ?_, ρ, I0.old, I0.size, I0.defs, fun t x hx => ?_, ?_⟩
  ·have hj' : (cj6 l.length false).getD j false = true := hj
   rw [getD_replicate_false] at hj'; cases hj'
  ·refine I0.tmv t x ?_
   rw [← hx]
   exact (ab1 fun j b _ _ => getD_replicate_false _ _).symm
  ·have e : sD r.acts (fun j => (cj6 l.length false).getD j false) S = S := by
    funext j; exact ab1 fun j b _ _ => getD_replicate_false _ _
   rw [e]; exact I0.mem.drew
 ·rintro listed a w ⟨hsz, hdn, ρ, hold, hN, hdf, hv, M⟩ i o hoi hun hdep Q' hQ
  generalize hB : (fun j => listed.getD j false) = B at *
  have hBj : ∀ j, B j = listed.getD j false := fun j => by rw [← hB]
  have hil := (ch7.1 hoi).1
  have hBi : B i = false := by
   rw [hBj, ← bl7 (by omega)]; exact hun
  obtain ⟨ac, ob, hac, hob, hop⟩ := hat i o hoi
  simp only [ck8] at hop
  have heqi : ac.eqs.1 = ac.eqs.2 := by
   have := congrArg (·[i]?) heq
   simpa [hac] using this
  have hewi : ac.eqw.1 = ac.eqw.2 := by
   have := congrArg (·[i]?) hew
   simpa [hac] using this
  obtain ⟨hdst, hdN, hfine⟩ := aV0 hop
  obtain ⟨hf1, hf2, hf3⟩ := ae5 hfine
  have hdep' : ∀ e ∈ o.after, Region.binds .any e = true → B e.on = true := fun e he hbi => by rw [hBj]; exact hdep e he hbi
  have ahead : ∀ j, bef ms j i = true → B j = true := fun j hj => bt4 hms hb hdn hoi hdep' hj
  have behind : ∀ j, j < l.length → bef ms i j = true → B j = false := fun j hjl hj => by
   cases h : B j
   ·rfl
   ·have := aL1 hms hb hdn j hjl h i hj
    rw [hBi] at this; cases this
  have hagree : ∀ (j : Nat) b, r.acts[j]? = some b → af4 ac b = true → B j = decide (j < i) := fun j b hj hmm => by
   have hjl : j < l.length := by have := (ch7.1 hj).1; omega
   rcases Nat.lt_trichotomy j i with h | h | h
   ·rw [ahead j ((bb6 hord hac hj (by omega) hmm).1 h)]; simp [h]
   ·subst h; rw [hBi]; simp
   ·rw [behind j hjl ((bb6 hord hac hj (by omega) hmm).2 h)]
    have : ¬ j < i := by omega
    simp [this]
  have hop2 := bp7 hop (tm' := tmD r.acts B (A0 tm)) (S' := sD r.acts B S) (fun t ht => U3 fun j b hj hw => by
    rw [ck8]
    refine hagree j b hj (hmt i ac hac t b ?_ ht)
    unfold wrT at hw
    split at hw
    ·assumption
    ·cases hw)
   (fun q hq => U3 fun j b hj hw => by
    rw [ck8]
    obtain ⟨x, hx⟩ := cl2.1 hw
    exact hagree j b hj (hms' ac b q hq (List.mem_map.2 ⟨_, S8 hx, rfl⟩)))
   (fun q hq => by
    show knd (pf (wrS q) r.acts 0 B (S q)) = _
    rw [bh7 hweak hac hq fun k _ hk => ahead k hk, bh7 hweak hac hq fun k hk _ => by simpa using hk])
  have hrange : ∀ id, n + 8 * i ≤ id → id < n + 8 * i + 8 → (id - n) / 8 = i := fun id h1 h2 => by omega
  have hmk : ∀ j ∈ ac.t.made, sD r.acts B S j = .none := fun j hj => by
   obtain ⟨g1, g2⟩ := hf2 j hj
   have e : sD r.acts B S j = S j := ab1 fun k b hk hw => by
    rw [ck8]
    obtain ⟨x, hx⟩ := cl2.1 hw
    have hkl : k < l.length := by have := (ch7.1 hk).1; omega
    rcases bk3 hment hk j (.inr (.inl (List.mem_map.2 ⟨_, S8 hx, rfl⟩))) with h | h | h
    ·omega
    ·rw [hrange j g1 g2] at h; subst h; exact hBi
    ·rw [hrange j g1 g2] at h; exact behind k hkl h
   rw [e]; exact (I0.bd j).2 (by omega)
  have hnot : ∀ (k : Nat) b, r.acts[k]? = some b → B k = true → ∀ id, (id ∈ b.t.res.ids ∨ id ∈ b.t.new.map (·.1) ∨ ∃ p ∈ b.t.new, id ∈ p.2.ids) → id ∉ ac.t.made := fun k b hk hBk id hid hm => by
   obtain ⟨g1, g2⟩ := hf2 id hm
   have hkl : k < l.length := by have := (ch7.1 hk).1; omega
   rcases bk3 hment hk id hid with h | h | h
   ·omega
   ·rw [hrange id g1 g2] at h; subst h; rw [hBi] at hBk; cases hBk
   ·rw [hrange id g1 g2] at h; rw [behind k hkl h] at hBk; cases hBk
  have hitem : ∀ j, ∀ id ∈ (sD r.acts B S j).ids, id ∉ ac.t.made := fun j => by
   refine ar6 (fun x : It => ∀ id ∈ x.ids, id ∉ ac.t.made) (fun id hid hm => ?_) fun k b x hk hBk hw id hid => ?_
   ·have := (I0.bd j).1 id hid; have := (hf2 id hm).1; omega
   ·rw [ck8] at hBk
    exact hnot k b hk hBk id (.inr (.inr ⟨_, S8 hw, hid⟩))
  have htm : ∀ t x, tmD r.acts B (A0 tm) t = some x → ∀ id ∈ x.ids, id ∉ ac.t.made := fun t => by
   refine ar6 (fun y : Option AV => ∀ x, y = some x → ∀ id ∈ x.ids, id ∉ ac.t.made) (fun x hx id hid hm => ?_) fun k b y hk hBk hw x hx id hid => ?_
   ·have := I0.tmi t x hx id hid; have := (hf2 id hm).1; omega
   ·rw [ck8] at hBk
    unfold wrT at hw
    split at hw
    ·cases hw; cases hx
     exact hnot k b hk hBk id (.inl hid)
    ·cases hw
  have hinv : Inv (sD r.acts B S) ρ ac.t.made := fun ρ' ha j => by
   refine It.res_congr _ (fun id hid => ha id (hitem j id hid)) ?_
   by_cases hj : j ∈ ac.t.made
   ·exact .inl (hmk j hj)
   ·exact .inr (.inr (ha j hj))
  refine bK4 hH hF hv M hop2 hob heqi hewi hmk hinv fun ρ' w' ha M' => ?_
  refine hQ _ _ ?_
  have hB' : ∀ j, (listed.setIfInBounds i true).getD j false = if j = i then true else B j := fun j => by
   by_cases e : j = i
   ·subst e
    have : j < listed.size := by omega
    simp [this]
   ·rw [if_neg e, getD_set_ne false (fun h => e h.symm), hBj]
  have hBe : (fun j => (listed.setIfInBounds i true).getD j false) = fun j => if j = i then true else B j := funext hB'
  have later : ∀ (j : Nat) b, i < j → r.acts[j]? = some b → af4 ac b = true → (if j = i then true else B j) = false := fun j b hij hj hmm => by
   have hjl : j < l.length := by have := (ch7.1 hj).1; omega
   rw [if_neg (by omega)]
   exact behind j hjl ((bb6 hord hac hj (by omega) hmm).2 hij)
  have eT : tmD r.acts (fun j => if j = i then true else B j) (A0 tm) = aL9 ac.dst ac.t.res (tmD r.acts B (A0 tm)) := by
   funext t
   simp only [aL9]
   by_cases e : ac.dst = some t
   ·rw [if_pos e]
    refine aU9 (i := i) hac (by simp [wrT, e]) (by simp) fun j b hij hj hw => ?_
    rw [ck8]
    refine later j b hij hj (hmd ac b t e ?_)
    unfold wrT at hw
    split at hw
    ·assumption
    ·cases hw
   ·rw [if_neg e]
    refine U3 fun j b hj hw => ?_
    have : j ≠ i := fun h => by
     subst h
     rw [hac] at hj; cases hj
     simp [wrT, e] at hw
    simp [this]
  have eS : sD r.acts (fun j => if j = i then true else B j) S = n7 (sD r.acts B S) ac.t.new := by
   funext q
   rw [au4]
   cases hx : aJ7 ac.t.new q with
   | some x =>
    refine aU9 (i := i) hac hx (by simp) fun j b hij hj hw => ?_
    rw [ck8]
    obtain ⟨y, hy⟩ := cl2.1 hw
    exact later j b hij hj (hmn ac b q (List.mem_map.2 ⟨_, S8 hx, rfl⟩) (List.mem_map.2 ⟨_, S8 hy, rfl⟩))
   | none =>
    refine U3 fun j b hj hw => ?_
    have : j ≠ i := fun h => by
     subst h
     rw [hac] at hj; cases hj
     unfold wrS at hw
     rw [hx] at hw; cases hw
    simp [this]
  refine ⟨by simpa using hsz, ?_, ρ', fun j hj => (ha j fun hm => by have := (hf2 j hm).1; have := I0.le; omega).trans (hold j hj), (a17 _ _ _).trans hN, (a18 _ _ _).trans hdf, ?_, ?_⟩
  ·rw [hBe]
   intro j oj hj hBj' e he hbi
   show (if e.on = i then true else B e.on) = true
   by_cases e1 : e.on = i
   ·simp [e1]
   ·rw [if_neg e1]
    by_cases e2 : j = i
    ·subst e2
     rw [hoi] at hj; cases hj
     exact hdep' e he hbi
    ·simp only [if_neg e2] at hBj'
     exact hdn j oj hj hBj' e he hbi
  ·rw [hBe, eT, hdst]
   intro t x hx
   rw [bx8 (by rw [hN]; exact hdN)]
   simp only [aL9] at hx
   split
   ·rename_i e; rw [if_pos e] at hx; cases hx; rfl
   ·rename_i e
    rw [if_neg e] at hx
    rw [hv t x hx, AV.val_congr x fun id hid => ha id (htm t x hx id hid)]
  ·rw [hBe, eS]; exact M'
 ·rintro listed a w ⟨hsz, hdn, ρ, hold, hN, hdf, hv, M⟩ hall
  have hall' : ∀ j, j < l.length → listed.getD j false = true := fun j hj => by rw [← bl7 (by omega)]; exact hall j hj
  have eT : tmD r.acts (fun j => listed.getD j false) (A0 tm) = A0 r.tm := by
   funext t
   rw [hfT t]
   refine U3 fun j b hj _ => ?_
   rw [ck8]
   exact hall' j (by have := (ch7.1 hj).1; omega)
  have eS : sD r.acts (fun j => listed.getD j false) S = r.S := by
   funext q
   rw [hfS q]
   refine U3 fun j b hj _ => ?_
   rw [ck8]
   exact hall' j (by have := (ch7.1 hj).1; omega)
  have hids : ∀ (k : Nat) b, r.acts[k]? = some b → ∀ id, (id ∈ b.t.res.ids ∨ id ∈ b.t.new.map (·.1) ∨ ∃ p ∈ b.t.new, id ∈ p.2.ids) → id < n + 8 * l.length := fun k b hk id hid => by
   have hkl : k < l.length := by have := (ch7.1 hk).1; omega
   obtain ⟨o, ho'⟩ : ∃ o, l[k]? = some o := ⟨_, cg6 hkl⟩
   obtain ⟨ac, ob, hac, _, hop⟩ := hat k o ho'
   rw [hk] at hac; cases hac
   obtain ⟨_, _, hfine⟩ := aV0 hop
   obtain ⟨hf1, hf2, hf3⟩ := ae5 hfine
   rcases hid with h | h | ⟨p, hp, h⟩
   ·have := hf3 id h; omega
   ·obtain ⟨p, hp, rfl⟩ := List.mem_map.1 h
    have := (hf1 p hp).1; omega
   ·have := (hf1 p hp).2 id h; omega
  refine done ρ a w (n + 8 * l.length) ⟨hN, hdf, by rw [← eT]; exact hv, fun t x hx => ?_, fun j => ?_, by rw [← eS]; exact M, by have := I0.le; omega, hold⟩
  ·rw [hfT t] at hx
   revert x
   refine ar6 (fun y : Option AV => ∀ x, y = some x → ∀ id ∈ x.ids, id < n + 8 * l.length) (fun x hx id hid => ?_) fun k b y hk _ hw x hx id hid => ?_
   ·have := I0.tmi t x hx id hid; omega
   ·unfold wrT at hw
    split at hw
    ·cases hw; cases hx
     exact hids k b hk id (.inl hid)
    ·cases hw
  ·refine ⟨?_, fun hj => ?_⟩
   ·rw [hfS j]
    refine ar6 (fun x : It => ∀ id ∈ x.ids, id < n + 8 * l.length) (fun id hid => ?_) fun k b x hk _ hw id hid => ?_
    ·have := (I0.bd j).1 id hid; omega
    ·exact hids k b hk id (.inr (.inr ⟨_, S8 hw, hid⟩))
   ·rw [hfS j, ab1 fun k b hk hw => ?_]
    ·exact (I0.bd j).2 (by omega)
    ·obtain ⟨x, hx⟩ := cl2.1 hw
     have := hids k b hk j (.inr (.inl (List.mem_map.2 ⟨_, S8 hx, rfl⟩)))
     omega
end
def t7 {ι : Type} (φ ψ : Nat → Prop) (w0 : World) (F : ι → Rs) (N m : Nat) (ρ0 ρ : Nat → Value) (S : List It) (tm : List (Nat × AV)) (a : Act) (w : World) : Prop := Inn φ ψ w0 F N m ρ0 S.length ρ (A0 tm) (s7 S) a w
def wfB (S : List It) (tm : List (Nat × AV)) : Bool := S.all (fun x => Z4 S.length x.ids) && tm.all (fun p => Z4 S.length p.2.ids)
def bQ6 (m : Nat) (js : List Nat) : Bool := (ci1 m).all fun i => natEq (nth js i) i && decide (i < js.length)
def ah7 (m : Nat) (js : List Nat) (S : List It) (tm : List (Nat × AV)) : Bool := nodupB js && natEq js.length S.length && wfB S tm && bQ6 m js
section
variable {P : Program} {ι : Type} {φ ψ : Nat → Prop} {w0 w w' : World} {F : ι → Rs} {ρ ρ0 : Nat → Value} {N m n : Nat} {S : List It} {tm : List (Nat × AV)} {a : Act} {Q : Exit → Act → World → Prop}
theorem aH4 : ∀ {tm : List (Nat × AV)} {t : Nat} {x : AV}, A0 tm t = some x → (t, x) ∈ tm
 | [], _, _, h => by cases h
 | (k, y) :: r, t, x, h => by
  simp only [A0, natEq, beq_iff_eq] at h
  split at h
  ·rename_i e; subst e; cases h; exact ck3
  ·exact ck1 _ (aH4 h)
theorem ai9 {l : List It} {i : Nat} (h : i < l.length) : s7 l i = l[i] := by simp [s7, cg7, h]
theorem y8 {l : List It} {i : Nat} (h : l.length ≤ i) : s7 l i = .none := by simp [s7, cg7, h]
theorem bP5 {S : List It} {tm : List (Nat × AV)} (h : wfB S tm = true) : (∀ j, (∀ id ∈ (s7 S j).ids, id < S.length) ∧ (S.length ≤ j → s7 S j = .none)) ∧ ∀ t x, A0 tm t = some x → ∀ id ∈ x.ids, id < S.length := by
 simp only [wfB, cg5] at h
 refine ⟨fun j => ⟨fun id hid => ?_, fun hj => y8 hj⟩, fun t x hx id hid => ?_⟩
 ·rcases ci7 j S.length with hj | hj
  ·rw [ai9 hj] at hid
   exact E3 (ch3.1 h.1 _ (ci6 hj)) id hid
  ·rw [y8 hj] at hid; cases hid
 ·exact E3 (ch3.1 h.2 _ (aH4 hx)) id hid
theorem Inn.sel {tf : Nat → Option AV} {Sf : Nat → It} (I : Inn φ ψ w0 F N m ρ0 n ρ tf Sf a w) (js : List Nat) (S1 : List It) (tm1 : List (Nat × AV)) (hb : ah7 m js S1 tm1 = true) (hS : js.map Sf = S1.map (It.ren (nth js))) (ht : (tm1.map (·.1)).map tf = tm1.map fun p => some (p.2.ren (nth js))) :
  t7 φ ψ w0 F N m ρ0 (fun i => ρ (nth js i)) S1 tm1 a w := by
 simp only [ah7, cg5, natEq, beq_iff_eq] at hb
 obtain ⟨⟨⟨hnd, hl⟩, hwf⟩, hkeep⟩ := hb
 have hn := ap0 hnd
 obtain ⟨b1, b2⟩ := bP5 hwf
 have hk : ∀ i, i < m → nth js i = i ∧ i < js.length := fun i hi => by
  have := ch3.1 hkeep i (ck9.2 hi)
  simpa [natEq] using this
 refine ⟨I.size, I.defs, fun t x hx => ?_, b2, b1, ?_, ?_, fun i hi => ?_⟩
 ·obtain ⟨i, hi⟩ := List.mem_iff_getElem?.1 (aH4 hx)
  have h1 := congrArg (·[i]?) ht
  simp only [List.getElem?_map, hi, Option.map_some] at h1
  rw [I.tmv t _ (Option.some.inj h1), AV.val_ren]
 ·refine I.mem.map (fun k : ι ⊕ Nat => (match k with | .inl i => some (.inl i) | .inr i => if i < js.length then some (.inr (nth js i)) else none : Option (ι ⊕ Nat))) ?_ ?_
  ·intro k k' x h1 h2
   match k, k' with
   | .inl i, .inl i' => simp at h1 h2; rw [← h1] at h2; simpa using h2.symm
   | .inl i, .inr j => simp only at h1 h2; cases h1; split at h2 <;> simp at h2
   | .inr j, .inl i => simp only at h1 h2; cases h2; split at h1 <;> simp at h1
   | .inr j, .inr j' =>
    simp at h1 h2
    obtain ⟨f1, f2⟩ := h1
    obtain ⟨g1, g2⟩ := h2
    rw [← f2] at g2
    have hj := Sum.inr.inj g2
    have e1 := cg6 f1
    have e2 := cg6 g1
    rw [H6 e2, H6 e1] at hj
    have := (List.getElem?_inj f1 hn).1 (e1.trans (by rw [← hj]; exact e2.symm))
    rw [this]
  ·intro k
   match k with
   | .inl i => exact .inl ⟨_, rfl, rfl⟩
   | .inr i =>
    by_cases hlt : i < js.length
    ·refine .inl ⟨.inr (nth js i), by simp [hlt], ?_⟩
     have h1 := congrArg (·[i]?) hS
     have hlt' : i < S1.length := by omega
     simp only [List.getElem?_map, cg6 hlt, cg6 hlt', Option.map_some, Option.some.injEq] at h1
     simp only [p7]
     rw [ai9 hlt', H6 (cg6 hlt), h1, ← It.res_ren, H6 (cg6 hlt)]
    ·refine .inr ?_
     simp only [p7]
     rw [y8 (by omega)]
     rfl
 ·rcases ci7 S1.length m with h | h
  ·have := (hk S1.length h).2; omega
  ·exact h
 ·rw [(hk i hi).1]; exact I.old i hi
def a23 (o : Option RS) (js ts : List Nat) : Option (List Prop × List It × List (Option AV) × List (List (List AV × List It)) × List (List AV)) := o.map fun r => (r.obs, js.map r.S, ts.map (A0 r.tm), r.acts.map (·.eqs.1), r.acts.map (·.eqw.1))
def bb5 (o : Option RS) (obs : List Prop) (js : List Nat) (S : List It) (tm : List (Nat × AV)) : Option (List Prop × List It × List (Option AV) × List (List (List AV × List It)) × List (List AV)) := o.map fun r => (obs, S.map (It.ren (nth js)), tm.map (fun p => some (p.2.ren (nth js))), r.acts.map (·.eqs.2), r.acts.map (·.eqw.2))
def bm2 (l : List Oper) (ms : List Nat) (n : Nat) (S : Nat → It) (o : Option RS) : Bool := aV4 ms l && aj9 l.toArray && match o with
 | some r => bU8 ms r.acts && bA1 ms n r.acts && bu6 ms S r.acts
 | none => false
theorem bT7 {dk : TypeId → Nat} {l : List Oper} {id : Nat} (G : t7 φ ψ w0 F N m ρ0 ρ S tm a w) (H : T1) (hH : ∀ i c τ, N3 H.calls i = some (c, τ) → c.ok P) (hF : R0 H.facts) (js : List Nat) (S1 : List It) (tm1 : List (Nat × AV)) (obs : List Prop)
  (hs : ((X3 P dk N l H l 0 tm (s7 S) S.length).isSome && ah7 m js S1 tm1) = true)
  (hc : a23 (X3 P dk N l H l 0 tm (s7 S) S.length) js (tm1.map (·.1)) = bb5 (X3 P dk N l H l 0 tm (s7 S) S.length) obs js S1 tm1)
  (ho : v8 obs) (k : ∀ ρ' a' w', t7 φ ψ w0 F N m ρ0 ρ' S1 tm1 a' w' → Q .normal a' w') : (Code.region id l.toArray false).wp P Q a w := by
 simp only [cg5] at hs
 obtain ⟨r, hr⟩ := cl2.1 hs.1
 rw [hr] at hc
 simp only [a23, bb5, Option.map_some, Option.some.injEq, Prod.mk.injEq] at hc
 obtain ⟨h1, h2, h3, h4, h5⟩ := hc
 refine wp_region_lit (bi9 hH hF l 0 S.length G hr (by rw [h1]; exact ho) h4 h5 fun ρ' a' w' n' I => ?_)
 exact k _ a' w' (I.sel js S1 tm1 hs.2 h2 h3)
theorem bJ2 {dk : TypeId → Nat} {l : List Oper} {id : Nat} (G : t7 φ ψ w0 F N m ρ0 ρ S tm a w) (H : T1) (hH : ∀ i c τ, N3 H.calls i = some (c, τ) → c.ok P) (hF : R0 H.facts) (ms : List Nat) (js : List Nat) (S1 : List It) (tm1 : List (Nat × AV)) (obs : List Prop) (hm : P.follows .mixedOrders = true)
  (hs : (bm2 l ms S.length (s7 S) (X3 P dk N l H l 0 tm (s7 S) S.length) && ah7 m js S1 tm1) = true)
  (hc : a23 (X3 P dk N l H l 0 tm (s7 S) S.length) js (tm1.map (·.1)) = bb5 (X3 P dk N l H l 0 tm (s7 S) S.length) obs js S1 tm1)
  (ho : v8 obs) (k : ∀ ρ' a' w', t7 φ ψ w0 F N m ρ0 ρ' S1 tm1 a' w' → Q .normal a' w') : (Code.region id l.toArray true).wp P Q a w := by
 simp only [cg5, bm2] at hs
 obtain ⟨⟨⟨q1, q2⟩, q3⟩, q4⟩ := hs
 cases hr : X3 P dk N l H l 0 tm (s7 S) S.length with
 | none => rw [hr] at q3; cases q3
 | some r =>
  rw [hr] at q3 hc
  simp only [cg5] at q3
  simp only [a23, bb5, Option.map_some, Option.some.injEq, Prod.mk.injEq] at hc
  obtain ⟨h1, h2, h3, h4, h5⟩ := hc
  refine aS7 hH hF G hr (by rw [h1]; exact ho) h4 h5 ms hm q2 q1 q3.1.1 q3.1.2 q3.2 fun ρ' a' w' n' I => ?_
  exact k _ a' w' (I.sel js S1 tm1 q4 h2 h3)
theorem rs1 {dk : TypeId → Nat} {l : List Oper} {id : Nat} (G : t7 φ ψ w0 F N m ρ0 ρ S tm a w) (H : T1) (hH : ∀ i c τ, N3 H.calls i = some (c, τ) → c.ok P) (hF : R0 H.facts) (js : List Nat) (S1 : List It) (tm1 : List (Nat × AV)) (obs : List Prop)
  (ho : v8 obs) (k : ∀ ρ' a' w', t7 φ ψ w0 F N m ρ0 ρ' S1 tm1 a' w' → Q .normal a' w')
  (hs : ((X3 P dk N l H l 0 tm (s7 S) S.length).isSome && ah7 m js S1 tm1) = true := by kernel_rfl)
  (hc : a23 (X3 P dk N l H l 0 tm (s7 S) S.length) js (tm1.map (·.1)) = bb5 (X3 P dk N l H l 0 tm (s7 S) S.length) obs js S1 tm1 := by kernel_rfl) : (Code.region id l.toArray false).wp P Q a w := bT7 G H hH hF js S1 tm1 obs hs hc ho k
theorem rd1 {dk : TypeId → Nat} {l : List Oper} {id : Nat} (G : t7 φ ψ w0 F N m ρ0 ρ S tm a w) (H : T1) (hH : ∀ i c τ, N3 H.calls i = some (c, τ) → c.ok P) (hF : R0 H.facts) (ms : List Nat) (js : List Nat) (S1 : List It) (tm1 : List (Nat × AV)) (obs : List Prop)
  (ho : v8 obs) (k : ∀ ρ' a' w', t7 φ ψ w0 F N m ρ0 ρ' S1 tm1 a' w' → Q .normal a' w') (hm : P.follows .mixedOrders = true := by kernel_rfl)
  (hs : (bm2 l ms S.length (s7 S) (X3 P dk N l H l 0 tm (s7 S) S.length) && ah7 m js S1 tm1) = true := by kernel_rfl)
  (hc : a23 (X3 P dk N l H l 0 tm (s7 S) S.length) js (tm1.map (·.1)) = bb5 (X3 P dk N l H l 0 tm (s7 S) S.length) obs js S1 tm1 := by kernel_rfl) : (Code.region id l.toArray true).wp P Q a w := bJ2 G H hH hF ms js S1 tm1 obs hm hs hc ho k
theorem al6 : ∀ i c τ, N3 [] i = some (c, τ) → j9.ok P c := fun i c τ h => by cases h
theorem aK4 {i0 : Nat} {c0 : j9} {τ0 : List Nat} {r : List (Nat × j9 × List Nat)} (h0 : c0.ok P) (hr : ∀ i c τ, N3 r i = some (c, τ) → j9.ok P c) : ∀ i c τ, N3 ((i0, c0, τ0) :: r) i = some (c, τ) → j9.ok P c := fun i c τ h => by
 simp only [N3] at h
 split at h
 ·cases h; exact h0
 ·exact hr i c τ h
theorem t7.sel (G : t7 φ ψ w0 F N m ρ0 ρ S tm a w) (js : List Nat) (S1 : List It) (tm1 : List (Nat × AV)) (hb : ah7 m js S1 tm1 = true) (hS : js.map (s7 S) = S1.map (It.ren (nth js))) (ht : (tm1.map (·.1)).map (A0 tm) = tm1.map fun p => some (p.2.ren (nth js))) : ∃ ρ', t7 φ ψ w0 F N m ρ0 ρ' S1 tm1 a w := ⟨_, Inn.sel G js S1 tm1 hb hS ht⟩
theorem t7.as (G : t7 φ ψ w0 F N m ρ0 ρ S tm a w) (S1 : List It) (tm1 : List (Nat × AV)) (hS : S = S1) (ht : tm = tm1) : t7 φ ψ w0 F N m ρ0 ρ S1 tm1 a w := by subst hS; subst ht; exact G
theorem t7.at (G : t7 φ ψ w0 F N m ρ0 ρ S tm a w) (S1 : List It) (tm1 : List (Nat × AV)) (hS : S = S1 := by kernel_rfl) (ht : tm = tm1 := by kernel_rfl) : t7 φ ψ w0 F N m ρ0 ρ S1 tm1 a w := G.as S1 tm1 hS ht
theorem ak3 {c : Nat} {x y : Code} (G : t7 φ ψ w0 F N m ρ0 ρ S tm a w) (b : Bool) (hc : A0 tm c = some (.v (.bool b))) (ht : b = true → x.wp P Q a w) (hf : b = false → y.wp P Q a w) : (Code.cond (.tmp c) x y).wp P Q a w := by
 have h := G.tmv c _ hc
 refine wp_cond_split (t := b) ?_ ht hf
 simp [Act.eval, Array.getD_eq_getD_getElem?, h, AV.val]
theorem bx1 {c : Nat} {x y : Code} (G : t7 φ ψ w0 F N m ρ0 ρ S tm a w) (b : Bool) (hc : A0 tm c = some (.v (.bool b))) (hb : b = true) (h : x.wp P Q a w) : (Code.cond (.tmp c) x y).wp P Q a w := ak3 G b hc (fun _ => h) fun hf => by rw [hb] at hf; cases hf
theorem bx2 {c : Nat} {x y : Code} (G : t7 φ ψ w0 F N m ρ0 ρ S tm a w) (b : Bool) (hc : A0 tm c = some (.v (.bool b))) (hb : b = false) (h : y.wp P Q a w) : (Code.cond (.tmp c) x y).wp P Q a w := ak3 G b hc (fun ht => by rw [hb] at ht; cases ht) fun _ => h
def ba7 (P : Program) (tm : Nat → Option AV) (S : Nat → It) : List ResultVar → Option (List AV)
 | [] => some []
 | .tmp t :: r =>
  match tm t, ba7 P tm S r with
  | some x, some l => some (x :: l)
  | _, _ => none
 | .cell t ty :: r =>
  match tm t, ba7 P tm S r with
  | some (.ptr b off), some l =>
   match S b with
   | .box cs => (bt5 P ty ((cs.drop off).take (aE6 P ty))).map fun x => x :: l
   | _ => none
  | _, _ => none
def a14 (P : Program) (fn : Func) (tm : List (Nat × AV)) (S : List It) : Option AV :=
 match ba7 P (A0 tm) (s7 S) fn.results.toList with
 | some [x] => some x
 | some l => some (.tup l)
 | none => none
theorem bG8 {cs : List AV} {ty : TypeId} {b off : Nat} {x : AV} (hB : C9 w b (AV.vals ρ cs)) (h : bt5 P ty ((cs.drop off).take (aE6 P ty)) = some x) : (loadVar ty ⟨b, off, none⟩).run P w = .ok (x.val ρ) w :=
 ax2 h ⟨b, off, none⟩ fun j u hj => by
  rw [AV.vals_take, AV.vals_drop] at hj
  have hadd : (⟨b, off, none⟩ : Addr).add j = ⟨b, off + j, none⟩ := by unfold Addr.add; split <;> simp_all
  rw [hadd, hB.cell]
  rw [List.getElem?_take] at hj
  split at hj
  ·rw [List.getElem?_drop] at hj; exact hj
  ·cases hj
theorem aU5 (G : t7 φ ψ w0 F N m ρ0 ρ S tm a w) : ∀ {rs : List ResultVar} {l : List AV}, ba7 P (A0 tm) (s7 S) rs = some l →
  (rs.mapM (fun r => (match r with | .tmp t => pure (a.tmps.getD t undef) | .cell b t => do loadVar t (← asAddr (a.tmps.getD b undef)) : Sem Value))).run P w = .ok (AV.vals ρ l) w
 | [], l, h => by cases h; simp [AV.vals]
 | .tmp t :: r, l, h => by
  simp only [ba7] at h
  split at h
  case h_2 => cases h
  rename_i x l' h1 h2
  cases h
  have ht := G.tmv t x h1
  have ih := aU5 G h2
  have e : (pure (a.tmps.getD t undef) : Sem Value).run P w = .ok (x.val ρ) w := by simp [Array.getD_eq_getD_getElem?, ht]
  rw [List.mapM_cons, Sem.run_bind, e, Result.andThen_ok, Sem.run_bind, ih]
  rfl
 | .cell t ty :: r, l, h => by
  simp only [ba7] at h
  split at h
  case h_2 => cases h
  rename_i b off l' h1 h2
  split at h
  case h_2 => cases h
  rename_i cs hS
  obtain ⟨x, h3, h4⟩ := ch4.1 h
  subst h4
  have ht := G.tmv t _ h1
  have ih := aU5 G h2
  have hl := bG8 (P := P) (G.mem.boxAt hS) h3
  have e : (do loadVar ty (← asAddr (a.tmps.getD t undef)) : Sem Value).run P w = .ok (x.val ρ) w := by
   rw [show a.tmps.getD t undef = .pointer (some ⟨X0 (ρ b), off, none⟩) by simp [Array.getD_eq_getD_getElem?, ht, AV.val]]
   simp [asAddr, hl]
  rw [List.mapM_cons, Sem.run_bind, e, Result.andThen_ok, Sem.run_bind, ih]
  rfl
theorem bT8 {fn : Func} {R : Ending → World → Prop} {v : AV} (G : t7 φ ψ w0 F N m ρ0 ρ S tm a w) (h : a14 P fn tm S = some v) (hR : R (.returned (v.val ρ)) w) : bodyPost P fn R .ret a w := by
 refine ⟨G.defs, v.val ρ, ?_, hR⟩
 unfold a14 at h
 cases hl : ba7 P (A0 tm) (s7 S) fn.results.toList with
 | none => rw [hl] at h; cases h
 | some l =>
  rw [hl] at h
  have := aU5 G hl
  unfold results
  rw [Sem.run_bind, Array.mapM_eq_mapM_toList, Sem.run_map]
  erw [this]
  simp only [Result.andThen_ok, Sem.run_pure]
  match l, h with
  | [], h => cases h; rfl
  | [x], h => cases h; rfl
  | x :: y :: r, h => cases h; rfl
def aL4 (i : Nat) : List AV → List (Nat × AV)
 | [] => []
 | x :: r => (i, x) :: aL4 (i + 1) r
theorem a76 (ρ : Nat → Value) : ∀ {l : List AV} {i t : Nat} {x : AV}, A0 (aL4 i l) t = some x → i ≤ t ∧ (AV.vals ρ l)[t - i]? = some (x.val ρ)
 | [], _, _, _, h => by cases h
 | y :: r, i, t, x, h => by
  simp only [aL4, A0, natEq, beq_iff_eq] at h
  split at h
  ·rename_i e; subst e; cases h; exact ⟨ch0 _, by simp [AV.vals]⟩
  ·obtain ⟨h1, h2⟩ := a76 ρ h
   refine ⟨by omega, ?_⟩
   rw [show t - i = (t - (i + 1)) + 1 by omega]
   simpa [AV.vals] using h2
def a81 (φ ψ : Nat → Prop) (w0 : World) (F : ι → Rs) (ρ0 : Nat → Value) (c : j9) (x : Ending) (w' : World) : Prop := ∃ ρ', (∀ i, i < c.pre.length → ρ' i = ρ0 i) ∧ x = .returned (c.res.val ρ') ∧ l7 φ ψ w0 w' (p7 F ρ' (s7 c.post))
theorem bx0 {c : j9} {fn : Func} {code : Code} (N : Nat) (hf : P.funcs[c.f]? = some fn) (hb : fn.body = some code) (hN : fn.ntmps = N) (hw : (wfB c.pre (aL4 0 c.args) && decide (c.args.length ≤ N)) = true)
  (k : ∀ {ι : Type} (φ ψ : Nat → Prop) (w0 w : World) (F : ι → Rs) (ρ0 ρ : Nat → Value) (a : Act), t7 φ ψ w0 F N c.pre.length ρ0 ρ c.pre (aL4 0 c.args) a w → code.wp P (bodyPost P fn (a81 φ ψ w0 F ρ0 c)) a w) : c.ok P := by
 intro ι φ ψ w0 w F ρ M
 simp only [cg5, decide_eq_true_eq] at hw
 obtain ⟨b1, b2⟩ := bP5 hw.1
 refine calls_of_wp hf hb (k φ ψ w0 w F ρ ρ _ ⟨?_, rfl, fun t x hx => ?_, b2, b1, M, ch0 _, fun _ _ => rfl⟩)
 ·simp [AV.vals_length, hN]; omega
 ·obtain ⟨_, h1⟩ := a76 ρ hx
  rw [Nat.sub_zero] at h1
  have hlt := (ch7.1 h1).1
  rw [Array.getElem?_append_left (by simpa using hlt)]
  simpa using h1
theorem aG1 {fn : Func} {c : j9} {v : AV} (G : t7 φ ψ w0 F N c.pre.length ρ0 ρ S tm a w) (js : List Nat) (h : a14 P fn tm S = some v) (hb : ah7 c.pre.length js c.post [] = true) (hS : js.map (s7 S) = c.post.map (It.ren (nth js))) (hv : v = c.res.ren (nth js)) : bodyPost P fn (a81 φ ψ w0 F ρ0 c) .ret a w := by
 have G1 := Inn.sel G js c.post [] hb hS rfl
 refine bT8 G h ⟨fun i => ρ (nth js i), G1.old, ?_, G1.mem⟩
 rw [hv, AV.val_ren]
theorem b6 {K : Act → World → Prop} (h : K a w) : Exit.then K Q .normal a w := h
theorem s4 {K : Act → World → Prop} {id : Nat} (h : Q (.exit id) a w) : Exit.then K Q (.exit id) a w := h
theorem l5 {K : Act → World → Prop} (h : Q .ret a w) : Exit.then K Q .ret a w := h
theorem l0 {id : Nat} (h : Q .normal a w) : Exit.inBlock id Q .normal a w := h
theorem z4 {id : Nat} (h : Q .ret a w) : Exit.inBlock id Q .ret a w := h
theorem r8 {id : Nat} (h : Q .normal a w) : Exit.inBlock id Q (.exit id) a w := by simp only [Exit.inBlock, if_true]; exact h
theorem bO5 {id id' : Nat} (hne : natEq id' id = false) (h : Q (.exit id') a w) : Exit.inBlock id Q (.exit id') a w := by
 simp only [Exit.inBlock]
 rw [if_neg (by simpa [natEq] using hne)]; exact h
theorem w64 {x : Int} (h1 : -9223372036854775808 ≤ x) (h2 : x ≤ 9223372036854775807) : IntKind.i64.wrap x = x := IntWalk.i64_in x ⟨h1, h2⟩
theorem rT {c : Nat} {x y : Code} (G : t7 φ ψ w0 F N m ρ0 ρ S tm a w) (b : Bool) (hb : b = true) (h : x.wp P Q a w) (hc : A0 tm c = some (.v (.bool b)) := by kernel_rfl) : (Code.cond (.tmp c) x y).wp P Q a w := bx1 G b hc hb h
theorem rF {c : Nat} {x y : Code} (G : t7 φ ψ w0 F N m ρ0 ρ S tm a w) (b : Bool) (hb : b = false) (h : y.wp P Q a w) (hc : A0 tm c = some (.v (.bool b)) := by kernel_rfl) : (Code.cond (.tmp c) x y).wp P Q a w := bx2 G b hc hb h
theorem s8 {κ : Type} {c : Code} (pre : κ → Prop) (μ : κ → Nat) (Sk : κ → List It) (Tk : κ → List (Nat × AV)) (k0 : κ) (hp : pre k0) (G : t7 φ ψ w0 F N m ρ0 ρ (Sk k0) (Tk k0) a w)
  (round : ∀ k ρ a w, pre k → t7 φ ψ w0 F N m ρ0 ρ (Sk k) (Tk k) a w → c.wp P (Exit.then (fun a' w' => ∃ k' ρ', pre k' ∧ μ k' < μ k ∧ t7 φ ψ w0 F N m ρ0 ρ' (Sk k') (Tk k') a' w') Q) a w) : (Code.loop c).wp P Q a w := by
 refine wp_loop_ghost (fun n a w => ∃ k ρ, μ k = n ∧ pre k ∧ t7 φ ψ w0 F N m ρ0 ρ (Sk k) (Tk k) a w) (μ k0) ⟨k0, ρ, rfl, hp, G⟩ ?_
 rintro n a w ⟨k, ρ, rfl, hk, Gk⟩
 refine wp_mono (round k ρ a w hk Gk) ?_
 intro e a' w' hq
 cases e with
 | normal =>
  obtain ⟨k', ρ', h1, h2, h3⟩ := hq
  exact ⟨μ k', h2, k', ρ', rfl, h1, h3⟩
 | _ => exact hq
theorem bJ1 {κ : Type} {pre : κ → Prop} {μ : κ → Nat} {Sk : κ → List It} {Tk : κ → List (Nat × AV)} {k : κ} (G : t7 φ ψ w0 F N m ρ0 ρ S tm a w) (k' : κ) (hp : pre k') (hμ : μ k' < μ k) (js : List Nat) (S1 : List It) (tm1 : List (Nat × AV)) (hs1 : Sk k' = S1) (ht1 : Tk k' = tm1)
  (hb : ah7 m js S1 tm1 = true) (hS : js.map (s7 S) = S1.map (It.ren (nth js))) (ht : (tm1.map (·.1)).map (A0 tm) = tm1.map fun p => some (p.2.ren (nth js))) :
  ∃ k' ρ', pre k' ∧ μ k' < μ k ∧ t7 φ ψ w0 F N m ρ0 ρ' (Sk k') (Tk k') a w := by
 subst hs1; subst ht1
 exact ⟨k', _, hp, hμ, Inn.sel G js _ _ hb hS ht⟩
theorem t7.len (G : t7 φ ψ w0 F N m ρ0 ρ S tm a w) (i : Nat) {d : D} (h : itD (s7 S i) = some d) : d.len ≤ 9223372036854775807 := by
 obtain ⟨_, cap, _, h1, h2, _⟩ := G.mem.sliceAt h
 unfold maxLen at h2; omega
end
def dkP (t : TypeId) : Nat :=
 if natEq t 3 then 1 else
 if natEq t 4 then 2 else
 if natEq t 5 then 3 else
 if natEq t 9 then 4 else
if natEq t 86 then 5 else
 if natEq t 23 then 7 else
if natEq t 57 then 8 else
if natEq t 104 then 9 else
if natEq t 106 then 10 else
 0
abbrev eA (e : c6) (r : Nat) : AV := .agg [.v (.int .i64 e.kind), .v (.int .i64 e.value), .ref r]
abbrev eS (e : c6) : List It := [.dat (.exprs e.kids)]
abbrev sA (s : c5) (r : Nat) : AV := .agg [.v (.int .i64 s.kind), .v (.int .i64 s.target), .v (.int .i64 s.index.kind), .v (.int .i64 s.index.value), .ref r, .v (.int .i64 s.value.kind), .v (.int .i64 s.value.value), .ref (r + 1), .v (.int .i64 s.count), .ref (r + 2), .ref (r + 3)]
abbrev sS (s : c5) : List It := [.dat (.exprs s.index.kids), .dat (.exprs s.value.kids), .dat (.stmts s.body), .dat (.stmts s.els)]
abbrev pA (r : Nat) : AV := .agg [.ref r, .ref (r + 1), .ref (r + 2)]
abbrev pS (p : i6) : List It := [.dat (.ints p.vars), .dat (.ints p.arrays), .dat (.stmts p.body)]
abbrev iA (n : Int) : AV := .v (.int .i64 n)
abbrev bA (b : Bool) : AV := .v (.bool b)
abbrev T6 (f : FuncId) (args : List AV) (S : List It) (res : AV) : j9 := ⟨f, args, S, S, res⟩
abbrev dI (l : List Int) : It := .dat (.ints l)
abbrev dY (l : List UInt8) : It := .dat (.bytes l)
abbrev dN (l : List d7) : It := .dat (.instrs l)
abbrev dE (l : List c6) : It := .dat (.exprs l)
abbrev dT (l : List c5) : It := .dat (.stmts l)
abbrev eL (e : c6) (r : Nat) : List AV := [.v (.int .i64 e.kind), .v (.int .i64 e.value), .ref r]
abbrev sL (s : c5) (r : Nat) : List AV := [.v (.int .i64 s.kind), .v (.int .i64 s.target), .v (.int .i64 s.index.kind), .v (.int .i64 s.index.value), .ref r, .v (.int .i64 s.value.kind), .v (.int .i64 s.value.value), .ref (r + 1), .v (.int .i64 s.count), .ref (r + 2), .ref (r + 3)]
abbrev pL (r : Nat) : List AV := [.ref r, .ref (r + 1), .ref (r + 2)]
section
variable {P : Program} {ι : Type} {φ ψ : Nat → Prop} {w0 w w' : World} {F : ι → Rs} {ρ ρ0 : Nat → Value} {N m n : Nat} {S : List It} {tm : List (Nat × AV)} {a : Act} {Q : Exit → Act → World → Prop}
end
theorem c6.eta (e : c6) : (⟨e.kind, e.value, e.kids⟩ : c6) = e := by cases e; rfl
theorem c5.eta (s : c5) : (⟨s.kind, s.target, s.index, s.value, s.count, s.body, s.els⟩ : c5) = s := by cases s; rfl
section
variable {ι : Type} {P : Program} {φ ψ : Nat → Prop} {w0 w : World} {F : ι → Rs} {N m : Nat} {ρ0 ρ : Nat → Value} {S : List It} {tm : List (Nat × AV)} {a : Act}
theorem M4 {fn : Func} {c : j9} (G : t7 φ ψ w0 F N c.pre.length ρ0 ρ S tm a w) (js : List Nat) (hS : js.map (s7 S) = c.post.map (It.ren (nth js)) := by kernel_rfl) (h : a14 P fn tm S = some (c.res.ren (nth js)) := by kernel_rfl) (hb : ah7 c.pre.length js c.post [] = true := by kernel_rfl) : bodyPost P fn (a81 φ ψ w0 F ρ0 c) .ret a w := aG1 G js h hb hS rfl
theorem cb5 {fn : Func} {c : j9} (G : t7 φ ψ w0 F N c.pre.length ρ0 ρ S tm a w) (js : List Nat) (hS : js.map (s7 S) = c.post.map (It.ren (nth js)) := by kernel_rfl) (h : a14 P fn tm S = some (c.res.ren (nth js)) := by kernel_rfl) (hb : ah7 c.pre.length js c.post [] = true := by kernel_rfl) : bodyPost P fn (a81 φ ψ w0 F ρ0 c) .normal a w := aG1 G js h hb hS rfl
theorem T3 {fn : Func} {c : j9} (v : AV) (G : t7 φ ψ w0 F N c.pre.length ρ0 ρ S tm a w) (js : List Nat) (hv : v = c.res.ren (nth js)) (hS : js.map (s7 S) = c.post.map (It.ren (nth js)) := by kernel_rfl) (h : a14 P fn tm S = some v := by kernel_rfl) (hb : ah7 c.pre.length js c.post [] = true := by kernel_rfl) : bodyPost P fn (a81 φ ψ w0 F ρ0 c) .ret a w := aG1 G js h hb hS hv
theorem I6 {κ : Type} {pre : κ → Prop} {μ : κ → Nat} {Sk : κ → List It} {Tk : κ → List (Nat × AV)} {k : κ} (G : t7 φ ψ w0 F N m ρ0 ρ S tm a w) (k' : κ) (hp : pre k') (hμ : μ k' < μ k) (js : List Nat) (hS : js.map (s7 S) = (Sk k').map (It.ren (nth js)) := by kernel_rfl) (ht : ((Tk k').map (·.1)).map (A0 tm) = (Tk k').map (fun p => some (p.2.ren (nth js))) := by kernel_rfl) (hb : ah7 m js (Sk k') (Tk k') = true := by kernel_rfl) : ∃ k' ρ', pre k' ∧ μ k' < μ k ∧ t7 φ ψ w0 F N m ρ0 ρ' (Sk k') (Tk k') a w := bJ1 G k' hp hμ js _ _ rfl rfl hb hS ht
theorem J3 {fn : Func} {f : FuncId} {args : List AV} {pre post : List It} {x : Bool} (y : Bool) (G : t7 φ ψ w0 F N pre.length ρ0 ρ S tm a w) (js : List Nat) (e : x = y) (hS : js.map (s7 S) = post.map (It.ren (nth js)) := by kernel_rfl) (h : a14 P fn tm S = some (bA y) := by kernel_rfl) (hb : ah7 pre.length js post [] = true := by kernel_rfl) : bodyPost P fn (a81 φ ψ w0 F ρ0 ⟨f, args, pre, post, bA x⟩) .ret a w := aG1 (c := ⟨f, args, pre, post, bA x⟩) G js h hb hS (by rw [e]; rfl)
theorem X9 {fn : Func} {f : FuncId} {args : List AV} {pre post : List It} {x : Int} (y : Int) (G : t7 φ ψ w0 F N pre.length ρ0 ρ S tm a w) (js : List Nat) (e : x = y) (hS : js.map (s7 S) = post.map (It.ren (nth js)) := by kernel_rfl) (h : a14 P fn tm S = some (iA y) := by kernel_rfl) (hb : ah7 pre.length js post [] = true := by kernel_rfl) : bodyPost P fn (a81 φ ψ w0 F ρ0 ⟨f, args, pre, post, iA x⟩) .ret a w := aG1 (c := ⟨f, args, pre, post, iA x⟩) G js h hb hS (by rw [e]; rfl)
end
abbrev wO (x : Int) : Prop := IntKind.i64.wrap x = x
theorem oW {x : Int} (h : -9223372036854775808 ≤ x ∧ x ≤ 9223372036854775807) : wO x := w64 h.1 h.2
theorem o1 {x : Int} (h : -9223372036854775808 ≤ x ∧ x ≤ 9223372036854775807) : v8 [wO x] := ⟨oW h, ch8⟩
theorem o2 {x y : Int} (h : (-9223372036854775808 ≤ x ∧ x ≤ 9223372036854775807) ∧ -9223372036854775808 ≤ y ∧ y ≤ 9223372036854775807) : v8 [wO x, wO y] := ⟨oW h.1, oW h.2, ch8⟩
theorem o3 {x y z : Int} (h : (-9223372036854775808 ≤ x ∧ x ≤ 9223372036854775807) ∧ (-9223372036854775808 ≤ y ∧ y ≤ 9223372036854775807) ∧ -9223372036854775808 ≤ z ∧ z ≤ 9223372036854775807) : v8 [wO x, wO y, wO z] := ⟨oW h.1, oW h.2.1, oW h.2.2, ch8⟩
theorem o4 {x y z u : Int} (h : (-9223372036854775808 ≤ x ∧ x ≤ 9223372036854775807) ∧ (-9223372036854775808 ≤ y ∧ y ≤ 9223372036854775807) ∧ (-9223372036854775808 ≤ z ∧ z ≤ 9223372036854775807) ∧ -9223372036854775808 ≤ u ∧ u ≤ 9223372036854775807) : v8 [wO x, wO y, wO z, wO u] := ⟨oW h.1, oW h.2.1, oW h.2.2.1, oW h.2.2.2, ch8⟩
abbrev aP (n b : Nat) (r : List Prop) : List Prop := (n ≤ 9223372036854775807) :: (n * b ≤ 140737488355328) :: r
theorem aK {n b : Nat} {r : List Prop} (h : n ≤ 100000000000) (k : v8 r) (hb : b ≤ 1000 := by decide) : v8 (aP n b r) := ⟨by omega, cj4 (Nat.mul_le_mul h hb) (by decide), k⟩
abbrev iX (x : Int) (n l : Nat) (r : List Prop) : List Prop := (0 ≤ x) :: (x < (l : Int)) :: (n < l) :: r
theorem iK {x : Int} {n l : Nat} {r : List Prop} (h : 0 ≤ x ∧ x < (l : Int) ∧ n < l) (k : v8 r) : v8 (iX x n l r) := ⟨h.1, h.2.1, h.2.2, k⟩
abbrev mR (js : List Nat) (l : List It) : List It := List.map (It.ren (nth js)) l
theorem fz : R0 [] := ch8
theorem fc {a b : Bool} {r : List (Bool × Bool)} (h : a = b) (k : R0 r) : R0 ((a, b) :: r) := ⟨h, k⟩
abbrev w6 (e : c6) : c6 := c6.mk e.kind e.value e.kids
abbrev qzS (s : c5) : c5 := c5.mk s.kind s.target (c6.mk s.index.kind s.index.value s.index.kids) (c6.mk s.value.kind s.value.value s.value.kids) s.count s.body s.els
def kL (P : Program) (N m : Nat) (l : List Oper) (H : T1) (tm : List (Nat × AV)) (S : List It) (js : List Nat) (S1 : List It) (t1 : List (Nat × AV)) := ((X3 P dkP N l H l 0 tm (s7 S) S.length).isSome && ah7 m js S1 t1, a23 (X3 P dkP N l H l 0 tm (s7 S) S.length) js (t1.map (·.1)))
def kR (P : Program) (N : Nat) (l : List Oper) (H : T1) (tm : List (Nat × AV)) (S : List It) (o : List Prop) (js : List Nat) (S1 : List It) (t1 : List (Nat × AV)) := (true, bb5 (X3 P dkP N l H l 0 tm (s7 S) S.length) o js S1 t1)
def kM (P : Program) (N m : Nat) (l : List Oper) (H : T1) (ms : List Nat) (tm : List (Nat × AV)) (S : List It) (js : List Nat) (S1 : List It) (t1 : List (Nat × AV)) := (bm2 l ms S.length (s7 S) (X3 P dkP N l H l 0 tm (s7 S) S.length) && ah7 m js S1 t1, a23 (X3 P dkP N l H l 0 tm (s7 S) S.length) js (t1.map (·.1)))
theorem F9 {P : Program} {c : j9} {fn : Func} {code : Code} (N : Nat) (hf : P.funcs[c.f]? = some fn) (S : List It) (tm : List (Nat × AV)) (k : ∀ {ι : Type} {φ ψ : Nat → Prop} {w0 w : World} {F : ι → Rs} {ρ0 ρ : Nat → Value} {a : Act}, t7 φ ψ w0 F N c.pre.length ρ0 ρ S tm a w → code.wp P (bodyPost P fn (a81 φ ψ w0 F ρ0 c)) a w) (hb : fn.body = some code := by rfl) (hN : (fn.ntmps, c.pre, aL4 0 c.args) = (N, S, tm) := by kernel_rfl) (hw : (wfB c.pre (aL4 0 c.args) && decide (c.args.length ≤ N)) = true := by kernel_rfl) : c.ok P := by
 simp only [Prod.mk.injEq] at hN
 obtain ⟨h1, h2, h3⟩ := hN
 exact bx0 N hf hb h1 hw fun φ ψ w0 w F ρ0 ρ a G => k (ρ := ρ) (G.as S tm h2 h3)
def aT (x y : List (Nat × AV)) : List (Nat × AV) := x ++ y.filter fun p => !(x.any fun q => natEq q.1 p.1)
def HH (P : Program) (H : T1) : Prop := (∀ i c τ, N3 H.calls i = some (c, τ) → c.ok P) ∧ R0 H.facts
theorem f7 {P : Program} : HH P ⟨[], [], []⟩ := ⟨al6, ch8⟩
theorem s6 {P : Program} {c : j9} (i : Nat) (σ : List Nat) (h : c.ok P) : HH P ⟨[(i, c, σ)], [], []⟩ := ⟨aK4 h al6, ch8⟩
theorem H8 {P : Program} {f : List (Bool × Bool)} (h : R0 f) (u : List (Nat × Nat)) : HH P ⟨[], f, u⟩ := ⟨al6, h⟩
def Cs (P : Program) (r : List (Nat × j9 × List Nat)) : Prop := ∀ i c τ, N3 r i = some (c, τ) → c.ok P
theorem F4 {P : Program} : Cs P [] := al6
theorem t5 {P : Program} {c : j9} {r : List (Nat × j9 × List Nat)} (i : Nat) (σ : List Nat) (h : c.ok P) (k : Cs P r) : Cs P ((i, c, σ) :: r) := aK4 h k
theorem F5 {P : Program} {r : List (Nat × j9 × List Nat)} {f : List (Bool × Bool)} (h : Cs P r) (h' : R0 f) (u : List (Nat × Nat)) : HH P ⟨r, f, u⟩ := ⟨h, h'⟩
section
variable {ι : Type} {P : Program} {φ ψ : Nat → Prop} {w0 w : World} {F : ι → Rs} {N m : Nat} {ρ0 ρ : Nat → Value} {S : List It} {tm : List (Nat × AV)} {a : Act} {l : List Oper} {id : Nat} {Q : Exit → Act → World → Prop} {H : T1}
theorem N4 (G : t7 φ ψ w0 F N m ρ0 ρ S tm a w) (hh : HH P H) (js : List Nat) (S1 : List It) (t1 : List (Nat × AV)) (o : List Prop) (ho : v8 o) (k : ∀ {ρ' a' w'}, t7 φ ψ w0 F N m ρ0 ρ' S1 t1 a' w' → Q .normal a' w') (h : kL P N m l H tm S js S1 t1 = kR P N l H tm S o js S1 t1 := by kernel_rfl) : (Code.region id l.toArray false).wp P Q a w := rs1 (dk := dkP) G H hh.1 hh.2 js S1 t1 o ho (fun _ _ _ => k) (congrArg Prod.fst h) (congrArg Prod.snd h)
theorem j7 (G : t7 φ ψ w0 F N m ρ0 ρ S tm a w) (hh : HH P H) (js : List Nat) (S1 : List It) (t1 : List (Nat × AV)) (k : ∀ {ρ' a' w'}, t7 φ ψ w0 F N m ρ0 ρ' S1 t1 a' w' → Q .normal a' w') (h : kL P N m l H tm S js S1 t1 = kR P N l H tm S [] js S1 t1 := by kernel_rfl) : (Code.region id l.toArray false).wp P Q a w := N4 G hh js S1 t1 [] ch8 k h
theorem rB1 (G : t7 φ ψ w0 F N m ρ0 ρ S tm a w) (hh : HH P H) (t1 : List (Nat × AV)) (o : List Prop) (ho : v8 o) (k : ∀ {ρ' a' w'}, t7 φ ψ w0 F N m ρ0 ρ' S t1 a' w' → Q .normal a' w') (h : kL P N m l H tm S (ci1 S.length) S t1 = kR P N l H tm S o (ci1 S.length) S t1 := by kernel_rfl) : (Code.region id l.toArray false).wp P Q a w := rs1 (dk := dkP) G H hh.1 hh.2 (ci1 S.length) S t1 o ho (fun _ _ _ => k) (congrArg Prod.fst h) (congrArg Prod.snd h)
theorem D7 (G : t7 φ ψ w0 F N m ρ0 ρ S tm a w) (hh : HH P H) (t1 : List (Nat × AV)) (k : ∀ {ρ' a' w'}, t7 φ ψ w0 F N m ρ0 ρ' S t1 a' w' → Q .normal a' w') (h : kL P N m l H tm S (ci1 S.length) S t1 = kR P N l H tm S [] (ci1 S.length) S t1 := by kernel_rfl) : (Code.region id l.toArray false).wp P Q a w := rB1 G hh t1 [] ch8 k h
theorem E1 (G : t7 φ ψ w0 F N m ρ0 ρ S tm a w) (hh : HH P H) (t1 : List (Nat × AV)) (o : List Prop) (ho : v8 o) (k : ∀ {ρ' a' w'}, t7 φ ψ w0 F N m ρ0 ρ' S (aT t1 tm) a' w' → Q .normal a' w') (h : kL P N m l H tm S (ci1 S.length) S (aT t1 tm) = kR P N l H tm S o (ci1 S.length) S (aT t1 tm) := by kernel_rfl) : (Code.region id l.toArray false).wp P Q a w := rs1 (dk := dkP) G H hh.1 hh.2 (ci1 S.length) S (aT t1 tm) o ho (fun _ _ _ => k) (congrArg Prod.fst h) (congrArg Prod.snd h)
theorem k8 (G : t7 φ ψ w0 F N m ρ0 ρ S tm a w) (hh : HH P H) (t1 : List (Nat × AV)) (k : ∀ {ρ' a' w'}, t7 φ ψ w0 F N m ρ0 ρ' S (aT t1 tm) a' w' → Q .normal a' w') (h : kL P N m l H tm S (ci1 S.length) S (aT t1 tm) = kR P N l H tm S [] (ci1 S.length) S (aT t1 tm) := by kernel_rfl) : (Code.region id l.toArray false).wp P Q a w := E1 G hh t1 [] ch8 k h
theorem M5 (G : t7 φ ψ w0 F N m ρ0 ρ S tm a w) (hh : HH P H) (ms : List Nat) (js : List Nat) (S1 : List It) (t1 : List (Nat × AV)) (o : List Prop) (ho : v8 o) (k : ∀ {ρ' a' w'}, t7 φ ψ w0 F N m ρ0 ρ' S1 t1 a' w' → Q .normal a' w') (hm : P.follows .mixedOrders = true := by kernel_rfl) (h : kM P N m l H ms tm S js S1 t1 = kR P N l H tm S o js S1 t1 := by kernel_rfl) : (Code.region id l.toArray true).wp P Q a w := rd1 (dk := dkP) G H hh.1 hh.2 ms js S1 t1 o ho (fun _ _ _ => k) hm (congrArg Prod.fst h) (congrArg Prod.snd h)
theorem af8 (G : t7 φ ψ w0 F N m ρ0 ρ S tm a w) (hh : HH P H) (ms : List Nat) (js : List Nat) (S1 : List It) (t1 : List (Nat × AV)) (k : ∀ {ρ' a' w'}, t7 φ ψ w0 F N m ρ0 ρ' S1 t1 a' w' → Q .normal a' w') (hm : P.follows .mixedOrders = true := by kernel_rfl) (h : kM P N m l H ms tm S js S1 t1 = kR P N l H tm S [] js S1 t1 := by kernel_rfl) : (Code.region id l.toArray true).wp P Q a w := M5 G hh ms js S1 t1 [] ch8 k hm h
theorem b33 (G : t7 φ ψ w0 F N m ρ0 ρ S tm a w) (hh : HH P H) (ms : List Nat) (t1 : List (Nat × AV)) (o : List Prop) (ho : v8 o) (k : ∀ {ρ' a' w'}, t7 φ ψ w0 F N m ρ0 ρ' S t1 a' w' → Q .normal a' w') (hm : P.follows .mixedOrders = true := by kernel_rfl) (h : kM P N m l H ms tm S (ci1 S.length) S t1 = kR P N l H tm S o (ci1 S.length) S t1 := by kernel_rfl) : (Code.region id l.toArray true).wp P Q a w := rd1 (dk := dkP) G H hh.1 hh.2 ms (ci1 S.length) S t1 o ho (fun _ _ _ => k) hm (congrArg Prod.fst h) (congrArg Prod.snd h)
theorem af7 (G : t7 φ ψ w0 F N m ρ0 ρ S tm a w) (hh : HH P H) (ms : List Nat) (t1 : List (Nat × AV)) (o : List Prop) (ho : v8 o) (k : ∀ {ρ' a' w'}, t7 φ ψ w0 F N m ρ0 ρ' S (aT t1 tm) a' w' → Q .normal a' w') (hm : P.follows .mixedOrders = true := by kernel_rfl) (h : kM P N m l H ms tm S (ci1 S.length) S (aT t1 tm) = kR P N l H tm S o (ci1 S.length) S (aT t1 tm) := by kernel_rfl) : (Code.region id l.toArray true).wp P Q a w := rd1 (dk := dkP) G H hh.1 hh.2 ms (ci1 S.length) S (aT t1 tm) o ho (fun _ _ _ => k) hm (congrArg Prod.fst h) (congrArg Prod.snd h)
theorem bp5 (G : t7 φ ψ w0 F N m ρ0 ρ S tm a w) (hh : HH P H) (ms : List Nat) (t1 : List (Nat × AV)) (k : ∀ {ρ' a' w'}, t7 φ ψ w0 F N m ρ0 ρ' S (aT t1 tm) a' w' → Q .normal a' w') (hm : P.follows .mixedOrders = true := by kernel_rfl) (h : kM P N m l H ms tm S (ci1 S.length) S (aT t1 tm) = kR P N l H tm S [] (ci1 S.length) S (aT t1 tm) := by kernel_rfl) : (Code.region id l.toArray true).wp P Q a w := af7 G hh ms t1 [] ch8 k hm h
variable {c : Nat} {x y : Code}
theorem rcB {b : Bool} (G : t7 φ ψ w0 F N m ρ0 ρ S tm a w) (f : b = false → y.wp P Q a w) (t : b = true → x.wp P Q a w) (h : A0 tm c = some (.v (.bool b)) := by rfl) : (Code.cond (.tmp c) x y).wp P Q a w := ak3 G b h t f
theorem J4 {α : Type} [BEq α] [LawfulBEq α] {u v : α} (G : t7 φ ψ w0 F N m ρ0 ρ S tm a w) (f : (u == v) = false → u ≠ v → y.wp P Q a w) (t : (u == v) = true → u = v → x.wp P Q a w) (h : A0 tm c = some (.v (.bool (u == v))) := by rfl) : (Code.cond (.tmp c) x y).wp P Q a w := ak3 G _ h (fun q => t q (eq_of_beq q)) fun q => f q (ne_of_beq_false q)
theorem rcN {α : Type} [BEq α] [LawfulBEq α] {u v : α} (G : t7 φ ψ w0 F N m ρ0 ρ S tm a w) (f : (u != v) = false → u = v → y.wp P Q a w) (t : (u != v) = true → u ≠ v → x.wp P Q a w) (h : A0 tm c = some (.v (.bool (u != v))) := by rfl) : (Code.cond (.tmp c) x y).wp P Q a w := ak3 G _ h (fun q => t q (bne_iff_ne.1 q)) fun q => f q (bne_eq_false_iff_eq.1 q)
theorem rcD {p : Prop} [Decidable p] (G : t7 φ ψ w0 F N m ρ0 ρ S tm a w) (f : decide p = false → ¬ p → y.wp P Q a w) (t : decide p = true → p → x.wp P Q a w) (h : A0 tm c = some (.v (.bool (decide p))) := by rfl) : (Code.cond (.tmp c) x y).wp P Q a w := ak3 G _ h (fun q => t q (dTt q)) fun q => f q (dFf q)
end
section
variable {P : Program} {f : FuncId}
theorem aV1 {args : List AV} {S : List It} {x : Value} (h : ∀ (φ : Nat → Prop) (w : World) (ρ : Nat → Value), (∀ i d, s7 S i = .dat d → RD w φ d (ρ i)) → Calls P f (AV.vals ρ args).toArray w fun e w' => e = .returned x ∧ Below w.heap.size w w') : j9.ok P (T6 f args S (.v x)) := by
 intro ι φ ψ w0 w F ρ M
 refine (h (FrF φ (p7 F ρ (s7 S))) w ρ fun i d hi => M.datAt hi).mono ?_
 rintro e w' ⟨rfl, hb⟩
 exact ⟨ρ, fun _ _ => rfl, rfl, M.call hb⟩
end
theorem C6 (l : Int) : j9.ok Tryz.prog (T6 192 [iA l] [] (bA (f8 l))) :=
 aV1 fun φ w ρ _ => (I1 l w).mono fun e w' h => ⟨h.1, h.2 ▸ Below.refl _ _⟩
theorem ac0 (l : Int) : j9.ok Tryz.prog (T6 105 [iA l] [] (bA (f8 l))) :=
 aV1 fun φ w ρ _ => (O1 l w).mono fun e w' h => ⟨h.1, h.2 ▸ Below.refl _ _⟩
theorem aw6 (p : i6) : j9.ok Tryz.prog (T6 129 [pA 0] (pS p) (bA (B5 p.vars p.arrays))) :=
 aV1 fun φ w ρ h => aq8 (ρ 0) (ρ 1) (ρ 2) _ _ w (A1.row (h 0 _ rfl)) (A1.row (h 1 _ rfl))
mutual
theorem b46 : ∀ s : c5, nS s ≤ 1 + K0 s
 | ⟨_, _, _, _, _, b, e⟩ => by
  have h1 := aV3 b
  have h2 := aV3 e
  simp only [nS, K0]; omega
theorem aV3 : ∀ ss : List c5, U9 ss ≤ j5 ss
 | [] => ch0 _
 | s :: r => by
  have h1 := b46 s
  have h2 := aV3 r
  simp only [U9, j5]; omega
end
theorem ae0 (a b : List c5) : U9 (a ++ b) = U9 a + U9 b := by
 induction a with
 | nil => simp [U9]
 | cons x r ih => simp [U9, ih]; omega
theorem bq1 {ss : List c5} {k : Nat} (h : k < ss.length) : U9 (ss.take (k + 1)) = U9 (ss.take k) + nS ss[k] := by
 rw [m8 _ _ h, ae0]; simp [U9]
theorem a27 (ss : List c5) (k : Nat) : U9 (ss.take k) ≤ U9 ss := by
 have := ae0 (ss.take k) (ss.drop k)
 rw [List.take_append_drop] at this
 omega
theorem av4 (s : c5) : nS s = 1 + U9 s.body + U9 s.els := by cases s; simp only [nS]; rfl
theorem ad4 {nv na d : Nat} {s : c5} (h : j6 nv na (d + 1) s = true) : s.body.all (j6 nv na d) = true ∧ s.els.all (j6 nv na d) = true := by
 rw [j6, cg5] at h
 obtain ⟨h1, h2⟩ := h
 unfold n9 at h1
 by_cases k3 : s.kind = 3
 ·rw [if_neg (by omega), if_neg (by omega), if_pos k3] at h2
  simp only [cg5] at h2
  exact ⟨h2.1.2, h2.2⟩
 by_cases k4 : s.kind = 4
 ·rw [if_neg (by omega), if_neg (by omega), if_neg (by omega), if_pos k4] at h2
  rw [if_pos (.inr k4), if_pos k4] at h1
  simp only [cg5, decide_eq_true_eq] at h1
  exact ⟨h2, by rw [ci2 h1.2.1.1.1.1]; rfl⟩
 ·rw [if_neg (by omega)] at h1
  simp only [cg5, decide_eq_true_eq] at h1
  exact ⟨by rw [ci2 h1.1.1.1]; rfl, by rw [ci2 h1.1.1.2]; rfl⟩
theorem aO2 (s : c5) : j5 s.body ≤ K0 s ∧ j5 s.els ≤ K0 s := by
 rcases s with ⟨_, _, _, _, _, b, e⟩
 simp only [K0, c5.body, c5.els]
 omega
theorem a48 {nv na : Nat} : ∀ {ss : List c5}, (∀ s ∈ ss, j6 nv na 1 s = true) → U9 ss = ss.length
 | [], _ => rfl
 | s :: r, h => by
  have h1 := ad4 (h s ck3)
  have key : ∀ l : List c5, l.all (j6 nv na 0) = true → l = [] := fun l hl => by
   cases l with
   | nil => rfl
   | cons a r => simp [j6] at hl
  have h2 := a48 (ss := r) fun x hx => h x (ck1 _ hx)
  rw [U9, av4, key _ h1.1, key _ h1.2, h2]
  simp [U9]; omega
def l4 (x y : Int) : Int := IntKind.i64.wrap ((BitVec.ofInt (IntKind.bits .i64) x ||| BitVec.ofInt (IntKind.bits .i64) y).toNat : Int)
def bO7 (x y : Int) : Int := IntKind.i64.wrap ((BitVec.ofInt (IntKind.bits .i64) x &&& BitVec.ofInt (IntKind.bits .i64) y).toNat : Int)
def a87 (x y : Int) : Int := IntKind.i64.wrap ((BitVec.ofInt (IntKind.bits .i64) x ^^^ BitVec.ofInt (IntKind.bits .i64) y).toNat : Int)
theorem j9.dup {P : Program} {f : FuncId} {args args' : List AV} {S S' : List It} {d : D} {res : AV} {i : Nat} (hc : j9.ok P ⟨f, args, S ++ [.dat d], S' ++ [.dat d], res⟩) (hi : S[i]? = some (.dat d)) (hl : S'.length = S.length)
  (hS : S.all (fun x => Z4 S.length x.ids) = true) (ha : ∀ ρ : Nat → Value, ρ S.length = ρ i → AV.vals ρ args = AV.vals ρ args') (hg : Z4 S.length (AV.idsL args') = true) : j9.ok P ⟨f, args', S, S', res⟩ := by
 intro ι φ ψ w0 w F ρ M
 have hi' : s7 S i = .dat d := by simp [s7, hi]
 have hlt : i < S.length := (ch7.1 hi).1
 have hinv : Inv (s7 S) ρ [S.length] := fun ρ' h j => by
  by_cases hj : j < S.length
  ·refine It.res_congr _ (fun k hk => h k ?_) (.inr (.inr (h j (by simp; omega))))
   have h1 := E3 (ch3.1 hS (S[j]) (ci6 hj)) k (by simpa [s7, cg7, cg6 hj] using hk)
   simp; omega
  ·rw [show s7 S j = .none by simp only [s7, cg7, ci9 (Nat.le_of_not_lt hj)]; rfl]; rfl
 obtain ⟨ρ', h1, M1, h2⟩ := M.newDat (id := S.length) (by simp [s7]) hinv (M.datAt hi')
 have e : n7 (s7 S) [(S.length, .dat d)] = s7 (S ++ [.dat d]) := by
  funext j
  simp only [n7, s7, cg7]
  by_cases hj : j = S.length
  ·subst hj; simp
  ·rw [if_neg hj]
   by_cases hj2 : j < S.length
   ·rw [ci0 hj2]
   ·rw [ci9 (by omega), ci9 (by simp; omega)]
 rw [e] at M1
 have hρ : ρ' i = ρ i := h1 i (by simp; omega)
 have ea : AV.vals ρ args' = AV.vals ρ' args := by
  rw [ha ρ' (by rw [← h2, hρ])]
  exact (AV.vals_congr _ fun k hk => by
   have := E3 hg k hk
   exact h1 k (by simp; omega)).symm
 simp only
 rw [ea]
 refine (hc ι φ ψ w0 w F ρ' M1).mono ?_
 rintro x w' ⟨ρ2, g1, g2, M2⟩
 refine ⟨ρ2, fun k hk => ?_, g2, ?_⟩
 ·rw [g1 k (by simp; omega)]; exact h1 k (by simp; omega)
 ·refine M2.map (fun k => match k with | .inl i => some (.inl i) | .inr j => if j < S'.length then some (.inr j) else none) ?_ ?_
  ·intro k k' x h1 h2
   match k, k' with
   | .inl i, .inl i' => simp at h1 h2; rw [h1, h2]
   | .inl i, .inr j => simp at h1; subst h1; simp at h2
   | .inr j, .inl i => simp at h2; subst h2; simp at h1
   | .inr j, .inr j' => simp at h1 h2; rw [← h1.2] at h2; rw [Sum.inr.inj h2.2]
  ·intro k
   match k with
   | .inl i => exact .inl ⟨.inl i, rfl, rfl⟩
   | .inr j =>
    by_cases hj : j < S'.length
    ·refine .inl ⟨.inr j, by simp [hj], ?_⟩
     simp only [p7, s7, cg7, ci0 hj]
    ·refine .inr ?_
     simp only [p7, s7, cg7, ci9 (Nat.le_of_not_lt hj)]
     rfl
def pkX (b : List UInt8) (k : Int) : Int := ((b.getD (k.tmod b.length).toNat 0).toNat : Int) * 131 + ((b.getD ((k * 7 + 3).tmod b.length).toNat 0).toNat : Int) * 1117 + k * 29 + k.tdiv b.length * 53
def pk (b : List UInt8) (k n : Int) : Int :=
 if n < 1 ∨ b.length = 0 then 0 else if k < b.length then ((b.getD k.toNat 0).toNat : Int).tmod n else (a87 (pkX b k) ((pkX b k).tdiv 64)).tmod n
def nm (b : List UInt8) (k : Int) (l : List Int) : Int := l.getD (pk b k l.length).toNat 0
theorem bH1 {x y : Int} (hx : 0 ≤ x) (hx2 : x < 9223372036854775808) (hy : 0 ≤ y) (hy2 : y < 9223372036854775808) : 0 ≤ a87 x y := by
 obtain ⟨a, rfl⟩ := Int.eq_ofNat_of_zero_le hx
 obtain ⟨c, rfl⟩ := Int.eq_ofNat_of_zero_le hy
 have ha : a < 2 ^ 63 := by omega
 have hc : c < 2 ^ 63 := by omega
 have h : (BitVec.ofInt (IntKind.bits .i64) (a : Int) ^^^ BitVec.ofInt (IntKind.bits .i64) (c : Int)).toNat < 2 ^ 63 := by
  rw [BitVec.toNat_xor]
  refine Nat.xor_lt_two_pow ?_ ?_
  ·simp only [BitVec.ofInt_natCast, BitVec.toNat_ofNat, IntKind.bits]; omega
  ·simp only [BitVec.ofInt_natCast, BitVec.toNat_ofNat, IntKind.bits]; omega
 unfold a87
 generalize (BitVec.ofInt (IntKind.bits .i64) (a : Int) ^^^ BitVec.ofInt (IntKind.bits .i64) (c : Int)).toNat = z at h ⊢
 rw [w64 (by omega) (by omega)]
 omega
theorem aZ2 (x : UInt8) : ((x.toNat : Nat) : Int) ≤ 255 := by have := x.toNat_lt; omega
theorem aZ5 {k n : Int} (hk : 0 ≤ k) (hn : 1 ≤ n) : 0 ≤ k.tdiv n ∧ k.tdiv n ≤ k := by
 refine ⟨Int.tdiv_nonneg hk (by omega), ?_⟩
 rw [Int.tdiv_eq_ediv_of_nonneg hk]
 exact Int.ediv_le_self _ hk
theorem a21 {b : List UInt8} {k : Int} (hk : 0 ≤ k) (hk2 : k ≤ 1000000000) (hb : b.length ≠ 0) : 0 ≤ pkX b k ∧ pkX b k ≤ 100000000000 := by
 unfold pkX
 have h1 := aZ2 (b.getD (k.tmod b.length).toNat 0)
 have h2 := aZ2 (b.getD ((k * 7 + 3).tmod b.length).toNat 0)
 have h3 := aZ5 (n := b.length) hk (by omega)
 omega
theorem a90 {x n : Int} (hx : 0 ≤ x) (hn : 1 ≤ n) : 0 ≤ x.tmod n ∧ x.tmod n < n := ⟨Int.tmod_nonneg _ hx, Int.tmod_lt_of_pos _ (by omega)⟩
theorem bQ1 {b : List UInt8} {k : Int} (hk : 0 ≤ k) (hk2 : k ≤ 1000000000) (hb : b.length ≠ 0) : 0 ≤ (pkX b k).tdiv 64 ∧ (pkX b k).tdiv 64 ≤ 100000000000 := by
 have h := a21 hk hk2 hb
 have h2 := aZ5 (n := 64) h.1 (by omega)
 omega
theorem bU7 (b : List UInt8) {k n : Int} (hk : 0 ≤ k) (hk2 : k ≤ 1000000000) (hn : 1 ≤ n) : 0 ≤ pk b k n ∧ pk b k n < n := by
 unfold pk
 split
 ·omega
 ·split
  ·exact a90 (by omega) hn
  ·have h := a21 hk hk2 (show b.length ≠ 0 by omega)
   have h2 := bQ1 hk hk2 (show b.length ≠ 0 by omega)
   exact a90 (bH1 h.1 (by omega) h2.1 (by omega)) hn
theorem bk2 (b : List UInt8) {k : Int} (hk : 0 ≤ k) (hk2 : k ≤ 1000000000) {l : List Int} (hl : l ≠ []) : 0 ≤ pk b k l.length ∧ pk b k l.length < l.length ∧ (pk b k l.length).toNat < l.length := by
 have h0 : 0 < l.length := List.length_pos_iff.2 hl
 have h := bU7 b (n := l.length) hk hk2 (by omega)
 omega
theorem av3 (b : List UInt8) {k : Int} (hk : 0 ≤ k) (hk2 : k ≤ 1000000000) {l : List Int} (hl : l ≠ []) : nm b k l ∈ l := by
 unfold nm
 rw [m5 (bk2 b hk hk2 hl).2.2]
 exact ci6 _
def H2 {α : Type} (f : Int → α × Int) : Nat → Int → List α × Int
 | 0, k => ([], k)
 | n + 1, k => ((H2 f n k).1 ++ [(f (H2 f n k).2).1], (f (H2 f n k).2).2)
theorem aW9 {α : Type} (f : Int → α × Int) (n : Nat) (k : Int) : (H2 f n k).1.length = n := by
 induction n with
 | zero => rfl
 | succ n ih => simp [H2, ih]
theorem bD7 {α : Type} {f : Int → α × Int} {c : Int} (hc : 0 ≤ c) {m : Nat} : ∀ (n : Nat) (k : Int), n ≤ m → (∀ j, k ≤ j → j ≤ k + m * c → j ≤ (f j).2 ∧ (f j).2 ≤ j + c) → k ≤ (H2 f n k).2 ∧ (H2 f n k).2 ≤ k + n * c := by
 intro n
 induction n with
 | zero => intro k _ _; simp [H2]
 | succ n ih =>
  intro k hm h
  have h1 := ih k (by omega) h
  have e : ((n + 1 : Nat) : Int) * c = n * c + c := by rw [Int.natCast_add, Int.add_mul]; simp
  have h3 : ((n + 1 : Nat) : Int) * c ≤ m * c := cl3 (by omega) hc
  have h2 := h (H2 f n k).2 h1.1 (by omega)
  simp only [H2]
  rw [e]
  omega
theorem bM8 {α : Type} {f : Int → α × Int} {Q : α → Prop} (h : ∀ j, Q (f j).1) (n : Nat) (k : Int) : ∀ x ∈ (H2 f n k).1, Q x := by
 induction n with
 | zero => intro x hx; cases hx
 | succ n ih =>
  intro x hx
  simp only [H2, ci4, cj3] at hx
  rcases hx with hx | rfl
  ·exact ih x hx
  ·exact h _
abbrev atL : List Int := [1] ++ ([0] ++ ([2] ++ ([3] ++ ([255] ++ ([7] ++ ([128] ++ []))))))
def n6 (b : List UInt8) (nv : Int) (k : Int) : c6 := if pk b k 3 = 0 then ⟨1, nm b (k + 1) atL, []⟩ else ⟨2, pk b (k + 1) nv, []⟩
abbrev O9 : List Int := [4] ++ ([10] ++ ([8] ++ ([9] ++ ([3] ++ ([6] ++ ([7] ++ ([5] ++ ([11] ++ []))))))))
def N5 (b : List UInt8) (nv na : Int) : Nat → Int → c6 × Int
 | 0, k => (n6 b nv k, k + 2)
 | d + 1, k => if d = 0 then (n6 b nv k, k + 2) else if pk b k 4 = 0 then (n6 b nv (k + 1), k + 3)
  else if nm b (k + 1) O9 = 3 then (if na = 0 then (n6 b nv (k + 2), k + 4) else (⟨3, pk b (k + 2) na, [n6 b nv (k + 3)]⟩, k + 5))
  else (⟨nm b (k + 1) O9, 0, (H2 (N5 b nv na d) (t3 (nm b (k + 1) O9)).toNat (k + 2)).1⟩, (H2 (N5 b nv na d) (t3 (nm b (k + 1) O9)).toNat (k + 2)).2)
def cE : Nat → Int
 | 0 => 2
 | d + 1 => 5 + 3 * cE d
theorem aK9 (d : Nat) : 2 ≤ cE d := by
 induction d with
 | zero => exact Int.le_refl _
 | succ d ih => simp only [cE]; omega
theorem ar3 (k : Int) : (t3 k).toNat ≤ 3 := by unfold t3; (repeat' split) <;> decide
theorem a55 (b : List UInt8) (nv na : Int) : ∀ (d : Nat) (k : Int), k ≤ (N5 b nv na d k).2 ∧ (N5 b nv na d k).2 ≤ k + cE d
 | 0, k => by simp only [N5, cE]; omega
 | d + 1, k => by
  have hc := aK9 d
  rw [N5]
  simp only [cE]
  split
  ·simp only; omega
  ·split
   ·simp only; omega
   ·split
    ·split <;> (simp only; omega)
    ·have h3 := ar3 (nm b (k + 1) O9)
     have h := bD7 (f := N5 b nv na d) (c := cE d) (m := 3) (by omega) (t3 (nm b (k + 1) O9)).toNat (k + 2) h3 fun j _ _ => a55 b nv na d j
     have h4 : ((t3 (nm b (k + 1) O9)).toNat : Int) * cE d ≤ 3 * cE d := cl3 (by omega) (by omega)
     simp only
     omega
theorem bh9 {c : Nat} : ∀ {l : List c6}, (∀ x ∈ l, z6 x ≤ c) → E0 l ≤ l.length * (1 + c)
 | [], _ => ck4 _
 | e :: r, h => by
  have h1 := h e (ck3 ..)
  have h2 := bh9 (l := r) fun x hx => h x (ck1 _ hx)
  simp only [E0, ch2]
  rw [Nat.add_mul]
  omega
theorem bD8 (b : List UInt8) (nv na : Int) : ∀ (d : Nat) (k : Int), (z6 (N5 b nv na d k).1 : Int) ≤ cE d
 | 0, k => by
  simp only [N5, cE, n6]
  split <;> simp [z6, E0]
 | d + 1, k => by
  have hc := aK9 d
  have ha : ∀ j, z6 (n6 b nv j) = 0 := fun j => by unfold n6; split <;> rfl
  rw [N5]
  simp only [cE]
  split
  ·simp only [ha]; omega
  ·split
   ·simp only [ha]; omega
   ·split
    ·split
     ·simp only [ha]; omega
     ·simp only [z6, E0, ha]; omega
    ·have h3 := ar3 (nm b (k + 1) O9)
     have h1 := bM8 (f := N5 b nv na d) (Q := fun x => z6 x ≤ (cE d).toNat) (fun j => by have := bD8 b nv na d j; omega) (t3 (nm b (k + 1) O9)).toNat (k + 2)
     have h2 := bh9 h1
     rw [aW9] at h2
     simp only [z6]
     have h4 := ck7 (1 + (cE d).toNat) h3
     omega
abbrev dpL : List Int := [2] ++ ([3] ++ ([2] ++ ([1] ++ ([4] ++ []))))
def x5 (b : List UInt8) (nv na : Nat) (k : Int) : c6 × Int :=
 if r9 nv na (N5 b nv na (nm b k dpL).toNat (k + 1)).1 = true then N5 b nv na (nm b k dpL).toNat (k + 1)
 else (n6 b nv (N5 b nv na (nm b k dpL).toNat (k + 1)).2, (N5 b nv na (nm b k dpL).toNat (k + 1)).2 + 2)
theorem cE4 {d : Nat} (h : d ≤ 4) : cE d ≤ 364 := by
 match d, h with
 | 0, _ => decide
 | 1, _ => decide
 | 2, _ => decide
 | 3, _ => decide
 | 4, _ => decide
theorem dp4 (b : List UInt8) {k : Int} (hk : 0 ≤ k) (hk2 : k ≤ 1000000000) : 1 ≤ nm b k dpL ∧ nm b k dpL ≤ 4 ∧ (nm b k dpL).toNat ≤ 4 := by
 have h := av3 b hk hk2 (l := dpL) (by simp)
 simp only [ci4, ck2, List.not_mem_nil, or_false] at h
 omega
theorem bY0 (b : List UInt8) {k : Int} (hk : 0 ≤ k) (hk2 : k ≤ 1000000000) : nm b k dpL = ((nm b k dpL).toNat : Int) := by have := dp4 b hk hk2; omega
theorem bi4 (b : List UInt8) (nv na : Nat) {k : Int} (hk : 0 ≤ k) (hk2 : k ≤ 1000000000) : k ≤ (x5 b nv na k).2 ∧ (x5 b nv na k).2 ≤ k + 367 := by
 have h := a55 b nv na (nm b k dpL).toNat (k + 1)
 have h2 := cE4 (dp4 b hk hk2).2.2
 unfold x5
 split
 ·omega
 ·simp only; omega
theorem a75 (b : List UInt8) (nv j : Int) : z6 (n6 b nv j) = 0 := by unfold n6; split <;> rfl
theorem a99 (b : List UInt8) (nv na : Nat) {k : Int} (hk : 0 ≤ k) (hk2 : k ≤ 1000000000) : z6 (x5 b nv na k).1 ≤ 364 := by
 have h := bD8 b nv na (nm b k dpL).toNat (k + 1)
 have h2 := cE4 (dp4 b hk hk2).2.2
 unfold x5
 split
 ·omega
 ·rw [a75]; omega
abbrev noE : c6 := ⟨0, 0, []⟩
abbrev L7 : List Int := [1] ++ ([1] ++ ([2] ++ ([3] ++ ([4] ++ ([1] ++ ([3] ++ ([5] ++ [])))))))
abbrev ibL : List Int := [1] ++ ([2] ++ ([1] ++ ([0] ++ [])))
abbrev ieL : List Int := [0] ++ ([1] ++ ([0] ++ ([2] ++ [])))
abbrev rcL : List Int := [2] ++ ([1] ++ ([3] ++ []))
abbrev rbL : List Int := [1] ++ ([2] ++ ([1] ++ []))
def dfS (b : List UInt8) (nv na : Nat) (kd k : Int) : c5 × Int := (⟨if kd = 5 then 5 else 1, pk b k nv, noE, (x5 b nv na (k + 1)).1, 0, [], []⟩, (x5 b nv na (k + 1)).2)
def soS (b : List UInt8) (nv na : Nat) (k : Int) : c5 × Int := (⟨2, pk b k na, n6 b nv (k + 1), (x5 b nv na (k + 1 + 2)).1, 0, [], []⟩, (x5 b nv na (k + 1 + 2)).2)
def mnD (b : List UInt8) (f : Int → c5 × Int) (l : List Int) (k : Int) : List c5 × Int := H2 f (nm b k l).toNat (k + 1)
def ifS (b : List UInt8) (nv na : Nat) (f : Int → c5 × Int) (k : Int) : c5 × Int :=
 (⟨3, 0, noE, (x5 b nv na k).1, 0, (mnD b f ibL (x5 b nv na k).2).1, (mnD b f ieL (mnD b f ibL (x5 b nv na k).2).2).1⟩, (mnD b f ieL (mnD b f ibL (x5 b nv na k).2).2).2)
def rpS (b : List UInt8) (f : Int → c5 × Int) (k : Int) : c5 × Int := (⟨4, 0, noE, noE, nm b k rcL, (mnD b f rbL (k + 1)).1, []⟩, (mnD b f rbL (k + 1)).2)
def C3 (b : List UInt8) (nv na : Nat) : Nat → Int → c5 × Int
 | 0, k => if nm b k L7 = 2 ∧ na ≠ 0 then soS b nv na (k + 1) else dfS b nv na (nm b k L7) (k + 1)
 | d + 1, k => if nm b k L7 = 2 ∧ na ≠ 0 then soS b nv na (k + 1) else if nm b k L7 = 3 ∧ d ≠ 0 then ifS b nv na (C3 b nv na d) (k + 1) else if nm b k L7 = 4 ∧ d ≠ 0 then rpS b (C3 b nv na d) (k + 1)
  else dfS b nv na (nm b k L7) (k + 1)
def cS : Nat → Int
 | 0 => 402
 | d + 1 => 402 + 4 * cS d
theorem az3 (d : Nat) : 402 ≤ cS d := by
 induction d with
 | zero => exact Int.le_refl _
 | succ d ih => simp only [cS]; omega
section
variable (b : List UInt8) (nv na : Nat) {k : Int}
theorem bR2 (kd : Int) (hk : 0 ≤ k) (hk2 : k + 400 ≤ 1000000000) : k ≤ (dfS b nv na kd k).2 ∧ (dfS b nv na kd k).2 ≤ k + 368 := by
 have h := bi4 b nv na (k := k + 1) (by omega) (by omega)
 simp only [dfS]; omega
theorem bP6 (hk : 0 ≤ k) (hk2 : k + 400 ≤ 1000000000) : k ≤ (soS b nv na k).2 ∧ (soS b nv na k).2 ≤ k + 370 := by
 have h := bi4 b nv na (k := k + 1 + 2) (by omega) (by omega)
 simp only [soS]; omega
theorem nm2 {l : List Int} (hl : l ≠ []) (h : ∀ x ∈ l, 0 ≤ x ∧ x ≤ 2) (hk : 0 ≤ k) (hk2 : k ≤ 1000000000) : (nm b k l).toNat ≤ 2 ∧ nm b k l = ((nm b k l).toNat : Int) := by
 have := h _ (av3 b hk hk2 hl); omega
theorem bA0 {f : Int → c5 × Int} {c : Int} {l : List Int} (hl : l ≠ []) (h : ∀ x ∈ l, 0 ≤ x ∧ x ≤ 2) (hc : 0 ≤ c) (hk : 0 ≤ k) (hk2 : k + 1 + 2 * c ≤ 1000000000) (hf : ∀ j, 0 ≤ j → j + c ≤ 1000000000 → j ≤ (f j).2 ∧ (f j).2 ≤ j + c) : k ≤ (mnD b f l k).2 ∧ (mnD b f l k).2 ≤ k + 1 + 2 * c := by
 have h2 := (nm2 b hl h hk (by omega)).1
 have h3 : ∀ m : Nat, m ≤ 2 → k + 1 ≤ (H2 f m (k + 1)).2 ∧ (H2 f m (k + 1)).2 ≤ k + 1 + m * c := by
  intro m
  induction m with
  | zero => intro _; simp [H2]
  | succ m ih =>
   intro hm
   have h4 := ih (by omega)
   have h6 : (m : Int) * c ≤ 1 * c := cl3 (by omega) hc
   have h5 := hf (H2 f m (k + 1)).2 (by omega) (by omega)
   have e : ((m + 1 : Nat) : Int) * c = m * c + c := by rw [Int.natCast_add, Int.add_mul]; simp
   simp only [H2]
   rw [e]
   omega
 have h4 := h3 _ h2
 have h6 : ((nm b k l).toNat : Int) * c ≤ 2 * c := cl3 (by omega) hc
 unfold mnD
 omega
theorem bd1 : ∀ x : Int, x ∈ ibL → 0 ≤ x ∧ x ≤ 2 := by intro x hx; simp only [ci4, ck2, List.not_mem_nil, or_false] at hx; omega
theorem bc9 : ∀ x : Int, x ∈ ieL → 0 ≤ x ∧ x ≤ 2 := by intro x hx; simp only [ci4, ck2, List.not_mem_nil, or_false] at hx; omega
theorem ba9 : ∀ x : Int, x ∈ rbL → 0 ≤ x ∧ x ≤ 2 := by intro x hx; simp only [ci4, ck2, List.not_mem_nil, or_false] at hx; omega
theorem bQ8 {f : Int → c5 × Int} {c : Int} (hc : 0 ≤ c) (hk : 0 ≤ k) (hk2 : k + 380 + 4 * c ≤ 1000000000) (hf : ∀ j, 0 ≤ j → j + c ≤ 1000000000 → j ≤ (f j).2 ∧ (f j).2 ≤ j + c) : k ≤ (x5 b nv na k).2 ∧ (x5 b nv na k).2 ≤ k + 367 ∧ (x5 b nv na k).2 ≤ (mnD b f ibL (x5 b nv na k).2).2 ∧ (mnD b f ibL (x5 b nv na k).2).2 ≤ k + 370 + 2 * c ∧ k ≤ (ifS b nv na f k).2 ∧ (ifS b nv na f k).2 ≤ k + 380 + 4 * c := by
 have h1 := bi4 b nv na (k := k) (by omega) (by omega)
 have h2 := bA0 b (k := (x5 b nv na k).2) (f := f) (c := c) (l := ibL) (by simp) bd1 hc (by omega) (by omega) hf
 have h3 := bA0 b (k := (mnD b f ibL (x5 b nv na k).2).2) (f := f) (c := c) (l := ieL) (by simp) bc9 hc (by omega) (by omega) hf
 simp only [ifS]
 omega
theorem b32 {f : Int → c5 × Int} {c : Int} (hc : 0 ≤ c) (hk : 0 ≤ k) (hk2 : k + 10 + 2 * c ≤ 1000000000) (hf : ∀ j, 0 ≤ j → j + c ≤ 1000000000 → j ≤ (f j).2 ∧ (f j).2 ≤ j + c) : k ≤ (rpS b f k).2 ∧ (rpS b f k).2 ≤ k + 10 + 2 * c := by
 have h2 := bA0 b (k := k + 1) (f := f) (c := c) (l := rbL) (by simp) ba9 hc (by omega) (by omega) hf
 simp only [rpS]; omega
theorem aZ8 : ∀ (d : Nat) (k : Int), 0 ≤ k → k + cS d ≤ 1000000000 → k ≤ (C3 b nv na d k).2 ∧ (C3 b nv na d k).2 ≤ k + cS d
 | 0, k, hk, hk2 => by
  rw [C3]
  simp only [cS] at hk2 ⊢
  have h1 := bP6 b nv na (k := k + 1) (by omega) (by omega)
  have h2 := bR2 b nv na (k := k + 1) (nm b k L7) (by omega) (by omega)
  split <;> omega
 | d + 1, k, hk, hk2 => by
  rw [C3]
  simp only [cS] at hk2 ⊢
  have hc := az3 d
  have ih := aZ8 d
  have h1 := bP6 b nv na (k := k + 1) (by omega) (by omega)
  have h2 := bR2 b nv na (k := k + 1) (nm b k L7) (by omega) (by omega)
  have h3 := bQ8 b nv na (k := k + 1) (f := C3 b nv na d) (c := cS d) (by omega) (by omega) (by omega) ih
  have h4 := b32 b (k := k + 1) (f := C3 b nv na d) (c := cS d) (by omega) (by omega) (by omega) ih
  (repeat' split) <;> omega
theorem bc0 : z6 noE = 0 := rfl
theorem bD9 (kd : Int) (hk : 0 ≤ k) (hk2 : k + 400 ≤ 1000000000) : K0 (dfS b nv na kd k).1 ≤ 364 := by
 have h := a99 b nv na (k := k + 1) (by omega) (by omega)
 simp only [dfS, K0, j5, bc0]; omega
theorem bv9 (hk : 0 ≤ k) (hk2 : k + 400 ≤ 1000000000) : K0 (soS b nv na k).1 ≤ 364 := by
 have h := a99 b nv na (k := k + 1 + 2) (by omega) (by omega)
 simp only [soS, K0, j5, a75]; omega
def Drw (f : Int → c5 × Int) (c : Int) : Prop := ∀ j, 0 ≤ j → j + c ≤ 1000000000 → j ≤ (f j).2 ∧ (f j).2 ≤ j + c ∧ (K0 (f j).1 : Int) ≤ c
theorem aW8 {f : Int → c5 × Int} {c : Int} (hc : 0 ≤ c) (hf : Drw f c) : ∀ (m : Nat) (k : Int), 0 ≤ k → k + m * c ≤ 1000000000 → k ≤ (H2 f m k).2 ∧ (H2 f m k).2 ≤ k + m * c ∧ (j5 (H2 f m k).1 : Int) ≤ m * (1 + c) := by
 intro m
 induction m with
 | zero => intro k _ _; simp [H2, j5]
 | succ m ih =>
  intro k hk hk2
  have e : ((m + 1 : Nat) : Int) * c = m * c + c := by rw [Int.natCast_add, Int.add_mul]; simp
  have e2 : ((m + 1 : Nat) : Int) * (1 + c) = m * (1 + c) + (1 + c) := by rw [Int.natCast_add, Int.add_mul]; simp
  rw [e] at hk2
  have h4 := ih k hk (by omega)
  have h5 := hf (H2 f m k).2 (by omega) (by omega)
  have h6 : j5 ((H2 f m k).1 ++ [(f (H2 f m k).2).1]) = j5 (H2 f m k).1 + (1 + K0 (f (H2 f m k).2).1) := by
   generalize (H2 f m k).1 = l
   induction l with
   | nil => simp [j5]
   | cons a r ih => simp only [List.cons_append, j5]; omega
  simp only [H2]
  rw [e, e2, h6]
  omega
theorem bc2 {f : Int → c5 × Int} {c : Int} {l : List Int} (hl : l ≠ []) (h : ∀ x ∈ l, 0 ≤ x ∧ x ≤ 2) (hc : 0 ≤ c) (hk : 0 ≤ k) (hk2 : k + 1 + 2 * c ≤ 1000000000) (hf : Drw f c) : (j5 (mnD b f l k).1 : Int) ≤ 2 * (1 + c) := by
 have h2 := (nm2 b hl h hk (by omega)).1
 have h6 : ((nm b k l).toNat : Int) * c ≤ 2 * c := cl3 (by omega) hc
 have h7 : ((nm b k l).toNat : Int) * (1 + c) ≤ 2 * (1 + c) := cl3 (by omega) (by omega)
 have h3 := (aW8 hc hf (nm b k l).toNat (k + 1) (by omega) (by omega)).2.2
 unfold mnD
 omega
theorem a95 : ∀ (d : Nat) (k : Int), 0 ≤ k → k + cS d ≤ 1000000000 → (K0 (C3 b nv na d k).1 : Int) ≤ cS d
 | 0, k, hk, hk2 => by
  rw [C3]
  simp only [cS] at hk2 ⊢
  have h1 := bv9 b nv na (k := k + 1) (by omega) (by omega)
  have h2 := bD9 b nv na (k := k + 1) (nm b k L7) (by omega) (by omega)
  split <;> omega
 | d + 1, k, hk, hk2 => by
  rw [C3]
  simp only [cS] at hk2 ⊢
  have hc := az3 d
  have ih := aZ8 b nv na d
  have hf : Drw (C3 b nv na d) (cS d) := fun j h1 h2 => ⟨(ih j h1 h2).1, (ih j h1 h2).2, a95 d j h1 h2⟩
  have h1 := bv9 b nv na (k := k + 1) (by omega) (by omega)
  have h2 := bD9 b nv na (k := k + 1) (nm b k L7) (by omega) (by omega)
  have h3 := bQ8 b nv na (k := k + 1) (f := C3 b nv na d) (c := cS d) (by omega) (by omega) (by omega) ih
  have h4 := a99 b nv na (k := k + 1) (by omega) (by omega)
  have h5 := bc2 b (k := (x5 b nv na (k + 1)).2) (l := ibL) (by simp) bd1 (by omega) (by omega) (by omega) hf
  have h6 := bc2 b (k := (mnD b (C3 b nv na d) ibL (x5 b nv na (k + 1)).2).2) (l := ieL) (by simp) bc9 (by omega) (by omega) (by omega) hf
  have h7 := bc2 b (k := k + 1 + 1) (l := rbL) (by simp) ba9 (by omega) (by omega) (by omega) hf
  split
  ·omega
  ·split
   ·simp only [ifS, K0, bc0]; omega
   ·split
    ·simp only [rpS, K0, bc0, j5]; omega
    ·omega
theorem b79 (d : Nat) : Drw (C3 b nv na d) (cS d) := fun j h1 h2 => ⟨(aZ8 b nv na d j h1 h2).1, (aZ8 b nv na d j h1 h2).2, a95 b nv na d j h1 h2⟩
theorem bR8 {d m i : Nat} {B : Int} (hB : (m : Int) * cS d ≤ B) (hi : i ≤ m) (hk : 0 ≤ k) (hk2 : k + B ≤ 1000000000) : k ≤ (H2 (C3 b nv na d) i k).2 ∧ (H2 (C3 b nv na d) i k).2 ≤ k + B := by
 have hc := az3 d
 have h6 : (i : Int) * cS d ≤ m * cS d := cl3 (by omega) (by omega)
 have h := aW8 (by omega) (b79 b nv na d) i k hk (by omega)
 omega
theorem b96 {d m i : Nat} {B : Int} (hB : (m : Int) * cS d ≤ B) (hi : i < m) (hk : 0 ≤ k) (hk2 : k + B ≤ 1000000000) : (H2 (C3 b nv na d) i k).2 + cS d ≤ k + B := by
 have hc := az3 d
 have h6 : ((i + 1 : Nat) : Int) * cS d ≤ m * cS d := cl3 (by omega) (by omega)
 have e : ((i + 1 : Nat) : Int) * cS d = i * cS d + cS d := by rw [Int.natCast_add, Int.add_mul]; simp
 have h := aW8 (by omega) (b79 b nv na d) i k hk (by omega)
 omega
theorem b47 {m : Int} {c : Int} (h0 : 0 ≤ m) (hm : m ≤ 2) (hc : 0 ≤ c) : (m.toNat : Int) * c ≤ 2 * c := cl3 (by omega) hc
theorem cd6 {m : Int} {c : Int} (h0 : 0 ≤ m) (hm : m ≤ 4) (hc : 0 ≤ c) : (m.toNat : Int) * c ≤ 4 * c := cl3 (by omega) hc
end
theorem aP3 (b : List UInt8) {k : Int} {l : List Int} {m : Int} (hl : l ≠ []) (h : ∀ x ∈ l, 0 ≤ x ∧ x ≤ m) (hk : 0 ≤ k) (hk2 : k ≤ 1000000000) : 0 ≤ nm b k l ∧ nm b k l ≤ m := h _ (av3 b hk hk2 hl)
mutual
def AV.den (t : Bool) (n : Nat) : AV → AV
 | .v x => .v x
 | .ptr a b => .ptr a b
 | .ea a b c d => .ea a b c d
 | .ref i => if !t && natEq i n then .v (.slice none 0 0) else .ref i
 | .agg l => .agg (AV.denL t n l)
 | .tup l => .tup (AV.denL t n l)
 | .fn f l => .fn f (AV.denL t n l)
 | .bm f l => .bm f (AV.denL t n l)
 | .tref i => if t && natEq i n then .v (.slice none 0 0) else .tref i
def AV.denL (t : Bool) (n : Nat) : List AV → List AV
 | [] => []
 | x :: r => x.den t n :: AV.denL t n r
end
def It.den (t : Bool) (n : Nat) : It → It
 | .box cs => .box (AV.denL t n cs)
 | x => x
mutual
theorem AV.val_den {ρ : Nat → Value} {t : Bool} {n : Nat} {z : Value} (hz : if t then G4 z = .slice none 0 0 else z = .slice none 0 0) : ∀ (x : AV), (∀ i ∈ (x.den t n).ids, i < n) → x.val (fun j => if j = n then z else ρ j) = (x.den t n).val ρ ∧ ∀ i ∈ x.ids, i < n + 1
 | .v _, _ => ⟨rfl, fun i hi => by simp [AV.ids] at hi⟩
 | .ptr a b, h => by
  have ha : a < n := h a (by simp [AV.den, AV.ids])
  refine ⟨?_, fun i hi => by simp [AV.ids] at hi; omega⟩
  simp only [AV.den, AV.val]
  rw [if_neg (by omega)]
 | .ea a b c d, h => by
  have ha : a < n := h a (by simp [AV.den, AV.ids])
  refine ⟨?_, fun i hi => by simp [AV.ids] at hi; omega⟩
  simp only [AV.den, AV.val]
  rw [if_neg (by omega)]
 | .ref a, h => by
  by_cases e : t = false ∧ a = n
  ·obtain ⟨rfl, rfl⟩ := e
   refine ⟨?_, fun i hi => by simp [AV.ids] at hi; omega⟩
   simp only [Bool.false_eq_true, if_false] at hz
   simp [AV.den, AV.val, natEq, hz]
  ·have hd : (AV.ref a).den t n = .ref a := by
    simp only [AV.den]
    rw [if_neg]
    simp [natEq]; intro h1 h2; exact e ⟨h1, h2⟩
   rw [hd] at h ⊢
   have ha : a < n := h a (by simp [AV.ids])
   refine ⟨?_, fun i hi => by simp [AV.ids] at hi; omega⟩
   simp only [AV.val]
   rw [if_neg (by omega)]
 | .tref a, h => by
  by_cases e : t = true ∧ a = n
  ·obtain ⟨rfl, rfl⟩ := e
   refine ⟨?_, fun i hi => by simp [AV.ids] at hi; omega⟩
   simp only [if_true] at hz
   simp [AV.den, AV.val, natEq, hz]
  ·have hd : (AV.tref a).den t n = .tref a := by
    simp only [AV.den]
    rw [if_neg]
    simp [natEq]; intro h1 h2; exact e ⟨h1, h2⟩
   rw [hd] at h ⊢
   have ha : a < n := h a (by simp [AV.ids])
   refine ⟨?_, fun i hi => by simp [AV.ids] at hi; omega⟩
   simp only [AV.val]
   rw [if_neg (by omega)]
 | .agg l, h => by
  obtain ⟨h1, h2⟩ := AV.vals_den hz l (by simpa [AV.den, AV.ids] using h)
  exact ⟨by simp only [AV.den, AV.val]; rw [h1], by simpa [AV.ids] using h2⟩
 | .tup l, h => by
  obtain ⟨h1, h2⟩ := AV.vals_den hz l (by simpa [AV.den, AV.ids] using h)
  exact ⟨by simp only [AV.den, AV.val]; rw [h1], by simpa [AV.ids] using h2⟩
 | .fn f l, h => by
  obtain ⟨h1, h2⟩ := AV.vals_den hz l (by simpa [AV.den, AV.ids] using h)
  exact ⟨by simp only [AV.den, AV.val]; rw [h1], by simpa [AV.ids] using h2⟩
 | .bm f l, h => by
  obtain ⟨h1, h2⟩ := AV.vals_den hz l (by simpa [AV.den, AV.ids] using h)
  exact ⟨by simp only [AV.den, AV.val]; rw [h1], by simpa [AV.ids] using h2⟩
theorem AV.vals_den {ρ : Nat → Value} {t : Bool} {n : Nat} {z : Value} (hz : if t then G4 z = .slice none 0 0 else z = .slice none 0 0) : ∀ (l : List AV), (∀ i ∈ AV.idsL (AV.denL t n l), i < n) → AV.vals (fun j => if j = n then z else ρ j) l = AV.vals ρ (AV.denL t n l) ∧ ∀ i ∈ AV.idsL l, i < n + 1
 | [], _ => ⟨rfl, fun i hi => by simp [AV.idsL] at hi⟩
 | x :: r, h => by
  obtain ⟨h1, h2⟩ := AV.val_den hz x fun i hi => h i (by simp only [AV.denL, AV.idsL, ci4]; exact .inl hi)
  obtain ⟨h3, h4⟩ := AV.vals_den hz r fun i hi => h i (by simp only [AV.denL, AV.idsL, ci4]; exact .inr hi)
  refine ⟨by simp only [AV.denL, AV.vals]; rw [h1, h3], fun i hi => ?_⟩
  simp only [AV.idsL, ci4] at hi
  rcases hi with hi | hi
  ·exact h2 i hi
  ·exact h4 i hi
end
theorem aH6 {m : Bool} {n : Nat} {t : Nat} {x : AV} : ∀ {tm : List (Nat × AV)}, A0 tm t = some x → A0 (tm.map fun p => (p.1, p.2.den m n)) t = some (x.den m n)
 | [], h => by cases h
 | (k, y) :: r, h => by
  simp only [A0, cj9] at h ⊢
  split at h
  ·rename_i e; cases h; rw [if_pos e]
  ·rename_i e; rw [if_neg e]; exact aH6 h
section
variable {P : Program} {ι : Type} {φ ψ : Nat → Prop} {w0 w : World} {F : ι → Rs} {ρ ρ0 : Nat → Value} {N m n : Nat} {S : List It} {tm : List (Nat × AV)} {a : Act}
theorem t7.nilW (G : t7 φ ψ w0 F N m ρ0 ρ S tm a w) (n : Nat) (hn : S.length = n) (b : Bool) (x : It) (z : Value) (hz : if b then G4 z = .slice none 0 0 else z = .slice none 0 0) (hids : x.ids = []) (hb : ∀ g, ¬ (x.res (fun j => if j = n then z else ρ j) n).blk g)
  (hx : ∀ φ', (x.res (fun j => if j = n then z else ρ j) n).holds w φ') (S1 : List It) (tm1 : List (Nat × AV)) (hS : S = S1.map (It.den b n)) (ht : tm = tm1.map fun p => (p.1, p.2.den b n)) :
  ∃ ρ', t7 φ ψ w0 F N m ρ0 ρ' (S1 ++ [x]) tm1 a w := by
 have hl : S1.length = n := by rw [← hn, hS, List.length_map]
 have hat : ∀ j (hj : j < n), s7 S j = (S1[j]'(by omega)).den b n := fun j hj => by
  rw [ai9 (show j < S.length by omega)]
  have h1 := congrArg (·[j]?) hS
  simp only [List.getElem?_map, cg6 (show j < S.length by omega), cg6 (show j < S1.length by omega), Option.map_some, Option.some.injEq] at h1
  exact h1
 have hnew : ∀ j (hj : j < n), s7 (S1 ++ [x]) j = S1[j]'(by omega) := fun j hj => by
  simp [s7, cg7, ci0 (show j < S1.length by omega), cg6 (show j < S1.length by omega)]
 have hlast : s7 (S1 ++ [x]) n = x := by
  simp [s7, cg7, ← hl]
 have hout : ∀ j, n < j → s7 (S1 ++ [x]) j = .none := fun j hj => y8 (by simp; omega)
 have hbx : ∀ j (hj : j < n), ((S1[j]'(by omega)).res (fun j => if j = n then z else ρ j) j = (s7 S j).res ρ j) ∧ ∀ i ∈ (S1[j]'(by omega)).ids, i < n + 1 := fun j hj => by
  rw [hat j hj]
  have hb := (G.bd j).1
  rw [hat j hj, hn] at hb
  generalize S1[j]'(by omega) = x at *
  cases x with
  | box cs =>
   obtain ⟨h1, h2⟩ := AV.vals_den (ρ := ρ) (n := n) hz cs hb
   refine ⟨?_, h2⟩
   simp only [It.res, It.den]
   rw [h1, if_neg (show ¬ j = n by omega)]
  | none => exact ⟨rfl, fun i hi => by cases hi⟩
  | dead => exact ⟨rfl, fun i hi => by cases hi⟩
  | dat d' => exact ⟨by simp only [It.res, It.den]; rw [if_neg (show ¬ j = n by omega)], fun i hi => by cases hi⟩
  | row e' d' => exact ⟨by simp only [It.res, It.den]; rw [if_neg (show ¬ j = n by omega)], fun i hi => by cases hi⟩
  | tree d' => exact ⟨by simp only [It.res, It.den]; rw [if_neg (show ¬ j = n by omega)], fun i hi => by cases hi⟩
  | kept e' d' => exact ⟨by cases e' <;> (simp only [It.res, It.den]; rw [if_neg (show ¬ j = n by omega)]), fun i hi => by cases hi⟩
 have hw : ∀ t x, A0 tm1 t = some x → x.val (fun j => if j = n then z else ρ j) = (x.den b n).val ρ ∧ ∀ i ∈ x.ids, i < n + 1 := fun t x hx => by
  refine AV.val_den hz x fun i hi => ?_
  have h1 : A0 tm t = some (x.den b n) := by rw [ht]; exact aH6 hx
  have := G.tmi t _ h1 i hi
  omega
 refine ⟨fun j => if j = n then z else ρ j, ?_⟩
 refine ⟨G.size, G.defs, fun t x hx => ?_, fun t x hx i hi => ?_, fun j => ⟨fun i hi => ?_, fun hj => y8 hj⟩, ?_, ?_, fun i hi => ?_⟩
 ·have h1 : A0 tm t = some (x.den b n) := by rw [ht]; exact aH6 hx
  rw [(hw t x hx).1]; exact G.tmv t _ h1
 ·have := (hw t x hx).2 i hi
  simp; omega
 ·rcases Nat.lt_trichotomy j n with h | h | h
  ·rw [hnew j h] at hi
   have := (hbx j h).2 i hi
   simp; omega
  ·subst h; rw [hlast, hids] at hi; cases hi
  ·rw [hout j h] at hi; cases hi
 ·refine l7.put G.mem (.inr n) (fun k hk => ?_) (D5.refl _ _) ?_ ?_
  ·cases k with
   | inl i => rfl
   | inr j =>
    simp only [p7]
    rcases Nat.lt_trichotomy j n with h | h | h
    ·rw [hnew j h]; exact (hbx j h).1
    ·exact absurd (by rw [h]) hk
    ·rw [hout j h, y8 (show S.length ≤ j by omega)]; rfl
  ·simp only [p7, hlast]; exact hx _
  ·intro g hg
   simp only [p7, hlast] at hg
   exact absurd hg (hb g)
 ·have := G.le; simp; omega
 ·show (if i = n then _ else ρ i) = ρ0 i
  have := G.le
  rw [if_neg (by omega)]; exact G.old i hi
theorem t7.nil (G : t7 φ ψ w0 F N m ρ0 ρ S tm a w) (n : Nat) (e : TypeId) (d : D) (k : Nat) (S1 : List It) (tm1 : List (Nat × AV)) (hn : S.length = n := by kernel_rfl) (hd : D.nil k = some d := by kernel_rfl) (hS : S = S1.map (It.den false n) := by kernel_rfl) (ht : tm = tm1.map (fun p => (p.1, p.2.den false n)) := by kernel_rfl) :
  ∃ ρ', t7 φ ψ w0 F N m ρ0 ρ' (S1 ++ [.row e d]) tm1 a w := by
 have hz := D.nil_len hd
 refine G.nilW n hn false (.row e d) (.slice none 0 0) (by simp) rfl (fun g hg => ?_) (fun φ' => ?_) S1 tm1 hS ht
 ·simp only [It.res, if_true] at hg
  cases hg
 ·simp only [It.res, if_true]
  refine ⟨fun xs => RW.nice d xs, [], ?_, RW.nil hz _⟩
  rw [hz]; exact World.ownsRow_nil _ _ _ _
theorem t7.nilT (G : t7 φ ψ w0 F N m ρ0 ρ S tm a w) (n : Nat) (d : D) (S1 : List It) (tm1 : List (Nat × AV)) (hn : S.length = n := by kernel_rfl) (hd : ((am8 d).isSome && natEq d.len 0) = true := by kernel_rfl) (hS : S = S1.map (It.den true n) := by kernel_rfl) (ht : tm = tm1.map (fun p => (p.1, p.2.den true n)) := by kernel_rfl) :
  ∃ ρ', t7 φ ψ w0 F N m ρ0 ρ' (S1 ++ [.tree d]) tm1 a w := by
 simp only [cg5, natEq, beq_iff_eq] at hd
 obtain ⟨e, he⟩ := cl2.1 hd.1
 obtain ⟨z, h1, h2⟩ := aJ9 (.slice none 0 0) (fun _ => False) 0 fun b h => h.elim
 refine G.nilW n hn true (.tree d) z (by simp [h1]) rfl (fun g hg => ?_) (fun φ' => ?_) S1 tm1 hS ht
 ·simp only [It.res, if_true] at hg
  exact ((h2 g).1 hg).elim
 ·simp only [It.res, if_true]
  rw [h1]
  refine ⟨fun _ _ h hs => h.same hs, ⟨e, [], fun _ => False, he, ?_, (fun g hg => by cases hg), (fun b hb => hb.elim), ?_⟩, fun b hb => ((h2 b).1 hb).elim⟩
  ·rw [hd.2]; exact World.ownsRow_nil _ _ _ _
  ·have h0 := hd.2
   cases d <;> simp only [am8] at he <;> first | cases he | skip
   all_goals (simp only [D.len] at h0; rw [ci2 h0]; rfl)
end
inductive Ln where
 | no
 | row (e : TypeId)
 | tree
def y9 (M : List Ln) (i : Nat) : Ln := M.getD i .no
def Ln.isT : Ln → Bool
 | .tree => true
 | _ => false
mutual
def AV.tr (M : List Ln) : AV → AV
 | .v x => .v x
 | .ptr a b => .ptr a b
 | .ea a b c d => .ea a b c d
 | .ref i => if (y9 M i).isT then .tref i else .ref i
 | .agg l => .agg (AV.trL M l)
 | .tup l => .tup (AV.trL M l)
 | .fn f l => .fn f (AV.trL M l)
 | .bm f l => .bm f (AV.trL M l)
 | .tref i => .tref i
def AV.trL (M : List Ln) : List AV → List AV
 | [] => []
 | x :: r => x.tr M :: AV.trL M r
end
mutual
def AV.trOk (M : List Ln) : AV → Bool
 | .v _ => true
 | .ptr a _ => !(y9 M a).isT
 | .ea a _ _ _ => !(y9 M a).isT
 | .ref _ => true
 | .agg l => AV.trOkL M l
 | .tup l => AV.trOkL M l
 | .fn _ l => AV.trOkL M l
 | .bm _ l => AV.trOkL M l
 | .tref i => !(y9 M i).isT
def AV.trOkL (M : List Ln) : List AV → Bool
 | [] => true
 | x :: r => x.trOk M && AV.trOkL M r
end
mutual
theorem AV.val_tr {ρ ρ' : Nat → Value} {M : List Ln} (h : ∀ i, ρ' i = if (y9 M i).isT then G4 (ρ i) else ρ i) : ∀ (x : AV), x.trOk M = true → (x.tr M).val ρ = x.val ρ'
 | .v _, _ => rfl
 | .ptr a _, hx => by
  simp only [AV.trOk, ci3] at hx
  simp only [AV.tr, AV.val]; rw [h a, hx]; rfl
 | .ea a _ _ _, hx => by
  simp only [AV.trOk, ci3] at hx
  simp only [AV.tr, AV.val]; rw [h a, hx]; rfl
 | .ref i, _ => by
  simp only [AV.tr]
  cases hm : (y9 M i).isT
  ·simp only [Bool.false_eq_true, if_false, AV.val]; rw [h i, hm]; rfl
  ·simp only [if_true, AV.val]; rw [h i, hm]; rfl
 | .agg l, hx => by simp only [AV.tr, AV.val]; rw [AV.vals_tr h l (by simpa [AV.trOk] using hx)]
 | .tup l, hx => by simp only [AV.tr, AV.val]; rw [AV.vals_tr h l (by simpa [AV.trOk] using hx)]
 | .fn _ l, hx => by simp only [AV.tr, AV.val]; rw [AV.vals_tr h l (by simpa [AV.trOk] using hx)]
 | .bm _ l, hx => by simp only [AV.tr, AV.val]; rw [AV.vals_tr h l (by simpa [AV.trOk] using hx)]
 | .tref i, hx => by
  simp only [AV.trOk, ci3] at hx
  simp only [AV.tr, AV.val]; rw [h i, hx]; rfl
theorem AV.vals_tr {ρ ρ' : Nat → Value} {M : List Ln} (h : ∀ i, ρ' i = if (y9 M i).isT then G4 (ρ i) else ρ i) : ∀ (l : List AV), AV.trOkL M l = true → AV.vals ρ (AV.trL M l) = AV.vals ρ' l
 | [], _ => rfl
 | x :: r, hx => by
  simp only [AV.trOkL, cg5] at hx
  simp only [AV.trL, AV.vals]; rw [AV.val_tr h x hx.1, AV.vals_tr h r hx.2]
end
def A9 (M : List Ln) : Ln → It → It
 | .row e, .dat d => .row e d
 | .tree, .dat d => .tree d
 | .no, .box cs => .box (AV.trL M cs)
 | _, x => x
def W8 (M : List Ln) (S : List It) : List It := (ci1 S.length).map fun i => A9 M (y9 M i) (s7 S i)
theorem Z5 (M : List Ln) (S : List It) (i : Nat) : s7 (W8 M S) i = A9 M (y9 M i) (s7 S i) := by
 unfold W8
 rcases ci7 i S.length with h | h
 ·conv => lhs; rw [s7, cg7, List.getElem?_map, List.getElem?_range h]
  rfl
 ·rw [y8 (by simpa using h), y8 h]
  cases y9 M i <;> rfl
def a50 : D → Bool
 | .rows _ => false
 | .brows _ => false
 | .exprs _ => false
 | .stmts _ => false
 | _ => true
theorem bl9 {w w' : World} {φ φ' : Nat → Prop} {d : D} {xs : List Value} (hd : a50 d = true) (h : RW w φ d xs) : RW w' φ' d xs := by
 intro i hi j x hx
 obtain ⟨u, h1, h2⟩ := h i hi j x hx
 refine ⟨u, h1, ?_⟩
 have : ∃ y, x = .v y := by
  have hm := ci8 hx
  cases d <;> simp only [a50, Bool.false_eq_true] at hd <;> simp [D.elem, bc5, ap7] at hm
  ·exact ⟨_, hm⟩
  ·exact ⟨_, hm⟩
  ·exact ⟨_, hm⟩
  ·exact ⟨_, hm⟩
  ·rcases hm with h | h | h | h | h <;> exact ⟨_, h⟩
  ·rcases hm with h | h <;> exact ⟨_, h⟩
 obtain ⟨y, rfl⟩ := this
 exact h2
def a31 (M : List Ln) (l : Ln) (p x : It) : Bool :=
 match l with
 | .no => match x with
  | .dat _ => (match p with | .dat _ => true | _ => false)
  | .row _ d => a50 d
  | .box cs => AV.trOkL M cs
  | .kept _ _ => false
  | _ => true
 | .row _ => (match p, x with | .dat d, .dat _ => a50 d | _, _ => false)
 | .tree => (match p, x with | .dat d, .dat _ => (am8 d).isSome | _, _ => false)
def by2 (M : List Ln) (l : Ln) (p : It) : Bool :=
 match l, p with
 | .no, .box cs => AV.trOkL M cs
 | _, _ => true
def bA4 (M : List Ln) (c : j9) : Bool :=
 decide (M.length ≤ c.pre.length) && decide (c.pre.length ≤ c.post.length) && AV.trOkL M c.args && c.res.trOk M && (ci1 c.post.length).all (fun i => a31 M (y9 M i) (s7 c.pre i) (s7 c.post i)) && (ci1 c.pre.length).all fun i => by2 M (y9 M i) (s7 c.pre i)
def Rs.snap (w : World) (r : Rs) : Rs := .own r.blk fun w' => ∀ b, r.blk b → b < w.heap.size → w'.heap[b]? = w.heap[b]?
theorem Rs.snap_holds {w : World} {φ φ' : Nat → Prop} {r : Rs} (h : r.holds w φ) : (r.snap w).holds w φ' := by
 refine ⟨fun w1 w2 h1 h2 b hb hlt => ?_, fun b _ _ => rfl, fun b hb => Rs.lt h hb⟩
 have h3 := h1 b hb hlt
 rw [h2 b hb, h3]
 have : (w1.heap[b]?).isSome = true := by rw [h3, Array.getElem?_eq_getElem hlt]; rfl
 obtain ⟨o, ho⟩ := cl2.1 this
 exact (Array.getElem?_eq_some_iff.1 ho).1
theorem aX0 : ∀ {P X : List It} {i : Nat} {d e : D}, aw1 P X = aw0 P X → s7 P i = .dat d → s7 X i = .dat e → d = e
 | P, X, i, d, e, h, h1, h2 => by
  have hp : P[i]? = some (.dat d) := by
   rcases ci7 i P.length with hl | hl
   ·rw [ai9 hl] at h1; rw [cg6 hl, h1]
   ·rw [y8 hl] at h1; cases h1
  have hx : X[i]? = some (.dat e) := by
   rcases ci7 i X.length with hl | hl
   ·rw [ai9 hl] at h2; rw [cg6 hl, h2]
   ·rw [y8 hl] at h2; cases h2
  exact bY2 h hp hx
theorem j9.lend0 {P : Program} {c : j9} (hc : c.ok P) (M : List Ln) (hb : bA4 M c = true) (he : aw1 c.pre c.post = aw0 c.pre c.post) : j9.ok P ⟨c.f, AV.trL M c.args, W8 M c.pre, W8 M c.post, c.res.tr M⟩ := by
 simp only [bA4, cg5, decide_eq_true_eq] at hb
 obtain ⟨⟨⟨⟨⟨hM, hle⟩, hargs⟩, hres⟩, hpost⟩, hpre⟩ := hb
 have hno : ∀ i, c.pre.length ≤ i → y9 M i = .no := fun i hi => by
  unfold y9; rw [cg7, ci9 (by omega)]; rfl
 have hpo : ∀ i, a31 M (y9 M i) (s7 c.pre i) (s7 c.post i) = true := fun i => by
  rcases ci7 i c.post.length with h | h
  ·exact ch3.1 hpost i (ck9.2 h)
  ·rw [hno i (by omega), y8 h]; rfl
 have hpr : ∀ i, by2 M (y9 M i) (s7 c.pre i) = true := fun i => by
  rcases ci7 i c.pre.length with h | h
  ·exact ch3.1 hpre i (ck9.2 h)
  ·rw [hno i h, y8 h]; rfl
 intro ι φ ψ w0 w F ρ MM
 let ρ1 : Nat → Value := fun i => if (y9 M i).isT then G4 (ρ i) else ρ i
 have hρ1 : ∀ i, ρ1 i = if (y9 M i).isT then G4 (ρ i) else ρ i := fun _ => rfl
 let F1 : ι → Rs := fun i => (F i).snap w
 have hLi : ∀ i, p7 F ρ (s7 (W8 M c.pre)) (.inl i) = F i := fun _ => rfl
 have hLj : ∀ j, p7 F ρ (s7 (W8 M c.pre)) (.inr j) = (A9 M (y9 M j) (s7 c.pre j)).res ρ j := fun j => by simp only [p7]; rw [Z5]
 generalize hL : p7 F ρ (s7 (W8 M c.pre)) = L at MM hLi hLj
 have h1j : ∀ j, y9 M j = .no → (s7 c.pre j).res ρ1 j = L (.inr j) := fun j hl => by
  rw [hLj, hl]
  have hp := hpr j
  have e : ρ1 j = ρ j := by rw [hρ1, hl]; rfl
  cases hx : s7 c.pre j with
  | none => rfl
  | dead => rfl
  | dat d => simp only [A9, It.res]; rw [e]
  | row e' d => simp only [A9, It.res]; rw [e]
  | tree d => simp only [A9, It.res]; rw [e]
  | kept e' d => cases e' <;> (simp only [A9, It.res]; rw [e])
  | box cs =>
   rw [hl, hx] at hp
   simp only [by2] at hp
   simp only [A9, It.res]
   rw [e, AV.vals_tr hρ1 cs hp]
 have hlent : ∀ j, y9 M j ≠ .no → (∃ d, s7 c.pre j = .dat d ∧ s7 c.post j = .dat d ∧ ((∃ e, y9 M j = .row e ∧ a50 d = true) ∨ y9 M j = .tree)) := fun j hj => by
  have h := hpo j
  cases hl : y9 M j with
  | no => exact absurd hl hj
  | row e =>
   rw [hl] at h
   simp only [a31] at h
   split at h
   ·rename_i d d' h1 h2
    exact ⟨d, h1, by rw [h2, ← aX0 he h1 h2], .inl ⟨e, rfl, h⟩⟩
   ·cases h
  | tree =>
   rw [hl] at h
   simp only [a31] at h
   split at h
   ·rename_i d d' h1 h2
    exact ⟨d, h1, by rw [h2, ← aX0 he h1 h2], .inr rfl⟩
   ·cases h
 have hsub : ∀ k b, (p7 F1 ρ1 (s7 c.pre) k).blk b → (L k).blk b ∧ ∀ j, k = .inr j → y9 M j = .no := fun k b hb => by
  cases k with
  | inl i => rw [hLi]; exact ⟨hb, fun j h => by cases h⟩
  | inr j =>
   by_cases hl : y9 M j = .no
   ·simp only [p7] at hb
    rw [h1j j hl] at hb
    exact ⟨hb, fun j' h => by cases h; exact hl⟩
   ·obtain ⟨d, h1, _⟩ := hlent j hl
    simp only [p7, h1, It.res] at hb
    exact hb.elim
 have hfr1 : ∀ b, FrF φ L b → FrF φ (p7 F1 ρ1 (s7 c.pre)) b := fun b hb => ⟨hb.1, fun k hk => hb.2 k (hsub k b hk).1⟩
 let ψ1 : Nat → Prop := fun b => ∀ k, ¬ (p7 F1 ρ1 (s7 c.pre) k).blk b
 have M1 : l7 φ ψ1 w w (p7 F1 ρ1 (s7 c.pre)) := by
  refine ⟨D5.refl _ _, fun b hb => MM.fresh b (cj4 MM.size hb), fun k => ?_, fun k k' b hkk h1 h2 => MM.dis k k' b hkk (hsub k b h1).1 (hsub k' b h2).1, fun k b h1 => .inr fun h => h k h1, fun k b h1 => MM.ph k b (hsub k b h1).1⟩
  cases k with
  | inl i => exact Rs.snap_holds (show (F i).holds w _ from by rw [← hLi i]; exact MM.holds (.inl i))
  | inr j =>
   by_cases hl : y9 M j = .no
   ·simp only [p7]
    rw [h1j j hl]
    exact Rs.keep (MM.holds (.inr j)) (Agr.mono fun b _ hf => hfr1 b hf) fun _ _ => rfl
   ·obtain ⟨d, h1, h2, h3⟩ := hlent j hl
    have hh := MM.holds (.inr j)
    have hown : ∀ b, (L (.inr j)).blk b → FrF φ (p7 F1 ρ1 (s7 c.pre)) b := fun b hb => ⟨MM.ph _ _ hb, fun k hk => by
     obtain ⟨q1, q2⟩ := hsub k b hk
     by_cases e : k = .inr j
     ·exact hl (q2 j e)
     ·exact MM.dis k (.inr j) b e q1 hb⟩
    simp only [p7, h1, It.res]
    refine ⟨RD.nice _ _, ?_⟩
    rcases h3 with ⟨e, h3, hflat⟩ | h3
    ·rw [hLj, h3, h1] at hh
     simp only [A9, It.res] at hh
     obtain ⟨_, xs, o1, o2⟩ := hh
     have e1 : ρ1 j = ρ j := by rw [hρ1, h3]; rfl
     rw [e1]
     refine RD.make (C8 o1 fun g hg => hown g ?_) (bl9 hflat o2)
     rw [hLj, h3, h1]; exact hg
    ·rw [hLj, h3, h1] at hh
     simp only [A9, It.res] at hh
     have e1 : ρ1 j = G4 (ρ j) := by rw [hρ1, h3]; rfl
     rw [e1]
     refine F6.read hh.2.1 fun b hb => hown b ?_
     rw [hLj, h3, h1]; exact hb
 simp only
 rw [AV.vals_tr hρ1 c.args hargs]
 refine (hc ι φ ψ1 w w F1 ρ1 M1).mono ?_
 rintro x w' ⟨ρ2, g1, g2, M2⟩
 have hplen : (W8 M c.pre).length = c.pre.length := by simp [W8]
 let ρ' : Nat → Value := fun j => if j < c.pre.length then ρ j else ρ2 j
 have hρ' : ∀ j, ρ2 j = if (y9 M j).isT then G4 (ρ' j) else ρ' j := fun j => by
  show _ = if (y9 M j).isT then G4 (if j < c.pre.length then ρ j else ρ2 j) else (if j < c.pre.length then ρ j else ρ2 j)
  rcases ci7 j c.pre.length with h | h
  ·rw [if_pos h, g1 j h]
  ·rw [hno j h]
   exact (if_neg (Nat.not_lt.2 h)).symm
 have hρo : ∀ j, y9 M j ≠ .no → ρ' j = ρ j := fun j hj => by
  rcases ci7 j c.pre.length with h | h
  ·exact if_pos h
  ·exact absurd (hno j h) hj
 refine ⟨ρ', fun i hi => if_pos (by rw [hplen] at hi; exact hi), by rw [AV.val_tr hρ' c.res hres]; exact g2, ?_⟩
 have hL'j : ∀ j, p7 F ρ' (s7 (W8 M c.post)) (.inr j) = (A9 M (y9 M j) (s7 c.post j)).res ρ' j := fun j => by simp only [p7]; rw [Z5]
 have hL'i : ∀ i, p7 F ρ' (s7 (W8 M c.post)) (.inl i) = F i := fun _ => rfl
 generalize hL' : p7 F ρ' (s7 (W8 M c.post)) = L' at hL'j hL'i
 have hL2j : ∀ j, y9 M j = .no → L' (.inr j) = p7 F1 ρ2 (s7 c.post) (.inr j) := fun j hl => by
  rw [hL'j, hl]
  have hp := hpo j
  have e : ρ2 j = ρ' j := by rw [hρ', hl]; rfl
  simp only [p7]
  cases hx : s7 c.post j with
  | none => rfl
  | dead => rfl
  | dat d => simp only [A9, It.res]; rw [e]
  | row e' d => simp only [A9, It.res]; rw [e]
  | tree d => simp only [A9, It.res]; rw [e]
  | kept e' d => cases e' <;> (simp only [A9, It.res]; rw [e])
  | box cs =>
   rw [hl, hx] at hp
   simp only [a31] at hp
   simp only [A9, It.res]
   rw [e, AV.vals_tr hρ' cs hp]
 have hlj : ∀ j, y9 M j ≠ .no → L' (.inr j) = L (.inr j) := fun j hl => by
  obtain ⟨d, h1, h2, h3⟩ := hlent j hl
  rw [hL'j, hLj, h1, h2]
  rcases h3 with ⟨e, h3, _⟩ | h3
  ·rw [h3]; simp only [A9, It.res]; rw [hρo j hl]
  ·rw [h3]; simp only [A9, It.res]; rw [hρo j hl]
 have hin : ∀ b, b < w.heap.size → ¬ ψ1 b → ∃ k, (L k).blk b ∧ ∀ j, k = .inr j → y9 M j = .no := fun b _ hn => by
  obtain ⟨k, hk⟩ := Classical.not_forall.1 hn
  exact ⟨k, hsub k b (Classical.not_not.1 hk)⟩
 have hnew : ∀ k b, (∀ j, k = .inr j → y9 M j = .no) → (p7 F1 ρ2 (s7 c.post) k).blk b → b < w.heap.size → ∃ k', (L k').blk b ∧ ∀ j, k' = .inr j → y9 M j = .no := fun k b _ hb hlt => by
  rcases M2.ge k b hb with h | h
  ·omega
  ·exact hin b hlt h
 have hback : ∀ k b, (L' k).blk b → b < w.heap.size → ∃ k', (L k').blk b := fun k b hb hlt => by
  cases k with
  | inl i => rw [hL'i] at hb; exact ⟨.inl i, by rw [hLi]; exact hb⟩
  | inr j =>
   by_cases hl : y9 M j = .no
   ·rw [hL2j j hl] at hb
    obtain ⟨k', h1, _⟩ := hnew (.inr j) b (fun j' h => by cases h; exact hl) hb hlt
    exact ⟨k', h1⟩
   ·rw [hlj j hl] at hb; exact ⟨_, hb⟩
 have hsame : ∀ b, b < w.heap.size → ψ1 b → w'.heap[b]? = w.heap[b]? := fun b h1 h2 => M2.kept.block b h1 h2
 have hagr : Agr (FrF φ L) (FrF φ L') w w' := ⟨M2.kept.size, fun b hb hf => ⟨⟨hf.1, fun k hk => let ⟨k', h1⟩ := hback k b hk hb; hf.2 k' h1⟩, hsame b hb fun k hk => (hfr1 b hf).2 k hk⟩⟩
 have hlsame : ∀ j, y9 M j ≠ .no → ∀ b, (L (.inr j)).blk b → w'.heap[b]? = w.heap[b]? := fun j hl b hb => hsame b (MM.lt hb) fun k hk => by
  obtain ⟨q1, q2⟩ := hsub k b hk
  by_cases e : k = .inr j
  ·exact hl (q2 j e)
  ·exact MM.dis k (.inr j) b e q1 hb
 have hcross : ∀ j k b, y9 M j ≠ .no → (∀ j, k = .inr j → y9 M j = .no) → (L (.inr j)).blk b → ¬ (p7 F1 ρ2 (s7 c.post) k).blk b := fun j k b hl hk h1 h2 => by
  obtain ⟨k', h3, h4⟩ := hnew k b hk h2 (MM.lt h1)
  exact MM.dis k' (.inr j) b (fun e => hl (h4 j e)) h3 h1
 refine ⟨⟨M2.kept.os.trans MM.kept.os, M2.kept.tape.trans MM.kept.tape, M2.kept.output.trans MM.kept.output, cj4 MM.size M2.kept.size, fun b hb hp => (hsame b (cl0 hb MM.size) fun k hk => ?_).trans (MM.kept.block b hb hp)⟩, MM.fresh, fun k => ?_, fun k k' b hkk h1 h2 => ?_, fun k b h1 => ?_, fun k b h1 => ?_⟩
 ·rcases MM.ge k b (hsub k b hk).1 with h | h
  ·omega
  ·exact h hp
 ·cases k with
  | inl i =>
   rw [hL'i, ← hLi i]
   refine Rs.keep (MM.holds (.inl i)) hagr fun b hb => ?_
   have := (M2.holds (.inl i)).2.1 b (by rw [← hLi i]; exact hb) (MM.lt hb)
   exact this
  | inr j =>
   by_cases hl : y9 M j = .no
   ·have hh := M2.holds (.inr j)
    rw [← hL2j j hl] at hh
    have hp := hpo j
    rw [hl] at hp
    cases hx : s7 c.post j with
    | none => rw [hL'j, hl, hx]; exact Rs.none_holds _ _
    | dead => rw [hL'j, hl, hx]; exact Rs.none_holds _ _
    | box cs => rw [hL'j, hl, hx] at hh ⊢; exact hh
    | tree d => rw [hL'j, hl, hx] at hh ⊢; exact hh
    | kept e' d => rw [hx] at hp; exact absurd hp (by simp [a31])
    | row e d =>
     rw [hx] at hp
     simp only [a31] at hp
     rw [hL'j, hl, hx] at hh ⊢
     simp only [A9, It.res] at hh ⊢
     obtain ⟨_, xs, o1, o2⟩ := hh
     exact ⟨fun xs => RW.nice d xs, xs, o1, bl9 hp o2⟩
    | dat d =>
     rw [hx] at hp
     simp only [a31] at hp
     split at hp
     ·rename_i d' hpx
      have hd : d' = d := aX0 he hpx hx
      subst hd
      have e : L' (.inr j) = L (.inr j) := by
       rw [hL'j, hLj, hl, hx, hpx]
       simp only [A9, It.res]
       have : j < c.pre.length := by
        rcases ci7 j c.pre.length with h | h
        ·exact h
        ·rw [y8 h] at hpx; cases hpx
       rw [show ρ' j = ρ j from if_pos this]
      rw [e]
      refine Rs.keep (MM.holds (.inr j)) hagr fun b hb => ?_
      rw [hLj, hl, hpx] at hb
      exact hb.elim
     ·cases hp
   ·rw [hlj j hl]
    exact Rs.keep (MM.holds (.inr j)) hagr fun b hb => hlsame j hl b hb
 ·have key : ∀ k, (∃ j, k = .inr j ∧ y9 M j ≠ .no ∧ (L' k) = L k) ∨ ((∀ j, k = .inr j → y9 M j = .no) ∧ ∀ b, (L' k).blk b → (p7 F1 ρ2 (s7 c.post) k).blk b) := fun k => by
   cases k with
   | inl i => exact .inr ⟨(fun j h => by cases h), fun b hb => by rw [hL'i] at hb; exact hb⟩
   | inr j =>
    by_cases hl : y9 M j = .no
    ·exact .inr ⟨fun j' h => by cases h; exact hl, fun b hb => by rw [hL2j j hl] at hb; exact hb⟩
    ·exact .inl ⟨j, rfl, hl, hlj j hl⟩
  rcases key k with ⟨j, rfl, k1, k2⟩ | ⟨k1, k2⟩ <;> rcases key k' with ⟨j', rfl, k3, k4⟩ | ⟨k3, k4⟩
  ·rw [k2] at h1; rw [k4] at h2; exact MM.dis _ _ b hkk h1 h2
  ·rw [k2] at h1; exact hcross j k' b k1 k3 h1 (k4 b h2)
  ·rw [k4] at h2; exact hcross j' k b k3 k1 h2 (k2 b h1)
  ·exact M2.dis k k' b hkk (k2 b h1) (k4 b h2)
 ·cases k with
  | inl i => rw [hL'i, ← hLi i] at h1; exact MM.ge _ b h1
  | inr j =>
   by_cases hl : y9 M j = .no
   ·rw [hL2j j hl] at h1
    rcases ci7 b w.heap.size with hlt | hge
    ·obtain ⟨k', h2, _⟩ := hnew (.inr j) b (fun j' h => by cases h; exact hl) h1 hlt
     exact MM.ge k' b h2
    ·exact .inl (cj4 MM.size hge)
   ·rw [hlj j hl] at h1; exact MM.ge _ b h1
 ·cases k with
  | inl i => rw [hL'i, ← hLi i] at h1; exact MM.ph _ b h1
  | inr j =>
   by_cases hl : y9 M j = .no
   ·rw [hL2j j hl] at h1; exact M2.ph _ b h1
   ·rw [hlj j hl] at h1; exact MM.ph _ b h1
def bB4 (M : List Ln) : Ln → It → It
 | .row e, .dat d => .kept (some e) d
 | .tree, .dat d => .kept none d
 | .no, .box cs => .box (AV.trL M cs)
 | _, x => x
def bB3 (M : List Ln) (S : List It) : List It := (ci1 S.length).map fun i => bB4 M (y9 M i) (s7 S i)
theorem bA2 (M : List Ln) (S : List It) (i : Nat) : s7 (bB3 M S) i = bB4 M (y9 M i) (s7 S i) := by
 unfold bB3
 rcases ci7 i S.length with h | h
 ·conv => lhs; rw [s7, cg7, List.getElem?_map, List.getElem?_range h]
  rfl
 ·rw [y8 (by simpa using h), y8 h]
  cases y9 M i <;> rfl
theorem j9.lend {P : Program} {c : j9} (hc : c.ok P) (M : List Ln) (hb : bA4 M c = true := by kernel_rfl) (he : aw1 c.pre c.post = aw0 c.pre c.post := by kernel_rfl) : j9.ok P ⟨c.f, AV.trL M c.args, W8 M c.pre, bB3 M c.post, c.res.tr M⟩ :=
 j9.okPost (j9.lend0 hc M hb he) _ fun ρ i => by
  simp only
  rw [bA2, Z5]
  cases y9 M i <;> cases s7 c.post i <;> rfl
section
variable {P : Program} {ι κ : Type} {φ ψ : Nat → Prop} {w0 w : World} {F : ι → Rs} {ρ ρ0 : Nat → Value} {N m n : Nat} {S : List It} {tm : List (Nat × AV)} {a : Act}
theorem l7.release {L L' : κ → Rs} (M : l7 φ ψ w0 w L) (h : ∀ k, L' k = L k ∨ ((∀ b, ¬ (L' k).blk b) ∧ ∀ φ', (∀ b, FrF φ L b → φ' b) → (∀ b, (L k).blk b → φ' b) → (L' k).holds w φ')) : l7 φ ψ w0 w L' := by
 have old : ∀ k b, (L' k).blk b → (L k).blk b := fun k b hb => by
  rcases h k with e | ⟨h1, _⟩
  ·rw [e] at hb; exact hb
  ·exact (h1 b hb).elim
 have hfr : ∀ b, FrF φ L b → FrF φ L' b := fun b hb => ⟨hb.1, fun k hk => hb.2 k (old k b hk)⟩
 refine ⟨M.kept, M.fresh, fun k => ?_, fun i j g hij h1 h2 => M.dis i j g hij (old i g h1) (old j g h2), fun i b hb => M.ge i b (old i b hb), fun i b hb => M.ph i b (old i b hb)⟩
 rcases h k with e | ⟨h1, h2⟩
 ·rw [e]; exact Rs.keep (M.holds k) (Agr.mono fun b _ hf => hfr b hf) fun _ _ => rfl
 ·refine h2 _ hfr fun b hb => ⟨M.ph k b hb, fun j hj => ?_⟩
  by_cases e : j = k
  ·subst e; exact h1 b hj
  ·exact M.dis j k b e (old j b hj) hb
mutual
theorem AV.ids_tr (M : List Ln) : ∀ (x : AV), (x.tr M).ids = x.ids
 | .v _ => rfl
 | .ptr _ _ => rfl
 | .ea _ _ _ _ => rfl
 | .ref i => by simp only [AV.tr]; split <;> rfl
 | .agg l => by simp only [AV.tr, AV.ids]; exact AV.idsL_tr M l
 | .tup l => by simp only [AV.tr, AV.ids]; exact AV.idsL_tr M l
 | .fn _ l => by simp only [AV.tr, AV.ids]; exact AV.idsL_tr M l
 | .bm _ l => by simp only [AV.tr, AV.ids]; exact AV.idsL_tr M l
 | .tref _ => rfl
theorem AV.idsL_tr (M : List Ln) : ∀ (l : List AV), AV.idsL (AV.trL M l) = AV.idsL l
 | [] => rfl
 | x :: r => by simp only [AV.trL, AV.idsL]; rw [AV.ids_tr M x, AV.idsL_tr M r]
end
theorem aV6 {M : List Ln} {t : Nat} {x : AV} : ∀ {tm : List (Nat × AV)}, A0 tm t = some x → A0 (tm.map fun p => (p.1, p.2.tr M)) t = some (x.tr M) ∧ ∃ p ∈ tm, p.2 = x
 | [], h => by cases h
 | (k, y) :: r, h => by
  simp only [A0, cj9] at h ⊢
  split at h
  ·cases h; rename_i hk; rw [if_pos hk]; exact ⟨rfl, _, ck3, rfl⟩
  ·rename_i hk; rw [if_neg hk]
   obtain ⟨h1, p, h2, h3⟩ := aV6 h
   exact ⟨h1, p, ck1 _ h2, h3⟩
def b72 (M : List Ln) (m : Nat) (S1 : List It) (tm1 : List (Nat × AV)) : Bool :=
 decide (M.length ≤ S1.length) && (ci1 S1.length).all (fun i => match y9 M i, s7 S1 i with
  | .no, .box cs => AV.trOkL M cs
  | .no, _ => true
  | .row _, .dat _ => true
  | .tree, .dat _ => decide (m ≤ i)
  | _, _ => false) && tm1.all fun p => p.2.trOk M
theorem It.ids_lend (M : List Ln) (l : Ln) (x : It) : x.ids = [] ∨ (A9 M l x).ids = x.ids := by
 cases x with
 | box cs => cases l <;> first | exact .inr rfl | exact .inr (AV.idsL_tr M cs)
 | _ => exact .inl rfl
theorem t7.frz (G : t7 φ ψ w0 F N m ρ0 ρ S tm a w) (M : List Ln) (S1 : List It) (tm1 : List (Nat × AV)) (hb : b72 M m S1 tm1 = true := by kernel_rfl) (hS : S = W8 M S1 := by kernel_rfl) (ht : tm = tm1.map (fun p => (p.1, p.2.tr M)) := by kernel_rfl) :
  ∃ ρ', t7 φ ψ w0 F N m ρ0 ρ' S1 tm1 a w := by
 subst hS
 subst ht
 simp only [b72, cg5, decide_eq_true_eq] at hb
 obtain ⟨⟨hM, hall⟩, htm⟩ := hb
 have hlen : (W8 M S1).length = S1.length := by simp [W8]
 have hno : ∀ i, S1.length ≤ i → y9 M i = .no := fun i hi => by
  unfold y9; rw [cg7, ci9 (by omega)]; rfl
 have hat := fun i (hi : i < S1.length) => ch3.1 hall i (ck9.2 hi)
 let ρ1 : Nat → Value := fun i => if (y9 M i).isT then G4 (ρ i) else ρ i
 have hρ1 : ∀ i, ρ1 i = if (y9 M i).isT then G4 (ρ i) else ρ i := fun _ => rfl
 have hρn : ∀ i, (y9 M i).isT = false → ρ1 i = ρ i := fun i h => by rw [hρ1, h]; rfl
 refine ⟨ρ1, G.size, G.defs, fun t x hx => ?_, fun t x hx i hi => ?_, fun j => ⟨fun i hi => ?_, fun hj => y8 hj⟩, ?_, ?_, fun i hi => ?_⟩
 ·obtain ⟨h1, p, h2, h3⟩ := aV6 (M := M) hx
  rw [G.tmv t _ h1, AV.val_tr hρ1 x (by rw [← h3]; exact ch3.1 htm p h2)]
 ·obtain ⟨h1, _⟩ := aV6 (M := M) hx
  have := G.tmi t _ h1 i (by rw [AV.ids_tr]; exact hi)
  rw [hlen] at this; exact this
 ·have h1 := (G.bd j).1 i
  rw [Z5, hlen] at h1
  rcases It.ids_lend M (y9 M j) (s7 S1 j) with h | h
  ·rw [h] at hi; cases hi
  ·exact h1 (by rw [h]; exact hi)
 ·refine G.mem.release fun k => ?_
  cases k with
  | inl i => exact .inl rfl
  | inr j =>
   simp only [p7]
   rw [Z5]
   rcases ci7 j S1.length with hj | hj
   case inr => rw [hno j hj, y8 hj]; exact .inl rfl
   have h1 := hat j hj
   cases hl : y9 M j with
   | no =>
    have e : ρ1 j = ρ j := hρn j (by rw [hl]; rfl)
    rw [hl] at h1
    left
    cases hx : s7 S1 j with
    | box cs =>
     rw [hx] at h1
     simp only [A9, It.res]
     rw [e, AV.vals_tr hρ1 cs h1]
    | none => rfl
    | dead => rfl
    | dat d => simp only [A9, It.res]; rw [e]
    | row e' d => simp only [A9, It.res]; rw [e]
    | tree d => simp only [A9, It.res]; rw [e]
    | kept e' d => cases e' <;> (simp only [A9, It.res]; rw [e])
   | row e' =>
    have e : ρ1 j = ρ j := hρn j (by rw [hl]; rfl)
    rw [hl] at h1
    cases hx : s7 S1 j <;> rw [hx] at h1 <;> first | cases h1 | skip
    rename_i d
    refine .inr ⟨fun b hb => hb, fun φ' hf hown => ⟨RD.nice _ _, ?_⟩⟩
    have hh := G.mem.holds (.inr j)
    simp only [p7] at hh
    rw [Z5, hl, hx] at hh
    simp only [A9, It.res] at hh
    obtain ⟨_, xs, o1, o2⟩ := hh
    rw [e]
    exact RD.make (C8 o1 fun g hg => hown g hg) (RW.nice _ _ _ _ _ _ (Agr.mono fun b _ hb => hf b hb) o2)
   | tree =>
    have e : ρ1 j = G4 (ρ j) := by rw [hρ1, hl]; rfl
    rw [hl] at h1
    cases hx : s7 S1 j <;> rw [hx] at h1 <;> first | cases h1 | skip
    rename_i d
    refine .inr ⟨fun b hb => hb, fun φ' hf hown => ⟨RD.nice _ _, ?_⟩⟩
    have hh := G.mem.holds (.inr j)
    simp only [p7] at hh
    rw [Z5, hl, hx] at hh
    simp only [A9, It.res] at hh
    rw [e]
    exact F6.read hh.2.1 fun b hb => hown b hb
 ·have := G.le; rw [hlen] at this; exact this
 ·have hm := G.le
  rw [hlen] at hm
  have : (y9 M i).isT = false := by
   cases hl : y9 M i with
   | no => rfl
   | row _ => rfl
   | tree =>
    have h1 := hat i (by omega)
    rw [hl] at h1
    cases hx : s7 S1 i <;> rw [hx] at h1 <;> simp at h1
    omega
  show ρ1 i = ρ0 i
  rw [hρn i this]; exact G.old i hi
end
section
variable {P : Program} {ι κ : Type} {φ ψ : Nat → Prop} {w0 w w' : World} {F : ι → Rs} {ρ ρ0 : Nat → Value}
end
abbrev oP (p : i6) : List It := [.row 3 (.ints p.vars), .row 3 (.ints p.arrays), .tree (.stmts p.body)]
abbrev oA (r : Nat) : AV := .agg [.ref r, .ref (r + 1), .tref (r + 2)]
theorem aj6 (e : c6) : j9.ok Tryz.prog ⟨251, [.agg [.v (.int .i64 e.kind), .v (.int .i64 e.value), .ref 0]], [.dat (.exprs e.kids)], [.dat (.exprs e.kids)], .v (.bool (noneB e))⟩ := by
  refine F9 17 Tryz.func251 [dE e.kids] [(0, eA e 0)] fun G => ?_; refine wp_seq (j7 G f7 [0, 1] [dE e.kids, .box (eL e 0)] [(1, .ptr 1 0), (2, bA false)] fun G => b6 (wp_seq ?_)); cases h0 : (e.kind == 0)
  · have q0 := ne_of_beq_false h0; refine j7 G (H8 (fc h0 (fc (b := false) rfl fz)) (us [(4, 6, 0), (1007, 1007, 0), (9, 12, 1), (1013, 1013, 1)])) [0] [dE e.kids] [(2, bA false)] fun G => b6 (wp_ret ?_); exact J3 false G [0] (by rw [cj8]; simp [noneB, h0, q0]; done)
  ·
   have q0 := eq_of_beq h0; cases h1 : (e.value == 0)
   · have q1 := ne_of_beq_false h1; refine j7 G (H8 (fc h0 (fc h1 fz)) (us [(4, 6, 0), (1007, 1007, 0), (9, 12, 1), (1013, 1013, 1)])) [0] [dE e.kids] [(2, bA false)] fun G => b6 (wp_ret ?_); exact J3 false G [0] (by rw [cj8]; simp [noneB, h0, q0, h1, q1]; done)
   · have q1 := eq_of_beq h1; refine j7 G (H8 (fc h0 (fc h1 fz)) (us [(4, 6, 0), (1007, 1007, 0), (9, 12, 1), (1013, 1013, 1)])) [0] [dE e.kids] [(2, bA ((e.kids.length : Int) == 0))] fun G => b6 (wp_ret ?_); exact J3 ((e.kids.length : Int) == 0) G [0] (by rw [cj8]; simp [noneB, h0, q0, h1, q1]; done)
theorem am1 (k : Int) : j9.ok Tryz.prog ⟨261, [.v (.int .i64 k)], [], [], .v (.int .i64 (t3 k))⟩ := by
  refine F9 23 Tryz.func261 [] [(0, iA k)] fun G => ?_; refine wp_seq (k8 G f7 [(2, iA 0)] fun G => b6 (wp_seq (wp_block (wp_seq ?_)))); cases h0 : (k == 1)
  ·
   have q0 := ne_of_beq_false h0; refine k8 G (H8 (fc h0 fz) [(3, 0), (4, 0), (1005, 0)]) [(3, bA (k == 2))] fun G => b6 (J4 G (fun h1 q1 => ?_) fun h1 q1 => ?_)
   ·
    refine wp_seq (k8 G f7 [(10, bA (k == 3))] fun G => b6 (J4 G (fun h2 q2 => ?_) fun h2 q2 => ?_))
    ·
     refine wp_seq ?_; cases h3 : (decide (k ≥ 4))
     ·
      have q3 := dFf h3; refine k8 G (H8 (fc h3 fz) [(3, 0), (4, 0), (1005, 0)]) [(13, bA false)] fun G => b6 (rF G false (by kernel_rfl) (wp_seq (D7 G f7 [(2, iA 0), (20, bA (k == 11))] fun G => b6 ?_))); cases h4 : (k == 11)
      · have q4 := ne_of_beq_false h4; refine rF G _ h4 (wp_skip (l0 (b6 (wp_seq (k8 G f7 [(2, iA (-1))] fun G => b6 (wp_ret ?_)))))); exact X9 (-1) G [] (by unfold t3; (repeat' split) <;> omega)
      · have q4 := eq_of_beq h4; exact False.elim (by omega)
     ·
      have q3 := dTt h3; refine k8 G (H8 (fc h3 fz) [(3, 0), (4, 0), (1005, 0)]) [(13, bA (decide (k ≤ 10)))] fun G => b6 (rcD G (fun h5 q5 => ?_) fun h5 q5 => ?_)
      ·
       refine wp_seq (k8 G f7 [(20, bA (k == 11))] fun G => b6 (J4 G (fun h6 q6 => ?_) fun h6 q6 => ?_))
       · refine wp_skip (l0 (b6 (wp_seq (k8 G f7 [(2, iA (-1))] fun G => b6 (wp_ret ?_))))); exact X9 (-1) G [] (by unfold t3; (repeat' split) <;> omega)
       · refine wp_seq (k8 G f7 [(2, iA 3)] fun G => b6 (wp_ret (z4 (l5 ?_)))); exact X9 3 G [] (by unfold t3; (repeat' split) <;> omega)
      · refine wp_seq (k8 G f7 [(2, iA 2)] fun G => b6 (wp_ret (z4 (l5 ?_)))); exact X9 2 G [] (by unfold t3; (repeat' split) <;> omega)
    · refine wp_seq (k8 G f7 [(2, iA 1)] fun G => b6 (wp_ret (z4 (l5 ?_)))); exact X9 1 G [] (by unfold t3; (repeat' split) <;> omega)
   · refine wp_seq (k8 G f7 [] fun G => b6 (wp_ret (z4 (l5 ?_)))); exact X9 0 G [] (by unfold t3; (repeat' split) <;> omega)
  · have q0 := eq_of_beq h0; refine k8 G (H8 (fc h0 fz) [(3, 0), (4, 0), (1005, 0)]) [(3, bA true)] fun G => b6 (rT G true (by kernel_rfl) (wp_seq (k8 G f7 [] fun G => b6 (wp_ret (z4 (l5 ?_)))))); exact X9 0 G [] (by unfold t3; (repeat' split) <;> omega)
theorem aK8 (e : c6) : j9.ok Tryz.prog ⟨234, [.agg [.v (.int .i64 e.kind), .v (.int .i64 e.value), .ref 0]], [.dat (.exprs e.kids)], [.dat (.exprs e.kids)], .v (.bool (atomB e))⟩ := by
 refine F9 11 Tryz.func234 [dE e.kids] [(0, eA e 0)] fun G => ?_; refine wp_seq (j7 G f7 [0, 1] [dE e.kids, .box (eL e 0)] [(1, .ptr 1 0), (2, bA false)] fun G => b6 (wp_seq ?_)); cases h0 : (e.kind == 1)
 ·have q0 := ne_of_beq_false h0; refine j7 G (H8 (fc h0 fz) [(4, 0), (5, 0), (6, 0), (1007, 0)]) [0] [dE e.kids] [(2, bA (e.kind == 2))] fun G => b6 (wp_ret ?_); exact J3 (e.kind == 2) G [0] (by rw [cj8]; simp [atomB, h0, q0]; done)
 ·have q0 := eq_of_beq h0; refine j7 G (H8 (fc h0 fz) [(4, 0), (5, 0), (6, 0), (1007, 0)]) [0] [dE e.kids] [(2, bA true)] fun G => b6 (wp_ret ?_); exact J3 true G [0] (by rw [cj8]; simp [atomB, h0, q0]; done)
theorem bs6 (vs ars : List Int) (b : List c5) (k : Int) : j9.ok Tryz.prog ⟨262, [.agg [.ref 0, .ref 1, .ref 2], .v (.int .i64 k)], [.dat (.ints vs), .dat (.ints ars), .dat (.stmts b)], [.dat (.ints vs), .dat (.ints ars), .dat (.stmts b)], .v (.int .i64 (U6 vs.length ars.length k))⟩ := by
  refine F9 18 Tryz.func262 [dI vs, dI ars, dT b] [(0, pA 0), (1, iA k)] fun G => ?_; refine wp_seq (j7 G f7 (rg 4) [dI vs, dI ars, dT b, .box (pL 0)] [(1, iA k), (2, .ptr 3 0), (4, iA 0)] fun G => b6 (wp_seq (wp_seq (k8 G f7 [(5, iA k)] fun G => b6 (wp_block (wp_seq (k8 G f7 [(6, bA (k == 1))] fun G => b6 (J4 G (fun h0 q0 => ?_) fun h0 q0 => ?_))))))))
  ·
   refine wp_seq (k8 G f7 [(8, bA (k == 2))] fun G => b6 (J4 G (fun h1 q1 => ?_) fun h1 q1 => ?_))
   ·
    refine wp_seq (k8 G f7 [(13, bA (k == 3))] fun G => b6 (J4 G (fun h2 q2 => ?_) fun h2 q2 => ?_))
    · refine wp_skip (l0 (b6 (wp_seq (j7 G f7 [0, 1, 2] [dI vs, dI ars, dT b] [(4, iA 1)] fun G => b6 (wp_ret ?_))))); exact X9 1 G [0, 1, 2] (by unfold U6; (repeat' split) <;> omega)
    · refine wp_seq (j7 G f7 [0, 1, 2] [dI vs, dI ars, dT b] [(4, iA (ars.length : Int))] fun G => b6 (wp_ret (z4 (l5 ?_)))); exact X9 ((ars.length : Int)) G [0, 1, 2] (by unfold U6; (repeat' split) <;> omega)
   · refine wp_seq (j7 G f7 [0, 1, 2] [dI vs, dI ars, dT b] [(4, iA (vs.length : Int))] fun G => b6 (wp_ret (z4 (l5 ?_)))); exact X9 ((vs.length : Int)) G [0, 1, 2] (by unfold U6; (repeat' split) <;> omega)
  · refine wp_seq (j7 G f7 [0, 1, 2] [dI vs, dI ars, dT b] [(4, iA 256)] fun G => b6 (wp_ret (z4 (l5 ?_)))); exact X9 256 G [0, 1, 2] (by unfold U6; (repeat' split) <;> omega)
theorem a80 {α : Type} {l : List α} {k : Nat} {p : α → Bool} {z : α} (h : (l.take k).all p = true) (hk : k < l.length) (hp : p (l.getD k z) = true) : (l.take (k + 1)).all p = true := by
 rw [T7 p l k hk, h, ← m5 (d := z) hk, hp]; rfl
theorem aL5 {α : Type} {l : List α} {k : Nat} {p : α → Bool} (h : (l.take k).all p = true) (hk : l.length ≤ k) : l.all p = true := by
 rw [ch9 hk] at h; exact h
section
variable {nv na d : Nat} {e : c6}
theorem bI5 (h : ¬ (e.kids.length : Int) = t3 e.kind) : i5 nv na (d + 1) e = false := by simp [i5, R6, h]
theorem bI4 (h : e.value < 0) : i5 nv na (d + 1) e = false := by
 have : ¬ 0 ≤ e.value := by omega
 simp [i5, R6, this]
theorem bI3 (h : U6 nv na e.kind ≤ e.value) : i5 nv na (d + 1) e = false := by
 have : ¬ e.value < U6 nv na e.kind := by omega
 simp [i5, R6, this]
theorem bI2 {k : Nat} {z : c6} (hk : k < e.kids.length) (h : i5 nv na d (e.kids.getD k z) = false) : i5 nv na (d + 1) e = false := by
 rw [m5 hk] at h
 have : e.kids.all (i5 nv na d) = false := as0 hk h
 simp [i5, this]
theorem ba0 (h1 : (e.kids.length : Int) = t3 e.kind) (h2 : ¬ e.value < 0) (h3 : ¬ U6 nv na e.kind ≤ e.value) : R6 nv na e = true := by
 unfold R6; rw [decide_eq_true h1, decide_eq_true (by omega), decide_eq_true (by omega)]; rfl
theorem bI1 (hn : R6 nv na e = true) (ha : e.kids.all (i5 nv na d) = true) (h : ¬ e.kind = 3) : i5 nv na (d + 1) e = true := by
 rw [i5, hn, ha]; simp [ay4, h]
theorem bI0 (hn : R6 nv na e = true) (ha : e.kids.all (i5 nv na d) = true) (h : e.kind = 3) (hl : 0 < e.kids.length) : i5 nv na (d + 1) e = atomB (e.kids.getD 0 cg3) := by
 rw [i5, hn, ha, bp4 h hl, m5 hl]; simp [atomB]
theorem aR0 (h1 : (e.kids.length : Int) = t3 e.kind) (h : e.kind = 3) : 0 < e.kids.length := by
 rw [h] at h1; simp [t3] at h1; omega
end
theorem bf0 (vs ars : List Int) (b : List c5) (e : c6) (n : Int) (hn : n = 0) : j9.ok Tryz.prog ⟨252, [.agg [.ref 0, .ref 1, .ref 2], .agg [.v (.int .i64 e.kind), .v (.int .i64 e.value), .ref 3], .v (.int .i64 n)], [.dat (.ints vs), .dat (.ints ars), .dat (.stmts b), .dat (.exprs e.kids)], [.dat (.ints vs), .dat (.ints ars), .dat (.stmts b), .dat (.exprs e.kids)], .v (.bool (i5 vs.length ars.length 0 e))⟩ := by
 have h100 : decide (n < 1) = true := by simp; omega
 refine F9 60 Tryz.func252 [dI vs, dI ars, dT b, dE e.kids] [(0, pA 0), (1, eA e 3), (2, iA n)] fun G => ?_; refine wp_seq (j7 G f7 [0, 1, 2, 3, 4, 12] [dI vs, dI ars, dT b, dE e.kids, .box (pL 0), .box (eL e 3)] [(2, iA n), (3, .ptr 4 0), (4, .ptr 5 0), (6, bA false)] fun G => b6 (wp_seq (wp_seq (bp5 G (H8 (fc (a := decide (n < 1)) (b := true) (by assumption) (fc (b := true) rfl fz)) (us [(3, 9, 0), (1010, 1010, 0), (12, 14, 1), (1015, 1015, 1), (17, 23, 1), (1024, 1024, 1)])) [0, 1, 3, 7, 15, 31, 7, 71, 199, 511, 1023, 2047, 4095, 8191, 16383, 32767, 65535, 131071, 262143, 131071, 131071, 1179647, 3801087, 8388607, 16777215] [(32, bA true)] fun G => b6 (rT G true (by kernel_rfl) (wp_seq (k8 G f7 [] fun G => b6 (wp_ret (l5 ?_))))))))); exact M4 G (rg 4)
theorem be9 (vs ars : List Int) (b : List c5) (d : Nat) (hd : d ≤ 5) (ih : ∀ (e : c6) (n : Int), n = d → j9.ok Tryz.prog ⟨252, [.agg [.ref 0, .ref 1, .ref 2], .agg [.v (.int .i64 e.kind), .v (.int .i64 e.value), .ref 3], .v (.int .i64 n)], [.dat (.ints vs), .dat (.ints ars), .dat (.stmts b), .dat (.exprs e.kids)], [.dat (.ints vs), .dat (.ints ars), .dat (.stmts b), .dat (.exprs e.kids)], .v (.bool (i5 vs.length ars.length d e))⟩)
    (e : c6) (n : Int) (hn : n = (d + 1 : Nat)) : j9.ok Tryz.prog ⟨252, [.agg [.ref 0, .ref 1, .ref 2], .agg [.v (.int .i64 e.kind), .v (.int .i64 e.value), .ref 3], .v (.int .i64 n)], [.dat (.ints vs), .dat (.ints ars), .dat (.stmts b), .dat (.exprs e.kids)], [.dat (.ints vs), .dat (.ints ars), .dat (.stmts b), .dat (.exprs e.kids)], .v (.bool (i5 vs.length ars.length (d + 1) e))⟩ := by
  have h100 : decide (n < 1) = false := by simp; omega
  refine F9 60 Tryz.func252 [dI vs, dI ars, dT b, dE e.kids] [(0, pA 0), (1, eA e 3), (2, iA n)] fun G => ?_; refine wp_seq (j7 G f7 [0, 1, 2, 3, 4, 12] [dI vs, dI ars, dT b, dE e.kids, .box (pL 0), .box (eL e 3)] [(2, iA n), (3, .ptr 4 0), (4, .ptr 5 0), (6, bA false)] fun G => b6 (wp_seq (wp_seq ?_))); cases h0 : ((e.kids.length : Int) != t3 e.kind)
  ·
   have q0 := bne_eq_false_iff_eq.1 h0; cases h1 : (decide (e.value < 0))
   ·
    have q1 := dFf h1; refine bp5 G (F5 (t5 8 [] (am1 e.kind) (t5 22 [0, 1, 2] (bs6 vs ars b e.kind) F4)) (fc (a := decide (n < 1)) (b := false) (by assumption) (fc h0 (fc h1 fz))) (us [(3, 9, 0), (1010, 1010, 0), (12, 14, 1), (1015, 1015, 1), (17, 23, 2), (1024, 1024, 2)])) [0, 1, 3, 7, 15, 31, 7, 71, 199, 511, 1023, 2047, 4095, 8191, 16383, 32767, 65535, 131071, 262143, 131071, 131071, 1179647, 3801087, 8388607, 16777215] [(32, bA (decide (e.value ≥ U6 vs.length ars.length e.kind)))] fun G => b6 (rcD G (fun h2 q2 => ?_) fun h2 q2 => ?_)
    ·
     refine wp_skip (b6 (wp_seq (wp_seq (D7 G f7 [(2, iA n), (3, .ptr 4 0), (4, .ptr 5 0), (6, bA false), (7, iA 0)] fun G => b6 (wp_block ?_))))); refine s8 (κ := Nat) (fun k => k ≤ e.kids.length ∧ (e.kids.take k).all (i5 vs.length ars.length d) = true) (fun k => e.kids.length - k) (fun k => [dI vs, dI ars, dT b, dE e.kids, .box (pL 0), .box (eL e 3)]) (fun k => [(2, iA n), (3, .ptr 4 0), (4, .ptr 5 0), (6, bA false), (7, iA k)]) 0 (by simp [h100, h0, h1, h2]) (t7.at G _ _) ?_; clear G; intro k ρ a w hp G; have hlen : e.kids.length ≤ 9223372036854775807 := G.len 3 (d := .exprs e.kids) (by kernel_rfl); have hnode := ba0 (nv := vs.length) (na := ars.length) q0 q1 q2; refine wp_seq (wp_seq (D7 G f7 [(2, iA n), (3, .ptr 4 0), (4, .ptr 5 0), (6, bA false), (7, iA k), (37, bA (decide ((k : Int) < e.kids.length)))] fun G => b6 (rcD G (fun h3 q3 => ?_) fun h3 q3 => ?_)))
     ·
      refine wp_exit (s4 (s4 (r8 (b6 (wp_seq ?_))))); cases h4 : (e.kind != 3)
      · have q4 := bne_eq_false_iff_eq.1 h4; refine N4 G (F5 (t5 8 [62] (aK8 (e.kids.getD 0 cg3)) F4) (fc h4 fz) (us [(4, 8, 0), (1009, 1009, 0)])) (rg 4) [dI vs, dI ars, dT b, dE e.kids] [(6, bA (atomB (e.kids.getD 0 cg3)))] (iX 0 0 e.kids.length []) (iK (by have := aR0 q0 (by omega); omega) ch8) fun G => b6 (wp_ret ?_); exact J3 (atomB (e.kids.getD 0 cg3)) G (rg 4) (bI0 hnode (aL5 hp.2 (by omega)) (by omega) (aR0 q0 (by omega)))
      · have q4 := bne_iff_ne.1 h4; refine j7 G (H8 (fc h4 fz) (us [(4, 8, 0), (1009, 1009, 0)])) (rg 4) [dI vs, dI ars, dT b, dE e.kids] [(6, bA true)] fun G => b6 (wp_ret ?_); exact J3 true G (rg 4) (bI1 hnode (aL5 hp.2 (by omega)) (by omega))
     ·
      refine wp_skip (b6 (wp_seq (wp_block (wp_seq (af7 G (s6 8 [0, 1, 2, 46] (ih (e.kids.getD k cg3) (n - 1) (by omega))) [0, 0, 2, 0, 14, 30, 0, 64, 255, 511] [(49, .v (.bool !i5 vs.length ars.length d (e.kids.getD k cg3)))] (iX k k e.kids.length ((wO (n - 1)) :: [])) (iK (by omega) (o1 (by omega))) fun G => b6 ?_))))); cases h5 : (!i5 vs.length ars.length d (e.kids.getD k cg3))
      · have q5 : (i5 vs.length ars.length d (e.kids.getD k cg3)) = true := (Eq.mp (cj0 _) h5); refine rF G _ h5 (wp_skip (l0 (b6 (E1 G f7 [(7, iA ((k : Int) + 1))] [wO ((k : Int) + 1)] (o1 (by omega)) fun G => b6 ?_)))); exact I6 G (k + 1) (⟨by omega, a80 hp.2 (by omega) (by assumption)⟩) (by omega) (rg 6)
      · have q5 : (i5 vs.length ars.length d (e.kids.getD k cg3)) = false := (Eq.mp (ci3 _) h5); refine rT G _ h5 (wp_seq (k8 G f7 [] fun G => b6 (wp_ret (z4 (l5 (l5 (z4 (l5 ?_)))))))); exact J3 false G (rg 4) (bI2 (k := k) (by omega) (by assumption))
    · refine wp_seq (k8 G f7 [] fun G => b6 (wp_ret (l5 ?_))); exact J3 false G (rg 4) (bI3 (by omega))
   · have q1 := dTt h1; refine bp5 G (F5 (t5 8 [] (am1 e.kind) F4) (fc (a := decide (n < 1)) (b := false) (by assumption) (fc h0 (fc h1 fz))) (us [(3, 9, 0), (1010, 1010, 0), (12, 14, 1), (1015, 1015, 1), (17, 23, 2), (1024, 1024, 2)])) [0, 1, 3, 7, 15, 31, 7, 71, 199, 511, 1023, 2047, 4095, 8191, 16383, 32767, 65535, 131071, 262143, 131071, 131071, 1179647, 3801087, 8388607, 16777215] [(32, bA true)] fun G => b6 (rT G true (by kernel_rfl) (wp_seq (k8 G f7 [] fun G => b6 (wp_ret (l5 ?_))))); exact J3 false G (rg 4) (bI4 (by omega))
  · have q0 := bne_iff_ne.1 h0; refine bp5 G (F5 (t5 8 [] (am1 e.kind) F4) (fc (a := decide (n < 1)) (b := false) (by assumption) (fc h0 (fc (b := true) rfl fz))) (us [(3, 9, 0), (1010, 1010, 0), (12, 14, 1), (1015, 1015, 1), (17, 23, 2), (1024, 1024, 2)])) [0, 1, 3, 7, 15, 31, 7, 71, 199, 511, 1023, 2047, 4095, 8191, 16383, 32767, 65535, 131071, 262143, 131071, 131071, 1179647, 3801087, 8388607, 16777215] [(32, bA true)] fun G => b6 (rT G true (by kernel_rfl) (wp_seq (k8 G f7 [] fun G => b6 (wp_ret (l5 ?_))))); exact J3 false G (rg 4) (bI5 (by omega))
theorem a33 (vs ars : List Int) (b : List c5) : ∀ (d : Nat), d ≤ 5 → ∀ (e : c6) (n : Int), n = d → j9.ok Tryz.prog ⟨252, [.agg [.ref 0, .ref 1, .ref 2], .agg [.v (.int .i64 e.kind), .v (.int .i64 e.value), .ref 3], .v (.int .i64 n)], [.dat (.ints vs), .dat (.ints ars), .dat (.stmts b), .dat (.exprs e.kids)], [.dat (.ints vs), .dat (.ints ars), .dat (.stmts b), .dat (.exprs e.kids)], .v (.bool (i5 vs.length ars.length d e))⟩
 | 0, _, e, n, hn => bf0 vs ars b e n (by omega)
 | d + 1, hd, e, n, hn => be9 vs ars b d (by omega) (a33 vs ars b d (by omega)) e n hn
theorem aK7 (vs ars : List Int) (b : List c5) (ky vy : Int) (ks : List c6) (n : Int) (hn : n = 5) : j9.ok Tryz.prog (T6 252 [pA 0, .agg [iA ky, iA vy, .ref 3], iA n] [dI vs, dI ars, dT b, dE ks] (bA (i5 vs.length ars.length 5 ⟨ky, vy, ks⟩))) := a33 vs ars b 5 (by omega) ⟨ky, vy, ks⟩ n hn
def cnP (d : Nat) (ks : List c6) (k : Nat) : Nat := 1 + ((ks.take k).map (ag3 d)).sum
theorem b86 (d : Nat) (ks : List c6) : cnP d ks 0 = 1 := rfl
theorem a61 {d : Nat} {ks : List c6} {k : Nat} (hk : k < ks.length) : cnP d ks (k + 1) = cnP d ks k + ag3 d (ks.getD k cg3) := by
 unfold cnP
 rw [H0 ks k hk, List.map_append, List.sum_append, m5 hk]
 simp; omega
theorem bN3 {d : Nat} {e : c6} {k : Nat} (hk : e.kids.length ≤ k) : cnP d e.kids k = ag3 (d + 1) e := by
 unfold cnP; rw [ch9 hk, ag3]
section
variable {nv na d : Nat} {e : c6}
theorem bd6 (he : i5 nv na (d + 1) e = true) {k : Nat} (hk : k < e.kids.length) : i5 nv na d (e.kids.getD k cg3) = true := by
 rw [m5 hk]; exact (ap8 he).2 _ (ci6 hk)
theorem b85 (hd : d ≤ 5) (he : i5 nv na d e = true) : ag3 d e ≤ 1024 := by
 rw [a60 nv na d e he]
 refine cj4 (bw3 nv na d e he) ?_
 exact cj4 (Nat.pow_le_pow_right (by decide) hd) (by decide)
theorem bR4 (hd : d ≤ 4) (he : i5 nv na (d + 1) e = true) : ∀ k : Nat, k ≤ e.kids.length → cnP d e.kids k ≤ 1 + 1024 * k
 | 0, _ => by rw [b86]; omega
 | k + 1, hk => by
  have h := bR4 hd he k (by omega)
  have h2 := b85 (by omega) (bd6 he (show k < e.kids.length by omega))
  rw [a61 (by omega)]
  omega
end
abbrev cnC (d : Nat) (e : c6) (n : Int) : j9 := T6 253 [eA e 0, iA n] (eS e) (iA (ag3 d e : Nat))
theorem bo7 (nv na d : Nat) (hd : d ≤ 4) (ih : ∀ (e : c6), i5 nv na d e = true → ∀ n : Int, n = d → j9.ok Tryz.prog (cnC d e n)) (e : c6) (he : i5 nv na (d + 1) e = true) (n : Int) (hn : n = (d + 1 : Nat)) : j9.ok Tryz.prog (cnC (d + 1) e n) := by
  have hk3 := (ap8 he).1; refine F9 29 Tryz.func253 [dE e.kids] [(0, eA e 0), (1, iA n)] fun G => ?_; refine wp_seq (j7 G f7 [0, 1] [dE e.kids, .box (eL e 0)] [(1, iA n), (2, .ptr 1 0), (4, iA 0)] fun G => b6 (wp_seq (k8 G f7 [(5, iA 1)] fun G => b6 (wp_seq (wp_seq (D7 G f7 [(1, iA n), (2, .ptr 1 0), (4, iA 0), (5, iA 1), (6, iA 0)] fun G => b6 (wp_block ?_))))))); refine s8 (κ := Nat) (fun k => k ≤ e.kids.length) (fun k => e.kids.length - k) (fun k => [dE e.kids, .box (eL e 0)]) (fun k => [(1, iA n), (2, .ptr 1 0), (4, iA 0), (5, iA (cnP d e.kids k : Nat)), (6, iA k)]) 0 (by omega) (t7.at G _ _) ?_; clear G; intro k ρ a w hp G; replace G := t7.at G [dE e.kids, .box (eL e 0)] [(1, iA n), (2, .ptr 1 0), (4, iA 0), (5, iA (↑(cnP d e.kids k) : Int)), (6, iA k)]; have hcb := bR4 hd he k hp; refine wp_seq (wp_seq ?_); cases h0 : (decide ((k : Int) < e.kids.length))
  · have q0 := dFf h0; refine k8 G (H8 (fc h0 fz) [(6, 0), (7, 0), (1008, 0)]) [(15, bA false)] fun G => b6 (rF G false (by kernel_rfl) (wp_exit (s4 (s4 (r8 (b6 (wp_seq (j7 G f7 [0] [dE e.kids] [(4, iA (↑(cnP d e.kids k) : Int))] fun G => b6 (wp_ret ?_))))))))); exact X9 ((↑(cnP d e.kids k) : Int)) G [0] (by rw [← bN3 (k := k) (by omega)]; done)
  ·
   have q0 := dTt h0; refine D7 G (H8 (fc h0 fz) [(6, 0), (7, 0), (1008, 0)]) [(1, iA n), (2, .ptr 1 0), (4, iA 0), (5, iA (↑(cnP d e.kids k) : Int)), (6, iA k), (15, bA (decide (n > 0)))] fun G => b6 ?_; cases h1 : (decide (n > 0))
   · have q1 := dFf h1; exact False.elim (by omega)
   · have q1 := dTt h1; refine rT G _ h1 (wp_skip (b6 (wp_seq (wp_block (E1 G (s6 8 [42] (ih (e.kids.getD k cg3) (bd6 he (by omega)) (n - 1) (by omega))) [(5, iA ((↑(cnP d e.kids k) : Int) + (↑(ag3 d (e.kids.getD k cg3)) : Int)))] (iX k k e.kids.length ((wO (n - 1)) :: ((wO ((↑(cnP d e.kids k) : Int) + (↑(ag3 d (e.kids.getD k cg3)) : Int))) :: []))) (iK (by omega) ⟨oW (by omega), ⟨(by have h9 := b85 (nv := nv) (na := na) (d := d) (by omega) (bd6 he (show k < e.kids.length by omega)); exact w64 (by omega) (by omega)), ch8⟩⟩) fun G => l0 (b6 (E1 G f7 [(6, iA ((k : Int) + 1))] [wO ((k : Int) + 1)] (o1 (by omega)) fun G => b6 ?_))))))); exact I6 G (k + 1) (by omega) (by omega) [0, 1] (ht := by have e1 : ((↑(cnP d e.kids (k + 1)) : Int) : Int) = ((↑(cnP d e.kids k) : Int) + (↑(ag3 d (e.kids.getD k cg3)) : Int)) := (by rw [a61 (by omega)]; omega); (first | rw [e1] | simp only [e1]) <;> rfl)
theorem a34 (nv na : Nat) : ∀ (d : Nat), d ≤ 5 → ∀ (e : c6), i5 nv na d e = true → ∀ n : Int, n = d → j9.ok Tryz.prog (cnC d e n)
 | 0, _, e, h, _, _ => by simp [i5] at h
 | d + 1, hd, e, h, n, hn => bo7 nv na d (by omega) (a34 nv na d (by omega)) e h n hn
theorem bf2 (nv na : Nat) (ky vy : Int) (ks : List c6) (n : Int) (hn : n = 5) (h : i5 nv na 5 ⟨ky, vy, ks⟩ = true) : j9.ok Tryz.prog (T6 253 [.agg [iA ky, iA vy, .ref 0], iA n] [dE ks] (iA (ag3 5 ⟨ky, vy, ks⟩ : Nat))) := a34 nv na 5 (by omega) ⟨ky, vy, ks⟩ h n hn
theorem cb7 {nv na : Nat} {e : c6} (h : i5 nv na 5 ⟨e.kind, e.value, e.kids⟩ = false) : r9 nv na e = false := by
 rw [c6.eta] at h
 unfold r9; rw [h]; rfl
theorem cb6 {nv na : Nat} {e : c6} (h : i5 nv na 5 ⟨e.kind, e.value, e.kids⟩ = true) : r9 nv na e = decide ((ag3 5 ⟨e.kind, e.value, e.kids⟩ : Int) ≤ 15) := by
 rw [c6.eta] at h ⊢
 rw [ba6, h, Bool.true_and, cj8]
 simp only [decide_eq_true_eq]; omega
section
variable {s : c5}
theorem cc5 (h : s.kind = 4) (h2 : ¬ (s.els.length : Int) = 0) : n9 s = false := by
 unfold n9; rw [if_pos (.inr h), if_pos h, decide_eq_false (p := s.els.length = 0) (by omega)]; simp
theorem cc8 (h : s.kind = 4) (h1 : s.target = 0) (h2 : (s.els.length : Int) = 0) (h3 : s.count ≥ 1) (h4 : s.count ≤ 3) (h5 : noneB s.index = true) : n9 s = noneB s.value := by
 unfold n9; rw [if_pos (.inr h), if_pos h, decide_eq_true (p := s.els.length = 0) (by omega), decide_eq_true h1, decide_eq_true (p := 1 ≤ s.count) h3, decide_eq_true h4, h5]; simp
theorem cc7 (h3 : ¬ s.kind = 3) (h4 : ¬ s.kind = 4) (b : ¬ (s.body.length : Int) > 0) (e : ¬ (s.els.length : Int) > 0) (c : s.count = 0) (h2 : ¬ s.kind = 2) : n9 s = noneB s.index := by
 unfold n9; rw [if_neg (by omega), decide_eq_true (p := s.body.length = 0) (by omega), decide_eq_true (p := s.els.length = 0) (by omega), decide_eq_true c, decide_eq_false h2]; simp
theorem cc6 (b : ¬ (s.body.length : Int) > 0) (e : ¬ (s.els.length : Int) > 0) (c : s.count = 0) (h2 : s.kind = 2) : n9 s = true := by
 unfold n9; rw [if_neg (by omega), decide_eq_true (p := s.body.length = 0) (by omega), decide_eq_true (p := s.els.length = 0) (by omega), decide_eq_true c, decide_eq_true h2]; simp
theorem cc4 (h3 : ¬ s.kind = 3) (h4 : ¬ s.kind = 4) (e : (s.els.length : Int) > 0) : n9 s = false := by
 unfold n9; rw [if_neg (by omega), decide_eq_false (p := s.els.length = 0) (by omega)]; simp
theorem cc3 (h3 : ¬ s.kind = 3) (h4 : ¬ s.kind = 4) (e : (s.body.length : Int) > 0) : n9 s = false := by
 unfold n9; rw [if_neg (by omega), decide_eq_false (p := s.body.length = 0) (by omega)]; simp
end
theorem J0 (p : i6) (e : c6) : j9.ok Tryz.prog (T6 233 [pA 0, eA e 3] (pS p ++ eS e) (bA (r9 p.vars.length p.arrays.length e))) := by
 have hcn := fun h => bf2 p.vars.length p.arrays.length e.kind e.value e.kids 5 rfl h
 refine F9 13 Tryz.func233 [dI p.vars, dI p.arrays, dT p.body, dE e.kids] [(0, pA 0), (1, eA e 3)] fun G => ?_; refine wp_seq (j7 G f7 [0, 1, 2, 3, 4, 12] [dI p.vars, dI p.arrays, dT p.body, dE e.kids, .box (pL 0), .box (eL e 3)] [(2, .ptr 4 0), (3, .ptr 5 0), (4, bA false)] fun G => b6 (wp_seq ?_)); cases h0 : (i5 p.vars.length p.arrays.length (5 : Nat) (w6 e))
 ·refine j7 G (F5 (t5 2 (rg 4) (aK7 p.vars p.arrays p.body e.kind e.value e.kids 5 (by kernel_rfl)) F4) (fc h0 fz) [(4, 0), (5, 0), (6, 0), (1007, 0)]) (rg 4) [dI p.vars, dI p.arrays, dT p.body, dE e.kids] [(4, bA false)] fun G => b6 (wp_ret ?_); exact J3 false G (rg 4) (cb7 (by with_reducible assumption))
 ·refine j7 G (F5 (t5 2 (rg 4) (aK7 p.vars p.arrays p.body e.kind e.value e.kids 5 (by kernel_rfl)) (t5 5 [3] (hcn (by assumption)) F4)) (fc h0 fz) [(4, 0), (5, 0), (6, 0), (1007, 0)]) (rg 4) [dI p.vars, dI p.arrays, dT p.body, dE e.kids] [(4, bA (decide ((↑(ag3 5 (w6 e)) : Int) ≤ 15)))] fun G => b6 (wp_ret ?_); exact J3 (decide ((↑(ag3 5 (w6 e)) : Int) ≤ 15)) G (rg 4) (cb6 (by with_reducible assumption))
abbrev aC6 (s : c5) (r0 : List It) : List It := dE s.index.kids :: dE s.value.kids :: dT s.body :: dT s.els :: r0
theorem bs5 (s : c5) : j9.ok Tryz.prog (T6 232 [sA s 0] (sS s) (bA (n9 s))) := by
  refine F9 74 Tryz.func232 (aC6 s []) [(0, sA s 0)] fun G => ?_; refine wp_seq (j7 G f7 (rg 5) (aC6 s [.box (sL s 0)]) [(1, .ptr 4 0), (2, bA false)] fun G => b6 (wp_seq ?_)); cases h0 : (s.kind == 3)
  ·
   have q0 := ne_of_beq_false h0; refine D7 G (H8 (fc h0 fz) [(4, 0), (5, 0), (6, 0), (1007, 0)]) [(1, .ptr 4 0), (2, bA false), (3, bA (s.kind == 4))] fun G => b6 (wp_seq (wp_seq ?_)); cases h1 : (!s.kind == 4)
   ·
    have q1 : s.kind = 4 := (fun hq => eq_of_beq hq) (Eq.mp (cj0 _) h1); cases h2 : (s.kind == 4)
    · have q2 := ne_of_beq_false h2; exact False.elim (by omega)
    ·
     have q2 := eq_of_beq h2; refine k8 G (H8 (fc h1 (fc (b := false) rfl (fc h2 fz))) (us [(3, 7, 0), (12, 12, 0), (1013, 1013, 0), (15, 16, 1), (17, 19, 2), (20, 20, 1), (1020, 1020, 2), (1021, 1021, 1)])) [(33, bA (s.target != 0))] fun G => b6 (rcN G (fun h3 q3 => ?_) fun h3 q3 => ?_)
     ·
      refine wp_skip (b6 (wp_seq (wp_seq (k8 G f7 [(36, bA (s.kind == 4))] fun G => b6 (rT G _ h2 (wp_seq ?_)))))); cases h4 : ((s.els.length : Int) == 0)
      · have q4 := ne_of_beq_false h4; refine k8 G (H8 (fc h4 (fc (b := false) rfl fz)) (us [(5, 7, 0), (1008, 1008, 0), (10, 12, 1), (1013, 1013, 1), (15, 17, 1), (1018, 1018, 1), (20, 22, 1), (1023, 1023, 1)])) [] fun G => b6 (wp_ret (l5 ?_)); exact J3 false G (rg 4) (cc5 (by omega) (by omega))
      ·
       have q4 := eq_of_beq h4; cases h5 : (decide (s.count ≥ 1))
       · have q5 := dFf h5; refine k8 G (H8 (fc h4 (fc h5 (fc (b := false) rfl fz))) (us [(5, 7, 0), (1008, 1008, 0), (10, 12, 1), (1013, 1013, 1), (15, 17, 2), (1018, 1018, 2), (20, 22, 2), (1023, 1023, 2)])) [] fun G => b6 (wp_ret (l5 ?_)); exact J3 false G (rg 4) (by rw [cj8]; simp [n9, h0, q0, h1, q1, h2, q2, h3, q3, h4, q4, h5, q5]; done)
       ·
        have q5 := dTt h5; cases h6 : (decide (s.count ≤ 3))
        · have q6 := dFf h6; refine k8 G (H8 (fc h4 (fc h5 (fc h6 (fc (b := false) rfl fz)))) (us [(5, 7, 0), (1008, 1008, 0), (10, 12, 1), (1013, 1013, 1), (15, 17, 2), (1018, 1018, 2), (20, 22, 3), (1023, 1023, 3)])) [] fun G => b6 (wp_ret (l5 ?_)); exact J3 false G (rg 4) (by rw [cj8]; simp [n9, h0, q0, h1, q1, h2, q2, h3, q3, h4, q4, h5, q5, h6, q6]; done)
        ·
         have q6 := dTt h6; cases h7 : (noneB s.index)
         · refine k8 G (F5 (t5 17 [0] (aj6 s.index) F4) (fc h4 (fc h5 (fc h6 (fc h7 fz)))) (us [(5, 7, 0), (1008, 1008, 0), (10, 12, 1), (1013, 1013, 1), (15, 17, 2), (1018, 1018, 2), (20, 22, 3), (1023, 1023, 3)])) [] fun G => b6 (wp_ret (l5 ?_)); exact J3 false G (rg 4) (by rw [cj8]; simp [n9, h0, q0, h1, q1, h2, q2, h3, q3, h4, q4, h5, q5, h6, q6, h7]; done)
         · refine k8 G (F5 (t5 17 [0] (aj6 s.index) (t5 22 [1] (aj6 s.value) F4)) (fc h4 (fc h5 (fc h6 (fc h7 fz)))) (us [(5, 7, 0), (1008, 1008, 0), (10, 12, 1), (1013, 1013, 1), (15, 17, 2), (1018, 1018, 2), (20, 22, 3), (1023, 1023, 3)])) [(2, bA (noneB s.value))] fun G => b6 (wp_ret (l5 ?_)); exact J3 (noneB s.value) G (rg 4) (cc8 (by omega) (by omega) (by omega) (by omega) (by omega) (by with_reducible assumption))
     · refine wp_seq (k8 G f7 [] fun G => b6 (wp_ret (l5 ?_))); exact J3 false G (rg 4) (by rw [cj8]; simp [n9, h0, q0, h1, q1, h2, q2, h3, q3]; done)
   ·
    have q1 : ¬ (s.kind = 4) := (fun hq => ne_of_beq_false hq) (Eq.mp (ci3 _) h1); cases h8 : (decide ((s.body.length : Int) > 0))
    ·
     have q8 := dFf h8; cases h9 : (decide ((s.els.length : Int) > 0))
     ·
      have q9 := dFf h9; cases h10 : (s.kind == 4)
      ·
       have q10 := ne_of_beq_false h10; refine k8 G (H8 (fc h1 (fc h8 (fc h9 (fc h10 fz)))) (us [(3, 7, 0), (8, 11, 1), (12, 12, 0), (1012, 1012, 1), (1013, 1013, 0), (15, 16, 2), (17, 19, 3), (20, 20, 2), (1020, 1020, 3), (1021, 1021, 2)])) [(33, bA false)] fun G => b6 (rF G false (by kernel_rfl) (wp_skip (b6 (wp_seq (wp_seq (k8 G f7 [(36, bA (s.kind == 4))] fun G => b6 (rF G _ h10 (wp_skip (b6 (wp_seq ?_)))))))))); cases h11 : (s.count == 0)
       · have q11 := ne_of_beq_false h11; refine j7 G (H8 (fc h11 fz) (us [(4, 7, 0), (11, 11, 0), (1012, 1012, 0)])) (rg 4) (aC6 s []) [(2, bA false)] fun G => b6 (wp_ret ?_); exact J3 false G (rg 4) (by rw [cj8]; simp [n9, h0, q0, h1, q1, h8, q8, h9, q9, h10, q10, h11, q11]; done)
       ·
        have q11 := eq_of_beq h11; cases h12 : (s.kind == 2)
        · have q12 := ne_of_beq_false h12; refine j7 G (F5 (t5 10 [0] (aj6 s.index) F4) (fc h11 (fc h12 fz)) (us [(4, 7, 0), (8, 10, 1), (11, 11, 0), (1011, 1011, 1), (1012, 1012, 0)])) (rg 4) (aC6 s []) [(2, bA (noneB s.index))] fun G => b6 (wp_ret ?_); exact J3 (noneB s.index) G (rg 4) (cc7 (by omega) (by omega) (by omega) (by omega) (by omega) (by omega))
        · have q12 := eq_of_beq h12; refine j7 G (H8 (fc h11 (fc h12 fz)) (us [(4, 7, 0), (8, 10, 1), (11, 11, 0), (1011, 1011, 1), (1012, 1012, 0)])) (rg 4) (aC6 s []) [(2, bA true)] fun G => b6 (wp_ret ?_); exact J3 true G (rg 4) (cc6 (by omega) (by omega) (by omega) (by omega))
      · have q10 := eq_of_beq h10; exact False.elim (by omega)
     · have q9 := dTt h9; refine k8 G (H8 (fc h1 (fc h8 (fc h9 fz))) (us [(3, 7, 0), (8, 11, 1), (12, 12, 0), (1012, 1012, 1), (1013, 1013, 0), (15, 16, 2), (20, 20, 2), (1021, 1021, 2)])) [(33, bA true)] fun G => b6 (rT G true (by kernel_rfl) (wp_seq (k8 G f7 [] fun G => b6 (wp_ret (l5 ?_))))); exact J3 false G (rg 4) (cc4 (by omega) (by omega) (by omega))
    · have q8 := dTt h8; refine k8 G (H8 (fc h1 (fc h8 (fc (b := true) rfl fz))) (us [(3, 7, 0), (8, 11, 1), (12, 12, 0), (1012, 1012, 1), (1013, 1013, 0), (15, 16, 2), (20, 20, 2), (1021, 1021, 2)])) [(33, bA true)] fun G => b6 (rT G true (by kernel_rfl) (wp_seq (k8 G f7 [] fun G => b6 (wp_ret (l5 ?_))))); exact J3 false G (rg 4) (cc3 (by omega) (by omega) (by omega))
  ·
   have q0 := eq_of_beq h0; refine k8 G (H8 (fc h0 fz) [(4, 0), (5, 0), (6, 0), (1007, 0)]) [(3, bA true)] fun G => b6 (wp_seq (wp_seq (k8 G (H8 (fc (b := false) rfl (fc (b := true) rfl fz)) (us [(3, 7, 0), (12, 12, 0), (1013, 1013, 0), (15, 16, 0), (17, 19, 1), (20, 20, 0), (1020, 1020, 1), (1021, 1021, 0)])) [(33, bA (s.target != 0))] fun G => b6 (rcN G (fun h13 q13 => ?_) fun h13 q13 => ?_))))
   ·
    refine wp_skip (b6 (wp_seq (wp_seq (D7 G f7 [(1, .ptr 4 0), (2, bA false), (36, bA (s.kind == 4))] fun G => b6 ?_)))); cases h14 : (s.kind == 4)
    ·
     have q14 := ne_of_beq_false h14; refine rF G _ h14 (wp_skip (b6 (wp_seq ?_))); cases h15 : (s.count == 0)
     · have q15 := ne_of_beq_false h15; refine j7 G (H8 (fc h15 fz) (us [(4, 7, 0), (11, 11, 0), (1012, 1012, 0)])) (rg 4) (aC6 s []) [(2, bA false)] fun G => b6 (wp_ret ?_); exact J3 false G (rg 4) (by rw [cj8]; simp [n9, h0, q0, h13, q13, h14, q14, h15, q15]; done)
     ·
      have q15 := eq_of_beq h15; cases h16 : (s.kind == 2)
      · have q16 := ne_of_beq_false h16; refine j7 G (F5 (t5 10 [0] (aj6 s.index) F4) (fc h15 (fc h16 fz)) (us [(4, 7, 0), (8, 10, 1), (11, 11, 0), (1011, 1011, 1), (1012, 1012, 0)])) (rg 4) (aC6 s []) [(2, bA (noneB s.index))] fun G => b6 (wp_ret ?_); exact J3 (noneB s.index) G (rg 4) (by rw [cj8]; simp [n9, h0, q0, h13, q13, h14, q14, h15, q15, h16, q16]; done)
      · have q16 := eq_of_beq h16; exact False.elim (by omega)
    · have q14 := eq_of_beq h14; exact False.elim (by omega)
   · refine wp_seq (k8 G f7 [] fun G => b6 (wp_ret (l5 ?_))); exact J3 false G (rg 4) (by rw [cj8]; simp [n9, h0, q0, h13, q13]; done)
abbrev vbC (p : i6) (d : Nat) (ss : List c5) (n : Int) : j9 := T6 130 [pA 0, .ref 3, iA n] (pS p ++ [dT ss]) (bA (ss.all (j6 p.vars.length p.arrays.length d)))
abbrev vsC (p : i6) (d : Nat) (s : c5) (n : Int) : j9 := T6 193 [pA 0, sA s 3, iA n] (pS p ++ sS s) (bA (j6 p.vars.length p.arrays.length d s))
theorem bo6 (p : i6) (s : c5) (n : Int) (hn : n = 0) : j9.ok Tryz.prog (vsC p 0 s n) := by
 refine F9 96 Tryz.func193 [dI p.vars, dI p.arrays, dT p.body, dE s.index.kids, dE s.value.kids, dT s.body, dT s.els] [(0, pA 0), (1, sA s 3), (2, iA n)] fun G => ?_; refine wp_seq (j7 G f7 [0, 1, 2, 3, 4, 5, 6, 7, 15] [dI p.vars, dI p.arrays, dT p.body, dE s.index.kids, dE s.value.kids, dT s.body, dT s.els, .box (pL 0), .box (sL s 3)] [(2, iA n), (3, .ptr 7 0), (4, .ptr 8 0), (6, bA false)] fun G => b6 (wp_seq (wp_seq ?_))); cases h0 : (decide (n < 1))
 ·have q0 := dFf h0; exact False.elim (by omega)
 ·have q0 := dTt h0; refine k8 G (H8 (fc h0 fz) [(3, 0), (4, 0), (5, 0), (1006, 0)]) [(13, bA true)] fun G => b6 (rT G true (by kernel_rfl) (wp_seq (k8 G f7 [] fun G => b6 (wp_ret (l5 ?_))))); exact M4 G (rg 7)
section
variable {nv na d : Nat} {s : c5}
theorem cb2 (h : n9 s = false) : j6 nv na (d + 1) s = false := by rw [j6, h]; rfl
theorem bS8 (hp : n9 s = true) (h : s.kind = 1 ∨ s.kind = 5) : j6 nv na (d + 1) s = (decide (0 ≤ s.target) && decide (s.target < nv) && r9 nv na s.value) := by rw [j6, hp, if_pos h]; rfl
theorem bw0 (hp : n9 s = true) (h : s.kind = 2) : j6 nv na (d + 1) s = (decide (0 ≤ s.target) && decide (s.target < na) && r9 nv na s.index && atomB s.index && r9 nv na s.value) := by rw [j6, hp, if_neg (by omega), if_pos h]; rfl
theorem bS7 (hp : n9 s = true) (h : s.kind = 3) : j6 nv na (d + 1) s = (r9 nv na s.value && s.body.all (j6 nv na d) && s.els.all (j6 nv na d)) := by rw [j6, hp, if_neg (by omega), if_neg (by omega), if_pos h]; rfl
theorem cb3 (hp : n9 s = true) (h : s.kind = 4) : j6 nv na (d + 1) s = s.body.all (j6 nv na d) := by rw [j6, hp, if_neg (by omega), if_neg (by omega), if_neg (by omega), if_pos h]; rfl
theorem bP9 (hp : n9 s = true) (h : s.kind = 1 ∨ s.kind = 5) (q : ¬ s.target ≥ 0) : j6 nv na (d + 1) s = false := by rw [bS8 hp h, decide_eq_false (p := 0 ≤ s.target) q]; rfl
theorem bP8 (hp : n9 s = true) (h : s.kind = 1 ∨ s.kind = 5) (q : ¬ s.target < (nv : Int)) : j6 nv na (d + 1) s = false := by rw [bS8 hp h, decide_eq_false q, Bool.and_false]; rfl
theorem bP7 (hp : n9 s = true) (h : s.kind = 1 ∨ s.kind = 5) (q : s.target ≥ 0) (r : s.target < (nv : Int)) : j6 nv na (d + 1) s = r9 nv na s.value := by rw [bS8 hp h, decide_eq_true (p := 0 ≤ s.target) q, decide_eq_true r]; rfl
theorem b28 (hp : n9 s = true) (h : s.kind = 2) (q : ¬ s.target ≥ 0) : j6 nv na (d + 1) s = false := by rw [bw0 hp h, decide_eq_false (p := 0 ≤ s.target) q]; rfl
theorem b27 (hp : n9 s = true) (h : s.kind = 2) (q : ¬ s.target < (na : Int)) : j6 nv na (d + 1) s = false := by rw [bw0 hp h, decide_eq_false q, Bool.and_false]; rfl
theorem b26 (hp : n9 s = true) (h : s.kind = 2) (q : r9 nv na s.index = false) : j6 nv na (d + 1) s = false := by rw [bw0 hp h, q, Bool.and_false]; rfl
theorem b25 (hp : n9 s = true) (h : s.kind = 2) (q : atomB s.index = false) : j6 nv na (d + 1) s = false := by rw [bw0 hp h, q, Bool.and_false]; rfl
theorem b24 (hp : n9 s = true) (h : s.kind = 2) (q : s.target ≥ 0) (r : s.target < (na : Int)) (u : r9 nv na s.index = true) (v : atomB s.index = true) : j6 nv na (d + 1) s = r9 nv na s.value := by rw [bw0 hp h, decide_eq_true (p := 0 ≤ s.target) q, decide_eq_true r, u, v]; rfl
theorem b23 (hp : n9 s = true) (h : s.kind = 3) (q : r9 nv na s.value = false) : j6 nv na (d + 1) s = false := by rw [bS7 hp h, q]; rfl
theorem b22 (hp : n9 s = true) (h : s.kind = 3) (q : s.body.all (j6 nv na d) = false) : j6 nv na (d + 1) s = false := by rw [bS7 hp h, q, Bool.and_false]; rfl
theorem b21 (hp : n9 s = true) (h : s.kind = 3) (q : r9 nv na s.value = true) (r : s.body.all (j6 nv na d) = true) : j6 nv na (d + 1) s = s.els.all (j6 nv na d) := by rw [bS7 hp h, q, r]; rfl
theorem cb4 (h1 : ¬ s.kind = 1) (h2 : ¬ s.kind = 2) (h3 : ¬ s.kind = 3) (h4 : ¬ s.kind = 4) (h5 : ¬ s.kind = 5) : j6 nv na (d + 1) s = false := by rw [j6, if_neg (by omega), if_neg h2, if_neg h3, if_neg h4]; simp
end
abbrev R3 (p : i6) (s : c5) (r0 : List It) : List It := dI p.vars :: dI p.arrays :: dT p.body :: dE s.index.kids :: dE s.value.kids :: dT s.body :: dT s.els :: r0
theorem bw8 (p : i6) (d : Nat) (hB : ∀ (ss : List c5) (n : Int), n = d → j9.ok Tryz.prog (vbC p d ss n)) (s : c5) (n : Int) (hn : n = (d + 1 : Nat)) (hd : d ≤ 5) : j9.ok Tryz.prog (vsC p (d + 1) s n) := by
  refine F9 96 Tryz.func193 (R3 p s []) [(0, pA 0), (1, sA s 3), (2, iA n)] fun G => ?_; refine wp_seq (j7 G f7 [0, 1, 2, 3, 4, 5, 6, 7, 15] (R3 p s [.box (pL 0), .box (sL s 3)]) [(2, iA n), (3, .ptr 7 0), (4, .ptr 8 0), (6, bA false)] fun G => b6 (wp_seq (wp_seq ?_))); cases h0 : (decide (n < 1))
  ·
   have q0 := dFf h0; refine k8 G (F5 (t5 4 [3, 4, 5, 6] (bs5 s) F4) (fc h0 fz) [(3, 0), (4, 0), (5, 0), (1006, 0)]) [(13, .v (.bool !n9 s))] fun G => b6 ?_; cases h1 : (!n9 s)
   ·
    have q1 : (n9 s) = true := (Eq.mp (cj0 _) h1); refine rF G _ h1 (wp_skip (b6 (wp_seq (wp_seq (k8 G f7 [(15, iA s.kind)] fun G => b6 (wp_block (wp_seq (wp_seq (k8 G f7 [(16, bA (s.kind == 1))] fun G => b6 (J4 G (fun h2 q2 => ?_) fun h2 q2 => ?_))))))))))
    ·
     refine k8 G f7 [(16, bA (s.kind == 5))] fun G => b6 (J4 G (fun h3 q3 => ?_) fun h3 q3 => ?_)
     ·
      refine wp_seq (k8 G f7 [(36, bA (s.kind == 2))] fun G => b6 (J4 G (fun h4 q4 => ?_) fun h4 q4 => ?_))
      ·
       refine wp_seq (k8 G f7 [(66, bA (s.kind == 3))] fun G => b6 (J4 G (fun h5 q5 => ?_) fun h5 q5 => ?_))
       ·
        refine wp_seq (k8 G f7 [(88, bA (s.kind == 4))] fun G => b6 (J4 G (fun h6 q6 => ?_) fun h6 q6 => ?_))
        · refine wp_skip (l0 (b6 (wp_seq (j7 G f7 (rg 7) (R3 p s []) [(6, bA false)] fun G => b6 (wp_ret ?_))))); exact J3 false G (rg 7) (cb4 (by omega) (by omega) (by omega) (by omega) (by omega))
        · refine wp_seq (N4 G (s6 5 [0, 1, 2, 5] (hB s.body (n - 1) (by omega))) (rg 7) (R3 p s []) [(6, bA (s.body.all (j6 p.vars.length p.arrays.length d)))] [wO (n - 1)] (o1 (by omega)) fun G => b6 (wp_ret (z4 (l5 ?_)))); exact J3 (s.body.all (j6 p.vars.length p.arrays.length d)) G (rg 7) (cb3 (by with_reducible assumption) (by omega))
       ·
        refine wp_seq ?_; cases h7 : (r9 p.vars.length p.arrays.length s.value)
        · refine j7 G (F5 (t5 3 [0, 1, 2, 4] (J0 p s.value) F4) (fc h7 (fc (b := false) rfl fz)) (us [(5, 10, 0), (1011, 1011, 0), (13, 18, 1), (1019, 1019, 1)])) (rg 7) (R3 p s []) [(6, bA false)] fun G => b6 (wp_ret (z4 (l5 ?_))); exact J3 false G (rg 7) (b23 (by with_reducible assumption) (by omega) (by with_reducible assumption))
        ·
         cases h8 : (s.body.all (j6 p.vars.length p.arrays.length d))
         · refine N4 G (F5 (t5 3 [0, 1, 2, 4] (J0 p s.value) (t5 10 [0, 1, 2, 5] (hB s.body (n - 1) (by omega)) F4)) (fc h7 (fc h8 fz)) (us [(5, 10, 0), (1011, 1011, 0), (13, 18, 1), (1019, 1019, 1)])) (rg 7) (R3 p s []) [(6, bA false)] [wO (n - 1)] (o1 (by omega)) fun G => b6 (wp_ret (z4 (l5 ?_))); exact J3 false G (rg 7) (b22 (by with_reducible assumption) (by omega) (by with_reducible assumption))
         · refine N4 G (F5 (t5 3 [0, 1, 2, 4] (J0 p s.value) (t5 10 [0, 1, 2, 5] (hB s.body (n - 1) (by omega)) (t5 18 [0, 1, 2, 6] (hB s.els (n - 1) (by omega)) F4))) (fc h7 (fc h8 fz)) (us [(5, 10, 0), (1011, 1011, 0), (13, 18, 1), (1019, 1019, 1)])) (rg 7) (R3 p s []) [(6, bA (s.els.all (j6 p.vars.length p.arrays.length d)))] [wO (n - 1), wO (n - 1)] (o2 (by omega)) fun G => b6 (wp_ret (z4 (l5 ?_))); exact J3 (s.els.all (j6 p.vars.length p.arrays.length d)) G (rg 7) (b21 (by with_reducible assumption) (by omega) (by with_reducible assumption) (by with_reducible assumption))
      ·
       refine wp_seq ?_; cases h9 : (decide (s.target ≥ 0))
       · have q9 := dFf h9; refine j7 G (H8 (fc h9 (fc (b := false) rfl fz)) (us [(4, 9, 0), (1010, 1010, 0), (12, 15, 1), (1016, 1016, 1), (18, 20, 1), (1021, 1021, 1), (23, 26, 1), (1027, 1027, 1)])) (rg 7) (R3 p s []) [(6, bA false)] fun G => b6 (wp_ret (z4 (l5 ?_))); exact J3 false G (rg 7) (b28 (by with_reducible assumption) (by omega) (by omega))
       ·
        have q9 := dTt h9; cases h10 : (decide (s.target < (p.arrays.length : Int)))
        · have q10 := dFf h10; refine j7 G (H8 (fc h9 (fc h10 (fc (b := false) rfl fz))) (us [(4, 9, 0), (1010, 1010, 0), (12, 15, 1), (1016, 1016, 1), (18, 20, 2), (1021, 1021, 2), (23, 26, 2), (1027, 1027, 2)])) (rg 7) (R3 p s []) [(6, bA false)] fun G => b6 (wp_ret (z4 (l5 ?_))); exact J3 false G (rg 7) (b27 (by with_reducible assumption) (by omega) (by omega))
        ·
         have q10 := dTt h10; cases h11 : (r9 p.vars.length p.arrays.length s.index)
         · refine j7 G (F5 (t5 15 (rg 4) (J0 p s.index) F4) (fc h9 (fc h10 (fc h11 (fc (b := false) rfl fz)))) (us [(4, 9, 0), (1010, 1010, 0), (12, 15, 1), (1016, 1016, 1), (18, 20, 2), (1021, 1021, 2), (23, 26, 3), (1027, 1027, 3)])) (rg 7) (R3 p s []) [(6, bA false)] fun G => b6 (wp_ret (z4 (l5 ?_))); exact J3 false G (rg 7) (b26 (by with_reducible assumption) (by omega) (by with_reducible assumption))
         ·
          cases h12 : (atomB s.index)
          · refine j7 G (F5 (t5 15 (rg 4) (J0 p s.index) (t5 20 [3] (aK8 s.index) F4)) (fc h9 (fc h10 (fc h11 (fc h12 fz)))) (us [(4, 9, 0), (1010, 1010, 0), (12, 15, 1), (1016, 1016, 1), (18, 20, 2), (1021, 1021, 2), (23, 26, 3), (1027, 1027, 3)])) (rg 7) (R3 p s []) [(6, bA false)] fun G => b6 (wp_ret (z4 (l5 ?_))); exact J3 false G (rg 7) (b25 (by with_reducible assumption) (by omega) (by with_reducible assumption))
          · refine j7 G (F5 (t5 15 (rg 4) (J0 p s.index) (t5 20 [3] (aK8 s.index) (t5 26 [0, 1, 2, 4] (J0 p s.value) F4))) (fc h9 (fc h10 (fc h11 (fc h12 fz)))) (us [(4, 9, 0), (1010, 1010, 0), (12, 15, 1), (1016, 1016, 1), (18, 20, 2), (1021, 1021, 2), (23, 26, 3), (1027, 1027, 3)])) (rg 7) (R3 p s []) [(6, bA (r9 p.vars.length p.arrays.length s.value))] fun G => b6 (wp_ret (z4 (l5 ?_))); exact J3 (r9 p.vars.length p.arrays.length s.value) G (rg 7) (b24 (by with_reducible assumption) (by omega) (by omega) (by omega) (by with_reducible assumption) (by with_reducible assumption))
     ·
      refine wp_seq ?_; cases h13 : (decide (s.target ≥ 0))
      · have q13 := dFf h13; refine j7 G (H8 (fc h13 (fc (b := false) rfl fz)) (us [(4, 9, 0), (1010, 1010, 0), (12, 15, 1), (1016, 1016, 1)])) (rg 7) (R3 p s []) [(6, bA false)] fun G => b6 (wp_ret (z4 (l5 ?_))); exact J3 false G (rg 7) (bP9 (by with_reducible assumption) (by omega) (by omega))
      ·
       have q13 := dTt h13; cases h14 : (decide (s.target < (p.vars.length : Int)))
       · have q14 := dFf h14; refine j7 G (H8 (fc h13 (fc h14 fz)) (us [(4, 9, 0), (1010, 1010, 0), (12, 15, 1), (1016, 1016, 1)])) (rg 7) (R3 p s []) [(6, bA false)] fun G => b6 (wp_ret (z4 (l5 ?_))); exact J3 false G (rg 7) (bP8 (by with_reducible assumption) (by omega) (by omega))
       · have q14 := dTt h14; refine j7 G (F5 (t5 15 [0, 1, 2, 4] (J0 p s.value) F4) (fc h13 (fc h14 fz)) (us [(4, 9, 0), (1010, 1010, 0), (12, 15, 1), (1016, 1016, 1)])) (rg 7) (R3 p s []) [(6, bA (r9 p.vars.length p.arrays.length s.value))] fun G => b6 (wp_ret (z4 (l5 ?_))); exact J3 (r9 p.vars.length p.arrays.length s.value) G (rg 7) (bP7 (by with_reducible assumption) (by omega) (by omega) (by omega))
    ·
     refine wp_skip (b6 (rT G _ h2 (wp_seq ?_))); cases h15 : (decide (s.target ≥ 0))
     · have q15 := dFf h15; refine j7 G (H8 (fc h15 (fc (b := false) rfl fz)) (us [(4, 9, 0), (1010, 1010, 0), (12, 15, 1), (1016, 1016, 1)])) (rg 7) (R3 p s []) [(6, bA false)] fun G => b6 (wp_ret (z4 (l5 ?_))); exact J3 false G (rg 7) (bP9 (by with_reducible assumption) (by omega) (by omega))
     ·
      have q15 := dTt h15; cases h16 : (decide (s.target < (p.vars.length : Int)))
      · have q16 := dFf h16; refine j7 G (H8 (fc h15 (fc h16 fz)) (us [(4, 9, 0), (1010, 1010, 0), (12, 15, 1), (1016, 1016, 1)])) (rg 7) (R3 p s []) [(6, bA false)] fun G => b6 (wp_ret (z4 (l5 ?_))); exact J3 false G (rg 7) (bP8 (by with_reducible assumption) (by omega) (by omega))
      · have q16 := dTt h16; refine j7 G (F5 (t5 15 [0, 1, 2, 4] (J0 p s.value) F4) (fc h15 (fc h16 fz)) (us [(4, 9, 0), (1010, 1010, 0), (12, 15, 1), (1016, 1016, 1)])) (rg 7) (R3 p s []) [(6, bA (r9 p.vars.length p.arrays.length s.value))] fun G => b6 (wp_ret (z4 (l5 ?_))); exact J3 (r9 p.vars.length p.arrays.length s.value) G (rg 7) (bP7 (by with_reducible assumption) (by omega) (by omega) (by omega))
   · have q1 : (n9 s) = false := (Eq.mp (ci3 _) h1); refine rT G _ h1 (wp_seq (k8 G f7 [] fun G => b6 (wp_ret (l5 ?_)))); exact J3 false G (rg 7) (cb2 (by with_reducible assumption))
  · have q0 := dTt h0; exact False.elim (by omega)
theorem b97 {nv na d : Nat} {ss : List c5} {k : Nat} (hk : k < ss.length) (h : j6 nv na d (ss.getD k cg3) = false) : ss.all (j6 nv na d) = false := by
 rw [m5 hk] at h
 exact as0 hk h
theorem aP1 (p : i6) (d : Nat) (hd : d ≤ 5) (hS : ∀ (s : c5) (n : Int), n = d → j9.ok Tryz.prog (vsC p d s n)) (ss : List c5) (n : Int) (hn : n = d) : j9.ok Tryz.prog (vbC p d ss n) := by
  refine F9 22 Tryz.func130 [dI p.vars, dI p.arrays, dT p.body, dT ss] [(0, pA 0), (1, .ref 3), (2, iA n)] fun G => ?_; refine wp_seq (j7 G f7 (rg 5) [dI p.vars, dI p.arrays, dT p.body, dT ss, .box (pL 0)] [(1, .ref 3), (2, iA n), (3, .ptr 4 0), (6, bA false)] fun G => b6 (wp_seq (wp_seq (D7 G f7 [(1, .ref 3), (2, iA n), (3, .ptr 4 0), (6, bA false), (7, iA 0)] fun G => b6 (wp_block ?_))))); refine s8 (κ := Nat) (fun k => k ≤ ss.length ∧ (ss.take k).all (j6 p.vars.length p.arrays.length d) = true) (fun k => ss.length - k) (fun k => [dI p.vars, dI p.arrays, dT p.body, dT ss, .box (pL 0)]) (fun k => [(1, .ref 3), (2, iA n), (3, .ptr 4 0), (6, bA false), (7, iA k)]) 0 (by simp) (t7.at G _ _) ?_; clear G; intro k ρ a w hp G; have hlen : ss.length ≤ 9223372036854775807 := G.len 3 (d := .stmts ss) (by kernel_rfl); refine wp_seq (wp_seq (D7 G f7 [(1, .ref 3), (2, iA n), (3, .ptr 4 0), (6, bA false), (7, iA k), (11, bA (decide ((k : Int) < ss.length)))] fun G => b6 (rcD G (fun h0 q0 => ?_) fun h0 q0 => ?_)))
  · refine wp_exit (s4 (s4 (r8 (b6 (wp_seq (j7 G f7 (rg 4) [dI p.vars, dI p.arrays, dT p.body, dT ss] [(6, bA true)] fun G => b6 (wp_ret ?_))))))); exact J3 true G (rg 4) (aL5 hp.2 (by omega))
  ·
   refine wp_skip (b6 (wp_seq (wp_block (wp_seq (af7 G (s6 6 [0, 1, 2, 37, 38, 39, 40] (hS (ss.getD k cg3) n (by assumption))) [0, 0, 0, 6, 14, 0, 63, 127] [(21, .v (.bool !j6 p.vars.length p.arrays.length d (ss.getD k cg3)))] (iX k k ss.length []) (iK (by omega) ch8) fun G => b6 ?_))))); cases h1 : (!j6 p.vars.length p.arrays.length d (ss.getD k cg3))
   · have q1 : (j6 p.vars.length p.arrays.length d (ss.getD k cg3)) = true := (Eq.mp (cj0 _) h1); refine rF G _ h1 (wp_skip (l0 (b6 (E1 G f7 [(7, iA ((k : Int) + 1))] [wO ((k : Int) + 1)] (o1 (by omega)) fun G => b6 ?_)))); exact I6 G (k + 1) (⟨by omega, a80 hp.2 (by omega) (by assumption)⟩) (by omega) (rg 5)
   · have q1 : (j6 p.vars.length p.arrays.length d (ss.getD k cg3)) = false := (Eq.mp (ci3 _) h1); refine rT G _ h1 (wp_seq (k8 G f7 [] fun G => b6 (wp_ret (z4 (l5 (l5 (z4 (l5 ?_)))))))); exact J3 false G (rg 4) (b97 (k := k) (by omega) (by with_reducible assumption))
theorem bk9 (p : i6) : ∀ (d : Nat), d ≤ 5 → ∀ (s : c5) (n : Int), n = d → j9.ok Tryz.prog (vsC p d s n)
 | 0, _, s, n, hn => bo6 p s n hn
 | d + 1, hd, s, n, hn => bw8 p d (fun ss n hn => aP1 p d (by omega) (bk9 p d (by omega)) ss n hn) s n hn (by omega)
theorem bs7 (p : i6) (ss : List c5) (n : Int) (hn : n = 5) : j9.ok Tryz.prog (T6 130 [pA 0, .ref 3, iA n] (pS p ++ [.dat (.stmts ss)]) (bA (af1 p.vars.length p.arrays.length 5 ss))) :=
 aP1 p 5 (by omega) (bk9 p 5 (by omega)) ss n hn
def D2 : Nat → List c5 → Nat
 | 0, ss => ss.length
 | d + 1, ss => ss.length + (ss.map fun s => D2 d s.body + D2 d s.els).sum
def szP (d : Nat) (ss : List c5) (k : Nat) : Nat := ss.length + ((ss.take k).map fun s => D2 d s.body + D2 d s.els).sum
theorem bH5 (d : Nat) (ss : List c5) {k : Nat} (h : ss.length ≤ k) : szP d ss k = D2 (d + 1) ss := by unfold szP; rw [ch9 h, D2]
theorem aF0 {d : Nat} {ss : List c5} {k : Nat} (h : k < ss.length) : szP d ss (k + 1) = szP d ss k + (D2 d (ss.getD k cg3).body + D2 d (ss.getD k cg3).els) := by
 unfold szP
 rw [H0 ss k h, List.map_append, List.sum_append, m5 h]
 simp; omega
theorem bw1 : ∀ (d : Nat) (ss : List c5), D2 d ss ≤ j5 ss := by
 intro d
 induction d with
 | zero => intro ss; exact K8 ss
 | succ d ih =>
  intro ss
  induction ss with
  | nil => simp [D2]
  | cons s r ihr =>
   have h1 := ih s.body
   have h2 := ih s.els
   have h3 := aO2 s
   simp only [D2, cj9, List.sum_cons, ch2, j5] at ihr ⊢
   have h4 : j5 s.body + j5 s.els ≤ K0 s := by
    rcases s with ⟨_, _, _, _, _, b, e⟩
    simp only [K0, c5.body, c5.els]; omega
   omega
theorem a91 {d : Nat} {ss : List c5} {k : Nat} : szP d ss k ≤ j5 ss := by
 refine cj4 ?_ (bw1 (d + 1) ss)
 unfold szP
 rw [D2]
 have : ∀ (l : List Nat) (k : Nat), (l.take k).sum ≤ l.sum := fun l k => by
  have := List.sum_append (l₁ := l.take k) (l₂ := l.drop k)
  rw [List.take_append_drop] at this; omega
 have h := this (ss.map fun s => D2 d s.body + D2 d s.els) k
 rw [← List.map_take] at h
 omega
theorem bn0 {ss : List c5} {k B : Nat} (h : j5 ss ≤ B) (hk : k < ss.length) : j5 (ss.getD k cg3).body ≤ B ∧ j5 (ss.getD k cg3).els ≤ B := by
 rw [m5 hk]
 have h1 := aa8 (ci6 hk)
 have h2 := aO2 ss[k]
 omega
theorem bs4 (ss : List c5) (n : Int) (hn : n = 1) (hb : j5 ss ≤ 1048576) : j9.ok Tryz.prog (T6 131 [.ref 0, iA n] [.dat (.stmts ss)] (iA (D2 0 ss : Nat))) := by
 have h100 : decide (n > 1) = false := by simp; omega
 refine F9 39 Tryz.func131 [dT ss] [(0, .ref 0), (1, iA n)] fun G => ?_; refine wp_seq (k8 G f7 [(4, iA 0)] fun G => b6 (wp_seq (k8 G f7 [(5, iA (ss.length : Int))] fun G => b6 (wp_seq (wp_seq (D7 G f7 [(0, .ref 0), (1, iA n), (4, iA 0), (5, iA (ss.length : Int)), (6, iA 0)] fun G => b6 (wp_block ?_))))))); refine s8 (κ := Nat) (fun k => k = 0) (fun k => 0) (fun k => [dT ss]) (fun k => [(0, .ref 0), (1, iA n), (4, iA 0), (5, iA (ss.length : Nat)), (6, iA k)]) 0 (by kernel_rfl) (t7.at G _ _) ?_; clear G; intro k ρ a w hp G; replace G := t7.at G [dT ss] [(0, .ref 0), (1, iA n), (4, iA 0), (5, iA (ss.length : Int)), (6, iA k)]; refine wp_seq (wp_seq ?_); cases h0 : (decide ((k : Int) < ss.length))
 ·have q0 := dFf h0; refine k8 G (H8 (fc h0 fz) [(5, 0), (6, 0), (1007, 0)]) [(16, bA false)] fun G => b6 (rF G false (by kernel_rfl) (wp_exit (s4 (s4 (r8 (b6 (wp_seq (k8 G f7 [(4, iA (ss.length : Int))] fun G => b6 (wp_ret ?_))))))))); exact M4 G [0]
 ·have q0 := dTt h0; refine k8 G (H8 (fc h0 fz) [(5, 0), (6, 0), (1007, 0)]) [(16, bA (decide (n > 1)))] fun G => b6 (rF G (decide (n > 1)) (by assumption) (wp_exit (s4 (s4 (r8 (b6 (wp_seq (k8 G f7 [(4, iA (ss.length : Int))] fun G => b6 (wp_ret ?_))))))))); exact M4 G [0]
theorem bs2 (d : Nat) (hd : d ≤ 5) (ih : ∀ (ss : List c5) (n : Int), n = (d + 1 : Nat) → j5 ss ≤ 1048576 → j9.ok Tryz.prog (T6 131 [.ref 0, iA n] [.dat (.stmts ss)] (iA (D2 d ss : Nat))))
  (ss : List c5) (n : Int) (hn : n = (d + 2 : Nat)) (hb : j5 ss ≤ 1048576) : j9.ok Tryz.prog (T6 131 [.ref 0, iA n] [.dat (.stmts ss)] (iA (D2 (d + 1) ss : Nat))) := by
 have h100 : decide (n > 1) = true := by simp; omega
 refine F9 39 Tryz.func131 [dT ss] [(0, .ref 0), (1, iA n)] fun G => ?_; refine wp_seq (k8 G f7 [(4, iA 0)] fun G => b6 (wp_seq (k8 G f7 [(5, iA (ss.length : Int))] fun G => b6 (wp_seq (wp_seq (D7 G f7 [(0, .ref 0), (1, iA n), (4, iA 0), (5, iA (ss.length : Int)), (6, iA 0)] fun G => b6 (wp_block ?_))))))); refine s8 (κ := Nat) (fun k => k ≤ ss.length) (fun k => ss.length - k) (fun k => [dT ss]) (fun k => [(0, .ref 0), (1, iA n), (4, iA 0), (5, iA (szP d ss k : Nat)), (6, iA k)]) 0 (by omega) (t7.at G _ _) ?_; clear G; intro k ρ a w hp G; replace G := t7.at G [dT ss] [(0, .ref 0), (1, iA n), (4, iA 0), (5, iA (↑(szP d ss k) : Int)), (6, iA k)]; have hlen := K8 ss; refine wp_seq (wp_seq ?_); cases h0 : (decide ((k : Int) < ss.length))
 ·have q0 := dFf h0; refine k8 G (H8 (fc h0 fz) [(5, 0), (6, 0), (1007, 0)]) [(16, bA false)] fun G => b6 (rF G false (by kernel_rfl) (wp_exit (s4 (s4 (r8 (b6 (wp_seq (k8 G f7 [(4, iA (↑(szP d ss k) : Int))] fun G => b6 (wp_ret ?_))))))))); exact X9 ((↑(szP d ss k) : Int)) G [0] (by have h1 := bH5 d ss (k := k) (by omega); omega)
 ·have q0 := dTt h0; refine k8 G (H8 (fc h0 fz) [(5, 0), (6, 0), (1007, 0)]) [(16, bA (decide (n > 1)))] fun G => b6 (rT G (decide (n > 1)) (by assumption) (wp_skip (b6 (wp_seq (wp_block (af7 G (F5 (t5 8 [41] (ih ((ss.getD k cg3).body) (n - 1) (by omega) ((bn0 hb (by omega)).1)) (t5 17 [113] (ih ((ss.getD k cg3).els) (n - 1) (by omega) ((bn0 hb (by omega)).2)) F4)) fz []) [0, 0, 0, 6, 14, 30, 0, 64, 254, 511, 0, 0, 3072, 7168, 15360, 0, 32768, 130558, 262143, 524287] [(5, iA ((↑(szP d ss k) : Int) + (↑(D2 d (ss.getD k cg3).body) : Int) + (↑(D2 d (ss.getD k cg3).els) : Int)))] (iX k k ss.length ((wO (n - 1)) :: ((wO ((↑(szP d ss k) : Int) + (↑(D2 d (ss.getD k cg3).body) : Int))) :: (iX k k ss.length ((wO (n - 1)) :: ((wO ((↑(szP d ss k) : Int) + (↑(D2 d (ss.getD k cg3).body) : Int) + (↑(D2 d (ss.getD k cg3).els) : Int))) :: [])))))) (iK (by omega) ⟨oW (by omega), ⟨(by have h1 := aF0 (d := d) (ss := ss) (k := k) (by omega); have h2 := a91 (d := d) (ss := ss) (k := k + 1); exact w64 (by omega) (by omega)), (iK (by omega) ⟨oW (by omega), ⟨(by have h1 := aF0 (d := d) (ss := ss) (k := k) (by omega); have h2 := a91 (d := d) (ss := ss) (k := k + 1); exact w64 (by omega) (by omega)), ch8⟩⟩)⟩⟩) fun G => l0 (b6 (E1 G f7 [(6, iA ((k : Int) + 1))] [wO ((k : Int) + 1)] (o1 (by omega)) fun G => b6 ?_)))))))); exact I6 G (k + 1) (by omega) (by omega) [0] (ht := by have e1 : ((↑(szP d ss (k + 1)) : Int) : Int) = ((↑(szP d ss k) : Int) + (↑(D2 d (ss.getD k cg3).body) : Int) + (↑(D2 d (ss.getD k cg3).els) : Int)) := (by have h1 := aF0 (d := d) (ss := ss) (k := k) (by omega); have h2 := a91 (d := d) (ss := ss) (k := k + 1); omega); (first | rw [e1] | simp only [e1]) <;> rfl)
theorem bs3 : ∀ d, d ≤ 5 → ∀ (ss : List c5) (n : Int), n = (d + 1 : Nat) → j5 ss ≤ 1048576 → j9.ok Tryz.prog (T6 131 [.ref 0, iA n] [.dat (.stmts ss)] (iA (D2 d ss : Nat))) := by
 intro d
 induction d with
 | zero => intro _ ss n hn hb; exact bs4 ss n (by omega) hb
 | succ d ih => intro hd ss n hn hb; exact bs2 d (by omega) (fun ss n hn hb => ih (by omega) ss n hn hb) ss n (by omega) hb
theorem bF9 (ss : List c5) (n : Int) (hn : n = 5) (hb : j5 ss ≤ 1048576) : j9.ok Tryz.prog (T6 131 [.ref 0, iA n] [.dat (.stmts ss)] (iA (D2 4 ss : Nat))) :=
 bs3 4 (by omega) ss n (by omega) hb
theorem bw2 {nv na : Nat} : ∀ (d : Nat) (ss : List c5), (∀ s ∈ ss, j6 nv na (d + 1) s = true) → D2 d ss = U9 ss := by
 intro d
 induction d with
 | zero => intro ss h; rw [a48 h]; rfl
 | succ d ih =>
  intro ss
  induction ss with
  | nil => intro _; rfl
  | cons s r ihr =>
   intro h
   have h1 := ad4 (h s ck3)
   have h2 := ih s.body fun x hx => ch3.1 h1.1 x hx
   have h3 := ih s.els fun x hx => ch3.1 h1.2 x hx
   have h4 := ihr fun x hx => h x (ck1 _ hx)
   rw [U9, av4, ← h2, ← h3, ← h4]
   simp [D2]; omega
theorem a19 {p : i6} (h : B5 p.vars p.arrays = false) : l9 p = false := by simp [l9, h]
theorem a20 {p : i6} (h : af1 p.vars.length p.arrays.length 5 p.body = false) : l9 p = false := by simp [l9, h]
theorem bb2 {p : i6} (h1 : B5 p.vars p.arrays = true) (h2 : af1 p.vars.length p.arrays.length 5 p.body = true) : l9 p = decide ((D2 4 p.body : Int) ≤ 60) := by
 have h3 := bw2 (nv := p.vars.length) (na := p.arrays.length) 4 p.body (fun x hx => ch3.1 h2 x hx)
 rw [l9, h1, h2, h3]
 simp
 exact ⟨fun h => by omega, fun h => by omega⟩
theorem a69 (p : i6) (n : Int) (hn : n = 5) : j9.ok Tryz.prog (T6 130 [pA 0, .ref 2, iA n] (pS p) (bA (af1 p.vars.length p.arrays.length 5 p.body))) :=
 j9.dup (S := pS p) (S' := pS p) (d := .stmts p.body) (i := 2) (bs7 p p.body n hn) rfl rfl rfl (fun ρ h => by simp only [AV.vals, AV.val]; rw [show ρ 3 = ρ 2 from h]) rfl
theorem Q7 (p : i6) (hb : j5 p.body ≤ 1048576) : j9.ok Tryz.prog (T6 62 [pA 0] (pS p) (bA (l9 p))) := by
  refine F9 17 Tryz.func62 [dI p.vars, dI p.arrays, dT p.body] [(0, pA 0)] fun G => ?_; refine wp_seq (j7 G f7 (rg 4) [dI p.vars, dI p.arrays, dT p.body, .box (pL 0)] [(1, .ptr 3 0), (2, bA false)] fun G => b6 (wp_seq ?_)); cases h0 : (B5 p.vars p.arrays)
  · refine j7 G (F5 (t5 1 [0, 1, 2] (aw6 p) F4) (fc h0 (fc (b := false) rfl fz)) (us [(3, 6, 0), (1007, 1007, 0), (9, 12, 1), (1013, 1013, 1)])) [0, 1, 2] [dI p.vars, dI p.arrays, dT p.body] [(2, bA false)] fun G => b6 (wp_ret ?_); exact J3 false G [0, 1, 2] (a19 (by assumption))
  ·
   cases h1 : (af1 p.vars.length p.arrays.length (5 : Nat) p.body)
   · refine j7 G (F5 (t5 1 [0, 1, 2] (aw6 p) (t5 6 [0, 1, 2] (a69 p 5 (by kernel_rfl)) F4)) (fc h0 (fc h1 fz)) (us [(3, 6, 0), (1007, 1007, 0), (9, 12, 1), (1013, 1013, 1)])) [0, 1, 2] [dI p.vars, dI p.arrays, dT p.body] [(2, bA false)] fun G => b6 (wp_ret ?_); exact J3 false G [0, 1, 2] (a20 (by assumption))
   · refine j7 G (F5 (t5 1 [0, 1, 2] (aw6 p) (t5 6 [0, 1, 2] (a69 p 5 (by kernel_rfl)) (t5 11 [2] (bF9 p.body 5 (by kernel_rfl) (by assumption)) F4))) (fc h0 (fc h1 fz)) (us [(3, 6, 0), (1007, 1007, 0), (9, 12, 1), (1013, 1013, 1)])) [0, 1, 2] [dI p.vars, dI p.arrays, dT p.body] [(2, bA (decide ((↑(D2 4 p.body) : Int) ≤ 60)))] fun G => b6 (wp_ret ?_); exact J3 (decide ((↑(D2 4 p.body) : Int) ≤ 60)) G [0, 1, 2] (bb2 (by assumption) (by assumption))
def D8 (nv na : Nat) (s : c5) : Bool := n9 s &&
    (if s.kind = 1 ∨ s.kind = 5 then decide (0 ≤ s.target) && decide (s.target < nv) && r9 nv na s.value
     else if s.kind = 2 then decide (0 ≤ s.target) && decide (s.target < na) && r9 nv na s.index && atomB s.index && r9 nv na s.value
     else if s.kind = 3 then r9 nv na s.value
     else decide (s.kind = 4))
theorem S5 {nv na d : Nat} {s : c5} : j6 nv na (d + 1) s = (D8 nv na s && (s.body.all (j6 nv na d) && s.els.all (j6 nv na d))) := by
 rw [cj8]
 constructor
 ·intro h
  have h1 := ad4 h
  rw [h1.1, h1.2, Bool.and_true, Bool.and_true]
  rw [j6, cg5] at h
  rw [D8, h.1, Bool.true_and]
  obtain ⟨-, h⟩ := h
  split at h
  ·rw [if_pos (by assumption)]; exact h
  split at h
  ·rw [if_neg (by assumption), if_pos (by assumption)]; exact h
  split at h
  ·rw [if_neg (by assumption), if_neg (by assumption), if_pos (by assumption)]
   simp only [cg5] at h; exact h.1.1
  split at h
  ·rw [if_neg (by assumption), if_neg (by assumption), if_neg (by assumption)]; simp [*]
  ·simp at h
 ·intro h
  simp only [cg5] at h
  obtain ⟨h, hb, he⟩ := h
  rw [D8, cg5] at h
  obtain ⟨h0, h⟩ := h
  rw [j6, h0, Bool.true_and]
  split at h
  ·rw [if_pos (by assumption)]; exact h
  split at h
  ·rw [if_neg (by assumption), if_pos (by assumption)]; exact h
  split at h
  ·rw [if_neg (by assumption), if_neg (by assumption), if_pos (by assumption), h, hb, he]; rfl
  ·rw [if_neg (by assumption), if_neg (by assumption), if_neg (by assumption), if_pos (by simpa using h), hb]
section
variable {nv na d c : Nat} {s : c5}
end
section
variable {nv na : Nat} {s : c5}
theorem bC6 (k : s.kind = 1 ∨ s.kind = 5) : D8 nv na s = (decide (0 ≤ s.target ∧ s.target < nv ∧ s.body.length = 0 ∧ s.els.length = 0 ∧ s.count = 0) && (noneB s.index && r9 nv na s.value)) := by
 rw [D8, n9, if_pos k, if_neg (by omega), show decide (s.kind = 2) = false from decide_eq_false (by omega), cj8]
 simp only [cg5, decide_eq_true_eq, Bool.false_or]
 constructor
 ·rintro ⟨⟨⟨⟨a, b⟩, c⟩, d⟩, ⟨e, f⟩, g⟩; exact ⟨⟨e, f, a, b, c⟩, d, g⟩
 ·rintro ⟨⟨e, f, a, b, c⟩, d, g⟩; exact ⟨⟨⟨⟨a, b⟩, c⟩, d⟩, ⟨e, f⟩, g⟩
theorem a46 (k : s.kind = 2) : D8 nv na s = (decide (0 ≤ s.target ∧ s.target < na ∧ s.body.length = 0 ∧ s.els.length = 0 ∧ s.count = 0) && (r9 nv na s.index && (atomB s.index && r9 nv na s.value))) := by
 rw [D8, n9, if_neg (by omega), if_pos k, if_neg (by omega), show decide (s.kind = 2) = true from decide_eq_true k, cj8]
 simp only [cg5, decide_eq_true_eq, Bool.true_or]
 constructor
 ·rintro ⟨⟨⟨⟨a, b⟩, c⟩, -⟩, ⟨⟨⟨e, f⟩, i⟩, j⟩, g⟩; exact ⟨⟨e, f, a, b, c⟩, i, j, g⟩
 ·rintro ⟨⟨e, f, a, b, c⟩, i, j, g⟩; exact ⟨⟨⟨⟨a, b⟩, c⟩, ch8⟩, ⟨⟨⟨e, f⟩, i⟩, j⟩, g⟩
theorem bQ9 (k : s.kind = 3) : D8 nv na s = (decide (s.target = 0 ∧ s.count = 0) && (noneB s.index && r9 nv na s.value)) := by
 rw [D8, n9, if_pos (show s.kind = 3 ∨ s.kind = 4 from .inl k), if_neg (show ¬ s.kind = 4 by omega), if_neg (by omega), if_neg (by omega), if_pos k, cj8]
 simp only [cg5, decide_eq_true_eq]
 constructor
 ·rintro ⟨⟨a, b, c⟩, d⟩; exact ⟨⟨a, b⟩, c, d⟩
 ·rintro ⟨⟨a, b⟩, c, d⟩; exact ⟨⟨a, b, c⟩, d⟩
theorem b71 (k : s.kind = 4) : D8 nv na s = (decide (s.target = 0 ∧ s.els.length = 0 ∧ 1 ≤ s.count ∧ s.count ≤ 3) && (noneB s.index && noneB s.value)) := by
 rw [D8, n9, if_pos (show s.kind = 3 ∨ s.kind = 4 from .inr k), if_pos k, if_neg (by omega), if_neg (by omega), if_neg (by omega), show decide (s.kind = 4) = true from decide_eq_true k, cj8]
 simp only [cg5, decide_eq_true_eq]
 constructor
 ·rintro ⟨⟨a, ⟨⟨⟨b, c⟩, d⟩, e⟩, f⟩, -⟩; exact ⟨⟨a, b, c, d⟩, e, f⟩
 ·rintro ⟨⟨a, b, c, d⟩, e, f⟩; exact ⟨⟨a, ⟨⟨⟨b, c⟩, d⟩, e⟩, f⟩, ch8⟩
theorem an3 (k : ¬ s.kind = 1 ∧ ¬ s.kind = 2 ∧ ¬ s.kind = 3 ∧ ¬ s.kind = 4 ∧ ¬ s.kind = 5) : D8 nv na s = false := by
 rw [D8, if_neg (by omega), if_neg (by omega), if_neg (by omega), show decide (s.kind = 4) = false from decide_eq_false (by omega), Bool.and_false]
end
theorem b15 {l : List c6} {k : Nat} (hk : k < l.length) : l.take k ++ [⟨(l.getD k cg3).kind, (l.getD k cg3).value, (l.getD k cg3).kids⟩] = l.take (k + 1) := by
 rw [c6.eta, m8 _ _ hk, m5 hk]
theorem b14 {l : List c5} {k : Nat} (hk : k < l.length) : l.take k ++ [⟨(l.getD k cg3).kind, (l.getD k cg3).target, ⟨(l.getD k cg3).index.kind, (l.getD k cg3).index.value, (l.getD k cg3).index.kids⟩, ⟨(l.getD k cg3).value.kind, (l.getD k cg3).value.value, (l.getD k cg3).value.kids⟩, (l.getD k cg3).count, (l.getD k cg3).body, (l.getD k cg3).els⟩] = l.take (k + 1) := by
 rw [c6.eta, c6.eta, c5.eta, m8 _ _ hk, m5 hk]
theorem bh8 {α : Type} {l : List α} {k : Nat} (h1 : k ≤ l.length) (h2 : ¬ (k : Int) < l.length) : l.take k = l := by rw [ch9 (by omega)]
theorem bA5 {α : Type} {l : List α} {k n : Nat} (h1 : k ≤ l.length) (h : l.length ≤ n) : (l.take k).length ≤ n := by rw [List.length_take]; omega
theorem bB2 {e : c6} (h : z6 e ≤ 1048576) : e.kids.length ≤ 1048576 := by
 have h1 := aq6 e.kids
 have h2 : z6 e = E0 e.kids := by cases e; rfl
 omega
theorem bt2 {l : List c5} (h : j5 l ≤ 1048576) : l.length ≤ 1048576 := cj4 (K8 l) h
theorem bL4 {α : Type} {l : List α} {x : α} {k : Nat} (h1 : k ≤ l.length) (h : l.length ≤ 1048576) : (l.take k).length + [x].length ≤ 1048577 := by
 have := bA5 (k := k) h1 h
 simp only [ch2, ch6]; omega
theorem b77 {a b : Nat} (ha : a ≤ 1048577) (hb : Nat.ble b 1000 = true) : a * b ≤ 140737488355328 := by
 have h1 := Nat.le_of_ble_eq_true hb
 have h2 := Nat.mul_le_mul ha h1
 omega
theorem as5 {l : List c6} {k : Nat} (h : (k : Int) < l.length) : l.getD k cg3 ∈ l := by rw [m5 (by omega)]; exact ci6 (by omega)
theorem ac7 {l : List c5} {k : Nat} (h : (k : Int) < l.length) : l.getD k cg3 ∈ l := by rw [m5 (by omega)]; exact ci6 (by omega)
abbrev cpC (e : c6) : j9 := ⟨132, [eA e 0], eS e, eS e ++ [.tree (.exprs e.kids)], .agg [iA e.kind, iA e.value, .tref 1]⟩
abbrev aY0 (e : c6) (r0 : List It) : List It := dE e.kids :: .box (eL e 0) :: .box [iA 0, iA 0, .v (.slice none 0 0)] :: r0
theorem bw9 (e : c6) (hb : z6 e ≤ 1048576) (ih : ∀ (x : c6), x ∈ e.kids → j9.ok Tryz.prog (cpC x)) : j9.ok Tryz.prog (cpC e) := by
 refine F9 29 Tryz.func132 [dE e.kids] [(0, eA e 0)] fun G => ?_; have hl := bB2 hb; refine wp_seq (j7 G f7 [0, 1, 9] (aY0 e []) [(1, .ptr 1 0), (2, .ptr 2 0)] fun G => b6 (wp_seq (j7 G f7 [0, 1, 2, 43] (aY0 e [.box [iA e.kind, iA e.value, .v (.slice none 0 0)]]) [(1, .ptr 1 0), (2, .ptr 2 0), (3, .ptr 3 0)] fun G => b6 (wp_seq (wp_seq (D7 G f7 [(1, .ptr 1 0), (2, .ptr 2 0), (3, .ptr 3 0), (4, iA 0)] fun G => b6 (wp_block ?_))))))); obtain ⟨ρ, G⟩ := G.nilT 4 (.exprs []) (aY0 e [.box [iA e.kind, iA e.value, .tref 4]]) [(1, .ptr 1 0), (2, .ptr 2 0), (3, .ptr 3 0), (4, iA 0)]; refine s8 (κ := Nat) (fun k => k ≤ e.kids.length) (fun k => e.kids.length - k) (fun k => [dE e.kids, .box (eL e 0), .box [iA 0, iA 0, .v (.slice none 0 0)], .box [iA e.kind, iA e.value, .tref 4], .tree (.exprs (e.kids.take k))]) (fun k => [(1, .ptr 1 0), (2, .ptr 2 0), (3, .ptr 3 0), (4, iA k)]) 0 (by omega) (t7.at G _ _) ?_; clear G; intro k ρ a w hp G; replace G := t7.at G (aY0 e [.box [iA e.kind, iA e.value, .tref 4], .tree (D.exprs (ch1 k e.kids))]) [(1, .ptr 1 0), (2, .ptr 2 0), (3, .ptr 3 0), (4, iA k)]; refine wp_seq (wp_seq (k8 G f7 [(14, bA (decide ((k : Int) < e.kids.length)))] fun G => b6 (rcD G (fun h0 q0 => ?_) fun h0 q0 => ?_)))
 ·refine wp_exit (s4 (s4 (r8 (b6 (wp_seq (j7 G f7 [0, 2, 4] [dE e.kids, .box [iA e.kind, iA e.value, .tref 2], .tree (D.exprs (ch1 k e.kids))] [(2, .ptr 1 0)] fun G => b6 (wp_ret ?_))))))); exact M4 G [0, 2] (by show _ = mR [0, 2] [dE e.kids, .tree (D.exprs e.kids)]; have e1 : (ch1 k e.kids : List c6) = (e.kids) := (bh8 hp (by assumption)); (first | rw [e1] | simp only [e1]) <;> rfl)
 ·refine wp_skip (b6 (wp_seq (wp_block (M5 G (s6 7 [53] (ih (e.kids.getD k cg3) (as5 (by assumption)))) [0, 1, 0, 4, 0, 28, 60, 124, 252, 511, 1023, 2047] [0, 1, 2, 3, 77] (aY0 e [.box [iA e.kind, iA e.value, .tref 4], .tree (D.exprs (ch1 k e.kids ++ [w6 (e.kids.getD k cg3)]))]) [(1, .ptr 1 0), (2, .ptr 2 0), (3, .ptr 3 0), (4, iA k)] (iX k k e.kids.length (((ch1 k e.kids).length + [w6 (e.kids.getD k cg3)].length ≤ (9223372036854775807 : Nat)) :: ((((ch1 k e.kids).length + [w6 (e.kids.getD k cg3)].length) * (40 : Nat) ≤ (140737488355328 : Nat)) :: []))) (iK (by omega) ⟨(by have := bL4 (x := (cg3 : c6)) hp hl; simp only [ch2, ch6] at this ⊢; omega), ⟨(b77 (bL4 hp hl) (by kernel_rfl)), ch8⟩⟩) fun G => l0 (b6 (E1 G f7 [(4, iA ((k : Int) + 1))] [wO ((k : Int) + 1)] (o1 (by omega)) fun G => b6 ?_)))))); exact I6 G (k + 1) (by omega) (by omega) (rg 5) (by have e1 : (ch1 (k + 1) e.kids : List c6) = (ch1 k e.kids ++ [w6 (e.kids.getD k cg3)]) := ((b15 (by omega)).symm); (first | rw [e1] | simp only [e1]) <;> rfl)
theorem aX7 (e : c6) : z6 e ≤ 1048576 → j9.ok Tryz.prog (cpC e) :=
 c6.ind (P := fun e => z6 e ≤ 1048576 → j9.ok Tryz.prog (cpC e)) (fun k n ks ih hb => bw9 ⟨k, n, ks⟩ hb fun x hx => ih x hx (by
  have h1 := bH6 (show x ∈ ks from hx)
  have h2 : z6 ⟨k, n, ks⟩ = E0 ks := rfl
  omega)) e
abbrev a58 (l : List c5) : j9 := ⟨151, [.ref 0], [dT l], [dT l, .tree (.stmts l)], .tref 1⟩
theorem bm0 {l : List c5} {k : Nat} (hb : j5 l ≤ 1048576) (h : (k : Int) < l.length) : z6 (l.getD k cg3).index ≤ 1048576 ∧ z6 (l.getD k cg3).value ≤ 1048576 ∧ j5 (l.getD k cg3).body ≤ 1048576 ∧ j5 (l.getD k cg3).els ≤ 1048576 := by
 have h1 := aa8 (ac7 h)
 generalize l.getD k cg3 = s at *
 rcases s with ⟨_, _, i, v, _, b, e⟩
 simp only [K0] at h1
 simp only [c5.index, c5.value, c5.body, c5.els]
 omega
abbrev aC8 (k : Nat) (r0 : List (Nat × AV)) : List (Nat × AV) := (0, .ref 0) :: (2, .v (.slice none 0 0)) :: (3, .tref 1) :: (4, iA (k : Int)) :: r0
theorem aG0 (l : List c5) (hb : j5 l ≤ 1048576) (ih1 : ∀ (s : c5), s ∈ l → j9.ok Tryz.prog (a58 s.body)) (ih2 : ∀ (s : c5), s ∈ l → j9.ok Tryz.prog (a58 s.els)) : j9.ok Tryz.prog (a58 l) := by
  refine F9 38 Tryz.func151 [dT l] [(0, .ref 0)] fun G => ?_; have hl := bt2 hb; refine wp_seq (k8 G f7 [(2, .v (.slice none 0 0))] fun G => b6 (wp_seq (j7 G f7 [0, 1] [dT l, .tree (D.stmts [])] [(0, .ref 0), (2, .v (.slice none 0 0)), (3, .tref 1)] fun G => b6 (wp_seq (wp_seq (D7 G f7 [(0, .ref 0), (2, .v (.slice none 0 0)), (3, .tref 1), (4, iA 0)] fun G => b6 (wp_block ?_))))))); refine s8 (κ := Nat) (fun k => k ≤ l.length) (fun k => l.length - k) (fun k => [dT l, .tree (.stmts (l.take k))]) (fun k => [(0, .ref 0), (2, .v (.slice none 0 0)), (3, .tref 1), (4, iA k)]) 0 (by omega) (t7.at G _ _) ?_; clear G; intro k ρ a w hp G; replace G := t7.at G [dT l, .tree (D.stmts (ch1 k l))] (aC8 k []); refine wp_seq (wp_seq (k8 G f7 [(10, bA (decide ((k : Int) < l.length)))] fun G => b6 (rcD G (fun h0 q0 => ?_) fun h0 q0 => ?_)))
  · refine wp_exit (s4 (s4 (r8 (b6 (wp_seq (k8 G f7 [(2, .tref 1)] fun G => b6 (wp_ret ?_))))))); exact M4 G [0, 1] (by show _ = mR [0, 1] [dT l, .tree (D.stmts l)]; have e1 : (ch1 k l : List c5) = (l) := (bh8 hp (by assumption)); (first | rw [e1] | simp only [e1]) <;> rfl)
  ·
   refine wp_skip (b6 (wp_seq (wp_block (wp_seq (N4 G f7 [0, 1, 26, 27, 28, 29, 34] [dT l, .tree (D.stmts (ch1 k l)), dE (l.getD k cg3).index.kids, dE (l.getD k cg3).value.kids, dT (l.getD k cg3).body, dT (l.getD k cg3).els, .box (sL (l.getD k cg3) 2)] (aC8 k [(5, .ptr 6 0)]) (iX k k l.length []) (iK (by omega) ch8) fun G => b6 (wp_seq (j7 G (s6 2 [2] (aX7 ((l.getD k cg3).index) ((bm0 hb (by assumption)).1))) [0, 1, 3, 4, 5, 6, 23] [dT l, .tree (D.stmts (ch1 k l)), dE (l.getD k cg3).value.kids, dT (l.getD k cg3).body, dT (l.getD k cg3).els, .box [iA (l.getD k cg3).kind, iA (l.getD k cg3).target, iA (l.getD k cg3).index.kind, iA (l.getD k cg3).index.value, .tref 6, iA (l.getD k cg3).value.kind, iA (l.getD k cg3).value.value, .ref 2, iA (l.getD k cg3).count, .ref 3, .ref 4], .tree (D.exprs (l.getD k cg3).index.kids)] (aC8 k [(5, .ptr 5 0)]) fun G => b6 (wp_seq (j7 G (s6 2 [2] (aX7 ((l.getD k cg3).value) ((bm0 hb (by assumption)).2.1))) [0, 1, 3, 4, 5, 6, 23] [dT l, .tree (D.stmts (ch1 k l)), dT (l.getD k cg3).body, dT (l.getD k cg3).els, .box [iA (l.getD k cg3).kind, iA (l.getD k cg3).target, iA (l.getD k cg3).index.kind, iA (l.getD k cg3).index.value, .tref 5, iA (l.getD k cg3).value.kind, iA (l.getD k cg3).value.value, .tref 6, iA (l.getD k cg3).count, .ref 2, .ref 3], .tree (D.exprs (l.getD k cg3).index.kids), .tree (D.exprs (l.getD k cg3).value.kids)] (aC8 k [(5, .ptr 4 0)]) fun G => b6 (wp_seq (j7 G (s6 2 [2] (ih1 (l.getD k cg3) (ac7 (by assumption)))) [0, 1, 3, 4, 5, 6, 23] [dT l, .tree (D.stmts (ch1 k l)), dT (l.getD k cg3).els, .box [iA (l.getD k cg3).kind, iA (l.getD k cg3).target, iA (l.getD k cg3).index.kind, iA (l.getD k cg3).index.value, .tref 4, iA (l.getD k cg3).value.kind, iA (l.getD k cg3).value.value, .tref 5, iA (l.getD k cg3).count, .tref 6, .ref 2], .tree (D.exprs (l.getD k cg3).index.kids), .tree (D.exprs (l.getD k cg3).value.kids), .tree (D.stmts (l.getD k cg3).body)] (aC8 k [(5, .ptr 3 0)]) fun G => b6 (wp_seq (j7 G (s6 2 [2] (ih2 (l.getD k cg3) (ac7 (by assumption)))) [0, 1, 3, 4, 5, 6, 23] [dT l, .tree (D.stmts (ch1 k l)), .box [iA (l.getD k cg3).kind, iA (l.getD k cg3).target, iA (l.getD k cg3).index.kind, iA (l.getD k cg3).index.value, .tref 3, iA (l.getD k cg3).value.kind, iA (l.getD k cg3).value.value, .tref 4, iA (l.getD k cg3).count, .tref 5, .tref 6], .tree (D.exprs (l.getD k cg3).index.kids), .tree (D.exprs (l.getD k cg3).value.kids), .tree (D.stmts (l.getD k cg3).body), .tree (D.stmts (l.getD k cg3).els)] (aC8 k [(5, .ptr 2 0)]) fun G => b6 (N4 G f7 [0, 31] [dT l, .tree (D.stmts (ch1 k l ++ [qzS (l.getD k cg3)]))] (aC8 k []) [(ch1 k l).length + [qzS (l.getD k cg3)].length ≤ (9223372036854775807 : Nat), ((ch1 k l).length + [qzS (l.getD k cg3)].length) * (152 : Nat) ≤ (140737488355328 : Nat)] ⟨(by have := bL4 (x := (cg3 : c5)) hp hl; simp only [ch2, ch6] at this ⊢; omega), (b77 (bL4 hp hl) (by kernel_rfl)), ch8⟩ fun G => ?_))))))))))))))
   refine l0 (b6 (E1 G f7 [(4, iA ((k : Int) + 1))] [wO ((k : Int) + 1)] (o1 (by omega)) fun G => b6 ?_)); exact I6 G (k + 1) (by omega) (by omega) [0, 1] (by have e1 : (ch1 (k + 1) l : List c5) = (ch1 k l ++ [qzS (l.getD k cg3)]) := ((b14 (by omega)).symm); (first | rw [e1] | simp only [e1]) <;> rfl)
theorem bO1 (l : List c5) : j5 l ≤ 1048576 → j9.ok Tryz.prog (a58 l) := fun hb => aG0 l hb
 (fun s hs => (c_copyS2 s).1 (cj4 (Nat.le_of_lt (aa8 hs)) hb)) fun s hs => (c_copyS2 s).2 (cj4 (Nat.le_of_lt (aa8 hs)) hb)
where
 c_copyS2 (s : c5) : (K0 s ≤ 1048576 → j9.ok Tryz.prog (a58 s.body)) ∧ (K0 s ≤ 1048576 → j9.ok Tryz.prog (a58 s.els)) :=
  c5.ind (P := fun s => (K0 s ≤ 1048576 → j9.ok Tryz.prog (a58 s.body)) ∧ (K0 s ≤ 1048576 → j9.ok Tryz.prog (a58 s.els))) (fun k t i v c b e h1 h2 => by
   have hz : K0 ⟨k, t, i, v, c, b, e⟩ = z6 i + z6 v + j5 b + j5 e := rfl
   constructor
   ·intro hb
    refine aG0 b (by omega) (fun s hs => (h1 s hs).1 ?_) fun s hs => (h1 s hs).2 ?_
    ·have := aa8 hs; omega
    ·have := aa8 hs; omega
   ·intro hb
    refine aG0 e (by omega) (fun s hs => (h2 s hs).1 ?_) fun s hs => (h2 s hs).2 ?_
    ·have := aa8 hs; omega
    ·have := aa8 hs; omega) s
theorem bG0 (p : i6) (hb : p.size ≤ 1048576) : j9.ok Tryz.prog ⟨78, [pA 0], pS p, pS p ++ oP p, oA 3⟩ := by
 refine F9 15 Tryz.func78 [dI p.vars, dI p.arrays, dT p.body] [(0, pA 0)] fun G => ?_
 have hb1 : p.vars.length ≤ 1048576 ∧ p.arrays.length ≤ 1048576 ∧ j5 p.body ≤ 1048576 := by unfold i6.size at hb; omega
 refine wp_seq (j7 G f7 [0, 1, 2, 3, 11] [dI p.vars, dI p.arrays, dT p.body, .box (pL 0), .box [.v (.slice none 0 0), .v (.slice none 0 0), .v (.slice none 0 0)]] [(1, .ptr 3 0), (2, .ptr 4 0)] fun G => b6 (wp_seq (M5 G (s6 10 [2] (bO1 p.body (by omega))) [0, 0, 2, 7, 0, 0, 32, 127, 0, 256, 1023, 2047, 4095] [0, 1, 2, 4, 29, 61, 85] [dI p.vars, dI p.arrays, dT p.body, .box [.ref 4, .ref 5, .tref 6], .row 3 (D.ints ([] ++ p.vars)), .row 3 (D.ints ([] ++ p.arrays)), .tree (D.stmts p.body)] [(2, .ptr 3 0)] (aP ((0 : Nat) + p.vars.length) 8 (aP ((0 : Nat) + p.arrays.length) 8 [])) (aK (by omega) (aK (by omega) ch8)) fun G => b6 (wp_ret ?_)))); exact M4 G [0, 1, 2, 4, 5, 6]
def az9 (vs ars : List Int) (e : c6) : Int := if e.kind = 2 then vs.getD e.value.toNat 0 else if e.kind = 3 then ars.getD e.value.toNat 0 else 0
def i9 (vs ars : List Int) : Nat → c6 → Int
 | 0, _ => 0
 | d + 1, e => e.kids.foldl (fun a k => l4 a (i9 vs ars d k)) (az9 vs ars e)
def D4 (vs ars : List Int) (d : Nat) (x : Int) (ks : List c6) (k : Nat) : Int := (ks.take k).foldl (fun a k => l4 a (i9 vs ars d k)) x
theorem Y1 {vs ars : List Int} {d k : Nat} {x : Int} {ks : List c6} (h : k < ks.length) : D4 vs ars d x ks (k + 1) = l4 (D4 vs ars d x ks k) (i9 vs ars d (ks.getD k cg3)) := by
 unfold D4; rw [H0 ks k h, List.foldl_append, m5 h]; rfl
theorem ac5 {vs ars : List Int} {d k : Nat} {x : Int} {e : c6} (h : e.kids.length ≤ k) (hx : az9 vs ars e = x) : i9 vs ars (d + 1) e = D4 vs ars d x e.kids k := by
 unfold D4; rw [ch9 h, i9, hx]
section
variable {nv na d : Nat} {e : c6}
theorem aU1 (h : i5 nv na (d + 1) e = true) : R6 nv na e = true := by simp only [i5, cg5] at h; exact h.1.1
theorem au9 (h : i5 nv na (d + 1) e = true) (k : e.kind = 2) : 0 ≤ e.value ∧ e.value < nv ∧ e.value.toNat < nv := by
 have := aU1 h
 simp [R6, U6, k] at this; omega
theorem av0 (h : i5 nv na (d + 1) e = true) (k : e.kind = 3) : 0 ≤ e.value ∧ e.value < na ∧ e.value.toNat < na := by
 have := aU1 h
 simp [R6, U6, k] at this; omega
theorem Y8 {k : Nat} (h : i5 nv na (d + 1) e = true) (hk : k < e.kids.length) : i5 nv na d (e.kids.getD k cg3) = true := by
 simp only [i5, cg5] at h
 rw [m5 hk]; exact ch3.1 h.1.2 _ (ci6 hk)
theorem aF7 (h : i5 nv na (d + 1) e = true) (k : e.kind = 3) : 0 < e.kids.length := by
 have := aU1 h
 simp [R6, t3, k] at this; omega
end
theorem aQ2 {x : Int} (h : f8 x = true) : x = 0 ∨ x = 1 ∨ x = 2 ∨ x = 3 := by simp [f8] at h; omega
theorem J1 (l : Int) : j9.ok Tryz.prog (T6 158 [iA l] [] (bA (f8 l && decide (l % 2 = 1)))) := by
 refine F9 10 Tryz.func158 [] [(0, iA l)] fun G => ?_; refine wp_seq (k8 G f7 [(2, bA false)] fun G => b6 (wp_seq ?_)); cases h0 : (f8 l)
 ·refine k8 G (F5 (t5 1 [] (C6 l) F4) (fc h0 fz) [(3, 0), (4, 0), (5, 0), (1006, 0)]) [] fun G => b6 (wp_ret ?_); exact M4 G []
 ·refine k8 G (F5 (t5 1 [] (C6 l) F4) (fc h0 fz) [(3, 0), (4, 0), (5, 0), (1006, 0)]) [(2, bA (bO7 l 1 == 1))] fun G => b6 (wp_ret ?_); exact J3 (bO7 l 1 == 1) G [] (by rcases aQ2 h0 with rfl | rfl | rfl | rfl <;> kernel_rfl)
theorem aj8 (l : Int) : j9.ok Tryz.prog (T6 256 [iA l] [] (bA (f8 l && decide (l ≤ 1)))) := by
 refine F9 10 Tryz.func256 [] [(0, iA l)] fun G => ?_; refine wp_seq (k8 G f7 [(2, bA false)] fun G => b6 (wp_seq ?_)); cases h0 : (f8 l)
 ·refine k8 G (F5 (t5 1 [] (C6 l) F4) (fc h0 fz) [(3, 0), (4, 0), (5, 0), (1006, 0)]) [] fun G => b6 (wp_ret ?_); exact M4 G []
 ·refine k8 G (F5 (t5 1 [] (C6 l) F4) (fc h0 fz) [(3, 0), (4, 0), (5, 0), (1006, 0)]) [(2, bA (bO7 l 2 == 0))] fun G => b6 (wp_ret ?_); exact J3 (bO7 l 2 == 0) G [] (by rcases aQ2 h0 with rfl | rfl | rfl | rfl <;> kernel_rfl)
theorem at2 (x y : Int) : j9.ok Tryz.prog (T6 255 [iA x, iA y] [] (bA (f8 x && f8 y && (l4 x y == y)))) := by
  refine F9 18 Tryz.func255 [] [(0, iA x), (1, iA y)] fun G => ?_; refine wp_seq (k8 G f7 [(4, bA false)] fun G => b6 (wp_seq ?_)); cases h0 : (f8 x)
  · refine k8 G (F5 (t5 1 [] (C6 x) F4) (fc h0 (fc (b := false) rfl fz)) (us [(3, 4, 0), (1005, 1005, 0), (7, 11, 1), (1012, 1012, 1)])) [] fun G => b6 (wp_ret ?_); exact M4 G []
  ·
   cases h1 : (f8 y)
   · refine k8 G (F5 (t5 1 [] (C6 x) (t5 4 [] (C6 y) F4)) (fc h0 (fc h1 fz)) (us [(3, 4, 0), (1005, 1005, 0), (7, 11, 1), (1012, 1012, 1)])) [] fun G => b6 (wp_ret ?_); exact M4 G []
   · refine k8 G (F5 (t5 1 [] (C6 x) (t5 4 [] (C6 y) F4)) (fc h0 (fc h1 fz)) (us [(3, 4, 0), (1005, 1005, 0), (7, 11, 1), (1012, 1012, 1)])) [(4, bA (l4 x y == y))] fun G => b6 (wp_ret ?_); exact M4 G []
theorem Q1 {x : Int} (h : f8 x = true) : ∃ a : Fin 4, x = (a.val : Int) := by
 simp [f8] at h
 exact ⟨⟨x.toNat, by omega⟩, by simp; omega⟩
theorem be5 (p : i6) (d : Nat) (ih : ∀ (e : c6), i5 p.vars.length p.arrays.length d e = true → j9.ok Tryz.prog (T6 159 [pA 0, eA e 3] (pS p ++ eS e) (iA (i9 p.vars p.arrays d e))))
    (e : c6) (he : i5 p.vars.length p.arrays.length (d + 1) e = true) : j9.ok Tryz.prog (T6 159 [pA 0, eA e 3] (pS p ++ eS e) (iA (i9 p.vars p.arrays (d + 1) e))) := by
  refine F9 42 Tryz.func159 [dI p.vars, dI p.arrays, dT p.body, dE e.kids] [(0, pA 0), (1, eA e 3)] fun G => ?_; refine wp_seq (j7 G f7 [0, 1, 2, 3, 4, 12] [dI p.vars, dI p.arrays, dT p.body, dE e.kids, .box (pL 0), .box (eL e 3)] [(2, .ptr 4 0), (3, .ptr 5 0), (4, iA 0)] fun G => b6 (wp_seq (k8 G f7 [(5, iA 0)] fun G => b6 (wp_seq (wp_seq (k8 G f7 [(8, iA e.kind)] fun G => b6 (wp_block (wp_seq (k8 G f7 [(9, bA (e.kind == 2))] fun G => b6 (J4 G (fun h0 q0 => ?_) fun h0 q0 => ?_))))))))))
  ·
   refine wp_seq (k8 G f7 [(17, bA (e.kind == 3))] fun G => b6 (J4 G (fun h1 q1 => ?_) fun h1 q1 => ?_))
   ·
    refine wp_skip (l0 (b6 (wp_seq (wp_seq (D7 G f7 [(2, .ptr 4 0), (3, .ptr 5 0), (4, iA 0), (5, iA 0), (6, iA 0)] fun G => b6 (wp_block ?_)))))); refine s8 (κ := Nat) (fun k => k ≤ e.kids.length) (fun k => e.kids.length - k) (fun k => [dI p.vars, dI p.arrays, dT p.body, dE e.kids, .box (pL 0), .box (eL e 3)]) (fun k => [(2, .ptr 4 0), (3, .ptr 5 0), (4, iA 0), (5, iA (D4 p.vars p.arrays d 0 e.kids k)), (6, iA k)]) 0 (by omega) (t7.at G _ _) ?_; clear G; intro k ρ a w hp G; have hlen : e.kids.length ≤ 9223372036854775807 := G.len 3 (d := .exprs e.kids) (by kernel_rfl); refine wp_seq (wp_seq (D7 G f7 [(2, .ptr 4 0), (3, .ptr 5 0), (4, iA 0), (5, iA (D4 p.vars p.arrays d 0 e.kids k)), (6, iA k), (29, bA (decide ((k : Int) < e.kids.length)))] fun G => b6 (rcD G (fun h2 q2 => ?_) fun h2 q2 => ?_)))
    · refine wp_exit (s4 (s4 (r8 (b6 (wp_seq (j7 G f7 (rg 4) [dI p.vars, dI p.arrays, dT p.body, dE e.kids] [(4, iA (D4 p.vars p.arrays d 0 e.kids k))] fun G => b6 (wp_ret ?_))))))); exact X9 (D4 p.vars p.arrays d 0 e.kids k) G (rg 4) (ac5 (by omega) (by simp [az9, h0, q0, h1, q1, h2, q2]; done))
    · refine wp_skip (b6 (wp_seq (wp_block (af7 G (s6 7 [0, 1, 2, 54] (ih (e.kids.getD k cg3) (Y8 he (by omega)))) [0, 0, 0, 4, 0, 28, 60, 126, 255, 511] [(5, iA (l4 (D4 p.vars p.arrays d 0 e.kids k) (i9 p.vars p.arrays d (e.kids.getD k cg3))))] (iX k k e.kids.length []) (iK (by omega) ch8) fun G => l0 (b6 (E1 G f7 [(6, iA ((k : Int) + 1))] [wO ((k : Int) + 1)] (o1 (by omega)) fun G => b6 ?_)))))); exact I6 G (k + 1) (by omega) (by omega) (rg 6) (ht := by have e1 : (D4 p.vars p.arrays d 0 e.kids (k + 1) : Int) = (l4 (D4 p.vars p.arrays d 0 e.kids k) (i9 p.vars p.arrays d (e.kids.getD k cg3))) := (Y1 (by omega)); (first | rw [e1] | simp only [e1]) <;> rfl)
   ·
    refine E1 G f7 [(5, iA (p.arrays.getD e.value.toNat 0))] [(0 : Int) ≤ e.value, e.value < (p.arrays.length : Int), e.value.toNat < p.arrays.length] ⟨((av0 he (by assumption)).1), ((av0 he (by assumption)).2.1), ((av0 he (by assumption)).2.2), ch8⟩ fun G => l0 (b6 (wp_seq (wp_seq (D7 G f7 [(2, .ptr 4 0), (3, .ptr 5 0), (4, iA 0), (5, iA (p.arrays.getD e.value.toNat 0)), (6, iA 0)] fun G => b6 (wp_block ?_))))); refine s8 (κ := Nat) (fun k => k ≤ e.kids.length) (fun k => e.kids.length - k) (fun k => [dI p.vars, dI p.arrays, dT p.body, dE e.kids, .box (pL 0), .box (eL e 3)]) (fun k => [(2, .ptr 4 0), (3, .ptr 5 0), (4, iA 0), (5, iA (D4 p.vars p.arrays d (p.arrays.getD e.value.toNat 0) e.kids k)), (6, iA k)]) 0 (by omega) (t7.at G _ _) ?_; clear G; intro k ρ a w hp G; have hlen : e.kids.length ≤ 9223372036854775807 := G.len 3 (d := .exprs e.kids) (by kernel_rfl); refine wp_seq (wp_seq (D7 G f7 [(2, .ptr 4 0), (3, .ptr 5 0), (4, iA 0), (5, iA (D4 p.vars p.arrays d (p.arrays.getD e.value.toNat 0) e.kids k)), (6, iA k), (29, bA (decide ((k : Int) < e.kids.length)))] fun G => b6 (rcD G (fun h3 q3 => ?_) fun h3 q3 => ?_)))
    · refine wp_exit (s4 (s4 (r8 (b6 (wp_seq (j7 G f7 (rg 4) [dI p.vars, dI p.arrays, dT p.body, dE e.kids] [(4, iA (D4 p.vars p.arrays d (p.arrays.getD e.value.toNat 0) e.kids k))] fun G => b6 (wp_ret ?_))))))); exact X9 (D4 p.vars p.arrays d (p.arrays.getD e.value.toNat 0) e.kids k) G (rg 4) (ac5 (by omega) (by simp [az9, h0, q0, h1, q1, h3, q3]; done))
    · refine wp_skip (b6 (wp_seq (wp_block (af7 G (s6 7 [0, 1, 2, 54] (ih (e.kids.getD k cg3) (Y8 he (by omega)))) [0, 0, 0, 4, 0, 28, 60, 126, 255, 511] [(5, iA (l4 (D4 p.vars p.arrays d (p.arrays.getD e.value.toNat 0) e.kids k) (i9 p.vars p.arrays d (e.kids.getD k cg3))))] (iX k k e.kids.length []) (iK (by omega) ch8) fun G => l0 (b6 (E1 G f7 [(6, iA ((k : Int) + 1))] [wO ((k : Int) + 1)] (o1 (by omega)) fun G => b6 ?_)))))); exact I6 G (k + 1) (by omega) (by omega) (rg 6) (ht := by have e1 : (D4 p.vars p.arrays d (p.arrays.getD e.value.toNat 0) e.kids (k + 1) : Int) = (l4 (D4 p.vars p.arrays d (p.arrays.getD e.value.toNat 0) e.kids k) (i9 p.vars p.arrays d (e.kids.getD k cg3))) := (Y1 (by omega)); (first | rw [e1] | simp only [e1]) <;> rfl)
  ·
   refine E1 G f7 [(5, iA (p.vars.getD e.value.toNat 0))] [(0 : Int) ≤ e.value, e.value < (p.vars.length : Int), e.value.toNat < p.vars.length] ⟨((au9 he (by assumption)).1), ((au9 he (by assumption)).2.1), ((au9 he (by assumption)).2.2), ch8⟩ fun G => l0 (b6 (wp_seq (wp_seq (D7 G f7 [(2, .ptr 4 0), (3, .ptr 5 0), (4, iA 0), (5, iA (p.vars.getD e.value.toNat 0)), (6, iA 0)] fun G => b6 (wp_block ?_))))); refine s8 (κ := Nat) (fun k => k ≤ e.kids.length) (fun k => e.kids.length - k) (fun k => [dI p.vars, dI p.arrays, dT p.body, dE e.kids, .box (pL 0), .box (eL e 3)]) (fun k => [(2, .ptr 4 0), (3, .ptr 5 0), (4, iA 0), (5, iA (D4 p.vars p.arrays d (p.vars.getD e.value.toNat 0) e.kids k)), (6, iA k)]) 0 (by omega) (t7.at G _ _) ?_; clear G; intro k ρ a w hp G; have hlen : e.kids.length ≤ 9223372036854775807 := G.len 3 (d := .exprs e.kids) (by kernel_rfl); refine wp_seq (wp_seq (D7 G f7 [(2, .ptr 4 0), (3, .ptr 5 0), (4, iA 0), (5, iA (D4 p.vars p.arrays d (p.vars.getD e.value.toNat 0) e.kids k)), (6, iA k), (29, bA (decide ((k : Int) < e.kids.length)))] fun G => b6 (rcD G (fun h4 q4 => ?_) fun h4 q4 => ?_)))
   · refine wp_exit (s4 (s4 (r8 (b6 (wp_seq (j7 G f7 (rg 4) [dI p.vars, dI p.arrays, dT p.body, dE e.kids] [(4, iA (D4 p.vars p.arrays d (p.vars.getD e.value.toNat 0) e.kids k))] fun G => b6 (wp_ret ?_))))))); exact X9 (D4 p.vars p.arrays d (p.vars.getD e.value.toNat 0) e.kids k) G (rg 4) (ac5 (by omega) (by simp [az9, h0, q0, h4, q4]; done))
   · refine wp_skip (b6 (wp_seq (wp_block (af7 G (s6 7 [0, 1, 2, 54] (ih (e.kids.getD k cg3) (Y8 he (by omega)))) [0, 0, 0, 4, 0, 28, 60, 126, 255, 511] [(5, iA (l4 (D4 p.vars p.arrays d (p.vars.getD e.value.toNat 0) e.kids k) (i9 p.vars p.arrays d (e.kids.getD k cg3))))] (iX k k e.kids.length []) (iK (by omega) ch8) fun G => l0 (b6 (E1 G f7 [(6, iA ((k : Int) + 1))] [wO ((k : Int) + 1)] (o1 (by omega)) fun G => b6 ?_)))))); exact I6 G (k + 1) (by omega) (by omega) (rg 6) (ht := by have e1 : (D4 p.vars p.arrays d (p.vars.getD e.value.toNat 0) e.kids (k + 1) : Int) = (l4 (D4 p.vars p.arrays d (p.vars.getD e.value.toNat 0) e.kids k) (i9 p.vars p.arrays d (e.kids.getD k cg3))) := (Y1 (by omega)); (first | rw [e1] | simp only [e1]) <;> rfl)
theorem aK6 (p : i6) : ∀ (d : Nat) (e : c6), i5 p.vars.length p.arrays.length d e = true → j9.ok Tryz.prog (T6 159 [pA 0, eA e 3] (pS p ++ eS e) (iA (i9 p.vars p.arrays d e))) := by
 intro d
 induction d with
 | zero => intro e h; simp [i5] at h
 | succ d ih => intro e h; exact be5 p d ih e h
def S6 (vs ars : List Int) : Nat → c6 → Bool
 | 0, _ => false
 | d + 1, e => (decide (e.kind = 3) && (f8 (i9 vs ars d (e.kids.getD 0 cg3)) && decide (i9 vs ars d (e.kids.getD 0 cg3) % 2 = 1))) || e.kids.any (S6 vs ars d)
section
variable {vs ars : List Int} {d : Nat} {e : c6}
theorem bT1 (k : e.kind = 3) (h : (f8 (i9 vs ars d (e.kids.getD 0 cg3)) && decide (i9 vs ars d (e.kids.getD 0 cg3) % 2 = 1)) = true) : S6 vs ars (d + 1) e = true := by rw [S6, h]; simp [k]
theorem bT2 (h : e.kids.any (S6 vs ars d) = false) (k : ¬ e.kind = 3) : S6 vs ars (d + 1) e = false := by rw [S6, h]; simp [k]
theorem bI6 (h : e.kids.any (S6 vs ars d) = false) (k : (f8 (i9 vs ars d (e.kids.getD 0 cg3)) && decide (i9 vs ars d (e.kids.getD 0 cg3) % 2 = 1)) = false) : S6 vs ars (d + 1) e = false := by rw [S6, h, k]; simp
end
theorem a78 {α : Type} {l : List α} {k : Nat} {p : α → Bool} {z : α} (h : (l.take k).any p = false) (hk : k < l.length) (hp : p (l.getD k z) = false) : (l.take (k + 1)).any p = false := by
 rw [H0 l k hk, List.any_append, h, ← m5 (d := z) hk, List.any_cons, hp]; rfl
theorem a79 {α : Type} {l : List α} {k : Nat} {p : α → Bool} (h : (l.take k).any p = false) (hk : l.length ≤ k) : l.any p = false := by
 rw [ch9 hk] at h; exact h
theorem bn2 {α : Type} {l : List α} {k : Nat} {p : α → Bool} {z : α} (hk : k < l.length) (hp : p (l.getD k z) = true) : l.any p = true := by
 rw [m5 hk] at hp
 exact List.any_eq_true.2 ⟨_, ci6 hk, hp⟩
theorem a67 (p : i6) (d : Nat) (ih : ∀ (e : c6), i5 p.vars.length p.arrays.length d e = true → j9.ok Tryz.prog (T6 257 [pA 0, eA e 3] (pS p ++ eS e) (bA (S6 p.vars p.arrays d e))))
    (ihl : ∀ (e : c6), i5 p.vars.length p.arrays.length d e = true → j9.ok Tryz.prog (T6 159 [pA 0, eA e 3] (pS p ++ eS e) (iA (i9 p.vars p.arrays d e))))
    (e : c6) (he : i5 p.vars.length p.arrays.length (d + 1) e = true) : j9.ok Tryz.prog (T6 257 [pA 0, eA e 3] (pS p ++ eS e) (bA (S6 p.vars p.arrays (d + 1) e))) := by
  refine F9 32 Tryz.func257 [dI p.vars, dI p.arrays, dT p.body, dE e.kids] [(0, pA 0), (1, eA e 3)] fun G => ?_; have hlen : e.kids.length ≤ 9223372036854775807 := G.len 3 (d := .exprs e.kids) (by kernel_rfl); refine wp_seq (j7 G f7 [0, 1, 2, 3, 4, 12] [dI p.vars, dI p.arrays, dT p.body, dE e.kids, .box (pL 0), .box (eL e 3)] [(2, .ptr 4 0), (3, .ptr 5 0), (4, bA false)] fun G => b6 (wp_seq (wp_seq ?_))); cases h0 : (e.kind == 3)
  ·
   have q0 := ne_of_beq_false h0; refine bp5 G (H8 (fc h0 fz) (us [(4, 10, 0), (1011, 1011, 0)])) [0, 1, 3, 7, 15, 15, 47, 111, 239, 511, 1023, 2047] [(17, bA false)] fun G => b6 (rF G false (by kernel_rfl) (wp_skip (b6 (wp_seq (wp_seq (D7 G f7 [(2, .ptr 4 0), (3, .ptr 5 0), (4, bA false), (5, iA 0)] fun G => b6 (wp_block ?_))))))); refine s8 (κ := Nat) (fun k => k ≤ e.kids.length ∧ (e.kids.take k).any (S6 p.vars p.arrays d) = false) (fun k => e.kids.length - k) (fun k => [dI p.vars, dI p.arrays, dT p.body, dE e.kids, .box (pL 0), .box (eL e 3)]) (fun k => [(2, .ptr 4 0), (3, .ptr 5 0), (4, bA false), (5, iA k)]) 0 (by simp [he, h0]) (t7.at G _ _) ?_; clear G; intro k ρ a w hp G; refine wp_seq (wp_seq (k8 G f7 [(22, bA (decide ((k : Int) < e.kids.length)))] fun G => b6 (rcD G (fun h2 q2 => ?_) fun h2 q2 => ?_)))
   · refine wp_exit (s4 (s4 (r8 (b6 (wp_seq (j7 G f7 (rg 4) [dI p.vars, dI p.arrays, dT p.body, dE e.kids] [(4, bA false)] fun G => b6 (wp_ret ?_))))))); exact J3 false G (rg 4) (bT2 (a79 hp.2 (by omega)) (by assumption))
   ·
    refine wp_skip (b6 (wp_seq (wp_block (wp_seq (af7 G (s6 6 [0, 1, 2, 46] (ih (e.kids.getD k cg3) (Y8 he (by omega)))) [0, 0, 2, 0, 14, 30, 63] [(31, bA (S6 p.vars p.arrays d (e.kids.getD k cg3)))] (iX k k e.kids.length []) (iK (by omega) ch8) fun G => b6 (rcB G (fun h3 => ?_) fun h3 => ?_))))))
    · refine wp_skip (l0 (b6 (E1 G f7 [(5, iA ((k : Int) + 1))] [wO ((k : Int) + 1)] (o1 (by omega)) fun G => b6 ?_))); exact I6 G (k + 1) (⟨by omega, a78 hp.2 (by omega) (by assumption)⟩) (by omega) (rg 6)
    · refine wp_seq (k8 G f7 [(4, bA true)] fun G => b6 (wp_ret (z4 (l5 (l5 (z4 (l5 ?_))))))); exact J3 true G (rg 4) (by rw [S6, bn2 (k := k) (by omega) (by assumption), Bool.or_true])
  ·
   have q0 := eq_of_beq h0; refine af7 G (F5 (t5 9 [0, 1, 2, 70] (ihl (e.kids.getD 0 cg3) (Y8 he (aF7 he (by assumption)))) (t5 10 [] (J1 (i9 p.vars p.arrays d (e.kids.getD 0 cg3))) F4)) (fc h0 fz) (us [(4, 10, 0), (1011, 1011, 0)])) [0, 1, 3, 7, 15, 15, 47, 111, 239, 511, 1023, 2047] [(17, bA (f8 (i9 p.vars p.arrays d (e.kids.getD 0 cg3)) && decide (i9 p.vars p.arrays d (e.kids.getD 0 cg3) % 2 = 1)))] (iX 0 0 e.kids.length []) (iK (by have := aF7 he (by assumption); omega) ch8) fun G => b6 ?_; cases h1 : (f8 (i9 p.vars p.arrays d (e.kids.getD (0 : Nat) cg3)) && decide (i9 p.vars p.arrays d (e.kids.getD (0 : Nat) cg3) % (2 : Int) = 1))
   ·
    have q1 : ((f8 (i9 p.vars p.arrays d (e.kids.getD 0 cg3))) = false) ∨ (¬ (i9 p.vars p.arrays d (e.kids.getD 0 cg3) % 2 = 1)) := Or.imp (fun hq => (hq)) (fun hq => of_decide_eq_false hq) (Bool.and_eq_false_iff.1 h1); refine rF G _ h1 (wp_skip (b6 (wp_seq (wp_seq (D7 G f7 [(2, .ptr 4 0), (3, .ptr 5 0), (4, bA false), (5, iA 0)] fun G => b6 (wp_block ?_)))))); refine s8 (κ := Nat) (fun k => k ≤ e.kids.length ∧ (e.kids.take k).any (S6 p.vars p.arrays d) = false) (fun k => e.kids.length - k) (fun k => [dI p.vars, dI p.arrays, dT p.body, dE e.kids, .box (pL 0), .box (eL e 3)]) (fun k => [(2, .ptr 4 0), (3, .ptr 5 0), (4, bA false), (5, iA k)]) 0 (by simp [he, h0, h1]) (t7.at G _ _) ?_; clear G; intro k ρ a w hp G; refine wp_seq (wp_seq (k8 G f7 [(22, bA (decide ((k : Int) < e.kids.length)))] fun G => b6 (rcD G (fun h4 q4 => ?_) fun h4 q4 => ?_)))
    · refine wp_exit (s4 (s4 (r8 (b6 (wp_seq (j7 G f7 (rg 4) [dI p.vars, dI p.arrays, dT p.body, dE e.kids] [(4, bA false)] fun G => b6 (wp_ret ?_))))))); exact J3 false G (rg 4) (bI6 (a79 hp.2 (by omega)) (by assumption))
    ·
     refine wp_skip (b6 (wp_seq (wp_block (wp_seq (af7 G (s6 6 [0, 1, 2, 46] (ih (e.kids.getD k cg3) (Y8 he (by omega)))) [0, 0, 2, 0, 14, 30, 63] [(31, bA (S6 p.vars p.arrays d (e.kids.getD k cg3)))] (iX k k e.kids.length []) (iK (by omega) ch8) fun G => b6 (rcB G (fun h5 => ?_) fun h5 => ?_))))))
     · refine wp_skip (l0 (b6 (E1 G f7 [(5, iA ((k : Int) + 1))] [wO ((k : Int) + 1)] (o1 (by omega)) fun G => b6 ?_))); exact I6 G (k + 1) (⟨by omega, a78 hp.2 (by omega) (by assumption)⟩) (by omega) (rg 6)
     · refine wp_seq (k8 G f7 [(4, bA true)] fun G => b6 (wp_ret (z4 (l5 (l5 (z4 (l5 ?_))))))); exact J3 true G (rg 4) (by rw [S6, bn2 (k := k) (by omega) (by assumption), Bool.or_true])
   · have q1 : ((f8 (i9 p.vars p.arrays d (e.kids.getD 0 cg3))) = true) ∧ (i9 p.vars p.arrays d (e.kids.getD 0 cg3) % 2 = 1) := And.imp (fun hq => (hq)) (fun hq => of_decide_eq_true hq) (Bool.and_eq_true_iff.1 h1); refine rT G _ h1 (wp_seq (k8 G f7 [(4, bA true)] fun G => b6 (wp_ret (l5 ?_)))); exact J3 true G (rg 4) (bT1 (by assumption) (by assumption))
def flB (x y : Int) : Bool := f8 x && f8 y && (l4 x y == y)
abbrev m7 (p : i6) (e : c6) : Int := i9 p.vars p.arrays 5 e
def ab5 (x : Int) : Bool := f8 x && decide (x % 2 = 1)
def Q2 (p : i6) (s : c5) (pc : Int) : Int :=
 if s.kind = 1 then if flB (l4 (m7 p s.value) pc) (p.vars.getD s.target.toNat 0) then 0 else 1
 else if s.kind = 2 then if flB (l4 (l4 (m7 p s.value) (m7 p s.index)) pc) (p.arrays.getD s.target.toNat 0) then 0 else 1
 else if s.kind = 5 then if (f8 (m7 p s.value) && decide (m7 p s.value ≤ 1)) && decide (pc = 0) then 0 else 2
 else 0
def an2 (p : i6) (s : c5) : Int :=
 if s.kind = 3 ∧ ab5 (m7 p s.value) = true then 3
 else if (s.kind ≠ 4 ∧ S6 p.vars p.arrays 5 s.value = true) ∨ (s.kind = 2 ∧ ab5 (m7 p s.index) = true) then 4 else 0
def aa2 (p : i6) (s : c5) (pc : Int) (strict : Bool) : Int := if Q2 p s pc = 0 then (if strict then an2 p s else 0) else Q2 p s pc
theorem N1 (p : i6) (e : c6) (he : i5 p.vars.length p.arrays.length 5 e = true) : j9.ok Tryz.prog (T6 159 [pA 0, eA e 3] (pS p ++ eS e) (iA (m7 p e))) := aK6 p 5 e he
theorem a68 (p : i6) : ∀ (d : Nat) (e : c6), i5 p.vars.length p.arrays.length d e = true → j9.ok Tryz.prog (T6 257 [pA 0, eA e 3] (pS p ++ eS e) (bA (S6 p.vars p.arrays d e))) := by
 intro d
 induction d with
 | zero => intro e h; simp [i5] at h
 | succ d ih => intro e h; exact a67 p d ih (aK6 p d) e h
theorem F0 (p : i6) (e : c6) (he : i5 p.vars.length p.arrays.length 5 e = true) : j9.ok Tryz.prog (T6 257 [pA 0, eA e 3] (pS p ++ eS e) (bA (S6 p.vars p.arrays 5 e))) := a68 p 5 e he
section
variable {nv na : Nat} {s : c5}
theorem ah9 {e : c6} (h : r9 nv na e = true) : i5 nv na 5 e = true := by unfold r9 at h; simp only [cg5] at h; exact h.1
variable (h : D8 nv na s = true)
include h
theorem z8 (k : ¬ s.kind = 4) : i5 nv na 5 s.value = true := by
 apply ah9
 by_cases k1 : s.kind = 1 ∨ s.kind = 5
 ·rw [bC6 k1] at h; simp only [cg5] at h; exact h.2.2
 by_cases k2 : s.kind = 2
 ·rw [a46 k2] at h; simp only [cg5] at h; exact h.2.2.2
 by_cases k3 : s.kind = 3
 ·rw [bQ9 k3] at h; simp only [cg5] at h; exact h.2.2
 ·rw [an3 (by omega)] at h; cases h
theorem aJ1 (k : s.kind = 2) : i5 nv na 5 s.index = true := by
 rw [a46 k] at h; simp only [cg5] at h; exact ah9 h.2.1
theorem aJ0 (k : s.kind = 1 ∨ s.kind = 5) : 0 ≤ s.target ∧ s.target < nv ∧ s.target.toNat < nv := by
 rw [bC6 k] at h; simp only [cg5, decide_eq_true_eq] at h; omega
theorem aJ2 (k : s.kind = 2) : 0 ≤ s.target ∧ s.target < na ∧ s.target.toNat < na := by
 rw [a46 k] at h; simp only [cg5, decide_eq_true_eq] at h; omega
end
section
variable {p : i6} {s : c5} {pc : Int} {strict : Bool} {x : Int}
theorem ar7 (h : Q2 p s pc = x) (hx : x ≠ 0) : aa2 p s pc strict = x := by rw [aa2, h, if_neg hx]
theorem ai5 (h : Q2 p s pc = 0) : aa2 p s pc false = 0 := by rw [aa2, h]; rfl
theorem z7 (h : Q2 p s pc = 0) (hl : an2 p s = x) : aa2 p s pc true = x := by rw [aa2, h, hl]; rfl
theorem bX3 (k : s.kind = 1) (h : (!(f8 (l4 (m7 p s.value) pc) && f8 (p.vars.getD s.target.toNat 0) && (l4 (l4 (m7 p s.value) pc) (p.vars.getD s.target.toNat 0) == (p.vars.getD s.target.toNat 0)))) = false) : Q2 p s pc = 0 := by rw [Q2, if_pos k, if_pos (by unfold flB; first | (rw [cj0] at h; exact h) | (rw [ci3] at h; rw [h]; simp))]
theorem cf5 (k : s.kind = 1) (h : (!(f8 (l4 (m7 p s.value) pc) && f8 (p.vars.getD s.target.toNat 0) && (l4 (l4 (m7 p s.value) pc) (p.vars.getD s.target.toNat 0) == (p.vars.getD s.target.toNat 0)))) = true) : Q2 p s pc = 1 := by rw [Q2, if_pos k, if_neg (by unfold flB; first | (rw [cj0] at h; exact h) | (rw [ci3] at h; rw [h]; simp))]
theorem bM2 (k : s.kind = 2) (h : (!(f8 (l4 (l4 (m7 p s.value) (m7 p s.index)) pc) && f8 (p.arrays.getD s.target.toNat 0) && (l4 (l4 (l4 (m7 p s.value) (m7 p s.index)) pc) (p.arrays.getD s.target.toNat 0) == (p.arrays.getD s.target.toNat 0)))) = false) : Q2 p s pc = 0 := by rw [Q2, if_neg (by omega), if_pos k, if_pos (by unfold flB; first | (rw [cj0] at h; exact h) | (rw [ci3] at h; rw [h]; simp))]
theorem cf4 (k : s.kind = 2) (h : (!(f8 (l4 (l4 (m7 p s.value) (m7 p s.index)) pc) && f8 (p.arrays.getD s.target.toNat 0) && (l4 (l4 (l4 (m7 p s.value) (m7 p s.index)) pc) (p.arrays.getD s.target.toNat 0) == (p.arrays.getD s.target.toNat 0)))) = true) : Q2 p s pc = 1 := by rw [Q2, if_neg (by omega), if_pos k, if_neg (by unfold flB; first | (rw [cj0] at h; exact h) | (rw [ci3] at h; rw [h]; simp))]
theorem bX2 (k : s.kind = 5) (h : (!(f8 (m7 p s.value) && decide (m7 p s.value ≤ 1))) = false) (h2 : pc = 0) : Q2 p s pc = 0 := by
 rw [cj0] at h
 rw [Q2, if_neg (by omega), if_neg (by omega), if_pos k, h, decide_eq_true h2]; rfl
theorem b74 (k : s.kind = 5) (h : (!(f8 (m7 p s.value) && decide (m7 p s.value ≤ 1))) = true ∨ ¬ pc = 0) : Q2 p s pc = 2 := by
 rw [Q2, if_neg (by omega), if_neg (by omega), if_pos k]
 rcases h with h | h
 ·rw [ci3] at h
  rw [h]; rfl
 ·rw [decide_eq_false h, Bool.and_false]; rfl
theorem fl0 (k : ¬ s.kind = 1 ∧ ¬ s.kind = 2 ∧ ¬ s.kind = 5) : Q2 p s pc = 0 := by rw [Q2, if_neg k.1, if_neg k.2.1, if_neg k.2.2]
theorem lk3 (k : s.kind = 3) (h : (f8 (m7 p s.value) && decide (m7 p s.value % 2 = 1)) = true) : an2 p s = 3 := by rw [an2, if_pos ⟨k, (show ab5 _ = true from h)⟩]
theorem lkv (h3 : ¬ s.kind = 3 ∨ (f8 (m7 p s.value) && decide (m7 p s.value % 2 = 1)) = false) (k : ¬ s.kind = 4) (h : S6 p.vars p.arrays 5 s.value = true) : an2 p s = 4 := by
 rw [an2, if_neg (by rintro ⟨a, b⟩; exact h3.elim (fun h => h a) (fun h => Bool.false_ne_true (h.symm.trans b))), if_pos (.inl ⟨k, h⟩)]
theorem lki (k : s.kind = 2) (h : (f8 (m7 p s.index) && decide (m7 p s.index % 2 = 1)) = true) : an2 p s = 4 := by
 rw [an2, if_neg (by omega), if_pos (.inr ⟨k, (show ab5 _ = true from h)⟩)]
theorem lk0 (h3 : ¬ s.kind = 3 ∨ (f8 (m7 p s.value) && decide (m7 p s.value % 2 = 1)) = false) (h4 : s.kind = 4 ∨ S6 p.vars p.arrays 5 s.value = false) (h2 : ¬ s.kind = 2 ∨ (f8 (m7 p s.index) && decide (m7 p s.index % 2 = 1)) = false) : an2 p s = 0 := by
 rw [an2, if_neg (by rintro ⟨a, b⟩; exact h3.elim (fun h => h a) (fun h => Bool.false_ne_true (h.symm.trans b))), if_neg]
 rintro (⟨a, b⟩ | ⟨a, b⟩)
 ·rcases h4 with h | h
  ·exact a h
  ·rw [h] at b; cases b
 ·rcases h2 with h | h
  ·exact h a
  ·exact Bool.false_ne_true (h.symm.trans b)
end
abbrev R4 (p : i6) (s : c5) (r0 : List It) : List It := dI p.vars :: dI p.arrays :: dT p.body :: dE s.index.kids :: dE s.value.kids :: dT s.body :: dT s.els :: r0
theorem bO0 (p : i6) (s : c5) (pc : Int) (strict : Bool) (h : D8 p.vars.length p.arrays.length s = true) : j9.ok Tryz.prog (T6 241 [pA 0, sA s 3, iA pc, bA strict] (pS p ++ sS s) (iA (aa2 p s pc strict))) := by
  refine F9 94 Tryz.func241 (R4 p s []) [(0, pA 0), (1, sA s 3), (2, iA pc), (3, bA strict)] fun G => ?_; refine wp_seq (j7 G f7 [0, 1, 2, 3, 4, 5, 6, 7, 15] (R4 p s [.box (pL 0), .box (sL s 3)]) [(2, iA pc), (3, bA strict), (4, .ptr 7 0), (5, .ptr 8 0), (8, iA 0)] fun G => b6 (wp_seq (wp_seq (k8 G f7 [(10, iA s.kind)] fun G => b6 (wp_block (wp_seq (k8 G f7 [(11, bA (s.kind == 1))] fun G => b6 (J4 G (fun h0 q0 => ?_) fun h0 q0 => ?_))))))))
  ·
   refine wp_seq (k8 G f7 [(27, bA (s.kind == 2))] fun G => b6 (J4 G (fun h1 q1 => ?_) fun h1 q1 => ?_))
   ·
    refine wp_seq (k8 G f7 [(48, bA (s.kind == 5))] fun G => b6 (J4 G (fun h2 q2 => ?_) fun h2 q2 => ?_))
    ·
     refine wp_seq (k8 G f7 [(60, bA (s.kind == 3))] fun G => b6 (J4 G (fun h3 q3 => ?_) fun h3 q3 => ?_))
     ·
      refine wp_skip (l0 (b6 (wp_seq (wp_seq ?_)))); cases h4 : (strict)
      · refine j7 G (H8 (fc h4 fz) (us [(2, 5, 0), (10, 11, 0), (22, 22, 0), (1023, 1023, 0)])) (rg 7) (R4 p s []) [(8, iA 0), (93, bA false)] fun G => b6 (rF G false (by kernel_rfl) (wp_skip (b6 (wp_seq (k8 G f7 [] fun G => b6 (wp_ret ?_)))))); exact X9 0 G (rg 7) (ai5 (fl0 (by omega)))
      ·
       cases h5 : (s.kind != 4)
       · have q5 := bne_eq_false_iff_eq.1 h5; refine j7 G (H8 (fc h4 (fc h5 (fc (b := false) rfl (fc h1 fz)))) (us [(2, 5, 0), (6, 9, 1), (10, 10, 0), (1010, 1010, 1), (11, 11, 0), (12, 15, 2), (16, 20, 3), (21, 21, 2), (1021, 1021, 3), (22, 22, 0), (1022, 1022, 2), (1023, 1023, 0)])) (rg 7) (R4 p s []) [(8, iA 0), (93, bA false)] fun G => b6 (rF G false (by kernel_rfl) (wp_skip (b6 (wp_seq (k8 G f7 [] fun G => b6 (wp_ret ?_)))))); exact X9 0 G (rg 7) (z7 (fl0 (by omega)) (lk0 (by exact .inl (by omega)) (by exact .inl (by omega)) (by exact .inl (by omega))))
       ·
        have q5 := bne_iff_ne.1 h5; cases h6 : (S6 p.vars p.arrays (5 : Nat) s.value)
        · refine j7 G (F5 (t5 9 [0, 1, 2, 4] (F0 p s.value (z8 h (by omega))) F4) (fc h4 (fc h5 (fc h6 (fc h1 fz)))) (us [(2, 5, 0), (6, 9, 1), (10, 10, 0), (1010, 1010, 1), (11, 11, 0), (12, 15, 2), (16, 20, 3), (21, 21, 2), (1021, 1021, 3), (22, 22, 0), (1022, 1022, 2), (1023, 1023, 0)])) (rg 7) (R4 p s []) [(8, iA 0), (93, bA false)] fun G => b6 (rF G false (by kernel_rfl) (wp_skip (b6 (wp_seq (k8 G f7 [] fun G => b6 (wp_ret ?_)))))); exact X9 0 G (rg 7) (z7 (fl0 (by omega)) (lk0 (by exact .inl (by omega)) (by exact .inr (by with_reducible assumption)) (by exact .inl (by omega))))
        · refine j7 G (F5 (t5 9 [0, 1, 2, 4] (F0 p s.value (z8 h (by omega))) F4) (fc h4 (fc h5 (fc h6 fz))) (us [(2, 5, 0), (6, 9, 1), (10, 10, 0), (1010, 1010, 1), (11, 11, 0), (12, 15, 2), (21, 21, 2), (22, 22, 0), (1022, 1022, 2), (1023, 1023, 0)])) (rg 7) (R4 p s []) [(8, iA 0), (93, bA true)] fun G => b6 (rT G true (by kernel_rfl) (wp_seq (k8 G f7 [(8, iA 4)] fun G => b6 (wp_ret (l5 ?_))))); exact X9 4 G (rg 7) (z7 (fl0 (by omega)) (lkv (by exact .inl (by omega)) (by omega) (by with_reducible assumption)))
     ·
      refine wp_seq ?_; cases h7 : (strict)
      · refine k8 G (H8 (fc h7 fz) (us [(2, 6, 0), (1007, 1007, 0)])) [(69, bA false)] fun G => b6 (rF G false (by kernel_rfl) (wp_skip (l0 (b6 (wp_seq (wp_seq (j7 G (H8 (fc h7 fz) (us [(2, 5, 0), (10, 11, 0), (22, 22, 0), (1023, 1023, 0)])) (rg 7) (R4 p s []) [(8, iA 0), (93, bA false)] fun G => b6 (rF G false (by kernel_rfl) (wp_skip (b6 (wp_seq (k8 G f7 [] fun G => b6 (wp_ret ?_))))))))))))); exact X9 0 G (rg 7) (ai5 (fl0 (by omega)))
      ·
       refine D7 G (F5 (t5 5 [0, 1, 2, 4] (N1 p s.value (z8 h (by omega))) (t5 6 [] (J1 (m7 p s.value)) F4)) (fc h7 fz) (us [(2, 6, 0), (1007, 1007, 0)])) [(3, bA strict), (4, .ptr 7 0), (5, .ptr 8 0), (8, iA 0), (69, bA (f8 (m7 p s.value) && decide (m7 p s.value % 2 = 1)))] fun G => b6 ?_; cases h8 : (f8 (m7 p s.value) && decide (m7 p s.value % (2 : Int) = 1))
       ·
        have q8 : ((f8 (m7 p s.value)) = false) ∨ (¬ (m7 p s.value % 2 = 1)) := Or.imp (fun hq => (hq)) (fun hq => of_decide_eq_false hq) (Bool.and_eq_false_iff.1 h8); refine rF G _ h8 (wp_skip (l0 (b6 (wp_seq (wp_seq ?_))))); cases h9 : (s.kind != 4)
        · have q9 := bne_eq_false_iff_eq.1 h9; exact False.elim (by omega)
        ·
         have q9 := bne_iff_ne.1 h9; cases h10 : (S6 p.vars p.arrays (5 : Nat) s.value)
         · refine j7 G (F5 (t5 9 [0, 1, 2, 4] (F0 p s.value (z8 h (by omega))) F4) (fc h7 (fc h9 (fc h10 (fc h1 fz)))) (us [(2, 5, 0), (6, 9, 1), (10, 10, 0), (1010, 1010, 1), (11, 11, 0), (12, 15, 2), (16, 20, 3), (21, 21, 2), (1021, 1021, 3), (22, 22, 0), (1022, 1022, 2), (1023, 1023, 0)])) (rg 7) (R4 p s []) [(8, iA 0), (93, bA false)] fun G => b6 (rF G false (by kernel_rfl) (wp_skip (b6 (wp_seq (k8 G f7 [] fun G => b6 (wp_ret ?_)))))); exact X9 0 G (rg 7) (z7 (fl0 (by omega)) (lk0 (by exact .inr (by with_reducible assumption)) (by exact .inr (by with_reducible assumption)) (by exact .inl (by omega))))
         · refine j7 G (F5 (t5 9 [0, 1, 2, 4] (F0 p s.value (z8 h (by omega))) F4) (fc h7 (fc h9 (fc h10 fz))) (us [(2, 5, 0), (6, 9, 1), (10, 10, 0), (1010, 1010, 1), (11, 11, 0), (12, 15, 2), (21, 21, 2), (22, 22, 0), (1022, 1022, 2), (1023, 1023, 0)])) (rg 7) (R4 p s []) [(8, iA 0), (93, bA true)] fun G => b6 (rT G true (by kernel_rfl) (wp_seq (k8 G f7 [(8, iA 4)] fun G => b6 (wp_ret (l5 ?_))))); exact X9 4 G (rg 7) (z7 (fl0 (by omega)) (lkv (by exact .inr (by with_reducible assumption)) (by omega) (by with_reducible assumption)))
       · have q8 : ((f8 (m7 p s.value)) = true) ∧ (m7 p s.value % 2 = 1) := And.imp (fun hq => (hq)) (fun hq => of_decide_eq_true hq) (Bool.and_eq_true_iff.1 h8); refine rT G _ h8 (wp_seq (k8 G f7 [(8, iA 3)] fun G => b6 (wp_ret (z4 (l5 ?_))))); exact X9 3 G (rg 7) (z7 (fl0 (by omega)) (lk3 (by with_reducible assumption) (by with_reducible assumption)))
    ·
     refine wp_seq ?_; cases h11 : (!(f8 (m7 p s.value) && decide (m7 p s.value ≤ 1)))
     ·
      have q11 : ((f8 (m7 p s.value)) = true) ∧ (m7 p s.value ≤ 1) := (fun hq => And.imp (fun hq => (hq)) (fun hq => of_decide_eq_true hq) (Bool.and_eq_true_iff.1 hq)) (Eq.mp (cj0 _) h11); refine D7 G (F5 (t5 3 [0, 1, 2, 4] (N1 p s.value (z8 h (by omega))) (t5 4 [] (aj8 (m7 p s.value)) F4)) (fc h11 fz) [(7, 0), (8, 0), (1009, 0)]) [(3, bA strict), (4, .ptr 7 0), (5, .ptr 8 0), (8, iA 0), (59, bA (pc != 0))] fun G => b6 (rcN G (fun h12 q12 => ?_) fun h12 q12 => ?_)
      ·
       refine wp_skip (l0 (b6 (wp_seq (wp_seq ?_)))); cases h13 : (strict)
       · refine j7 G (H8 (fc h13 fz) (us [(2, 5, 0), (10, 11, 0), (22, 22, 0), (1023, 1023, 0)])) (rg 7) (R4 p s []) [(8, iA 0), (93, bA false)] fun G => b6 (rF G false (by kernel_rfl) (wp_skip (b6 (wp_seq (k8 G f7 [] fun G => b6 (wp_ret ?_)))))); exact X9 0 G (rg 7) (ai5 (bX2 (by with_reducible assumption) (by with_reducible assumption) (by with_reducible assumption)))
       ·
        cases h14 : (s.kind != 4)
        · have q14 := bne_eq_false_iff_eq.1 h14; exact False.elim (by omega)
        ·
         have q14 := bne_iff_ne.1 h14; cases h15 : (S6 p.vars p.arrays (5 : Nat) s.value)
         · refine j7 G (F5 (t5 9 [0, 1, 2, 4] (F0 p s.value (z8 h (by omega))) F4) (fc h13 (fc h14 (fc h15 (fc h1 fz)))) (us [(2, 5, 0), (6, 9, 1), (10, 10, 0), (1010, 1010, 1), (11, 11, 0), (12, 15, 2), (16, 20, 3), (21, 21, 2), (1021, 1021, 3), (22, 22, 0), (1022, 1022, 2), (1023, 1023, 0)])) (rg 7) (R4 p s []) [(8, iA 0), (93, bA false)] fun G => b6 (rF G false (by kernel_rfl) (wp_skip (b6 (wp_seq (k8 G f7 [] fun G => b6 (wp_ret ?_)))))); exact X9 0 G (rg 7) (z7 (bX2 (by with_reducible assumption) (by with_reducible assumption) (by with_reducible assumption)) (lk0 (by exact .inl (by omega)) (by exact .inr (by with_reducible assumption)) (by exact .inl (by omega))))
         · refine j7 G (F5 (t5 9 [0, 1, 2, 4] (F0 p s.value (z8 h (by omega))) F4) (fc h13 (fc h14 (fc h15 fz))) (us [(2, 5, 0), (6, 9, 1), (10, 10, 0), (1010, 1010, 1), (11, 11, 0), (12, 15, 2), (21, 21, 2), (22, 22, 0), (1022, 1022, 2), (1023, 1023, 0)])) (rg 7) (R4 p s []) [(8, iA 0), (93, bA true)] fun G => b6 (rT G true (by kernel_rfl) (wp_seq (k8 G f7 [(8, iA 4)] fun G => b6 (wp_ret (l5 ?_))))); exact X9 4 G (rg 7) (z7 (bX2 (by with_reducible assumption) (by with_reducible assumption) (by with_reducible assumption)) (lkv (by exact .inl (by omega)) (by omega) (by with_reducible assumption)))
      · refine wp_seq (k8 G f7 [(8, iA 2)] fun G => b6 (wp_ret (z4 (l5 ?_)))); exact X9 2 G (rg 7) (ar7 (b74 (by with_reducible assumption) (.inr (by with_reducible assumption))) (by decide))
     · have q11 : ((f8 (m7 p s.value)) = false) ∨ (¬ (m7 p s.value ≤ 1)) := (fun hq => Or.imp (fun hq => (hq)) (fun hq => of_decide_eq_false hq) (Bool.and_eq_false_iff.1 hq)) (Eq.mp (ci3 _) h11); refine k8 G (F5 (t5 3 [0, 1, 2, 4] (N1 p s.value (z8 h (by omega))) (t5 4 [] (aj8 (m7 p s.value)) F4)) (fc h11 fz) [(7, 0), (8, 0), (1009, 0)]) [(59, bA true)] fun G => b6 (rT G true (by kernel_rfl) (wp_seq (k8 G f7 [(8, iA 2)] fun G => b6 (wp_ret (z4 (l5 ?_)))))); exact X9 2 G (rg 7) (ar7 (b74 (by with_reducible assumption) (.inl (by with_reducible assumption))) (by decide))
   ·
    refine wp_seq (b33 G (F5 (t5 3 [0, 1, 2, 4] (N1 p s.value (z8 h (by omega))) (t5 7 (rg 4) (N1 p s.index (aJ1 h (by with_reducible assumption))) (t5 17 [] (at2 (l4 (l4 (m7 p s.value) (m7 p s.index)) pc) (p.arrays.getD s.target.toNat 0)) F4))) fz []) [0, 0, 2, 7, 0, 0, 32, 127, 255, 0, 1023, 0, 2048, 0, 8192, 30720, 63488, 131071, 262143] [(3, bA strict), (4, .ptr 7 0), (5, .ptr 8 0), (8, iA 0), (47, .v (.bool !(f8 (l4 (l4 (m7 p s.value) (m7 p s.index)) pc) && f8 (p.arrays.getD s.target.toNat 0) && l4 (l4 (l4 (m7 p s.value) (m7 p s.index)) pc) (p.arrays.getD s.target.toNat 0) == p.arrays.getD s.target.toNat 0)))] [(0 : Int) ≤ s.target, s.target < (p.arrays.length : Int), s.target.toNat < p.arrays.length] ⟨((aJ2 h (by omega)).1), ((aJ2 h (by omega)).2.1), ((aJ2 h (by omega)).2.2), ch8⟩ fun G => b6 ?_); cases h16 : (!(f8 (l4 (l4 (m7 p s.value) (m7 p s.index)) pc) && f8 (p.arrays.getD s.target.toNat (0 : Int)) && l4 (l4 (l4 (m7 p s.value) (m7 p s.index)) pc) (p.arrays.getD s.target.toNat (0 : Int)) == p.arrays.getD s.target.toNat (0 : Int)))
    ·
     have q16 : (((f8 (l4 (l4 (m7 p s.value) (m7 p s.index)) pc)) = true) ∧ ((f8 (p.arrays.getD s.target.toNat 0)) = true)) ∧ (l4 (l4 (l4 (m7 p s.value) (m7 p s.index)) pc) (p.arrays.getD s.target.toNat 0) = p.arrays.getD s.target.toNat 0) := (fun hq => And.imp (fun hq => And.imp (fun hq => (hq)) (fun hq => (hq)) (Bool.and_eq_true_iff.1 hq)) (fun hq => eq_of_beq hq) (Bool.and_eq_true_iff.1 hq)) (Eq.mp (cj0 _) h16); refine rF G _ h16 (wp_skip (l0 (b6 (wp_seq (wp_seq ?_))))); cases h17 : (strict)
     · refine j7 G (H8 (fc h17 fz) (us [(2, 5, 0), (10, 11, 0), (22, 22, 0), (1023, 1023, 0)])) (rg 7) (R4 p s []) [(8, iA 0), (93, bA false)] fun G => b6 (rF G false (by kernel_rfl) (wp_skip (b6 (wp_seq (k8 G f7 [] fun G => b6 (wp_ret ?_)))))); exact X9 0 G (rg 7) (ai5 (bM2 (by with_reducible assumption) (by with_reducible assumption)))
     ·
      cases h18 : (s.kind != 4)
      · have q18 := bne_eq_false_iff_eq.1 h18; exact False.elim (by omega)
      ·
       have q18 := bne_iff_ne.1 h18; cases h19 : (S6 p.vars p.arrays (5 : Nat) s.value)
       ·
        refine j7 G (F5 (t5 9 [0, 1, 2, 4] (F0 p s.value (z8 h (by omega))) (t5 19 (rg 4) (N1 p s.index (aJ1 h (by with_reducible assumption))) (t5 20 [] (J1 (m7 p s.index)) F4))) (fc h17 (fc h18 (fc h19 (fc h1 fz)))) (us [(2, 5, 0), (6, 9, 1), (10, 10, 0), (1010, 1010, 1), (11, 11, 0), (12, 15, 2), (16, 20, 3), (21, 21, 2), (1021, 1021, 3), (22, 22, 0), (1022, 1022, 2), (1023, 1023, 0)])) (rg 7) (R4 p s []) [(8, iA 0), (93, bA (f8 (m7 p s.index) && decide (m7 p s.index % 2 = 1)))] fun G => b6 ?_; cases h20 : (f8 (m7 p s.index) && decide (m7 p s.index % (2 : Int) = 1))
        · have q20 : ((f8 (m7 p s.index)) = false) ∨ (¬ (m7 p s.index % 2 = 1)) := Or.imp (fun hq => (hq)) (fun hq => of_decide_eq_false hq) (Bool.and_eq_false_iff.1 h20); refine rF G _ h20 (wp_skip (b6 (wp_seq (k8 G f7 [] fun G => b6 (wp_ret ?_))))); exact X9 0 G (rg 7) (z7 (bM2 (by with_reducible assumption) (by with_reducible assumption)) (lk0 (by exact .inl (by omega)) (by exact .inr (by with_reducible assumption)) (by exact .inr (by with_reducible assumption))))
        · have q20 : ((f8 (m7 p s.index)) = true) ∧ (m7 p s.index % 2 = 1) := And.imp (fun hq => (hq)) (fun hq => of_decide_eq_true hq) (Bool.and_eq_true_iff.1 h20); refine rT G _ h20 (wp_seq (k8 G f7 [(8, iA 4)] fun G => b6 (wp_ret (l5 ?_)))); exact X9 4 G (rg 7) (z7 (bM2 (by with_reducible assumption) (by with_reducible assumption)) (lki (by with_reducible assumption) (by with_reducible assumption)))
       · refine j7 G (F5 (t5 9 [0, 1, 2, 4] (F0 p s.value (z8 h (by omega))) F4) (fc h17 (fc h18 (fc h19 fz))) (us [(2, 5, 0), (6, 9, 1), (10, 10, 0), (1010, 1010, 1), (11, 11, 0), (12, 15, 2), (21, 21, 2), (22, 22, 0), (1022, 1022, 2), (1023, 1023, 0)])) (rg 7) (R4 p s []) [(8, iA 0), (93, bA true)] fun G => b6 (rT G true (by kernel_rfl) (wp_seq (k8 G f7 [(8, iA 4)] fun G => b6 (wp_ret (l5 ?_))))); exact X9 4 G (rg 7) (z7 (bM2 (by with_reducible assumption) (by with_reducible assumption)) (lkv (by exact .inl (by omega)) (by omega) (by with_reducible assumption)))
    · have q16 : (((f8 (l4 (l4 (m7 p s.value) (m7 p s.index)) pc)) = false) ∨ ((f8 (p.arrays.getD s.target.toNat 0)) = false)) ∨ (¬ (l4 (l4 (l4 (m7 p s.value) (m7 p s.index)) pc) (p.arrays.getD s.target.toNat 0) = p.arrays.getD s.target.toNat 0)) := (fun hq => Or.imp (fun hq => Or.imp (fun hq => (hq)) (fun hq => (hq)) (Bool.and_eq_false_iff.1 hq)) (fun hq => ne_of_beq_false hq) (Bool.and_eq_false_iff.1 hq)) (Eq.mp (ci3 _) h16); refine rT G _ h16 (wp_seq (k8 G f7 [(8, iA 1)] fun G => b6 (wp_ret (z4 (l5 ?_))))); exact X9 1 G (rg 7) (ar7 (cf4 (by with_reducible assumption) (by with_reducible assumption)) (by decide))
  ·
   refine wp_seq (b33 G (F5 (t5 3 [0, 1, 2, 4] (N1 p s.value (z8 h (by omega))) (t5 12 [] (at2 (l4 (m7 p s.value) pc) (p.vars.getD s.target.toNat 0)) F4)) fz []) [0, 0, 2, 7, 0, 31, 0, 64, 0, 256, 960, 1984, 4095, 8191] [(3, bA strict), (4, .ptr 7 0), (5, .ptr 8 0), (8, iA 0), (26, .v (.bool !(f8 (l4 (m7 p s.value) pc) && f8 (p.vars.getD s.target.toNat 0) && l4 (l4 (m7 p s.value) pc) (p.vars.getD s.target.toNat 0) == p.vars.getD s.target.toNat 0)))] [(0 : Int) ≤ s.target, s.target < (p.vars.length : Int), s.target.toNat < p.vars.length] ⟨((aJ0 h (by omega)).1), ((aJ0 h (by omega)).2.1), ((aJ0 h (by omega)).2.2), ch8⟩ fun G => b6 ?_); cases h21 : (!(f8 (l4 (m7 p s.value) pc) && f8 (p.vars.getD s.target.toNat (0 : Int)) && l4 (l4 (m7 p s.value) pc) (p.vars.getD s.target.toNat (0 : Int)) == p.vars.getD s.target.toNat (0 : Int)))
   ·
    have q21 : (((f8 (l4 (m7 p s.value) pc)) = true) ∧ ((f8 (p.vars.getD s.target.toNat 0)) = true)) ∧ (l4 (l4 (m7 p s.value) pc) (p.vars.getD s.target.toNat 0) = p.vars.getD s.target.toNat 0) := (fun hq => And.imp (fun hq => And.imp (fun hq => (hq)) (fun hq => (hq)) (Bool.and_eq_true_iff.1 hq)) (fun hq => eq_of_beq hq) (Bool.and_eq_true_iff.1 hq)) (Eq.mp (cj0 _) h21); refine rF G _ h21 (wp_skip (l0 (b6 (wp_seq (wp_seq ?_))))); cases h22 : (strict)
    · refine j7 G (H8 (fc h22 fz) (us [(2, 5, 0), (10, 11, 0), (22, 22, 0), (1023, 1023, 0)])) (rg 7) (R4 p s []) [(8, iA 0), (93, bA false)] fun G => b6 (rF G false (by kernel_rfl) (wp_skip (b6 (wp_seq (k8 G f7 [] fun G => b6 (wp_ret ?_)))))); exact X9 0 G (rg 7) (ai5 (bX3 (by with_reducible assumption) (by with_reducible assumption)))
    ·
     cases h23 : (s.kind != 4)
     · have q23 := bne_eq_false_iff_eq.1 h23; exact False.elim (by omega)
     ·
      have q23 := bne_iff_ne.1 h23; cases h24 : (S6 p.vars p.arrays (5 : Nat) s.value)
      ·
       cases h25 : (s.kind == 2)
       · have q25 := ne_of_beq_false h25; refine j7 G (F5 (t5 9 [0, 1, 2, 4] (F0 p s.value (z8 h (by omega))) F4) (fc h22 (fc h23 (fc h24 (fc h25 fz)))) (us [(2, 5, 0), (6, 9, 1), (10, 10, 0), (1010, 1010, 1), (11, 11, 0), (12, 15, 2), (16, 20, 3), (21, 21, 2), (1021, 1021, 3), (22, 22, 0), (1022, 1022, 2), (1023, 1023, 0)])) (rg 7) (R4 p s []) [(8, iA 0), (93, bA false)] fun G => b6 (rF G false (by kernel_rfl) (wp_skip (b6 (wp_seq (k8 G f7 [] fun G => b6 (wp_ret ?_)))))); exact X9 0 G (rg 7) (z7 (bX3 (by with_reducible assumption) (by with_reducible assumption)) (lk0 (by exact .inl (by omega)) (by exact .inr (by with_reducible assumption)) (by exact .inl (by omega))))
       · have q25 := eq_of_beq h25; exact False.elim (by omega)
      · refine j7 G (F5 (t5 9 [0, 1, 2, 4] (F0 p s.value (z8 h (by omega))) F4) (fc h22 (fc h23 (fc h24 fz))) (us [(2, 5, 0), (6, 9, 1), (10, 10, 0), (1010, 1010, 1), (11, 11, 0), (12, 15, 2), (21, 21, 2), (22, 22, 0), (1022, 1022, 2), (1023, 1023, 0)])) (rg 7) (R4 p s []) [(8, iA 0), (93, bA true)] fun G => b6 (rT G true (by kernel_rfl) (wp_seq (k8 G f7 [(8, iA 4)] fun G => b6 (wp_ret (l5 ?_))))); exact X9 4 G (rg 7) (z7 (bX3 (by with_reducible assumption) (by with_reducible assumption)) (lkv (by exact .inl (by omega)) (by omega) (by with_reducible assumption)))
   · have q21 : (((f8 (l4 (m7 p s.value) pc)) = false) ∨ ((f8 (p.vars.getD s.target.toNat 0)) = false)) ∨ (¬ (l4 (l4 (m7 p s.value) pc) (p.vars.getD s.target.toNat 0) = p.vars.getD s.target.toNat 0)) := (fun hq => Or.imp (fun hq => Or.imp (fun hq => (hq)) (fun hq => (hq)) (Bool.and_eq_false_iff.1 hq)) (fun hq => ne_of_beq_false hq) (Bool.and_eq_false_iff.1 hq)) (Eq.mp (ci3 _) h21); refine rT G _ h21 (wp_seq (k8 G f7 [(8, iA 1)] fun G => b6 (wp_ret (z4 (l5 ?_))))); exact X9 1 G (rg 7) (ar7 (cf5 (by with_reducible assumption) (by with_reducible assumption)) (by decide))
def E6 (F : Nat → c5 → Int × Nat) : Nat → List c5 → Int × Nat
 | c, [] => (0, c)
 | c, s :: r => if (F c s).1 = 0 then E6 F (F c s).2 r else F c s
def aj2 (p : i6) (s : c5) (pc : Int) : Int := if s.kind = 3 then l4 pc (m7 p s.value) else pc
def stC (p : i6) (strict : Bool) : Nat → Int → Nat → c5 → Int × Nat
  | 0, _, c, _ => (0, c)
  | d + 1, pc, c, s => if aa2 p s pc strict = 0 then
      (if (E6 (stC p strict d (aj2 p s pc)) (c + 1) s.body).1 = 0 then E6 (stC p strict d (aj2 p s pc)) (E6 (stC p strict d (aj2 p s pc)) (c + 1) s.body).2 s.els
       else E6 (stC p strict d (aj2 p s pc)) (c + 1) s.body)
    else (aa2 p s pc strict, c)
abbrev v7 (p : i6) (strict : Bool) (d : Nat) (pc : Int) (c : Nat) (ss : List c5) : Int × Nat := E6 (stC p strict d pc) c ss
theorem ae3 (F : Nat → c5 → Int × Nat) : ∀ (a b : List c5) (c : Nat), E6 F c (a ++ b) = if (E6 F c a).1 = 0 then E6 F (E6 F c a).2 b else E6 F c a
 | [], b, c => by simp [E6]
 | x :: r, b, c => by
  simp only [List.cons_append, E6]
  by_cases h : (F c x).1 = 0
  ·simp only [h, if_true]; exact ae3 F r b _
  ·simp [h]
theorem Z8 {F : Nat → c5 → Int × Nat} {c k : Nat} {ss : List c5} (h : (E6 F c (ss.take k)).1 = 0) (hk : k < ss.length) : E6 F c (ss.take (k + 1)) = F (E6 F c (ss.take k)).2 (ss.getD k cg3) := by
 rw [m8 _ _ hk, ae3, if_pos h, m5 hk]
 simp only [E6]
 split
 ·rename_i h; exact Prod.ext h.symm rfl
 ·rfl
theorem E9 {F : Nat → c5 → Int × Nat} {c k : Nat} {ss : List c5} (h : (E6 F c (ss.take k)).1 = 0) (hk : k < ss.length) (hf : ¬ (F (E6 F c (ss.take k)).2 (ss.getD k cg3)).1 = 0) : E6 F c ss = F (E6 F c (ss.take k)).2 (ss.getD k cg3) := by
 conv => lhs; rw [← List.take_append_drop (k + 1) ss]
 rw [ae3, Z8 h hk, if_neg hf]
theorem aJ4 {F : Nat → c5 → Int × Nat} {c k : Nat} {ss : List c5} (hk : ss.length ≤ k) : E6 F c ss = E6 F c (ss.take k) := by rw [ch9 hk]
theorem as6 {F : Nat → c5 → Int × Nat} (hF : ∀ c s, (F c s).2 ≤ c + nS s) : ∀ (ss : List c5) (c : Nat), (E6 F c ss).2 ≤ c + U9 ss
 | [], c => by simp [E6]
 | s :: r, c => by
  simp only [E6, U9]
  have h1 := hF c s
  have h2 := as6 hF r (F c s).2
  split <;> omega
theorem a96 {p : i6} {strict : Bool} : ∀ (d : Nat) (pc : Int) (c : Nat) (s : c5), (stC p strict d pc c s).2 ≤ c + nS s
 | 0, _, c, s => by simp [stC]
 | d + 1, pc, c, s => by
  have hs := av4 s
  have h1 := as6 (a96 (p := p) (strict := strict) d (aj2 p s pc)) s.body (c + 1)
  have h2 := as6 (a96 (p := p) (strict := strict) d (aj2 p s pc)) s.els (E6 (stC p strict d (aj2 p s pc)) (c + 1) s.body).2
  rw [stC]
  split
  ·split <;> omega
  ·simp only; omega
theorem bf5 {p : i6} {strict : Bool} {d : Nat} {pc : Int} {c : Nat} {ss : List c5} : (v7 p strict d pc c ss).2 ≤ c + U9 ss := as6 (a96 d pc) ss c
theorem R8 {nv na d k : Nat} {ss : List c5} (hs : ss.all (j6 nv na (d + 1)) = true) (hk : k < ss.length) : D8 nv na (ss.getD k cg3) = true ∧ (ss.getD k cg3).body.all (j6 nv na d) = true ∧ (ss.getD k cg3).els.all (j6 nv na d) = true := by
 have h := ch3.1 hs _ (ci6 hk)
 rw [S5, cg5, cg5] at h
 rw [m5 hk]; exact h
theorem bR7 {k : Nat} {ss : List c5} (hk : k < ss.length) : U9 (ss.take k) + (1 + U9 (ss.getD k cg3).body + U9 (ss.getD k cg3).els) ≤ U9 ss := by
 have h1 := bq1 hk
 have h2 := a27 ss (k + 1)
 rw [av4] at h1
 rw [m5 hk]; omega
section
variable {p : i6} {strict : Bool} {d c : Nat} {pc : Int} {s : c5}
theorem aB5 (h : ¬ aa2 p s pc strict = 0) : stC p strict (d + 1) pc c s = (aa2 p s pc strict, c) := by rw [stC, if_neg h]
theorem U1 {x : Int} (h : aa2 p s pc strict = 0) (hx : aj2 p s pc = x) (h2 : ¬ (v7 p strict d x (c + 1) s.body).1 = 0) : stC p strict (d + 1) pc c s = v7 p strict d x (c + 1) s.body := by
 subst hx; rw [stC, if_pos h, if_neg h2]
theorem O0 {x : Int} (h : aa2 p s pc strict = 0) (hx : aj2 p s pc = x) (h2 : (v7 p strict d x (c + 1) s.body).1 = 0) : stC p strict (d + 1) pc c s = v7 p strict d x (v7 p strict d x (c + 1) s.body).2 s.els := by
 subst hx; rw [stC, if_pos h, if_pos h2]
theorem ab9 (k : s.kind = 3) : aj2 p s pc = l4 pc (m7 p s.value) := if_pos k
theorem ab8 (k : ¬ s.kind = 3) : aj2 p s pc = pc := if_neg k
end
theorem aL0 {p : i6} {strict : Bool} {d k c : Nat} {pc : Int} {ss : List c5} (hc : c + U9 ss ≤ 4000000) (hk : k < ss.length) : (v7 p strict (d + 1) pc c (ss.take k)).2 + 1 + U9 (ss.getD k cg3).body ≤ 4000000 := by
 have h1 := bR7 (k := k) (ss := ss) hk
 have h2 := bf5 (p := p) (strict := strict) (d := d + 1) (pc := pc) (c := c) (ss := ss.take k)
 omega
theorem aQ9 {p : i6} {strict : Bool} {d k c : Nat} {pc x : Int} {ss : List c5} (hc : c + U9 ss ≤ 4000000) (hk : k < ss.length) : (v7 p strict d x ((v7 p strict (d + 1) pc c (ss.take k)).2 + 1) (ss.getD k cg3).body).2 + U9 (ss.getD k cg3).els ≤ 4000000 := by
 have h1 := bR7 (k := k) (ss := ss) hk
 have h2 := bf5 (p := p) (strict := strict) (d := d + 1) (pc := pc) (c := c) (ss := ss.take k)
 have h3 := bf5 (p := p) (strict := strict) (d := d) (pc := x) (c := (v7 p strict (d + 1) pc c (ss.take k)).2 + 1) (ss := (ss.getD k cg3).body)
 omega
theorem bO4 {p : i6} {strict : Bool} {d k c : Nat} {pc : Int} {ss : List c5} (hc : c + U9 ss ≤ 4000000) (hk : k < ss.length) : IntKind.i64.wrap (((v7 p strict (d + 1) pc c (ss.take k)).2 : Int) + 1) = ((v7 p strict (d + 1) pc c (ss.take k)).2 : Int) + 1 := by
 have h1 := aL0 (p := p) (strict := strict) (d := d) (pc := pc) hc hk
 exact w64 (by omega) (by omega)
abbrev bO3 (p : i6) (d : Nat) (ss : List c5) (pc : Int) (c : Nat) (strict : Bool) : j9 := T6 201 [pA 0, .ref 3, iA pc, iA c, bA strict] (pS p ++ [.dat (.stmts ss)]) (.tup [iA (v7 p strict d pc c ss).1, iA (v7 p strict d pc c ss).2])
theorem be8 (p : i6) (pc : Int) (c : Nat) (strict : Bool) : j9.ok Tryz.prog (bO3 p 0 [] pc c strict) := by
 refine F9 74 Tryz.func201 [dI p.vars, dI p.arrays, dT p.body, dT []] [(0, pA 0), (1, .ref 3), (2, iA pc), (3, iA c), (4, bA strict)] fun G => ?_; refine wp_seq (j7 G f7 (rg 5) [dI p.vars, dI p.arrays, dT p.body, dT [], .box (pL 0)] [(1, .ref 3), (2, iA pc), (3, iA c), (4, bA strict), (5, .ptr 4 0), (10, iA 0), (11, iA 0)] fun G => b6 (wp_seq (wp_seq (D7 G f7 [(1, .ref 3), (2, iA pc), (3, iA c), (4, bA strict), (5, .ptr 4 0), (10, iA 0), (11, iA 0), (12, iA 0)] fun G => b6 (wp_block ?_))))); refine s8 (κ := Nat) (fun k => k = 0) (fun k => 0) (fun k => [dI p.vars, dI p.arrays, dT p.body, dT [], .box (pL 0)]) (fun k => [(1, .ref 3), (2, iA pc), (3, iA c), (4, bA strict), (5, .ptr 4 0), (10, iA 0), (11, iA 0), (12, iA 0)]) 0 (by kernel_rfl) (t7.at G _ _) ?_; clear G; intro k ρ a w hp G; refine wp_seq (wp_seq (k8 G f7 [(19, bA false)] fun G => b6 (rF G false (by kernel_rfl) (wp_exit (s4 (s4 (r8 (b6 (wp_seq (j7 G f7 (rg 4) [dI p.vars, dI p.arrays, dT p.body, dT []] [(10, iA 0), (11, iA c)] fun G => b6 (wp_ret ?_))))))))))); exact M4 G (rg 4)
abbrev am5 (p : i6) (d : Nat) (strict : Bool) (ss : List c5) (pc : Int) (c : Nat) (k : Nat) := v7 p strict d (l4 pc (m7 p (ss.getD k cg3).value)) ((v7 p strict (d + 1) pc c (ch1 k ss)).snd + 1) (ss.getD k cg3).body
abbrev aa6 (p : i6) (d : Nat) (strict : Bool) (ss : List c5) (pc : Int) (c : Nat) (k : Nat) := v7 p strict d pc ((v7 p strict (d + 1) pc c (ch1 k ss)).snd + 1) (ss.getD k cg3).body
abbrev aY5 (p : i6) (d : Nat) (strict : Bool) (ss : List c5) (pc : Int) (c : Nat) (k : Nat) := v7 p strict d (l4 pc (m7 p (ss.getD k cg3).value)) (am5 p d strict ss pc c k).snd (ss.getD k cg3).els
abbrev aN2 (strict : Bool) (k : Nat) (r0 : List (Nat × AV)) : List (Nat × AV) := (4, bA strict) :: (5, .ptr 4 0) :: (10, iA 0) :: (11, iA 0) :: (12, iA (k : Int)) :: r0
abbrev aD1 (p : i6) (ss : List c5) (r0 : List It) : List It := dI p.vars :: dI p.arrays :: dT p.body :: dT ss :: .box (pL 0) :: r0
theorem be6 (p : i6) (d : Nat) (strict : Bool) (ih : ∀ (ss : List c5) (pc : Int) (c : Nat), ss.all (j6 p.vars.length p.arrays.length d) = true → c + U9 ss ≤ 4000000 → j9.ok Tryz.prog (bO3 p d ss pc c strict))
    (ss : List c5) (pc : Int) (c : Nat) (hs : ss.all (j6 p.vars.length p.arrays.length (d + 1)) = true) (hc : c + U9 ss ≤ 4000000) : j9.ok Tryz.prog (bO3 p (d + 1) ss pc c strict) := by
  refine F9 74 Tryz.func201 [dI p.vars, dI p.arrays, dT p.body, dT ss] [(0, pA 0), (1, .ref 3), (2, iA pc), (3, iA c), (4, bA strict)] fun G => ?_; have hlen : ss.length ≤ 9223372036854775807 := G.len 3 (d := .stmts ss) (by kernel_rfl); refine wp_seq (j7 G f7 (rg 5) (aD1 p ss []) [(1, .ref 3), (2, iA pc), (3, iA c), (4, bA strict), (5, .ptr 4 0), (10, iA 0), (11, iA 0)] fun G => b6 (wp_seq (wp_seq (D7 G f7 [(1, .ref 3), (2, iA pc), (3, iA c), (4, bA strict), (5, .ptr 4 0), (10, iA 0), (11, iA 0), (12, iA 0)] fun G => b6 (wp_block ?_))))); refine s8 (κ := Nat) (fun k => k ≤ ss.length ∧ (v7 p strict (d + 1) pc c (ss.take k)).1 = 0) (fun k => ss.length - k) (fun k => [dI p.vars, dI p.arrays, dT p.body, dT ss, .box (pL 0)]) (fun k => [(1, .ref 3), (2, iA pc), (3, iA (v7 p strict (d + 1) pc c (ss.take k)).2), (4, bA strict), (5, .ptr 4 0), (10, iA 0), (11, iA 0), (12, iA k)]) 0 (⟨ck4 _, rfl⟩) (t7.at G _ _) ?_; clear G; intro k ρ a w hp G; replace G := t7.at G (aD1 p ss []) ((1, .ref 3) :: (2, iA pc) :: (3, iA ((v7 p strict (d + 1) pc c (ch1 k ss)).snd : Int)) :: (aN2 strict k [])); refine wp_seq (wp_seq (k8 G f7 [(19, bA (decide ((k : Int) < ss.length)))] fun G => b6 (rcD G (fun h0 q0 => ?_) fun h0 q0 => ?_)))
  · refine wp_exit (s4 (s4 (r8 (b6 (wp_seq (j7 G f7 (rg 4) [dI p.vars, dI p.arrays, dT p.body, dT ss] [(10, iA 0), (11, iA ((v7 p strict (d + 1) pc c (ch1 k ss)).snd : Int))] fun G => b6 (wp_ret ?_))))))); exact T3 (.tup [iA 0, iA ((v7 p strict (d + 1) pc c (ch1 k ss)).snd : Int)]) G (rg 4) (by have e1 : ((v7 p strict (d + 1) pc c ss).fst : Int) = (0) := (by rw [v7, aJ4 (k := k) (by omega)]; exact hp.2); have e2 : (((v7 p strict (d + 1) pc c ss).snd : Int) : Int) = (((v7 p strict (d + 1) pc c (ch1 k ss)).snd : Int)) := (by rw [v7, aJ4 (k := k) (by omega)]); (first | rw [e1, e2] | simp only [e1, e2]) <;> rfl)
  ·
   refine wp_skip (b6 (wp_seq (wp_block (wp_seq (N4 G f7 [0, 1, 2, 3, 4, 29, 30, 31, 32, 37] (aD1 p ss [dE (ss.getD k cg3).index.kids, dE (ss.getD k cg3).value.kids, dT (ss.getD k cg3).body, dT (ss.getD k cg3).els, .box (sL (ss.getD k cg3) 5)]) ((1, .ref 3) :: (2, iA pc) :: (3, iA ((v7 p strict (d + 1) pc c (ch1 k ss)).snd : Int)) :: (aN2 strict k [(13, .ptr 9 0)])) (iX k k ss.length []) (iK (by omega) ch8) fun G => b6 (wp_seq (k8 G (s6 4 [0, 1, 2, 5, 6, 7, 8] (bO0 p (ss.getD k cg3) pc strict ((R8 hs (by omega)).1))) [(14, iA (aa2 p (ss.getD k cg3) pc strict))] fun G => b6 (wp_seq (wp_seq (k8 G f7 [(32, bA (aa2 p (ss.getD k cg3) pc strict != 0))] fun G => b6 (rcN G (fun h1 q1 => ?_) fun h1 q1 => ?_)))))))))))
   ·
    refine wp_skip (b6 (wp_seq (E1 G f7 [(3, iA (((v7 p strict (d + 1) pc c (ch1 k ss)).snd : Int) + 1))] [wO (((v7 p strict (d + (1 : Nat)) pc c (ch1 k ss)).snd : Int) + 1)] ⟨(bO4 hc (by omega)), ch8⟩ fun G => b6 (wp_seq (k8 G f7 [(15, iA pc)] fun G => b6 (wp_seq (wp_seq (k8 G f7 [(40, bA ((ss.getD k cg3).kind == 3))] fun G => b6 (J4 G (fun h2 q2 => ?_) fun h2 q2 => ?_)))))))))
    ·
     refine wp_skip (b6 (wp_seq (k8 G (s6 6 [0, 1, 2, 7] (ih ((ss.getD k cg3).body) pc ((v7 p strict (d + 1) pc c (ch1 k ss)).snd + 1) ((R8 hs (by omega)).2.1) (aL0 hc (by omega)))) [(3, iA ((aa6 p d strict ss pc c k).snd : Int)), (14, iA (aa6 p d strict ss pc c k).fst)] fun G => b6 (wp_seq (wp_seq (k8 G f7 [(58, bA ((aa6 p d strict ss pc c k).fst == 0))] fun G => b6 (J4 (u := ((v7 p strict d pc ((v7 p strict (d + (1 : Nat)) pc c (ch1 k ss)).snd + (1 : Nat)) (ss.getD k cg3).body).fst)) (v := (0 : Int)) G (fun h3 q3 => ?_) fun h3 q3 => ?_)))))))
     ·
      refine wp_skip (b6 (wp_seq (j7 G f7 (rg 5) (aD1 p ss []) ((1, .ref 3) :: (2, iA pc) :: (3, iA ((aa6 p d strict ss pc c k).snd : Int)) :: (aN2 strict k [(14, iA (aa6 p d strict ss pc c k).fst), (70, bA ((aa6 p d strict ss pc c k).fst != 0))])) fun G => b6 ?_))); cases h4 : ((v7 p strict d pc ((v7 p strict (d + (1 : Nat)) pc c (ch1 k ss)).snd + (1 : Nat)) (ss.getD k cg3).body).fst != 0)
      · have q4 := bne_eq_false_iff_eq.1 h4; exact False.elim (by omega)
      · have q4 := bne_iff_ne.1 h4; refine rT G _ h4 (wp_seq (k8 G f7 [(10, iA (aa6 p d strict ss pc c k).fst), (11, iA ((aa6 p d strict ss pc c k).snd : Int))] fun G => b6 (wp_ret (z4 (l5 (l5 (z4 (l5 ?_)))))))); exact T3 (.tup [iA (v7 p strict d pc ((v7 p strict (d + 1) pc c (ch1 k ss)).snd + 1) (ss.getD k cg3).body).fst, iA ((v7 p strict d pc ((v7 p strict (d + 1) pc c (ch1 k ss)).snd + 1) (ss.getD k cg3).body).snd : Int)]) G (rg 4) (by have e1 : ((v7 p strict (d + 1) pc c ss).fst : Int) = ((v7 p strict d pc ((v7 p strict (d + 1) pc c (ch1 k ss)).snd + 1) (ss.getD k cg3).body).fst) := (by rw [v7, E9 hp.2 (by omega) (by rw [U1 (by with_reducible assumption) (ab8 (by with_reducible assumption)) (by with_reducible assumption)]; with_reducible assumption), U1 (by with_reducible assumption) (ab8 (by with_reducible assumption)) (by with_reducible assumption)]); have e2 : (((v7 p strict (d + 1) pc c ss).snd : Int) : Int) = (((v7 p strict d pc ((v7 p strict (d + 1) pc c (ch1 k ss)).snd + 1) (ss.getD k cg3).body).snd : Int)) := (by rw [v7, E9 hp.2 (by omega) (by rw [U1 (by with_reducible assumption) (ab8 (by with_reducible assumption)) (by with_reducible assumption)]; with_reducible assumption), U1 (by with_reducible assumption) (ab8 (by with_reducible assumption)) (by with_reducible assumption)]); (first | rw [e1, e2] | simp only [e1, e2]) <;> rfl)
     ·
      refine j7 G (s6 6 [0, 1, 2, 8] (ih ((ss.getD k cg3).els) pc ((aa6 p d strict ss pc c k).snd) ((R8 hs (by omega)).2.2) (aQ9 hc (by omega)))) (rg 5) (aD1 p ss []) ((1, .ref 3) :: (2, iA pc) :: (3, iA ((v7 p strict d pc (aa6 p d strict ss pc c k).snd (ss.getD k cg3).els).snd : Int)) :: (aN2 strict k [(14, iA (v7 p strict d pc (aa6 p d strict ss pc c k).snd (ss.getD k cg3).els).fst)])) fun G => b6 (wp_seq (k8 G f7 [(70, bA ((v7 p strict d pc (aa6 p d strict ss pc c k).snd (ss.getD k cg3).els).fst != 0))] fun G => b6 (rcN (u := ((v7 p strict d pc (v7 p strict d pc ((v7 p strict (d + (1 : Nat)) pc c (ch1 k ss)).snd + (1 : Nat)) (ss.getD k cg3).body).snd (ss.getD k cg3).els).fst)) (v := (0 : Int)) G (fun h5 q5 => ?_) fun h5 q5 => ?_)))
      · refine wp_skip (l0 (b6 (E1 G f7 [(12, iA ((k : Int) + 1))] [wO ((k : Int) + 1)] (o1 (by omega)) fun G => b6 ?_))); exact I6 G (k + 1) (⟨by omega, by rw [v7, Z8 hp.2 (by omega), O0 (by with_reducible assumption) (ab8 (by with_reducible assumption)) (by with_reducible assumption)]; with_reducible assumption⟩) (by omega) (rg 5) (ht := by have e1 : (((v7 p strict (d + 1) pc c (ch1 (k + 1) ss)).snd : Int) : Int) = (((v7 p strict d pc (v7 p strict d pc ((v7 p strict (d + 1) pc c (ch1 k ss)).snd + 1) (ss.getD k cg3).body).snd (ss.getD k cg3).els).snd : Int)) := (by rw [v7, Z8 hp.2 (by omega), O0 (by with_reducible assumption) (ab8 (by with_reducible assumption)) (by with_reducible assumption)]); (first | rw [e1] | simp only [e1]) <;> rfl)
      · refine wp_seq (k8 G f7 [(10, iA (v7 p strict d pc (aa6 p d strict ss pc c k).snd (ss.getD k cg3).els).fst), (11, iA ((v7 p strict d pc (aa6 p d strict ss pc c k).snd (ss.getD k cg3).els).snd : Int))] fun G => b6 (wp_ret (z4 (l5 (l5 (z4 (l5 ?_))))))); exact T3 (.tup [iA (v7 p strict d pc (v7 p strict d pc ((v7 p strict (d + 1) pc c (ch1 k ss)).snd + 1) (ss.getD k cg3).body).snd (ss.getD k cg3).els).fst, iA ((v7 p strict d pc (v7 p strict d pc ((v7 p strict (d + 1) pc c (ch1 k ss)).snd + 1) (ss.getD k cg3).body).snd (ss.getD k cg3).els).snd : Int)]) G (rg 4) (by have e1 : ((v7 p strict (d + 1) pc c ss).fst : Int) = ((v7 p strict d pc (v7 p strict d pc ((v7 p strict (d + 1) pc c (ch1 k ss)).snd + 1) (ss.getD k cg3).body).snd (ss.getD k cg3).els).fst) := (by rw [v7, E9 hp.2 (by omega) (by rw [O0 (by with_reducible assumption) (ab8 (by with_reducible assumption)) (by with_reducible assumption)]; with_reducible assumption), O0 (by with_reducible assumption) (ab8 (by with_reducible assumption)) (by with_reducible assumption)]); have e2 : (((v7 p strict (d + 1) pc c ss).snd : Int) : Int) = (((v7 p strict d pc (v7 p strict d pc ((v7 p strict (d + 1) pc c (ch1 k ss)).snd + 1) (ss.getD k cg3).body).snd (ss.getD k cg3).els).snd : Int)) := (by rw [v7, E9 hp.2 (by omega) (by rw [O0 (by with_reducible assumption) (ab8 (by with_reducible assumption)) (by with_reducible assumption)]; with_reducible assumption), O0 (by with_reducible assumption) (ab8 (by with_reducible assumption)) (by with_reducible assumption)]); (first | rw [e1, e2] | simp only [e1, e2]) <;> rfl)
    ·
     refine k8 G (s6 4 [0, 1, 2, 6] (N1 p ((ss.getD k cg3).value) (z8 (R8 hs (by omega)).1 (by omega)))) [(15, iA (l4 pc (m7 p (ss.getD k cg3).value)))] fun G => b6 (wp_seq (k8 G (s6 6 [0, 1, 2, 7] (ih ((ss.getD k cg3).body) (l4 pc (m7 p (ss.getD k cg3).value)) ((v7 p strict (d + 1) pc c (ch1 k ss)).snd + 1) ((R8 hs (by omega)).2.1) (aL0 hc (by omega)))) [(3, iA ((am5 p d strict ss pc c k).snd : Int)), (14, iA (am5 p d strict ss pc c k).fst)] fun G => b6 (wp_seq (wp_seq (k8 G f7 [(58, bA ((am5 p d strict ss pc c k).fst == 0))] fun G => b6 (J4 (u := ((v7 p strict d (l4 pc (m7 p (ss.getD k cg3).value)) ((v7 p strict (d + (1 : Nat)) pc c (ch1 k ss)).snd + (1 : Nat)) (ss.getD k cg3).body).fst)) (v := (0 : Int)) G (fun h6 q6 => ?_) fun h6 q6 => ?_))))))
     ·
      refine wp_skip (b6 (wp_seq (j7 G f7 (rg 5) (aD1 p ss []) ((1, .ref 3) :: (2, iA pc) :: (3, iA ((am5 p d strict ss pc c k).snd : Int)) :: (aN2 strict k [(14, iA (am5 p d strict ss pc c k).fst), (70, bA ((am5 p d strict ss pc c k).fst != 0))])) fun G => b6 ?_))); cases h7 : ((v7 p strict d (l4 pc (m7 p (ss.getD k cg3).value)) ((v7 p strict (d + (1 : Nat)) pc c (ch1 k ss)).snd + (1 : Nat)) (ss.getD k cg3).body).fst != 0)
      · have q7 := bne_eq_false_iff_eq.1 h7; exact False.elim (by omega)
      · have q7 := bne_iff_ne.1 h7; refine rT G _ h7 (wp_seq (k8 G f7 [(10, iA (am5 p d strict ss pc c k).fst), (11, iA ((am5 p d strict ss pc c k).snd : Int))] fun G => b6 (wp_ret (z4 (l5 (l5 (z4 (l5 ?_)))))))); exact T3 (.tup [iA (v7 p strict d (l4 pc (m7 p (ss.getD k cg3).value)) ((v7 p strict (d + 1) pc c (ch1 k ss)).snd + 1) (ss.getD k cg3).body).fst, iA ((v7 p strict d (l4 pc (m7 p (ss.getD k cg3).value)) ((v7 p strict (d + 1) pc c (ch1 k ss)).snd + 1) (ss.getD k cg3).body).snd : Int)]) G (rg 4) (by have e1 : ((v7 p strict (d + 1) pc c ss).fst : Int) = ((v7 p strict d (l4 pc (m7 p (ss.getD k cg3).value)) ((v7 p strict (d + 1) pc c (ch1 k ss)).snd + 1) (ss.getD k cg3).body).fst) := (by rw [v7, E9 hp.2 (by omega) (by rw [U1 (by with_reducible assumption) (ab9 (by with_reducible assumption)) (by with_reducible assumption)]; with_reducible assumption), U1 (by with_reducible assumption) (ab9 (by with_reducible assumption)) (by with_reducible assumption)]); have e2 : (((v7 p strict (d + 1) pc c ss).snd : Int) : Int) = (((v7 p strict d (l4 pc (m7 p (ss.getD k cg3).value)) ((v7 p strict (d + 1) pc c (ch1 k ss)).snd + 1) (ss.getD k cg3).body).snd : Int)) := (by rw [v7, E9 hp.2 (by omega) (by rw [U1 (by with_reducible assumption) (ab9 (by with_reducible assumption)) (by with_reducible assumption)]; with_reducible assumption), U1 (by with_reducible assumption) (ab9 (by with_reducible assumption)) (by with_reducible assumption)]); (first | rw [e1, e2] | simp only [e1, e2]) <;> rfl)
     ·
      refine j7 G (s6 6 [0, 1, 2, 8] (ih ((ss.getD k cg3).els) (l4 pc (m7 p (ss.getD k cg3).value)) ((am5 p d strict ss pc c k).snd) ((R8 hs (by omega)).2.2) (aQ9 hc (by omega)))) (rg 5) (aD1 p ss []) ((1, .ref 3) :: (2, iA pc) :: (3, iA ((aY5 p d strict ss pc c k).snd : Int)) :: (aN2 strict k [(14, iA (aY5 p d strict ss pc c k).fst)])) fun G => b6 (wp_seq (k8 G f7 [(70, bA ((aY5 p d strict ss pc c k).fst != 0))] fun G => b6 (rcN (u := ((v7 p strict d (l4 pc (m7 p (ss.getD k cg3).value)) (v7 p strict d (l4 pc (m7 p (ss.getD k cg3).value)) ((v7 p strict (d + (1 : Nat)) pc c (ch1 k ss)).snd + (1 : Nat)) (ss.getD k cg3).body).snd (ss.getD k cg3).els).fst)) (v := (0 : Int)) G (fun h8 q8 => ?_) fun h8 q8 => ?_)))
      · refine wp_skip (l0 (b6 (E1 G f7 [(12, iA ((k : Int) + 1))] [wO ((k : Int) + 1)] (o1 (by omega)) fun G => b6 ?_))); exact I6 G (k + 1) (⟨by omega, by rw [v7, Z8 hp.2 (by omega), O0 (by with_reducible assumption) (ab9 (by with_reducible assumption)) (by with_reducible assumption)]; with_reducible assumption⟩) (by omega) (rg 5) (ht := by have e1 : (((v7 p strict (d + 1) pc c (ch1 (k + 1) ss)).snd : Int) : Int) = (((v7 p strict d (l4 pc (m7 p (ss.getD k cg3).value)) (v7 p strict d (l4 pc (m7 p (ss.getD k cg3).value)) ((v7 p strict (d + 1) pc c (ch1 k ss)).snd + 1) (ss.getD k cg3).body).snd (ss.getD k cg3).els).snd : Int)) := (by rw [v7, Z8 hp.2 (by omega), O0 (by with_reducible assumption) (ab9 (by with_reducible assumption)) (by with_reducible assumption)]); (first | rw [e1] | simp only [e1]) <;> rfl)
      · refine wp_seq (k8 G f7 [(10, iA (aY5 p d strict ss pc c k).fst), (11, iA ((aY5 p d strict ss pc c k).snd : Int))] fun G => b6 (wp_ret (z4 (l5 (l5 (z4 (l5 ?_))))))); exact T3 (.tup [iA (v7 p strict d (l4 pc (m7 p (ss.getD k cg3).value)) (v7 p strict d (l4 pc (m7 p (ss.getD k cg3).value)) ((v7 p strict (d + 1) pc c (ch1 k ss)).snd + 1) (ss.getD k cg3).body).snd (ss.getD k cg3).els).fst, iA ((v7 p strict d (l4 pc (m7 p (ss.getD k cg3).value)) (v7 p strict d (l4 pc (m7 p (ss.getD k cg3).value)) ((v7 p strict (d + 1) pc c (ch1 k ss)).snd + 1) (ss.getD k cg3).body).snd (ss.getD k cg3).els).snd : Int)]) G (rg 4) (by have e1 : ((v7 p strict (d + 1) pc c ss).fst : Int) = ((v7 p strict d (l4 pc (m7 p (ss.getD k cg3).value)) (v7 p strict d (l4 pc (m7 p (ss.getD k cg3).value)) ((v7 p strict (d + 1) pc c (ch1 k ss)).snd + 1) (ss.getD k cg3).body).snd (ss.getD k cg3).els).fst) := (by rw [v7, E9 hp.2 (by omega) (by rw [O0 (by with_reducible assumption) (ab9 (by with_reducible assumption)) (by with_reducible assumption)]; with_reducible assumption), O0 (by with_reducible assumption) (ab9 (by with_reducible assumption)) (by with_reducible assumption)]); have e2 : (((v7 p strict (d + 1) pc c ss).snd : Int) : Int) = (((v7 p strict d (l4 pc (m7 p (ss.getD k cg3).value)) (v7 p strict d (l4 pc (m7 p (ss.getD k cg3).value)) ((v7 p strict (d + 1) pc c (ch1 k ss)).snd + 1) (ss.getD k cg3).body).snd (ss.getD k cg3).els).snd : Int)) := (by rw [v7, E9 hp.2 (by omega) (by rw [O0 (by with_reducible assumption) (ab9 (by with_reducible assumption)) (by with_reducible assumption)]; with_reducible assumption), O0 (by with_reducible assumption) (ab9 (by with_reducible assumption)) (by with_reducible assumption)]); (first | rw [e1, e2] | simp only [e1, e2]) <;> rfl)
   · refine wp_seq (k8 G f7 [(10, iA (aa2 p (ss.getD k cg3) pc strict)), (11, iA ((v7 p strict (d + 1) pc c (ch1 k ss)).snd : Int))] fun G => b6 (wp_ret (l5 (z4 (l5 (l5 (z4 (l5 ?_)))))))); exact T3 (.tup [iA (aa2 p (ss.getD k cg3) pc strict), iA ((v7 p strict (d + 1) pc c (ch1 k ss)).snd : Int)]) G (rg 4) (by have e1 : ((v7 p strict (d + 1) pc c ss).fst : Int) = (aa2 p (ss.getD k cg3) pc strict) := (by rw [v7, E9 hp.2 (by omega) (by rw [aB5 (by with_reducible assumption)]; with_reducible assumption), aB5 (by with_reducible assumption)]); have e2 : (((v7 p strict (d + 1) pc c ss).snd : Int) : Int) = (((v7 p strict (d + 1) pc c (ch1 k ss)).snd : Int)) := (by rw [v7, E9 hp.2 (by omega) (by rw [aB5 (by with_reducible assumption)]; with_reducible assumption), aB5 (by with_reducible assumption)]); (first | rw [e1, e2] | simp only [e1, e2]) <;> rfl)
theorem be7 (p : i6) (strict : Bool) : ∀ (d : Nat) (ss : List c5) (pc : Int) (c : Nat), ss.all (j6 p.vars.length p.arrays.length d) = true → c + U9 ss ≤ 4000000 → j9.ok Tryz.prog (bO3 p d ss pc c strict) := by
 intro d
 induction d with
 | zero =>
  intro ss pc c h hc
  cases ss with
  | nil => exact be8 p pc c strict
  | cons s r => simp [j6] at h
 | succ d ih => intro ss pc c h hc; exact be6 p d strict ih ss pc c h hc
theorem av2 {p : i6} (h : l9 p = true) : p.body.all (j6 p.vars.length p.arrays.length 5) = true ∧ U9 p.body ≤ 60 := by
 simp only [l9, af1, cg5, decide_eq_true_eq] at h
 exact ⟨h.1.2, h.2⟩
theorem bF8 (p : i6) (strict : Bool) (h : l9 p = true) : j9.ok Tryz.prog (T6 201 [pA 0, .ref 2, iA 0, iA 0, bA strict] (pS p) (.tup [iA (v7 p strict 5 0 0 p.body).1, iA (v7 p strict 5 0 0 p.body).2])) :=
 j9.dup (S := pS p) (S' := pS p) (d := .stmts p.body) (i := 2) (be7 p strict 5 p.body 0 0 (av2 h).1 (by have := (av2 h).2; omega)) rfl rfl rfl (fun ρ h => by simp only [AV.vals, AV.val]; rw [show ρ 3 = ρ 2 from h]; rfl) rfl
def V4 (p : i6) (strict : Bool) : Int × Int := if l9 p then (if (v7 p strict 5 0 0 p.body).1 = 0 then (0, -1) else ((v7 p strict 5 0 0 p.body).1, ((v7 p strict 5 0 0 p.body).2 : Int))) else (5, -1)
section
variable {p : i6} {strict : Bool}
theorem bR5 (h : l9 p = false) : V4 p strict = (5, -1) := by rw [V4, h]; rfl
theorem bm5 (h : l9 p = true) (h1 : (v7 p strict 5 0 0 p.body).1 = 0) : V4 p strict = (0, -1) := by rw [V4, h, h1]; rfl
theorem bE9 (h : l9 p = true) (h1 : ¬ (v7 p strict 5 0 0 p.body).1 = 0) : V4 p strict = ((v7 p strict 5 0 0 p.body).1, ((v7 p strict 5 0 0 p.body).2 : Int)) := by rw [V4, h, if_neg h1]; rfl
end
theorem bs1 (p : i6) (strict : Bool) (hb : j5 p.body ≤ 1048576) : j9.ok Tryz.prog (T6 150 [pA 0, bA strict] (pS p) (.tup [iA (V4 p strict).1, iA (V4 p strict).2])) := by
  refine F9 24 Tryz.func150 [dI p.vars, dI p.arrays, dT p.body] [(0, pA 0), (1, bA strict)] fun G => ?_; refine wp_seq (j7 G f7 (rg 4) [dI p.vars, dI p.arrays, dT p.body, .box (pL 0)] [(1, bA strict), (2, .ptr 3 0), (4, iA 0), (5, iA 0)] fun G => b6 (wp_seq (wp_seq (k8 G (s6 1 [0, 1, 2] (Q7 p (by assumption))) [(10, .v (.bool !l9 p))] fun G => b6 ?_)))); cases h0 : (!l9 p)
  ·
   have q0 : (l9 p) = true := (Eq.mp (cj0 _) h0); refine rF G _ h0 (wp_skip (b6 (wp_seq (j7 G (s6 4 [0, 1, 2] (bF8 p strict (by assumption))) [0, 1, 2] [dI p.vars, dI p.arrays, dT p.body] [(4, iA 0), (5, iA 0), (6, iA (v7 p strict 5 0 0 p.body).fst), (7, iA ((v7 p strict 5 0 0 p.body).snd : Int))] fun G => b6 (wp_seq (wp_seq (k8 G f7 [(20, bA ((v7 p strict 5 0 0 p.body).fst == 0))] fun G => b6 (J4 G (fun h1 q1 => ?_) fun h1 q1 => ?_))))))))
   · refine wp_skip (b6 (wp_seq (k8 G f7 [(4, iA (v7 p strict 5 0 0 p.body).fst), (5, iA ((v7 p strict 5 0 0 p.body).snd : Int))] fun G => b6 (wp_ret ?_)))); exact T3 (.tup [iA (v7 p strict 5 0 0 p.body).fst, iA ((v7 p strict 5 0 0 p.body).snd : Int)]) G [0, 1, 2] (by have e1 : ((V4 p strict).fst : Int) = ((v7 p strict 5 0 0 p.body).fst) := (by rw [bE9 (by assumption) (by assumption)]; done); have e2 : ((V4 p strict).snd : Int) = (((v7 p strict 5 0 0 p.body).snd : Int)) := (by rw [bE9 (by assumption) (by assumption)]; done); (first | rw [e1, e2] | simp only [e1, e2]) <;> rfl)
   · refine wp_seq (k8 G f7 [(4, iA (v7 p strict 5 0 0 p.body).fst), (5, iA (-1))] fun G => b6 (wp_ret (l5 ?_))); exact T3 (.tup [iA (v7 p strict 5 0 0 p.body).fst, iA (-1)]) G [0, 1, 2] (by have e1 : ((V4 p strict).fst : Int) = ((v7 p strict 5 0 0 p.body).fst) := ((congrArg Prod.fst (bm5 (by assumption) (by assumption))).trans (Eq.symm (by assumption))); have e2 : ((V4 p strict).snd : Int) = (-1) := (by rw [bm5 (by assumption) (by assumption)]; done); (first | rw [e1, e2] | simp only [e1, e2]) <;> rfl)
  · have q0 : (l9 p) = false := (Eq.mp (ci3 _) h0); refine rT G _ h0 (wp_seq (k8 G f7 [(4, iA 5), (5, iA (-1))] fun G => b6 (wp_ret (l5 ?_)))); exact T3 (.tup [iA 5, iA (-1)]) G [0, 1, 2] (by have e1 : ((V4 p strict).fst : Int) = (5) := (by rw [bR5 (by assumption)]; done); have e2 : ((V4 p strict).snd : Int) = (-1) := (by rw [bR5 (by assumption)]; done); (first | rw [e1, e2] | simp only [e1, e2]) <;> rfl)
theorem a72 (p : i6) (hb : j5 p.body ≤ 1048576) : j9.ok Tryz.prog (T6 77 [pA 0] (pS p) (.tup [iA (V4 p false).1, iA (V4 p false).2])) := by
 refine F9 8 Tryz.func77 [dI p.vars, dI p.arrays, dT p.body] [(0, pA 0)] fun G => ?_; refine wp_seq (j7 G f7 (rg 4) [dI p.vars, dI p.arrays, dT p.body, .box (pL 0)] [(1, .ptr 3 0), (2, iA 0), (3, iA 0)] fun G => b6 (wp_seq (j7 G (s6 1 [0, 1, 2] (bs1 p false (by assumption))) [0, 1, 2] [dI p.vars, dI p.arrays, dT p.body] [(2, iA (V4 p false).fst), (3, iA (V4 p false).snd)] fun G => b6 (wp_ret ?_)))); exact M4 G [0, 1, 2]
section
variable {p : i6} {s : c5} {cx : Int}
end
end Go.Proofs.YthikdkjjdeehoaaGreat
