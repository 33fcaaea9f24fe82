/- Part 4: functions on the way, plain laws. Conditions: as said. -/
import Derived.Deep.LoopGhost
import Derived.IntWalk
import Derived.WalkSpells
import Derived.Lib.SliceRun
import Derived.Test.YthikdkjjdeehoaaGreatK1
import Derived.Test.YthikdkjjdeehoaaGreatK3
set_option maxRecDepth 100000
set_option maxHeartbeats 16000000
set_option linter.unusedVariables false
set_option linter.unusedSimpArgs false
open Array renaming replicate → cj4
open Bool renaming and_eq_true → ch0, eq_iff_iff → ck4, not_eq_false' → cj6, not_eq_true' → ci9, or_eq_true → cl1
open Inhabited renaming default → cg8
open Int renaming mul_le_mul_of_nonneg_right → cl7
open List renaming all_eq_true → ch8, eq_nil_of_length_eq_zero → ci7, getD_eq_getElem?_getD → ch3, getElem?_append_left → ci4, getElem?_eq_getElem → ch2, getElem?_eq_none → cj3, getElem?_eq_some_iff → ci1, getElem_mem → cj2, length_cons → ch7, length_nil → ci2, map_cons → ck3, mem_append → ci8, mem_cons → ck8, mem_cons_of_mem → ck7, mem_cons_self → ck9, mem_of_getElem? → cj9, mem_range → cl3, mem_singleton → ck1, range → ci5, take → ch6, take_of_length_le → ci6
open Nat renaming le_refl → ch5, le_trans → cj5, lt_of_lt_of_le → cl5, lt_or_ge → cj1, mul_le_mul_right → cl2, zero_add → cl4, zero_le → cl0
open Option renaming isSome_iff_exists → cl6, map_eq_some_iff → ch9
open True renaming intro → ci3

namespace Go.Proofs.YthikdkjjdeehoaaGreat
open Go Go.RowKit
section
variable {P : Program} {ι : Type} {φ ψ : Nat → Prop} {w0 w w' : World} {F : ι → Rs} {ρ : Nat → Value} {S : Nat → It} {N m n : Nat} {ρ0 : Nat → Value}
theorem a99 {l : List Oper} {Q : Exit → Act → World → Prop} (I : Array Bool → Act → World → Prop) (hb : ak8 l.toArray = true)
  (step : ∀ listed a w, I listed a w → ∀ i o, l[i]? = some o → listed.getD i true = false → (∀ e ∈ o.after, Region.binds .any e = true → listed.getD e.on false = true) →
   ∀ Q' : Exit → Act → World → Prop, (∀ a w, I (listed.setIfInBounds i true) a w → Q' .normal a w) → wpList P l.toArray Q' [o] a w)
  (done : ∀ listed a w, I listed a w → (∀ j, j < l.length → listed.getD j true = true) → Q .normal a w) :
  ∀ (fuel : Nat) (listed : Array Bool) (a : Act) (w : World), listed.size = l.toArray.size → listed.toList.count false = fuel → I listed a w → wpAny P .any l.toArray Q fuel listed a w := by
 have hfin : ∀ (listed : Array Bool) (a : Act) (w : World), listed.size = l.toArray.size → Region.ready .any l.toArray listed = [] → I listed a w → Q .normal a w := by
  intro listed a w hsz hr hI
  refine done listed a w hI fun j hj => ?_
  cases hl : listed.getD j true
  ·exact absurd hr (a14 hb hsz j (by simpa using hj) hl)
  ·rfl
 intro fuel
 induction fuel with
 | zero =>
  intro listed a w hsz hc hI
  have hr : Region.ready .any l.toArray listed = [] := by
   rw [List.eq_nil_iff_forall_not_mem]
   intro j hj
   have := Y0 (mem_ready.1 hj).1
   omega
  exact ⟨hr, hfin listed a w hsz hr hI⟩
 | succ f ih =>
  intro listed a w hsz hc hI
  refine ⟨fun hr => hfin listed a w hsz hr hI, fun i hi => ?_⟩
  obtain ⟨h1, o, ho, h2⟩ := mem_ready.1 hi
  have ho' : l[i]? = some o := by simpa using ho
  have hcl := Y0 h1
  have hs := step listed a w hI i o ho' h1 h2 (fun e a w => e = .normal ∧ I (listed.setIfInBounds i true) a w) fun a w h => ⟨rfl, h⟩
  unfold wpOp
  rw [ho]
  simp only
  unfold wpList at hs
  split
  ·rename_i hw
   rw [if_pos hw] at hs
   rcases hs with hs | ⟨_, a, w, he, _⟩
   ·exact .inl (bo5 (fun _ _ _ h => h.1) (Oper.wp_mono (fun a' w' h => ih _ a' w' (by simpa using hsz) (by omega) h.2) hs))
   ·cases he
  ·rename_i hw
   rw [if_neg hw] at hs
   exact ih _ _ _ (by simpa using hsz) (by omega) hs.2
theorem aF4 {id : Nat} {l : List Oper} {Q : Exit → Act → World → Prop} {a : Act} {w : World} (I : Array Bool → Act → World → Prop) (hm : P.follows .mixedOrders = true) (hb : ak8 l.toArray = true)
  (h0 : I (cj4 l.length false) a w.drew)
  (step : ∀ listed a w, I listed a w → ∀ i o, l[i]? = some o → listed.getD i true = false → (∀ e ∈ o.after, Region.binds .any e = true → listed.getD e.on false = true) →
   ∀ Q' : Exit → Act → World → Prop, (∀ a w, I (listed.setIfInBounds i true) a w → Q' .normal a w) → wpList P l.toArray Q' [o] a w)
  (done : ∀ listed a w, I listed a w → (∀ j, j < l.length → listed.getD j true = true) → Q .normal a w) : (Code.region id l.toArray true).wp P Q a w :=
 wp_region_any hm (a99 I hb step done _ _ _ _ (by simp) (by simp) (by simpa using h0))
def RI (φ ψ : Nat → Prop) (w0 : World) (F : ι → Rs) (N m : Nat) (ρ0 : Nat → Value) (l : List Oper) (az : List Ac) (tm : Nat → Option AV) (S : Nat → It) (listed : Array Bool) (a : Act) (w : World) : Prop :=
 listed.size = l.length ∧ bH5 l (fun j => listed.getD j false) ∧ ∃ ρ, (∀ i, i < m → ρ i = ρ0 i) ∧ a.tmps.size = N ∧ a.defers = [] ∧ (∀ t x, tmD az (fun j => listed.getD j false) tm t = some x → a.tmps[t]? = some (x.val ρ)) ∧ l5 φ ψ w0 w (o0 F ρ (sD az (fun j => listed.getD j false) S))
theorem bc8 {ms : List Nat} {az : List Ac} (h : bV3 ms az = true) {i j : Nat} {a b : Ac} (ha : az[i]? = some a) (hb : az[j]? = some b) (hij : i ≠ j) (hm : ag4 a b = true) : (j < i → bef ms j i = true) ∧ (i < j → bef ms i j = true) := by
 have hi := (ci1.1 ha).1
 have hj := (ci1.1 hb).1
 have h1 := ch8.1 (ch8.1 h i (cl3.2 hi)) j (cl3.2 hj)
 rw [ha, hb] at h1
 have hne : natEq i j = false := by simp [natEq, hij]
 simp only [hne, hm, Bool.not_true, Bool.false_or] at h1
 constructor
 ·intro hlt; rw [if_pos (by simpa using hlt)] at h1; exact h1
 ·intro hlt; rw [if_neg (by simp; omega)] at h1; exact h1
theorem bl4 {ms : List Nat} {n0 : Nat} {az : List Ac} (h : bA5 ms n0 az = true) {i : Nat} {a : Ac} (ha : az[i]? = some a) : ∀ id, (id ∈ a.t.res.ids ∨ id ∈ a.t.new.map (·.1) ∨ ∃ p ∈ a.t.new, id ∈ p.2.ids) → id < n0 ∨ (id - n0) / 8 = i ∨ bef ms ((id - n0) / 8) i = true := by
 intro id hid
 have hi := (ci1.1 ha).1
 have h1 := ch8.1 h i (cl3.2 hi)
 rw [ha] at h1
 have h2 := ch8.1 h1 id (by
  rcases hid with h | h | ⟨p, hp, h⟩
  ·exact List.mem_append_left _ (List.mem_append_left _ h)
  ·exact List.mem_append_left _ (List.mem_append_right _ h)
  ·exact List.mem_append_right _ (List.mem_flatMap.2 ⟨p, hp, h⟩))
 simp only [cl1, decide_eq_true_eq, natEq, beq_iff_eq] at h2
 rcases h2 with (h2 | h2) | h2
 ·exact .inl h2
 ·exact .inr (.inl h2)
 ·exact .inr (.inr h2)
theorem aU1 {dk : TypeId → Nat} {H : T5} (hH : ∀ i c τ, M9 H.calls i = some (c, τ) → c.ok P) (hF : R1 H.facts) {l : List Oper} {id : Nat} {Q : Exit → Act → World → Prop} {tm : List (Nat × AV)} {a : Act} {wr : World} (I0 : Inn φ ψ w0 F N m ρ0 n ρ (z8 tm) S a wr) {r : RS} (hrun : X7 P dk N l H l 0 tm S n = some r) (ho : v6 r.obs) (heq : r.acts.map (·.eqs.1) = r.acts.map (·.eqs.2)) (hew : r.acts.map (·.eqw.1) = r.acts.map (·.eqw.2))
  (ms : List Nat) (hm : P.follows .mixedOrders = true) (hb : ak8 l.toArray = true) (hms : aW6 ms l = true) (hord : bV3 ms r.acts = true) (hment : bA5 ms n r.acts = true) (hweak : bv0 ms S r.acts = true)
  (done : ∀ ρ' a' w' n', Inn φ ψ w0 F N m ρ0 n' ρ' (z8 r.tm) r.S a' w' → Q .normal a' w') : (Code.region id l.toArray true).wp P Q a wr := by
 obtain ⟨hlen, hfT, hfS, hat⟩ := bk1 l 0 n hrun ho
 have hmt : ∀ (i : Nat) ac, r.acts[i]? = some ac → ∀ t b, b.dst = some t → t ∈ ac.rt → ag4 ac b = true := fun i ac _ t b hb ht => by
  simp [ag4, hb, t0.2 ht]
 have hmd : ∀ ac b t, ac.dst = some t → b.dst = some t → ag4 ac b = true := fun ac b t h1 h2 => by
  simp [ag4, h1, h2, natEq]
 have hms' : ∀ (ac b : Ac) (j : Nat), j ∈ ac.ri → j ∈ b.t.new.map (·.1) → ag4 ac b = true := fun ac b j h1 h2 => by
  obtain ⟨p, hp, rfl⟩ := List.mem_map.1 h2
  unfold ag4
  have : b.t.new.any (fun p => memN p.1 ac.ri || ac.t.new.any fun q => natEq q.1 p.1) = true := List.any_eq_true.2 ⟨p, hp, by simp [t0.2 h1]⟩
  rw [this]; simp
 have hmn : ∀ (ac b : Ac) (j : Nat), j ∈ ac.t.new.map (·.1) → j ∈ b.t.new.map (·.1) → ag4 ac b = true := fun ac b j h1 h2 => by
  obtain ⟨p, hp, rfl⟩ := List.mem_map.1 h2
  obtain ⟨q, hq, e⟩ := List.mem_map.1 h1
  unfold ag4
  have : b.t.new.any (fun p => memN p.1 ac.ri || ac.t.new.any fun q => natEq q.1 p.1) = true := List.any_eq_true.2 ⟨p, hp, by
   have : ac.t.new.any (fun q => natEq q.1 p.1) = true := List.any_eq_true.2 ⟨q, hq, by simp [natEq, e]⟩
   rw [this]; simp⟩
  rw [this]; simp
 refine aF4 (RI φ ψ w0 F N m ρ0 l r.acts (z8 tm) S) hm hb ?_ ?_ ?_
 ·refine ⟨by simp, fun j o _ hj => ?_, ρ, I0.old, I0.size, I0.defs, fun t x hx => ?_, ?_⟩
  ·have hj' : (cj4 l.length false).getD j false = true := hj
   rw [getD_replicate_false] at hj'; cases hj'
  ·refine I0.tmv t x ?_
   rw [← hx]
   exact (ab6 fun j b _ _ => getD_replicate_false _ _).symm
  ·have e : sD r.acts (fun j => (cj4 l.length false).getD j false) S = S := by
    funext j; exact ab6 fun j b _ _ => getD_replicate_false _ _
   rw [e]; exact I0.mem.drew
 ·rintro listed a w ⟨hsz, hdn, ρ, hold, hN, hdf, hv, M⟩ i o hoi hun hdep Q' hQ
  generalize hB : (fun j => listed.getD j false) = B at *
  have hBj : ∀ j, B j = listed.getD j false := fun j => by rw [← hB]
  have hil := (ci1.1 hoi).1
  have hBi : B i = false := by
   rw [hBj, ← bm6 (by omega)]; exact hun
  obtain ⟨ac, ob, hac, hob, hop⟩ := hat i o hoi
  simp only [cl4] at hop
  have heqi : ac.eqs.1 = ac.eqs.2 := by
   have := congrArg (·[i]?) heq
   simpa [hac] using this
  have hewi : ac.eqw.1 = ac.eqw.2 := by
   have := congrArg (·[i]?) hew
   simpa [hac] using this
  obtain ⟨hdst, hdN, hfine⟩ := aW3 hop
  obtain ⟨hf1, hf2, hf3⟩ := af4 hfine
  have hdep' : ∀ e ∈ o.after, Region.binds .any e = true → B e.on = true := fun e he hbi => by rw [hBj]; exact hdep e he hbi
  have ahead : ∀ j, bef ms j i = true → B j = true := fun j hj => bt8 hms hb hdn hoi hdep' hj
  have behind : ∀ j, j < l.length → bef ms i j = true → B j = false := fun j hjl hj => by
   cases h : B j
   ·rfl
   ·have := aM6 hms hb hdn j hjl h i hj
    rw [hBi] at this; cases this
  have hagree : ∀ (j : Nat) b, r.acts[j]? = some b → ag4 ac b = true → B j = decide (j < i) := fun j b hj hmm => by
   have hjl : j < l.length := by have := (ci1.1 hj).1; omega
   rcases Nat.lt_trichotomy j i with h | h | h
   ·rw [ahead j ((bc8 hord hac hj (by omega) hmm).1 h)]; simp [h]
   ·subst h; rw [hBi]; simp
   ·rw [behind j hjl ((bc8 hord hac hj (by omega) hmm).2 h)]
    have : ¬ j < i := by omega
    simp [this]
  have hop2 := bq4 hop (tm' := tmD r.acts B (z8 tm)) (S' := sD r.acts B S) (fun t ht => U8 fun j b hj hw => by
    rw [cl4]
    refine hagree j b hj (hmt i ac hac t b ?_ ht)
    unfold wrT at hw
    split at hw
    ·assumption
    ·cases hw)
   (fun q hq => U8 fun j b hj hw => by
    rw [cl4]
    obtain ⟨x, hx⟩ := cl6.1 hw
    exact hagree j b hj (hms' ac b q hq (List.mem_map.2 ⟨_, T1 hx, rfl⟩)))
   (fun q hq => by
    show knd (pf (wrS q) r.acts 0 B (S q)) = _
    rw [bi9 hweak hac hq fun k _ hk => ahead k hk, bi9 hweak hac hq fun k hk _ => by simpa using hk])
  have hrange : ∀ id, n + 8 * i ≤ id → id < n + 8 * i + 8 → (id - n) / 8 = i := fun id h1 h2 => by omega
  have hmk : ∀ j ∈ ac.t.made, sD r.acts B S j = .none := fun j hj => by
   obtain ⟨g1, g2⟩ := hf2 j hj
   have e : sD r.acts B S j = S j := ab6 fun k b hk hw => by
    rw [cl4]
    obtain ⟨x, hx⟩ := cl6.1 hw
    have hkl : k < l.length := by have := (ci1.1 hk).1; omega
    rcases bl4 hment hk j (.inr (.inl (List.mem_map.2 ⟨_, T1 hx, rfl⟩))) with h | h | h
    ·omega
    ·rw [hrange j g1 g2] at h; subst h; exact hBi
    ·rw [hrange j g1 g2] at h; exact behind k hkl h
   rw [e]; exact (I0.bd j).2 (by omega)
  have hnot : ∀ (k : Nat) b, r.acts[k]? = some b → B k = true → ∀ id, (id ∈ b.t.res.ids ∨ id ∈ b.t.new.map (·.1) ∨ ∃ p ∈ b.t.new, id ∈ p.2.ids) → id ∉ ac.t.made := fun k b hk hBk id hid hm => by
   obtain ⟨g1, g2⟩ := hf2 id hm
   have hkl : k < l.length := by have := (ci1.1 hk).1; omega
   rcases bl4 hment hk id hid with h | h | h
   ·omega
   ·rw [hrange id g1 g2] at h; subst h; rw [hBi] at hBk; cases hBk
   ·rw [hrange id g1 g2] at h; rw [behind k hkl h] at hBk; cases hBk
  have hitem : ∀ j, ∀ id ∈ (sD r.acts B S j).ids, id ∉ ac.t.made := fun j => by
   refine as4 (fun x : It => ∀ id ∈ x.ids, id ∉ ac.t.made) (fun id hid hm => ?_) fun k b x hk hBk hw id hid => ?_
   ·have := (I0.bd j).1 id hid; have := (hf2 id hm).1; omega
   ·rw [cl4] at hBk
    exact hnot k b hk hBk id (.inr (.inr ⟨_, T1 hw, hid⟩))
  have htm : ∀ t x, tmD r.acts B (z8 tm) t = some x → ∀ id ∈ x.ids, id ∉ ac.t.made := fun t => by
   refine as4 (fun y : Option AV => ∀ x, y = some x → ∀ id ∈ x.ids, id ∉ ac.t.made) (fun x hx id hid hm => ?_) fun k b y hk hBk hw x hx id hid => ?_
   ·have := I0.tmi t x hx id hid; have := (hf2 id hm).1; omega
   ·rw [cl4] at hBk
    unfold wrT at hw
    split at hw
    ·cases hw; cases hx
     exact hnot k b hk hBk id (.inl hid)
    ·cases hw
  have hinv : Inv (sD r.acts B S) ρ ac.t.made := fun ρ' ha j => by
   refine It.res_congr _ (fun id hid => ha id (hitem j id hid)) ?_
   by_cases hj : j ∈ ac.t.made
   ·exact .inl (hmk j hj)
   ·exact .inr (.inr (ha j hj))
  refine bL0 hH hF hv M hop2 hob heqi hewi hmk hinv fun ρ' w' ha M' => ?_
  refine hQ _ _ ?_
  have hB' : ∀ j, (listed.setIfInBounds i true).getD j false = if j = i then true else B j := fun j => by
   by_cases e : j = i
   ·subst e
    have : j < listed.size := by omega
    simp [this]
   ·rw [if_neg e, getD_set_ne false (fun h => e h.symm), hBj]
  have hBe : (fun j => (listed.setIfInBounds i true).getD j false) = fun j => if j = i then true else B j := funext hB'
  have later : ∀ (j : Nat) b, i < j → r.acts[j]? = some b → ag4 ac b = true → (if j = i then true else B j) = false := fun j b hij hj hmm => by
   have hjl : j < l.length := by have := (ci1.1 hj).1; omega
   rw [if_neg (by omega)]
   exact behind j hjl ((bc8 hord hac hj (by omega) hmm).2 hij)
  have eT : tmD r.acts (fun j => if j = i then true else B j) (z8 tm) = aN4 ac.dst ac.t.res (tmD r.acts B (z8 tm)) := by
   funext t
   simp only [aN4]
   by_cases e : ac.dst = some t
   ·rw [if_pos e]
    refine aW2 (i := i) hac (by simp [wrT, e]) (by simp) fun j b hij hj hw => ?_
    rw [cl4]
    refine later j b hij hj (hmd ac b t e ?_)
    unfold wrT at hw
    split at hw
    ·assumption
    ·cases hw
   ·rw [if_neg e]
    refine U8 fun j b hj hw => ?_
    have : j ≠ i := fun h => by
     subst h
     rw [hac] at hj; cases hj
     simp [wrT, e] at hw
    simp [this]
  have eS : sD r.acts (fun j => if j = i then true else B j) S = n5 (sD r.acts B S) ac.t.new := by
   funext q
   rw [av3]
   cases hx : aL0 ac.t.new q with
   | some x =>
    refine aW2 (i := i) hac hx (by simp) fun j b hij hj hw => ?_
    rw [cl4]
    obtain ⟨y, hy⟩ := cl6.1 hw
    exact later j b hij hj (hmn ac b q (List.mem_map.2 ⟨_, T1 hx, rfl⟩) (List.mem_map.2 ⟨_, T1 hy, rfl⟩))
   | none =>
    refine U8 fun j b hj hw => ?_
    have : j ≠ i := fun h => by
     subst h
     rw [hac] at hj; cases hj
     unfold wrS at hw
     rw [hx] at hw; cases hw
    simp [this]
  refine ⟨by simpa using hsz, ?_, ρ', fun j hj => (ha j fun hm => by have := (hf2 j hm).1; have := I0.le; omega).trans (hold j hj), (a27 _ _ _).trans hN, (a28 _ _ _).trans hdf, ?_, ?_⟩
  ·rw [hBe]
   intro j oj hj hBj' e he hbi
   show (if e.on = i then true else B e.on) = true
   by_cases e1 : e.on = i
   ·simp [e1]
   ·rw [if_neg e1]
    by_cases e2 : j = i
    ·subst e2
     rw [hoi] at hj; cases hj
     exact hdep' e he hbi
    ·simp only [if_neg e2] at hBj'
     exact hdn j oj hj hBj' e he hbi
  ·rw [hBe, eT, hdst]
   intro t x hx
   rw [by2 (by rw [hN]; exact hdN)]
   simp only [aN4] at hx
   split
   ·rename_i e; rw [if_pos e] at hx; cases hx; rfl
   ·rename_i e
    rw [if_neg e] at hx
    rw [hv t x hx, AV.val_congr x fun id hid => ha id (htm t x hx id hid)]
  ·rw [hBe, eS]; exact M'
 ·rintro listed a w ⟨hsz, hdn, ρ, hold, hN, hdf, hv, M⟩ hall
  have hall' : ∀ j, j < l.length → listed.getD j false = true := fun j hj => by rw [← bm6 (by omega)]; exact hall j hj
  have eT : tmD r.acts (fun j => listed.getD j false) (z8 tm) = z8 r.tm := by
   funext t
   rw [hfT t]
   refine U8 fun j b hj _ => ?_
   rw [cl4]
   exact hall' j (by have := (ci1.1 hj).1; omega)
  have eS : sD r.acts (fun j => listed.getD j false) S = r.S := by
   funext q
   rw [hfS q]
   refine U8 fun j b hj _ => ?_
   rw [cl4]
   exact hall' j (by have := (ci1.1 hj).1; omega)
  have hids : ∀ (k : Nat) b, r.acts[k]? = some b → ∀ id, (id ∈ b.t.res.ids ∨ id ∈ b.t.new.map (·.1) ∨ ∃ p ∈ b.t.new, id ∈ p.2.ids) → id < n + 8 * l.length := fun k b hk id hid => by
   have hkl : k < l.length := by have := (ci1.1 hk).1; omega
   obtain ⟨o, ho'⟩ : ∃ o, l[k]? = some o := ⟨_, ch2 hkl⟩
   obtain ⟨ac, ob, hac, _, hop⟩ := hat k o ho'
   rw [hk] at hac; cases hac
   obtain ⟨_, _, hfine⟩ := aW3 hop
   obtain ⟨hf1, hf2, hf3⟩ := af4 hfine
   rcases hid with h | h | ⟨p, hp, h⟩
   ·have := hf3 id h; omega
   ·obtain ⟨p, hp, rfl⟩ := List.mem_map.1 h
    have := (hf1 p hp).1; omega
   ·have := (hf1 p hp).2 id h; omega
  refine done ρ a w (n + 8 * l.length) ⟨hN, hdf, by rw [← eT]; exact hv, fun t x hx => ?_, fun j => ?_, by rw [← eS]; exact M, by have := I0.le; omega, hold⟩
  ·rw [hfT t] at hx
   revert x
   refine as4 (fun y : Option AV => ∀ x, y = some x → ∀ id ∈ x.ids, id < n + 8 * l.length) (fun x hx id hid => ?_) fun k b y hk _ hw x hx id hid => ?_
   ·have := I0.tmi t x hx id hid; omega
   ·unfold wrT at hw
    split at hw
    ·cases hw; cases hx
     exact hids k b hk id (.inl hid)
    ·cases hw
  ·refine ⟨?_, fun hj => ?_⟩
   ·rw [hfS j]
    refine as4 (fun x : It => ∀ id ∈ x.ids, id < n + 8 * l.length) (fun id hid => ?_) fun k b x hk _ hw id hid => ?_
    ·have := (I0.bd j).1 id hid; omega
    ·exact hids k b hk id (.inr (.inr ⟨_, T1 hw, hid⟩))
   ·rw [hfS j, ab6 fun k b hk hw => ?_]
    ·exact (I0.bd j).2 (by omega)
    ·obtain ⟨x, hx⟩ := cl6.1 hw
     have := hids k b hk j (.inr (.inl (List.mem_map.2 ⟨_, T1 hx, rfl⟩)))
     omega
end
def t4 {ι : Type} (φ ψ : Nat → Prop) (w0 : World) (F : ι → Rs) (N m : Nat) (ρ0 ρ : Nat → Value) (S : List It) (tm : List (Nat × AV)) (a : Act) (w : World) : Prop := Inn φ ψ w0 F N m ρ0 S.length ρ (z8 tm) (s4 S) a w
def wfB (S : List It) (tm : List (Nat × AV)) : Bool := S.all (fun x => aa0 S.length x.ids) && tm.all (fun p => aa0 S.length p.2.ids)
def bR1 (m : Nat) (js : List Nat) : Bool := (ci5 m).all fun i => natEq (nth js i) i && decide (i < js.length)
def ai9 (m : Nat) (js : List Nat) (S : List It) (tm : List (Nat × AV)) : Bool := nodupB js && natEq js.length S.length && wfB S tm && bR1 m js
section
variable {P : Program} {ι : Type} {φ ψ : Nat → Prop} {w0 w w' : World} {F : ι → Rs} {ρ ρ0 : Nat → Value} {N m n : Nat} {S : List It} {tm : List (Nat × AV)} {a : Act} {Q : Exit → Act → World → Prop}
theorem aI7 : ∀ {tm : List (Nat × AV)} {t : Nat} {x : AV}, z8 tm t = some x → (t, x) ∈ tm
 | [], _, _, h => by cases h
 | (k, y) :: r, t, x, h => by
  simp only [z8, natEq, beq_iff_eq] at h
  split at h
  ·rename_i e; subst e; cases h; exact ck9
  ·exact ck7 _ (aI7 h)
theorem aj8 {l : List It} {i : Nat} (h : i < l.length) : s4 l i = l[i] := by simp [s4, ch3, h]
theorem y6 {l : List It} {i : Nat} (h : l.length ≤ i) : s4 l i = .none := by simp [s4, ch3, h]
theorem bQ0 {S : List It} {tm : List (Nat × AV)} (h : wfB S tm = true) : (∀ j, (∀ id ∈ (s4 S j).ids, id < S.length) ∧ (S.length ≤ j → s4 S j = .none)) ∧ ∀ t x, z8 tm t = some x → ∀ id ∈ x.ids, id < S.length := by
 simp only [wfB, ch0] at h
 refine ⟨fun j => ⟨fun id hid => ?_, fun hj => y6 hj⟩, fun t x hx id hid => ?_⟩
 ·rcases cj1 j S.length with hj | hj
  ·rw [aj8 hj] at hid
   exact D5 (ch8.1 h.1 _ (cj2 hj)) id hid
  ·rw [y6 hj] at hid; cases hid
 ·exact D5 (ch8.1 h.2 _ (aI7 hx)) id hid
theorem Inn.sel {tf : Nat → Option AV} {Sf : Nat → It} (I : Inn φ ψ w0 F N m ρ0 n ρ tf Sf a w) (js : List Nat) (S1 : List It) (tm1 : List (Nat × AV)) (hb : ai9 m js S1 tm1 = true) (hS : js.map Sf = S1.map (It.ren (nth js))) (ht : (tm1.map (·.1)).map tf = tm1.map fun p => some (p.2.ren (nth js))) :
  t4 φ ψ w0 F N m ρ0 (fun i => ρ (nth js i)) S1 tm1 a w := by
 simp only [ai9, ch0, natEq, beq_iff_eq] at hb
 obtain ⟨⟨⟨hnd, hl⟩, hwf⟩, hkeep⟩ := hb
 have hn := ap7 hnd
 obtain ⟨b1, b2⟩ := bQ0 hwf
 have hk : ∀ i, i < m → nth js i = i ∧ i < js.length := fun i hi => by
  have := ch8.1 hkeep i (cl3.2 hi)
  simpa [natEq] using this
 refine ⟨I.size, I.defs, fun t x hx => ?_, b2, b1, ?_, ?_, fun i hi => ?_⟩
 ·obtain ⟨i, hi⟩ := List.mem_iff_getElem?.1 (aI7 hx)
  have h1 := congrArg (·[i]?) ht
  simp only [List.getElem?_map, hi, Option.map_some] at h1
  rw [I.tmv t _ (Option.some.inj h1), AV.val_ren]
 ·refine I.mem.map (fun k : ι ⊕ Nat => (match k with | .inl i => some (.inl i) | .inr i => if i < js.length then some (.inr (nth js i)) else none : Option (ι ⊕ Nat))) ?_ ?_
  ·intro k k' x h1 h2
   match k, k' with
   | .inl i, .inl i' => simp at h1 h2; rw [← h1] at h2; simpa using h2.symm
   | .inl i, .inr j => simp only at h1 h2; cases h1; split at h2 <;> simp at h2
   | .inr j, .inl i => simp only at h1 h2; cases h2; split at h1 <;> simp at h1
   | .inr j, .inr j' =>
    simp at h1 h2
    obtain ⟨f1, f2⟩ := h1
    obtain ⟨g1, g2⟩ := h2
    rw [← f2] at g2
    have hj := Sum.inr.inj g2
    have e1 := ch2 f1
    have e2 := ch2 g1
    rw [H4 e2, H4 e1] at hj
    have := (List.getElem?_inj f1 hn).1 (e1.trans (by rw [← hj]; exact e2.symm))
    rw [this]
  ·intro k
   match k with
   | .inl i => exact .inl ⟨_, rfl, rfl⟩
   | .inr i =>
    by_cases hlt : i < js.length
    ·refine .inl ⟨.inr (nth js i), by simp [hlt], ?_⟩
     have h1 := congrArg (·[i]?) hS
     have hlt' : i < S1.length := by omega
     simp only [List.getElem?_map, ch2 hlt, ch2 hlt', Option.map_some, Option.some.injEq] at h1
     simp only [o0]
     rw [aj8 hlt', H4 (ch2 hlt), h1, ← It.res_ren, H4 (ch2 hlt)]
    ·refine .inr ?_
     simp only [o0]
     rw [y6 (by omega)]
     rfl
 ·rcases cj1 S1.length m with h | h
  ·have := (hk S1.length h).2; omega
  ·exact h
 ·rw [(hk i hi).1]; exact I.old i hi
def a32 (o : Option RS) (js ts : List Nat) : Option (List Prop × List It × List (Option AV) × List (List (List AV × List It)) × List (List AV)) := o.map fun r => (r.obs, js.map r.S, ts.map (z8 r.tm), r.acts.map (·.eqs.1), r.acts.map (·.eqw.1))
def bc7 (o : Option RS) (obs : List Prop) (js : List Nat) (S : List It) (tm : List (Nat × AV)) : Option (List Prop × List It × List (Option AV) × List (List (List AV × List It)) × List (List AV)) := o.map fun r => (obs, S.map (It.ren (nth js)), tm.map (fun p => some (p.2.ren (nth js))), r.acts.map (·.eqs.2), r.acts.map (·.eqw.2))
def bn1 (l : List Oper) (ms : List Nat) (n : Nat) (S : Nat → It) (o : Option RS) : Bool := aW6 ms l && ak8 l.toArray && match o with
 | some r => bV3 ms r.acts && bA5 ms n r.acts && bv0 ms S r.acts
 | none => false
theorem bU2 {dk : TypeId → Nat} {l : List Oper} {id : Nat} (G : t4 φ ψ w0 F N m ρ0 ρ S tm a w) (H : T5) (hH : ∀ i c τ, M9 H.calls i = some (c, τ) → c.ok P) (hF : R1 H.facts) (js : List Nat) (S1 : List It) (tm1 : List (Nat × AV)) (obs : List Prop)
  (hs : ((X7 P dk N l H l 0 tm (s4 S) S.length).isSome && ai9 m js S1 tm1) = true)
  (hc : a32 (X7 P dk N l H l 0 tm (s4 S) S.length) js (tm1.map (·.1)) = bc7 (X7 P dk N l H l 0 tm (s4 S) S.length) obs js S1 tm1)
  (ho : v6 obs) (k : ∀ ρ' a' w', t4 φ ψ w0 F N m ρ0 ρ' S1 tm1 a' w' → Q .normal a' w') : (Code.region id l.toArray false).wp P Q a w := by
 simp only [ch0] at hs
 obtain ⟨r, hr⟩ := cl6.1 hs.1
 rw [hr] at hc
 simp only [a32, bc7, Option.map_some, Option.some.injEq, Prod.mk.injEq] at hc
 obtain ⟨h1, h2, h3, h4, h5⟩ := hc
 refine wp_region_lit (bk0 hH hF l 0 S.length G hr (by rw [h1]; exact ho) h4 h5 fun ρ' a' w' n' I => ?_)
 exact k _ a' w' (I.sel js S1 tm1 hs.2 h2 h3)
theorem bJ8 {dk : TypeId → Nat} {l : List Oper} {id : Nat} (G : t4 φ ψ w0 F N m ρ0 ρ S tm a w) (H : T5) (hH : ∀ i c τ, M9 H.calls i = some (c, τ) → c.ok P) (hF : R1 H.facts) (ms : List Nat) (js : List Nat) (S1 : List It) (tm1 : List (Nat × AV)) (obs : List Prop) (hm : P.follows .mixedOrders = true)
  (hs : (bn1 l ms S.length (s4 S) (X7 P dk N l H l 0 tm (s4 S) S.length) && ai9 m js S1 tm1) = true)
  (hc : a32 (X7 P dk N l H l 0 tm (s4 S) S.length) js (tm1.map (·.1)) = bc7 (X7 P dk N l H l 0 tm (s4 S) S.length) obs js S1 tm1)
  (ho : v6 obs) (k : ∀ ρ' a' w', t4 φ ψ w0 F N m ρ0 ρ' S1 tm1 a' w' → Q .normal a' w') : (Code.region id l.toArray true).wp P Q a w := by
 simp only [ch0, bn1] at hs
 obtain ⟨⟨⟨q1, q2⟩, q3⟩, q4⟩ := hs
 cases hr : X7 P dk N l H l 0 tm (s4 S) S.length with
 | none => rw [hr] at q3; cases q3
 | some r =>
  rw [hr] at q3 hc
  simp only [ch0] at q3
  simp only [a32, bc7, Option.map_some, Option.some.injEq, Prod.mk.injEq] at hc
  obtain ⟨h1, h2, h3, h4, h5⟩ := hc
  refine aU1 hH hF G hr (by rw [h1]; exact ho) h4 h5 ms hm q2 q1 q3.1.1 q3.1.2 q3.2 fun ρ' a' w' n' I => ?_
  exact k _ a' w' (I.sel js S1 tm1 q4 h2 h3)
theorem rs1 {dk : TypeId → Nat} {l : List Oper} {id : Nat} (G : t4 φ ψ w0 F N m ρ0 ρ S tm a w) (H : T5) (hH : ∀ i c τ, M9 H.calls i = some (c, τ) → c.ok P) (hF : R1 H.facts) (js : List Nat) (S1 : List It) (tm1 : List (Nat × AV)) (obs : List Prop)
  (ho : v6 obs) (k : ∀ ρ' a' w', t4 φ ψ w0 F N m ρ0 ρ' S1 tm1 a' w' → Q .normal a' w')
  (hs : ((X7 P dk N l H l 0 tm (s4 S) S.length).isSome && ai9 m js S1 tm1) = true := by kernel_rfl)
  (hc : a32 (X7 P dk N l H l 0 tm (s4 S) S.length) js (tm1.map (·.1)) = bc7 (X7 P dk N l H l 0 tm (s4 S) S.length) obs js S1 tm1 := by kernel_rfl) : (Code.region id l.toArray false).wp P Q a w := bU2 G H hH hF js S1 tm1 obs hs hc ho k
theorem rd1 {dk : TypeId → Nat} {l : List Oper} {id : Nat} (G : t4 φ ψ w0 F N m ρ0 ρ S tm a w) (H : T5) (hH : ∀ i c τ, M9 H.calls i = some (c, τ) → c.ok P) (hF : R1 H.facts) (ms : List Nat) (js : List Nat) (S1 : List It) (tm1 : List (Nat × AV)) (obs : List Prop)
  (ho : v6 obs) (k : ∀ ρ' a' w', t4 φ ψ w0 F N m ρ0 ρ' S1 tm1 a' w' → Q .normal a' w') (hm : P.follows .mixedOrders = true := by kernel_rfl)
  (hs : (bn1 l ms S.length (s4 S) (X7 P dk N l H l 0 tm (s4 S) S.length) && ai9 m js S1 tm1) = true := by kernel_rfl)
  (hc : a32 (X7 P dk N l H l 0 tm (s4 S) S.length) js (tm1.map (·.1)) = bc7 (X7 P dk N l H l 0 tm (s4 S) S.length) obs js S1 tm1 := by kernel_rfl) : (Code.region id l.toArray true).wp P Q a w := bJ8 G H hH hF ms js S1 tm1 obs hm hs hc ho k
theorem am4 : ∀ i c τ, M9 [] i = some (c, τ) → j8.ok P c := fun i c τ h => by cases h
theorem aL9 {i0 : Nat} {c0 : j8} {τ0 : List Nat} {r : List (Nat × j8 × List Nat)} (h0 : c0.ok P) (hr : ∀ i c τ, M9 r i = some (c, τ) → j8.ok P c) : ∀ i c τ, M9 ((i0, c0, τ0) :: r) i = some (c, τ) → j8.ok P c := fun i c τ h => by
 simp only [M9] at h
 split at h
 ·cases h; exact h0
 ·exact hr i c τ h
theorem t4.sel (G : t4 φ ψ w0 F N m ρ0 ρ S tm a w) (js : List Nat) (S1 : List It) (tm1 : List (Nat × AV)) (hb : ai9 m js S1 tm1 = true) (hS : js.map (s4 S) = S1.map (It.ren (nth js))) (ht : (tm1.map (·.1)).map (z8 tm) = tm1.map fun p => some (p.2.ren (nth js))) : ∃ ρ', t4 φ ψ w0 F N m ρ0 ρ' S1 tm1 a w := ⟨_, Inn.sel G js S1 tm1 hb hS ht⟩
theorem t4.as (G : t4 φ ψ w0 F N m ρ0 ρ S tm a w) (S1 : List It) (tm1 : List (Nat × AV)) (hS : S = S1) (ht : tm = tm1) : t4 φ ψ w0 F N m ρ0 ρ S1 tm1 a w := by subst hS; subst ht; exact G
theorem t4.at (G : t4 φ ψ w0 F N m ρ0 ρ S tm a w) (S1 : List It) (tm1 : List (Nat × AV)) (hS : S = S1 := by kernel_rfl) (ht : tm = tm1 := by kernel_rfl) : t4 φ ψ w0 F N m ρ0 ρ S1 tm1 a w := G.as S1 tm1 hS ht
theorem al2 {c : Nat} {x y : Code} (G : t4 φ ψ w0 F N m ρ0 ρ S tm a w) (b : Bool) (hc : z8 tm c = some (.v (.bool b))) (ht : b = true → x.wp P Q a w) (hf : b = false → y.wp P Q a w) : (Code.cond (.tmp c) x y).wp P Q a w := by
 have h := G.tmv c _ hc
 refine wp_cond_split (t := b) ?_ ht hf
 simp [Act.eval, Array.getD_eq_getD_getElem?, h, AV.val]
theorem bx5 {c : Nat} {x y : Code} (G : t4 φ ψ w0 F N m ρ0 ρ S tm a w) (b : Bool) (hc : z8 tm c = some (.v (.bool b))) (hb : b = true) (h : x.wp P Q a w) : (Code.cond (.tmp c) x y).wp P Q a w := al2 G b hc (fun _ => h) fun hf => by rw [hb] at hf; cases hf
theorem bx6 {c : Nat} {x y : Code} (G : t4 φ ψ w0 F N m ρ0 ρ S tm a w) (b : Bool) (hc : z8 tm c = some (.v (.bool b))) (hb : b = false) (h : y.wp P Q a w) : (Code.cond (.tmp c) x y).wp P Q a w := al2 G b hc (fun ht => by rw [hb] at ht; cases ht) fun _ => h
def bb9 (P : Program) (tm : Nat → Option AV) (S : Nat → It) : List ResultVar → Option (List AV)
 | [] => some []
 | .tmp t :: r =>
  match tm t, bb9 P tm S r with
  | some x, some l => some (x :: l)
  | _, _ => none
 | .cell t ty :: r =>
  match tm t, bb9 P tm S r with
  | some (.ptr b off), some l =>
   match S b with
   | .box cs => (bt9 P ty ((cs.drop off).take (aF7 P ty))).map fun x => x :: l
   | _ => none
  | _, _ => none
def a24 (P : Program) (fn : Func) (tm : List (Nat × AV)) (S : List It) : Option AV :=
 match bb9 P (z8 tm) (s4 S) fn.results.toList with
 | some [x] => some x
 | some l => some (.tup l)
 | none => none
theorem bH3 {cs : List AV} {ty : TypeId} {b off : Nat} {x : AV} (hB : B7 w b (AV.vals ρ cs)) (h : bt9 P ty ((cs.drop off).take (aF7 P ty)) = some x) : (loadVar ty ⟨b, off, none⟩).run P w = .ok (x.val ρ) w :=
 ay1 h ⟨b, off, none⟩ fun j u hj => by
  rw [AV.vals_take, AV.vals_drop] at hj
  have hadd : (⟨b, off, none⟩ : Addr).add j = ⟨b, off + j, none⟩ := by unfold Addr.add; split <;> simp_all
  rw [hadd, hB.cell]
  rw [List.getElem?_take] at hj
  split at hj
  ·rw [List.getElem?_drop] at hj; exact hj
  ·cases hj
theorem aV8 (G : t4 φ ψ w0 F N m ρ0 ρ S tm a w) : ∀ {rs : List ResultVar} {l : List AV}, bb9 P (z8 tm) (s4 S) rs = some l →
  (rs.mapM (fun r => (match r with | .tmp t => pure (a.tmps.getD t undef) | .cell b t => do loadVar t (← asAddr (a.tmps.getD b undef)) : Sem Value))).run P w = .ok (AV.vals ρ l) w
 | [], l, h => by cases h; simp [AV.vals]
 | .tmp t :: r, l, h => by
  simp only [bb9] at h
  split at h
  case h_2 => cases h
  rename_i x l' h1 h2
  cases h
  have ht := G.tmv t x h1
  have ih := aV8 G h2
  have e : (pure (a.tmps.getD t undef) : Sem Value).run P w = .ok (x.val ρ) w := by simp [Array.getD_eq_getD_getElem?, ht]
  rw [List.mapM_cons, Sem.run_bind, e, Result.andThen_ok, Sem.run_bind, ih]
  rfl
 | .cell t ty :: r, l, h => by
  simp only [bb9] at h
  split at h
  case h_2 => cases h
  rename_i b off l' h1 h2
  split at h
  case h_2 => cases h
  rename_i cs hS
  obtain ⟨x, h3, h4⟩ := ch9.1 h
  subst h4
  have ht := G.tmv t _ h1
  have ih := aV8 G h2
  have hl := bH3 (P := P) (G.mem.boxAt hS) h3
  have e : (do loadVar ty (← asAddr (a.tmps.getD t undef)) : Sem Value).run P w = .ok (x.val ρ) w := by
   rw [show a.tmps.getD t undef = .pointer (some ⟨X4 (ρ b), off, none⟩) by simp [Array.getD_eq_getD_getElem?, ht, AV.val]]
   simp [asAddr, hl]
  rw [List.mapM_cons, Sem.run_bind, e, Result.andThen_ok, Sem.run_bind, ih]
  rfl
theorem bU3 {fn : Func} {R : Ending → World → Prop} {v : AV} (G : t4 φ ψ w0 F N m ρ0 ρ S tm a w) (h : a24 P fn tm S = some v) (hR : R (.returned (v.val ρ)) w) : bodyPost P fn R .ret a w := by
 refine ⟨G.defs, v.val ρ, ?_, hR⟩
 unfold a24 at h
 cases hl : bb9 P (z8 tm) (s4 S) fn.results.toList with
 | none => rw [hl] at h; cases h
 | some l =>
  rw [hl] at h
  have := aV8 G hl
  unfold results
  rw [Sem.run_bind, Array.mapM_eq_mapM_toList, Sem.run_map]
  erw [this]
  simp only [Result.andThen_ok, Sem.run_pure]
  match l, h with
  | [], h => cases h; rfl
  | [x], h => cases h; rfl
  | x :: y :: r, h => cases h; rfl
def aM9 (i : Nat) : List AV → List (Nat × AV)
 | [] => []
 | x :: r => (i, x) :: aM9 (i + 1) r
theorem a87 (ρ : Nat → Value) : ∀ {l : List AV} {i t : Nat} {x : AV}, z8 (aM9 i l) t = some x → i ≤ t ∧ (AV.vals ρ l)[t - i]? = some (x.val ρ)
 | [], _, _, _, h => by cases h
 | y :: r, i, t, x, h => by
  simp only [aM9, z8, natEq, beq_iff_eq] at h
  split at h
  ·rename_i e; subst e; cases h; exact ⟨ch5 _, by simp [AV.vals]⟩
  ·obtain ⟨h1, h2⟩ := a87 ρ h
   refine ⟨by omega, ?_⟩
   rw [show t - i = (t - (i + 1)) + 1 by omega]
   simpa [AV.vals] using h2
def a92 (φ ψ : Nat → Prop) (w0 : World) (F : ι → Rs) (ρ0 : Nat → Value) (c : j8) (x : Ending) (w' : World) : Prop := ∃ ρ', (∀ i, i < c.pre.length → ρ' i = ρ0 i) ∧ x = .returned (c.res.val ρ') ∧ l5 φ ψ w0 w' (o0 F ρ' (s4 c.post))
theorem bx4 {c : j8} {fn : Func} {code : Code} (N : Nat) (hf : P.funcs[c.f]? = some fn) (hb : fn.body = some code) (hN : fn.ntmps = N) (hw : (wfB c.pre (aM9 0 c.args) && decide (c.args.length ≤ N)) = true)
  (k : ∀ {ι : Type} (φ ψ : Nat → Prop) (w0 w : World) (F : ι → Rs) (ρ0 ρ : Nat → Value) (a : Act), t4 φ ψ w0 F N c.pre.length ρ0 ρ c.pre (aM9 0 c.args) a w → code.wp P (bodyPost P fn (a92 φ ψ w0 F ρ0 c)) a w) : c.ok P := by
 intro ι φ ψ w0 w F ρ M
 simp only [ch0, decide_eq_true_eq] at hw
 obtain ⟨b1, b2⟩ := bQ0 hw.1
 refine calls_of_wp hf hb (k φ ψ w0 w F ρ ρ _ ⟨?_, rfl, fun t x hx => ?_, b2, b1, M, ch5 _, fun _ _ => rfl⟩)
 ·simp [AV.vals_length, hN]; omega
 ·obtain ⟨_, h1⟩ := a87 ρ hx
  rw [Nat.sub_zero] at h1
  have hlt := (ci1.1 h1).1
  rw [Array.getElem?_append_left (by simpa using hlt)]
  simpa using h1
theorem aH2 {fn : Func} {c : j8} {v : AV} (G : t4 φ ψ w0 F N c.pre.length ρ0 ρ S tm a w) (js : List Nat) (h : a24 P fn tm S = some v) (hb : ai9 c.pre.length js c.post [] = true) (hS : js.map (s4 S) = c.post.map (It.ren (nth js))) (hv : v = c.res.ren (nth js)) : bodyPost P fn (a92 φ ψ w0 F ρ0 c) .ret a w := by
 have G1 := Inn.sel G js c.post [] hb hS rfl
 refine bU3 G h ⟨fun i => ρ (nth js i), G1.old, ?_, G1.mem⟩
 rw [hv, AV.val_ren]
theorem b6 {K : Act → World → Prop} (h : K a w) : Exit.then K Q .normal a w := h
theorem r7 {K : Act → World → Prop} {id : Nat} (h : Q (.exit id) a w) : Exit.then K Q (.exit id) a w := h
theorem l4 {K : Act → World → Prop} (h : Q .ret a w) : Exit.then K Q .ret a w := h
theorem k6 {id : Nat} (h : Q .normal a w) : Exit.inBlock id Q .normal a w := h
theorem z3 {id : Nat} (h : Q .ret a w) : Exit.inBlock id Q .ret a w := h
theorem p6 {id : Nat} (h : Q .normal a w) : Exit.inBlock id Q (.exit id) a w := by simp only [Exit.inBlock, if_true]; exact h
theorem bP0 {id id' : Nat} (hne : natEq id' id = false) (h : Q (.exit id') a w) : Exit.inBlock id Q (.exit id') a w := by
 simp only [Exit.inBlock]
 rw [if_neg (by simpa [natEq] using hne)]; exact h
theorem w64 {x : Int} (h1 : -9223372036854775808 ≤ x) (h2 : x ≤ 9223372036854775807) : IntKind.i64.wrap x = x := IntWalk.i64_in x ⟨h1, h2⟩
theorem rT {c : Nat} {x y : Code} (G : t4 φ ψ w0 F N m ρ0 ρ S tm a w) (b : Bool) (hb : b = true) (h : x.wp P Q a w) (hc : z8 tm c = some (.v (.bool b)) := by kernel_rfl) : (Code.cond (.tmp c) x y).wp P Q a w := bx5 G b hc hb h
theorem rF {c : Nat} {x y : Code} (G : t4 φ ψ w0 F N m ρ0 ρ S tm a w) (b : Bool) (hb : b = false) (h : y.wp P Q a w) (hc : z8 tm c = some (.v (.bool b)) := by kernel_rfl) : (Code.cond (.tmp c) x y).wp P Q a w := bx6 G b hc hb h
theorem s6 {κ : Type} {c : Code} (pre : κ → Prop) (μ : κ → Nat) (Sk : κ → List It) (Tk : κ → List (Nat × AV)) (k0 : κ) (hp : pre k0) (G : t4 φ ψ w0 F N m ρ0 ρ (Sk k0) (Tk k0) a w)
  (round : ∀ k ρ a w, pre k → t4 φ ψ w0 F N m ρ0 ρ (Sk k) (Tk k) a w → c.wp P (Exit.then (fun a' w' => ∃ k' ρ', pre k' ∧ μ k' < μ k ∧ t4 φ ψ w0 F N m ρ0 ρ' (Sk k') (Tk k') a' w') Q) a w) : (Code.loop c).wp P Q a w := by
 refine wp_loop_ghost (fun n a w => ∃ k ρ, μ k = n ∧ pre k ∧ t4 φ ψ w0 F N m ρ0 ρ (Sk k) (Tk k) a w) (μ k0) ⟨k0, ρ, rfl, hp, G⟩ ?_
 rintro n a w ⟨k, ρ, rfl, hk, Gk⟩
 refine wp_mono (round k ρ a w hk Gk) ?_
 intro e a' w' hq
 cases e with
 | normal =>
  obtain ⟨k', ρ', h1, h2, h3⟩ := hq
  exact ⟨μ k', h2, k', ρ', rfl, h1, h3⟩
 | _ => exact hq
theorem bJ7 {κ : Type} {pre : κ → Prop} {μ : κ → Nat} {Sk : κ → List It} {Tk : κ → List (Nat × AV)} {k : κ} (G : t4 φ ψ w0 F N m ρ0 ρ S tm a w) (k' : κ) (hp : pre k') (hμ : μ k' < μ k) (js : List Nat) (S1 : List It) (tm1 : List (Nat × AV)) (hs1 : Sk k' = S1) (ht1 : Tk k' = tm1)
  (hb : ai9 m js S1 tm1 = true) (hS : js.map (s4 S) = S1.map (It.ren (nth js))) (ht : (tm1.map (·.1)).map (z8 tm) = tm1.map fun p => some (p.2.ren (nth js))) :
  ∃ k' ρ', pre k' ∧ μ k' < μ k ∧ t4 φ ψ w0 F N m ρ0 ρ' (Sk k') (Tk k') a w := by
 subst hs1; subst ht1
 exact ⟨k', _, hp, hμ, Inn.sel G js _ _ hb hS ht⟩
theorem t4.len (G : t4 φ ψ w0 F N m ρ0 ρ S tm a w) (i : Nat) {d : D} (h : itD (s4 S i) = some d) : d.len ≤ 9223372036854775807 := by
 obtain ⟨_, cap, _, h1, h2, _⟩ := G.mem.sliceAt h
 unfold maxLen at h2; omega
end
def dkP (t : TypeId) : Nat :=
 if natEq t 3 then 1 else
 if natEq t 4 then 2 else
 if natEq t 5 then 3 else
 if natEq t 9 then 4 else
if natEq t 86 then 5 else
 if natEq t 23 then 7 else
if natEq t 57 then 8 else
if natEq t 104 then 9 else
if natEq t 106 then 10 else
 0
abbrev eA (e : c6) (r : Nat) : AV := .agg [.v (.int .i64 e.kind), .v (.int .i64 e.value), .ref r]
abbrev eS (e : c6) : List It := [.dat (.exprs e.kids)]
abbrev sA (s : c5) (r : Nat) : AV := .agg [.v (.int .i64 s.kind), .v (.int .i64 s.target), .v (.int .i64 s.index.kind), .v (.int .i64 s.index.value), .ref r, .v (.int .i64 s.value.kind), .v (.int .i64 s.value.value), .ref (r + 1), .v (.int .i64 s.count), .ref (r + 2), .ref (r + 3)]
abbrev sS (s : c5) : List It := [.dat (.exprs s.index.kids), .dat (.exprs s.value.kids), .dat (.stmts s.body), .dat (.stmts s.els)]
abbrev pA (r : Nat) : AV := .agg [.ref r, .ref (r + 1), .ref (r + 2)]
abbrev pS (p : i5) : List It := [.dat (.ints p.vars), .dat (.ints p.arrays), .dat (.stmts p.body)]
abbrev iA (n : Int) : AV := .v (.int .i64 n)
abbrev bA (b : Bool) : AV := .v (.bool b)
abbrev V8 (f : FuncId) (args : List AV) (S : List It) (res : AV) : j8 := ⟨f, args, S, S, res⟩
abbrev dI (l : List Int) : It := .dat (.ints l)
abbrev dB (l : List Bool) : It := .dat (.bools l)
abbrev dY (l : List UInt8) : It := .dat (.bytes l)
abbrev dN (l : List d7) : It := .dat (.instrs l)
abbrev dE (l : List c6) : It := .dat (.exprs l)
abbrev dT (l : List c5) : It := .dat (.stmts l)
abbrev eL (e : c6) (r : Nat) : List AV := [.v (.int .i64 e.kind), .v (.int .i64 e.value), .ref r]
abbrev sL (s : c5) (r : Nat) : List AV := [.v (.int .i64 s.kind), .v (.int .i64 s.target), .v (.int .i64 s.index.kind), .v (.int .i64 s.index.value), .ref r, .v (.int .i64 s.value.kind), .v (.int .i64 s.value.value), .ref (r + 1), .v (.int .i64 s.count), .ref (r + 2), .ref (r + 3)]
abbrev pL (r : Nat) : List AV := [.ref r, .ref (r + 1), .ref (r + 2)]
section
variable {P : Program} {ι : Type} {φ ψ : Nat → Prop} {w0 w w' : World} {F : ι → Rs} {ρ ρ0 : Nat → Value} {N m n : Nat} {S : List It} {tm : List (Nat × AV)} {a : Act} {Q : Exit → Act → World → Prop}
end
theorem c6.eta (e : c6) : (⟨e.kind, e.value, e.kids⟩ : c6) = e := by cases e; rfl
theorem c5.eta (s : c5) : (⟨s.kind, s.target, s.index, s.value, s.count, s.body, s.els⟩ : c5) = s := by cases s; rfl
section
variable {ι : Type} {P : Program} {φ ψ : Nat → Prop} {w0 w : World} {F : ι → Rs} {N m : Nat} {ρ0 ρ : Nat → Value} {S : List It} {tm : List (Nat × AV)} {a : Act}
theorem K2 {fn : Func} {c : j8} (G : t4 φ ψ w0 F N c.pre.length ρ0 ρ S tm a w) (js : List Nat) (hS : js.map (s4 S) = c.post.map (It.ren (nth js)) := by kernel_rfl) (h : a24 P fn tm S = some (c.res.ren (nth js)) := by kernel_rfl) (hb : ai9 c.pre.length js c.post [] = true := by kernel_rfl) : bodyPost P fn (a92 φ ψ w0 F ρ0 c) .ret a w := aH2 G js h hb hS rfl
theorem cc2 {fn : Func} {c : j8} (G : t4 φ ψ w0 F N c.pre.length ρ0 ρ S tm a w) (js : List Nat) (hS : js.map (s4 S) = c.post.map (It.ren (nth js)) := by kernel_rfl) (h : a24 P fn tm S = some (c.res.ren (nth js)) := by kernel_rfl) (hb : ai9 c.pre.length js c.post [] = true := by kernel_rfl) : bodyPost P fn (a92 φ ψ w0 F ρ0 c) .normal a w := aH2 G js h hb hS rfl
theorem T7 {fn : Func} {c : j8} (v : AV) (G : t4 φ ψ w0 F N c.pre.length ρ0 ρ S tm a w) (js : List Nat) (hv : v = c.res.ren (nth js)) (hS : js.map (s4 S) = c.post.map (It.ren (nth js)) := by kernel_rfl) (h : a24 P fn tm S = some v := by kernel_rfl) (hb : ai9 c.pre.length js c.post [] = true := by kernel_rfl) : bodyPost P fn (a92 φ ψ w0 F ρ0 c) .ret a w := aH2 G js h hb hS hv
theorem H9 {κ : Type} {pre : κ → Prop} {μ : κ → Nat} {Sk : κ → List It} {Tk : κ → List (Nat × AV)} {k : κ} (G : t4 φ ψ w0 F N m ρ0 ρ S tm a w) (k' : κ) (hp : pre k') (hμ : μ k' < μ k) (js : List Nat) (hS : js.map (s4 S) = (Sk k').map (It.ren (nth js)) := by kernel_rfl) (ht : ((Tk k').map (·.1)).map (z8 tm) = (Tk k').map (fun p => some (p.2.ren (nth js))) := by kernel_rfl) (hb : ai9 m js (Sk k') (Tk k') = true := by kernel_rfl) : ∃ k' ρ', pre k' ∧ μ k' < μ k ∧ t4 φ ψ w0 F N m ρ0 ρ' (Sk k') (Tk k') a w := bJ7 G k' hp hμ js _ _ rfl rfl hb hS ht
theorem J0 {fn : Func} {f : FuncId} {args : List AV} {pre post : List It} {x : Bool} (y : Bool) (G : t4 φ ψ w0 F N pre.length ρ0 ρ S tm a w) (js : List Nat) (e : x = y) (hS : js.map (s4 S) = post.map (It.ren (nth js)) := by kernel_rfl) (h : a24 P fn tm S = some (bA y) := by kernel_rfl) (hb : ai9 pre.length js post [] = true := by kernel_rfl) : bodyPost P fn (a92 φ ψ w0 F ρ0 ⟨f, args, pre, post, bA x⟩) .ret a w := aH2 (c := ⟨f, args, pre, post, bA x⟩) G js h hb hS (by rw [e]; rfl)
theorem rxI {fn : Func} {f : FuncId} {args : List AV} {pre post : List It} {x : Int} (y : Int) (G : t4 φ ψ w0 F N pre.length ρ0 ρ S tm a w) (js : List Nat) (e : x = y) (hS : js.map (s4 S) = post.map (It.ren (nth js)) := by kernel_rfl) (h : a24 P fn tm S = some (iA y) := by kernel_rfl) (hb : ai9 pre.length js post [] = true := by kernel_rfl) : bodyPost P fn (a92 φ ψ w0 F ρ0 ⟨f, args, pre, post, iA x⟩) .ret a w := aH2 (c := ⟨f, args, pre, post, iA x⟩) G js h hb hS (by rw [e]; rfl)
end
abbrev wO (x : Int) : Prop := IntKind.i64.wrap x = x
theorem oW {x : Int} (h : -9223372036854775808 ≤ x ∧ x ≤ 9223372036854775807) : wO x := w64 h.1 h.2
theorem o1 {x : Int} (h : -9223372036854775808 ≤ x ∧ x ≤ 9223372036854775807) : v6 [wO x] := ⟨oW h, ci3⟩
theorem o2 {x y : Int} (h : (-9223372036854775808 ≤ x ∧ x ≤ 9223372036854775807) ∧ -9223372036854775808 ≤ y ∧ y ≤ 9223372036854775807) : v6 [wO x, wO y] := ⟨oW h.1, oW h.2, ci3⟩
theorem o3 {x y z : Int} (h : (-9223372036854775808 ≤ x ∧ x ≤ 9223372036854775807) ∧ (-9223372036854775808 ≤ y ∧ y ≤ 9223372036854775807) ∧ -9223372036854775808 ≤ z ∧ z ≤ 9223372036854775807) : v6 [wO x, wO y, wO z] := ⟨oW h.1, oW h.2.1, oW h.2.2, ci3⟩
theorem o4 {x y z u : Int} (h : (-9223372036854775808 ≤ x ∧ x ≤ 9223372036854775807) ∧ (-9223372036854775808 ≤ y ∧ y ≤ 9223372036854775807) ∧ (-9223372036854775808 ≤ z ∧ z ≤ 9223372036854775807) ∧ -9223372036854775808 ≤ u ∧ u ≤ 9223372036854775807) : v6 [wO x, wO y, wO z, wO u] := ⟨oW h.1, oW h.2.1, oW h.2.2.1, oW h.2.2.2, ci3⟩
abbrev aP (n b : Nat) (r : List Prop) : List Prop := (n ≤ 9223372036854775807) :: (n * b ≤ 140737488355328) :: r
theorem aK {n b : Nat} {r : List Prop} (h : n ≤ 100000000000) (k : v6 r) (hb : b ≤ 1000 := by decide) : v6 (aP n b r) := ⟨by omega, cj5 (Nat.mul_le_mul h hb) (by decide), k⟩
abbrev iX (x : Int) (n l : Nat) (r : List Prop) : List Prop := (0 ≤ x) :: (x < (l : Int)) :: (n < l) :: r
theorem iK {x : Int} {n l : Nat} {r : List Prop} (h : 0 ≤ x ∧ x < (l : Int) ∧ n < l) (k : v6 r) : v6 (iX x n l r) := ⟨h.1, h.2.1, h.2.2, k⟩
abbrev mR (js : List Nat) (l : List It) : List It := List.map (It.ren (nth js)) l
theorem fz : R1 [] := ci3
theorem fc {a b : Bool} {r : List (Bool × Bool)} (h : a = b) (k : R1 r) : R1 ((a, b) :: r) := ⟨h, k⟩
abbrev v9 (e : c6) : c6 := c6.mk e.kind e.value e.kids
abbrev qzS (s : c5) : c5 := c5.mk s.kind s.target (c6.mk s.index.kind s.index.value s.index.kids) (c6.mk s.value.kind s.value.value s.value.kids) s.count s.body s.els
def kL (P : Program) (N m : Nat) (l : List Oper) (H : T5) (tm : List (Nat × AV)) (S : List It) (js : List Nat) (S1 : List It) (t1 : List (Nat × AV)) := ((X7 P dkP N l H l 0 tm (s4 S) S.length).isSome && ai9 m js S1 t1, a32 (X7 P dkP N l H l 0 tm (s4 S) S.length) js (t1.map (·.1)))
def kR (P : Program) (N : Nat) (l : List Oper) (H : T5) (tm : List (Nat × AV)) (S : List It) (o : List Prop) (js : List Nat) (S1 : List It) (t1 : List (Nat × AV)) := (true, bc7 (X7 P dkP N l H l 0 tm (s4 S) S.length) o js S1 t1)
def kM (P : Program) (N m : Nat) (l : List Oper) (H : T5) (ms : List Nat) (tm : List (Nat × AV)) (S : List It) (js : List Nat) (S1 : List It) (t1 : List (Nat × AV)) := (bn1 l ms S.length (s4 S) (X7 P dkP N l H l 0 tm (s4 S) S.length) && ai9 m js S1 t1, a32 (X7 P dkP N l H l 0 tm (s4 S) S.length) js (t1.map (·.1)))
theorem E2 {P : Program} {c : j8} {fn : Func} {code : Code} (N : Nat) (hf : P.funcs[c.f]? = some fn) (S : List It) (tm : List (Nat × AV)) (k : ∀ {ι : Type} {φ ψ : Nat → Prop} {w0 w : World} {F : ι → Rs} {ρ0 ρ : Nat → Value} {a : Act}, t4 φ ψ w0 F N c.pre.length ρ0 ρ S tm a w → code.wp P (bodyPost P fn (a92 φ ψ w0 F ρ0 c)) a w) (hb : fn.body = some code := by rfl) (hN : (fn.ntmps, c.pre, aM9 0 c.args) = (N, S, tm) := by kernel_rfl) (hw : (wfB c.pre (aM9 0 c.args) && decide (c.args.length ≤ N)) = true := by kernel_rfl) : c.ok P := by
 simp only [Prod.mk.injEq] at hN
 obtain ⟨h1, h2, h3⟩ := hN
 exact bx4 N hf hb h1 hw fun φ ψ w0 w F ρ0 ρ a G => k (ρ := ρ) (G.as S tm h2 h3)
def aT (x y : List (Nat × AV)) : List (Nat × AV) := x ++ y.filter fun p => !(x.any fun q => natEq q.1 p.1)
def HH (P : Program) (H : T5) : Prop := (∀ i c τ, M9 H.calls i = some (c, τ) → c.ok P) ∧ R1 H.facts
theorem d9 {P : Program} : HH P ⟨[], [], []⟩ := ⟨am4, ci3⟩
theorem s7 {P : Program} {c : j8} (i : Nat) (σ : List Nat) (h : c.ok P) : HH P ⟨[(i, c, σ)], [], []⟩ := ⟨aL9 h am4, ci3⟩
theorem I5 {P : Program} {f : List (Bool × Bool)} (h : R1 f) (u : List (Nat × Nat)) : HH P ⟨[], f, u⟩ := ⟨am4, h⟩
def Cs (P : Program) (r : List (Nat × j8 × List Nat)) : Prop := ∀ i c τ, M9 r i = some (c, τ) → c.ok P
theorem E8 {P : Program} : Cs P [] := am4
theorem t3 {P : Program} {c : j8} {r : List (Nat × j8 × List Nat)} (i : Nat) (σ : List Nat) (h : c.ok P) (k : Cs P r) : Cs P ((i, c, σ) :: r) := aL9 h k
theorem E9 {P : Program} {r : List (Nat × j8 × List Nat)} {f : List (Bool × Bool)} (h : Cs P r) (h' : R1 f) (u : List (Nat × Nat)) : HH P ⟨r, f, u⟩ := ⟨h, h'⟩
section
variable {ι : Type} {P : Program} {φ ψ : Nat → Prop} {w0 w : World} {F : ι → Rs} {N m : Nat} {ρ0 ρ : Nat → Value} {S : List It} {tm : List (Nat × AV)} {a : Act} {l : List Oper} {id : Nat} {Q : Exit → Act → World → Prop} {H : T5}
theorem N0 (G : t4 φ ψ w0 F N m ρ0 ρ S tm a w) (hh : HH P H) (js : List Nat) (S1 : List It) (t1 : List (Nat × AV)) (o : List Prop) (ho : v6 o) (k : ∀ {ρ' a' w'}, t4 φ ψ w0 F N m ρ0 ρ' S1 t1 a' w' → Q .normal a' w') (h : kL P N m l H tm S js S1 t1 = kR P N l H tm S o js S1 t1 := by kernel_rfl) : (Code.region id l.toArray false).wp P Q a w := rs1 (dk := dkP) G H hh.1 hh.2 js S1 t1 o ho (fun _ _ _ => k) (congrArg Prod.fst h) (congrArg Prod.snd h)
theorem j7 (G : t4 φ ψ w0 F N m ρ0 ρ S tm a w) (hh : HH P H) (js : List Nat) (S1 : List It) (t1 : List (Nat × AV)) (k : ∀ {ρ' a' w'}, t4 φ ψ w0 F N m ρ0 ρ' S1 t1 a' w' → Q .normal a' w') (h : kL P N m l H tm S js S1 t1 = kR P N l H tm S [] js S1 t1 := by kernel_rfl) : (Code.region id l.toArray false).wp P Q a w := N0 G hh js S1 t1 [] ci3 k h
theorem rB1 (G : t4 φ ψ w0 F N m ρ0 ρ S tm a w) (hh : HH P H) (t1 : List (Nat × AV)) (o : List Prop) (ho : v6 o) (k : ∀ {ρ' a' w'}, t4 φ ψ w0 F N m ρ0 ρ' S t1 a' w' → Q .normal a' w') (h : kL P N m l H tm S (ci5 S.length) S t1 = kR P N l H tm S o (ci5 S.length) S t1 := by kernel_rfl) : (Code.region id l.toArray false).wp P Q a w := rs1 (dk := dkP) G H hh.1 hh.2 (ci5 S.length) S t1 o ho (fun _ _ _ => k) (congrArg Prod.fst h) (congrArg Prod.snd h)
theorem C6 (G : t4 φ ψ w0 F N m ρ0 ρ S tm a w) (hh : HH P H) (t1 : List (Nat × AV)) (k : ∀ {ρ' a' w'}, t4 φ ψ w0 F N m ρ0 ρ' S t1 a' w' → Q .normal a' w') (h : kL P N m l H tm S (ci5 S.length) S t1 = kR P N l H tm S [] (ci5 S.length) S t1 := by kernel_rfl) : (Code.region id l.toArray false).wp P Q a w := rB1 G hh t1 [] ci3 k h
theorem D0 (G : t4 φ ψ w0 F N m ρ0 ρ S tm a w) (hh : HH P H) (t1 : List (Nat × AV)) (o : List Prop) (ho : v6 o) (k : ∀ {ρ' a' w'}, t4 φ ψ w0 F N m ρ0 ρ' S (aT t1 tm) a' w' → Q .normal a' w') (h : kL P N m l H tm S (ci5 S.length) S (aT t1 tm) = kR P N l H tm S o (ci5 S.length) S (aT t1 tm) := by kernel_rfl) : (Code.region id l.toArray false).wp P Q a w := rs1 (dk := dkP) G H hh.1 hh.2 (ci5 S.length) S (aT t1 tm) o ho (fun _ _ _ => k) (congrArg Prod.fst h) (congrArg Prod.snd h)
theorem k8 (G : t4 φ ψ w0 F N m ρ0 ρ S tm a w) (hh : HH P H) (t1 : List (Nat × AV)) (k : ∀ {ρ' a' w'}, t4 φ ψ w0 F N m ρ0 ρ' S (aT t1 tm) a' w' → Q .normal a' w') (h : kL P N m l H tm S (ci5 S.length) S (aT t1 tm) = kR P N l H tm S [] (ci5 S.length) S (aT t1 tm) := by kernel_rfl) : (Code.region id l.toArray false).wp P Q a w := D0 G hh t1 [] ci3 k h
theorem N5 (G : t4 φ ψ w0 F N m ρ0 ρ S tm a w) (hh : HH P H) (ms : List Nat) (js : List Nat) (S1 : List It) (t1 : List (Nat × AV)) (o : List Prop) (ho : v6 o) (k : ∀ {ρ' a' w'}, t4 φ ψ w0 F N m ρ0 ρ' S1 t1 a' w' → Q .normal a' w') (hm : P.follows .mixedOrders = true := by kernel_rfl) (h : kM P N m l H ms tm S js S1 t1 = kR P N l H tm S o js S1 t1 := by kernel_rfl) : (Code.region id l.toArray true).wp P Q a w := rd1 (dk := dkP) G H hh.1 hh.2 ms js S1 t1 o ho (fun _ _ _ => k) hm (congrArg Prod.fst h) (congrArg Prod.snd h)
theorem ag9 (G : t4 φ ψ w0 F N m ρ0 ρ S tm a w) (hh : HH P H) (ms : List Nat) (js : List Nat) (S1 : List It) (t1 : List (Nat × AV)) (k : ∀ {ρ' a' w'}, t4 φ ψ w0 F N m ρ0 ρ' S1 t1 a' w' → Q .normal a' w') (hm : P.follows .mixedOrders = true := by kernel_rfl) (h : kM P N m l H ms tm S js S1 t1 = kR P N l H tm S [] js S1 t1 := by kernel_rfl) : (Code.region id l.toArray true).wp P Q a w := N5 G hh ms js S1 t1 [] ci3 k hm h
theorem bU7 (G : t4 φ ψ w0 F N m ρ0 ρ S tm a w) (hh : HH P H) (ms : List Nat) (t1 : List (Nat × AV)) (o : List Prop) (ho : v6 o) (k : ∀ {ρ' a' w'}, t4 φ ψ w0 F N m ρ0 ρ' S t1 a' w' → Q .normal a' w') (hm : P.follows .mixedOrders = true := by kernel_rfl) (h : kM P N m l H ms tm S (ci5 S.length) S t1 = kR P N l H tm S o (ci5 S.length) S t1 := by kernel_rfl) : (Code.region id l.toArray true).wp P Q a w := rd1 (dk := dkP) G H hh.1 hh.2 ms (ci5 S.length) S t1 o ho (fun _ _ _ => k) hm (congrArg Prod.fst h) (congrArg Prod.snd h)
theorem ac9 (G : t4 φ ψ w0 F N m ρ0 ρ S tm a w) (hh : HH P H) (ms : List Nat) (t1 : List (Nat × AV)) (o : List Prop) (ho : v6 o) (k : ∀ {ρ' a' w'}, t4 φ ψ w0 F N m ρ0 ρ' S (aT t1 tm) a' w' → Q .normal a' w') (hm : P.follows .mixedOrders = true := by kernel_rfl) (h : kM P N m l H ms tm S (ci5 S.length) S (aT t1 tm) = kR P N l H tm S o (ci5 S.length) S (aT t1 tm) := by kernel_rfl) : (Code.region id l.toArray true).wp P Q a w := rd1 (dk := dkP) G H hh.1 hh.2 ms (ci5 S.length) S (aT t1 tm) o ho (fun _ _ _ => k) hm (congrArg Prod.fst h) (congrArg Prod.snd h)
theorem bq2 (G : t4 φ ψ w0 F N m ρ0 ρ S tm a w) (hh : HH P H) (ms : List Nat) (t1 : List (Nat × AV)) (k : ∀ {ρ' a' w'}, t4 φ ψ w0 F N m ρ0 ρ' S (aT t1 tm) a' w' → Q .normal a' w') (hm : P.follows .mixedOrders = true := by kernel_rfl) (h : kM P N m l H ms tm S (ci5 S.length) S (aT t1 tm) = kR P N l H tm S [] (ci5 S.length) S (aT t1 tm) := by kernel_rfl) : (Code.region id l.toArray true).wp P Q a w := ac9 G hh ms t1 [] ci3 k hm h
variable {c : Nat} {x y : Code}
theorem rcB {b : Bool} (G : t4 φ ψ w0 F N m ρ0 ρ S tm a w) (f : b = false → y.wp P Q a w) (t : b = true → x.wp P Q a w) (h : z8 tm c = some (.v (.bool b)) := by rfl) : (Code.cond (.tmp c) x y).wp P Q a w := al2 G b h t f
theorem J1 {α : Type} [BEq α] [LawfulBEq α] {u v : α} (G : t4 φ ψ w0 F N m ρ0 ρ S tm a w) (f : (u == v) = false → u ≠ v → y.wp P Q a w) (t : (u == v) = true → u = v → x.wp P Q a w) (h : z8 tm c = some (.v (.bool (u == v))) := by rfl) : (Code.cond (.tmp c) x y).wp P Q a w := al2 G _ h (fun q => t q (eq_of_beq q)) fun q => f q (ne_of_beq_false q)
theorem rcN {α : Type} [BEq α] [LawfulBEq α] {u v : α} (G : t4 φ ψ w0 F N m ρ0 ρ S tm a w) (f : (u != v) = false → u = v → y.wp P Q a w) (t : (u != v) = true → u ≠ v → x.wp P Q a w) (h : z8 tm c = some (.v (.bool (u != v))) := by rfl) : (Code.cond (.tmp c) x y).wp P Q a w := al2 G _ h (fun q => t q (bne_iff_ne.1 q)) fun q => f q (bne_eq_false_iff_eq.1 q)
theorem Z6 {p : Prop} [Decidable p] (G : t4 φ ψ w0 F N m ρ0 ρ S tm a w) (f : decide p = false → ¬ p → y.wp P Q a w) (t : decide p = true → p → x.wp P Q a w) (h : z8 tm c = some (.v (.bool (decide p))) := by rfl) : (Code.cond (.tmp c) x y).wp P Q a w := al2 G _ h (fun q => t q (dTt q)) fun q => f q (dFf q)
end
section
variable {P : Program} {f : FuncId}
theorem bd1 {args : List AV} {S : List It} {x : Value} (h : ∀ (φ : Nat → Prop) (w : World) (ρ : Nat → Value), (∀ i d, s4 S i = .dat d → RD w φ d (ρ i)) → Calls P f (AV.vals ρ args).toArray w fun e w' => e = .returned x ∧ Below w.heap.size w w') : j8.ok P (V8 f args S (.v x)) := by
 intro ι φ ψ w0 w F ρ M
 refine (h (FrF φ (o0 F ρ (s4 S))) w ρ fun i d hi => M.datAt hi).mono ?_
 rintro e w' ⟨rfl, hb⟩
 exact ⟨ρ, fun _ _ => rfl, rfl, M.call hb⟩
end
theorem C2 (l : Int) : j8.ok Tryz.prog (V8 192 [iA l] [] (bA (i7 l))) :=
 bd1 fun φ w ρ _ => (H8 l w).mono fun e w' h => ⟨h.1, h.2 ▸ Below.refl _ _⟩
theorem ax5 (p : i5) : j8.ok Tryz.prog (V8 129 [pA 0] (pS p) (bA (E3 p.vars p.arrays))) :=
 bd1 fun φ w ρ h => ar7 (ρ 0) (ρ 1) (ρ 2) _ _ w (z9.row (h 0 _ rfl)) (z9.row (h 1 _ rfl))
mutual
theorem b53 : ∀ s : c5, nS s ≤ 1 + J7 s
 | ⟨_, _, _, _, _, b, e⟩ => by
  have h1 := aW5 b
  have h2 := aW5 e
  simp only [nS, J7]; omega
theorem aW5 : ∀ ss : List c5, V2 ss ≤ j5 ss
 | [] => ch5 _
 | s :: r => by
  have h1 := b53 s
  have h2 := aW5 r
  simp only [V2, j5]; omega
end
theorem ae8 (a b : List c5) : V2 (a ++ b) = V2 a + V2 b := by
 induction a with
 | nil => simp [V2]
 | cons x r ih => simp [V2, ih]; omega
theorem bq6 {ss : List c5} {k : Nat} (h : k < ss.length) : V2 (ss.take (k + 1)) = V2 (ss.take k) + nS ss[k] := by
 rw [m6 _ _ h, ae8]; simp [V2]
theorem a36 (ss : List c5) (k : Nat) : V2 (ss.take k) ≤ V2 ss := by
 have := ae8 (ss.take k) (ss.drop k)
 rw [List.take_append_drop] at this
 omega
theorem aw4 (s : c5) : nS s = 1 + V2 s.body + V2 s.els := by cases s; simp only [nS]; rfl
theorem ae2 {nv na d : Nat} {s : c5} (h : j6 nv na (d + 1) s = true) : s.body.all (j6 nv na d) = true ∧ s.els.all (j6 nv na d) = true := by
 rw [j6, ch0] at h
 obtain ⟨h1, h2⟩ := h
 unfold n6 at h1
 by_cases k3 : s.kind = 3
 ·rw [if_neg (by omega), if_neg (by omega), if_pos k3] at h2
  simp only [ch0] at h2
  exact ⟨h2.1.2, h2.2⟩
 by_cases k4 : s.kind = 4
 ·rw [if_neg (by omega), if_neg (by omega), if_neg (by omega), if_pos k4] at h2
  rw [if_pos (.inr k4), if_pos k4] at h1
  simp only [ch0, decide_eq_true_eq] at h1
  exact ⟨h2, by rw [ci7 h1.2.1.1.1.1]; rfl⟩
 ·rw [if_neg (by omega)] at h1
  simp only [ch0, decide_eq_true_eq] at h1
  exact ⟨by rw [ci7 h1.1.1.1]; rfl, by rw [ci7 h1.1.1.2]; rfl⟩
theorem aP6 (s : c5) : j5 s.body ≤ J7 s ∧ j5 s.els ≤ J7 s := by
 rcases s with ⟨_, _, _, _, _, b, e⟩
 simp only [J7, c5.body, c5.els]
 omega
theorem a61 {nv na : Nat} : ∀ {ss : List c5}, (∀ s ∈ ss, j6 nv na 1 s = true) → V2 ss = ss.length
 | [], _ => rfl
 | s :: r, h => by
  have h1 := ae2 (h s ck9)
  have key : ∀ l : List c5, l.all (j6 nv na 0) = true → l = [] := fun l hl => by
   cases l with
   | nil => rfl
   | cons a r => simp [j6] at hl
  have h2 := a61 (ss := r) fun x hx => h x (ck7 _ hx)
  rw [V2, aw4, key _ h1.1, key _ h1.2, h2]
  simp [V2]; omega
def l0 (x y : Int) : Int := IntKind.i64.wrap ((BitVec.ofInt (IntKind.bits .i64) x ||| BitVec.ofInt (IntKind.bits .i64) y).toNat : Int)
def bP2 (x y : Int) : Int := IntKind.i64.wrap ((BitVec.ofInt (IntKind.bits .i64) x &&& BitVec.ofInt (IntKind.bits .i64) y).toNat : Int)
def a98 (x y : Int) : Int := IntKind.i64.wrap ((BitVec.ofInt (IntKind.bits .i64) x ^^^ BitVec.ofInt (IntKind.bits .i64) y).toNat : Int)
theorem j8.dup {P : Program} {f : FuncId} {args args' : List AV} {S S' : List It} {d : D} {res : AV} {i : Nat} (hc : j8.ok P ⟨f, args, S ++ [.dat d], S' ++ [.dat d], res⟩) (hi : S[i]? = some (.dat d)) (hl : S'.length = S.length)
  (hS : S.all (fun x => aa0 S.length x.ids) = true) (ha : ∀ ρ : Nat → Value, ρ S.length = ρ i → AV.vals ρ args = AV.vals ρ args') (hg : aa0 S.length (AV.idsL args') = true) : j8.ok P ⟨f, args', S, S', res⟩ := by
 intro ι φ ψ w0 w F ρ M
 have hi' : s4 S i = .dat d := by simp [s4, hi]
 have hlt : i < S.length := (ci1.1 hi).1
 have hinv : Inv (s4 S) ρ [S.length] := fun ρ' h j => by
  by_cases hj : j < S.length
  ·refine It.res_congr _ (fun k hk => h k ?_) (.inr (.inr (h j (by simp; omega))))
   have h1 := D5 (ch8.1 hS (S[j]) (cj2 hj)) k (by simpa [s4, ch3, ch2 hj] using hk)
   simp; omega
  ·rw [show s4 S j = .none by simp only [s4, ch3, cj3 (Nat.le_of_not_lt hj)]; rfl]; rfl
 obtain ⟨ρ', h1, M1, h2⟩ := M.newDat (id := S.length) (by simp [s4]) hinv (M.datAt hi')
 have e : n5 (s4 S) [(S.length, .dat d)] = s4 (S ++ [.dat d]) := by
  funext j
  simp only [n5, s4, ch3]
  by_cases hj : j = S.length
  ·subst hj; simp
  ·rw [if_neg hj]
   by_cases hj2 : j < S.length
   ·rw [ci4 hj2]
   ·rw [cj3 (by omega), cj3 (by simp; omega)]
 rw [e] at M1
 have hρ : ρ' i = ρ i := h1 i (by simp; omega)
 have ea : AV.vals ρ args' = AV.vals ρ' args := by
  rw [ha ρ' (by rw [← h2, hρ])]
  exact (AV.vals_congr _ fun k hk => by
   have := D5 hg k hk
   exact h1 k (by simp; omega)).symm
 simp only
 rw [ea]
 refine (hc ι φ ψ w0 w F ρ' M1).mono ?_
 rintro x w' ⟨ρ2, g1, g2, M2⟩
 refine ⟨ρ2, fun k hk => ?_, g2, ?_⟩
 ·rw [g1 k (by simp; omega)]; exact h1 k (by simp; omega)
 ·refine M2.map (fun k => match k with | .inl i => some (.inl i) | .inr j => if j < S'.length then some (.inr j) else none) ?_ ?_
  ·intro k k' x h1 h2
   match k, k' with
   | .inl i, .inl i' => simp at h1 h2; rw [h1, h2]
   | .inl i, .inr j => simp at h1; subst h1; simp at h2
   | .inr j, .inl i => simp at h2; subst h2; simp at h1
   | .inr j, .inr j' => simp at h1 h2; rw [← h1.2] at h2; rw [Sum.inr.inj h2.2]
  ·intro k
   match k with
   | .inl i => exact .inl ⟨.inl i, rfl, rfl⟩
   | .inr j =>
    by_cases hj : j < S'.length
    ·refine .inl ⟨.inr j, by simp [hj], ?_⟩
     simp only [o0, s4, ch3, ci4 hj]
    ·refine .inr ?_
     simp only [o0, s4, ch3, cj3 (Nat.le_of_not_lt hj)]
     rfl
def pkX (b : List UInt8) (k : Int) : Int := ((b.getD (k.tmod b.length).toNat 0).toNat : Int) * 131 + ((b.getD ((k * 7 + 3).tmod b.length).toNat 0).toNat : Int) * 1117 + k * 29 + k.tdiv b.length * 53
def pk (b : List UInt8) (k n : Int) : Int :=
 if n < 1 ∨ b.length = 0 then 0 else if k < b.length then ((b.getD k.toNat 0).toNat : Int).tmod n else (a98 (pkX b k) ((pkX b k).tdiv 64)).tmod n
def nm (b : List UInt8) (k : Int) (l : List Int) : Int := l.getD (pk b k l.length).toNat 0
theorem bH6 {x y : Int} (hx : 0 ≤ x) (hx2 : x < 9223372036854775808) (hy : 0 ≤ y) (hy2 : y < 9223372036854775808) : 0 ≤ a98 x y := by
 obtain ⟨a, rfl⟩ := Int.eq_ofNat_of_zero_le hx
 obtain ⟨c, rfl⟩ := Int.eq_ofNat_of_zero_le hy
 have ha : a < 2 ^ 63 := by omega
 have hc : c < 2 ^ 63 := by omega
 have h : (BitVec.ofInt (IntKind.bits .i64) (a : Int) ^^^ BitVec.ofInt (IntKind.bits .i64) (c : Int)).toNat < 2 ^ 63 := by
  rw [BitVec.toNat_xor]
  refine Nat.xor_lt_two_pow ?_ ?_
  ·simp only [BitVec.ofInt_natCast, BitVec.toNat_ofNat, IntKind.bits]; omega
  ·simp only [BitVec.ofInt_natCast, BitVec.toNat_ofNat, IntKind.bits]; omega
 unfold a98
 generalize (BitVec.ofInt (IntKind.bits .i64) (a : Int) ^^^ BitVec.ofInt (IntKind.bits .i64) (c : Int)).toNat = z at h ⊢
 rw [w64 (by omega) (by omega)]
 omega
theorem a04 (x : UInt8) : ((x.toNat : Nat) : Int) ≤ 255 := by have := x.toNat_lt; omega
theorem a07 {k n : Int} (hk : 0 ≤ k) (hn : 1 ≤ n) : 0 ≤ k.tdiv n ∧ k.tdiv n ≤ k := by
 refine ⟨Int.tdiv_nonneg hk (by omega), ?_⟩
 rw [Int.tdiv_eq_ediv_of_nonneg hk]
 exact Int.ediv_le_self _ hk
theorem a31 {b : List UInt8} {k : Int} (hk : 0 ≤ k) (hk2 : k ≤ 1000000000) (hb : b.length ≠ 0) : 0 ≤ pkX b k ∧ pkX b k ≤ 100000000000 := by
 unfold pkX
 have h1 := a04 (b.getD (k.tmod b.length).toNat 0)
 have h2 := a04 (b.getD ((k * 7 + 3).tmod b.length).toNat 0)
 have h3 := a07 (n := b.length) hk (by omega)
 omega
theorem ba2 {x n : Int} (hx : 0 ≤ x) (hn : 1 ≤ n) : 0 ≤ x.tmod n ∧ x.tmod n < n := ⟨Int.tmod_nonneg _ hx, Int.tmod_lt_of_pos _ (by omega)⟩
theorem bQ6 {b : List UInt8} {k : Int} (hk : 0 ≤ k) (hk2 : k ≤ 1000000000) (hb : b.length ≠ 0) : 0 ≤ (pkX b k).tdiv 64 ∧ (pkX b k).tdiv 64 ≤ 100000000000 := by
 have h := a31 hk hk2 hb
 have h2 := a07 (n := 64) h.1 (by omega)
 omega
theorem bV2 (b : List UInt8) {k n : Int} (hk : 0 ≤ k) (hk2 : k ≤ 1000000000) (hn : 1 ≤ n) : 0 ≤ pk b k n ∧ pk b k n < n := by
 unfold pk
 split
 ·omega
 ·split
  ·exact ba2 (by omega) hn
  ·have h := a31 hk hk2 (show b.length ≠ 0 by omega)
   have h2 := bQ6 hk hk2 (show b.length ≠ 0 by omega)
   exact ba2 (bH6 h.1 (by omega) h2.1 (by omega)) hn
theorem bl2 (b : List UInt8) {k : Int} (hk : 0 ≤ k) (hk2 : k ≤ 1000000000) {l : List Int} (hl : l ≠ []) : 0 ≤ pk b k l.length ∧ pk b k l.length < l.length ∧ (pk b k l.length).toNat < l.length := by
 have h0 : 0 < l.length := List.length_pos_iff.2 hl
 have h := bV2 b (n := l.length) hk hk2 (by omega)
 omega
theorem aw3 (b : List UInt8) {k : Int} (hk : 0 ≤ k) (hk2 : k ≤ 1000000000) {l : List Int} (hl : l ≠ []) : nm b k l ∈ l := by
 unfold nm
 rw [m0 (bl2 b hk hk2 hl).2.2]
 exact cj2 _
def G6 {α : Type} (f : Int → α × Int) : Nat → Int → List α × Int
 | 0, k => ([], k)
 | n + 1, k => ((G6 f n k).1 ++ [(f (G6 f n k).2).1], (f (G6 f n k).2).2)
theorem aY1 {α : Type} (f : Int → α × Int) (n : Nat) (k : Int) : (G6 f n k).1.length = n := by
 induction n with
 | zero => rfl
 | succ n ih => simp [G6, ih]
theorem bE0 {α : Type} {f : Int → α × Int} {c : Int} (hc : 0 ≤ c) {m : Nat} : ∀ (n : Nat) (k : Int), n ≤ m → (∀ j, k ≤ j → j ≤ k + m * c → j ≤ (f j).2 ∧ (f j).2 ≤ j + c) → k ≤ (G6 f n k).2 ∧ (G6 f n k).2 ≤ k + n * c := by
 intro n
 induction n with
 | zero => intro k _ _; simp [G6]
 | succ n ih =>
  intro k hm h
  have h1 := ih k (by omega) h
  have e : ((n + 1 : Nat) : Int) * c = n * c + c := by rw [Int.natCast_add, Int.add_mul]; simp
  have h3 : ((n + 1 : Nat) : Int) * c ≤ m * c := cl7 (by omega) hc
  have h2 := h (G6 f n k).2 h1.1 (by omega)
  simp only [G6]
  rw [e]
  omega
theorem bN3 {α : Type} {f : Int → α × Int} {Q : α → Prop} (h : ∀ j, Q (f j).1) (n : Nat) (k : Int) : ∀ x ∈ (G6 f n k).1, Q x := by
 induction n with
 | zero => intro x hx; cases hx
 | succ n ih =>
  intro x hx
  simp only [G6, ci8, ck1] at hx
  rcases hx with hx | rfl
  ·exact ih x hx
  ·exact h _
abbrev atL : List Int := [1] ++ ([0] ++ ([2] ++ ([3] ++ ([255] ++ ([7] ++ ([128] ++ []))))))
def n4 (b : List UInt8) (nv : Int) (k : Int) : c6 := if pk b k 3 = 0 then ⟨1, nm b (k + 1) atL, []⟩ else ⟨2, pk b (k + 1) nv, []⟩
abbrev P2 : List Int := [4] ++ ([10] ++ ([8] ++ ([9] ++ ([3] ++ ([6] ++ ([7] ++ ([5] ++ ([11] ++ []))))))))
def N3 (b : List UInt8) (nv na : Int) : Nat → Int → c6 × Int
 | 0, k => (n4 b nv k, k + 2)
 | d + 1, k => if d = 0 then (n4 b nv k, k + 2) else if pk b k 4 = 0 then (n4 b nv (k + 1), k + 3)
  else if nm b (k + 1) P2 = 3 then (if na = 0 then (n4 b nv (k + 2), k + 4) else (⟨3, pk b (k + 2) na, [n4 b nv (k + 3)]⟩, k + 5))
  else (⟨nm b (k + 1) P2, 0, (G6 (N3 b nv na d) (s8 (nm b (k + 1) P2)).toNat (k + 2)).1⟩, (G6 (N3 b nv na d) (s8 (nm b (k + 1) P2)).toNat (k + 2)).2)
def cE : Nat → Int
 | 0 => 2
 | d + 1 => 5 + 3 * cE d
theorem aM4 (d : Nat) : 2 ≤ cE d := by
 induction d with
 | zero => exact Int.le_refl _
 | succ d ih => simp only [cE]; omega
theorem ar3 (k : Int) : (s8 k).toNat ≤ 3 := by unfold s8; (repeat' split) <;> decide
theorem a67 (b : List UInt8) (nv na : Int) : ∀ (d : Nat) (k : Int), k ≤ (N3 b nv na d k).2 ∧ (N3 b nv na d k).2 ≤ k + cE d
 | 0, k => by simp only [N3, cE]; omega
 | d + 1, k => by
  have hc := aM4 d
  rw [N3]
  simp only [cE]
  split
  ·simp only; omega
  ·split
   ·simp only; omega
   ·split
    ·split <;> (simp only; omega)
    ·have h3 := ar3 (nm b (k + 1) P2)
     have h := bE0 (f := N3 b nv na d) (c := cE d) (m := 3) (by omega) (s8 (nm b (k + 1) P2)).toNat (k + 2) h3 fun j _ _ => a67 b nv na d j
     have h4 : ((s8 (nm b (k + 1) P2)).toNat : Int) * cE d ≤ 3 * cE d := cl7 (by omega) (by omega)
     simp only
     omega
theorem bj1 {c : Nat} : ∀ {l : List c6}, (∀ x ∈ l, z5 x ≤ c) → D4 l ≤ l.length * (1 + c)
 | [], _ => cl0 _
 | e :: r, h => by
  have h1 := h e (ck9 ..)
  have h2 := bj1 (l := r) fun x hx => h x (ck7 _ hx)
  simp only [D4, ch7]
  rw [Nat.add_mul]
  omega
theorem bE1 (b : List UInt8) (nv na : Int) : ∀ (d : Nat) (k : Int), (z5 (N3 b nv na d k).1 : Int) ≤ cE d
 | 0, k => by
  simp only [N3, cE, n4]
  split <;> simp [z5, D4]
 | d + 1, k => by
  have hc := aM4 d
  have ha : ∀ j, z5 (n4 b nv j) = 0 := fun j => by unfold n4; split <;> rfl
  rw [N3]
  simp only [cE]
  split
  ·simp only [ha]; omega
  ·split
   ·simp only [ha]; omega
   ·split
    ·split
     ·simp only [ha]; omega
     ·simp only [z5, D4, ha]; omega
    ·have h3 := ar3 (nm b (k + 1) P2)
     have h1 := bN3 (f := N3 b nv na d) (Q := fun x => z5 x ≤ (cE d).toNat) (fun j => by have := bE1 b nv na d j; omega) (s8 (nm b (k + 1) P2)).toNat (k + 2)
     have h2 := bj1 h1
     rw [aY1] at h2
     simp only [z5]
     have h4 := cl2 (1 + (cE d).toNat) h3
     omega
abbrev dpL : List Int := [2] ++ ([3] ++ ([2] ++ ([1] ++ ([4] ++ []))))
def w5 (b : List UInt8) (nv na : Nat) (k : Int) : c6 × Int :=
 if r9 nv na (N3 b nv na (nm b k dpL).toNat (k + 1)).1 = true then N3 b nv na (nm b k dpL).toNat (k + 1)
 else (n4 b nv (N3 b nv na (nm b k dpL).toNat (k + 1)).2, (N3 b nv na (nm b k dpL).toNat (k + 1)).2 + 2)
theorem cE4 {d : Nat} (h : d ≤ 4) : cE d ≤ 364 := by
 match d, h with
 | 0, _ => decide
 | 1, _ => decide
 | 2, _ => decide
 | 3, _ => decide
 | 4, _ => decide
theorem dp4 (b : List UInt8) {k : Int} (hk : 0 ≤ k) (hk2 : k ≤ 1000000000) : 1 ≤ nm b k dpL ∧ nm b k dpL ≤ 4 ∧ (nm b k dpL).toNat ≤ 4 := by
 have h := aw3 b hk hk2 (l := dpL) (by simp)
 simp only [ci8, ck8, List.not_mem_nil, or_false] at h
 omega
theorem bY4 (b : List UInt8) {k : Int} (hk : 0 ≤ k) (hk2 : k ≤ 1000000000) : nm b k dpL = ((nm b k dpL).toNat : Int) := by have := dp4 b hk hk2; omega
theorem bj6 (b : List UInt8) (nv na : Nat) {k : Int} (hk : 0 ≤ k) (hk2 : k ≤ 1000000000) : k ≤ (w5 b nv na k).2 ∧ (w5 b nv na k).2 ≤ k + 367 := by
 have h := a67 b nv na (nm b k dpL).toNat (k + 1)
 have h2 := cE4 (dp4 b hk hk2).2.2
 unfold w5
 split
 ·omega
 ·simp only; omega
theorem a86 (b : List UInt8) (nv j : Int) : z5 (n4 b nv j) = 0 := by unfold n4; split <;> rfl
theorem bb1 (b : List UInt8) (nv na : Nat) {k : Int} (hk : 0 ≤ k) (hk2 : k ≤ 1000000000) : z5 (w5 b nv na k).1 ≤ 364 := by
 have h := bE1 b nv na (nm b k dpL).toNat (k + 1)
 have h2 := cE4 (dp4 b hk hk2).2.2
 unfold w5
 split
 ·omega
 ·rw [a86]; omega
abbrev noE : c6 := ⟨0, 0, []⟩
abbrev L6 : List Int := [1] ++ ([1] ++ ([2] ++ ([3] ++ ([4] ++ ([1] ++ ([3] ++ ([5] ++ [])))))))
abbrev ibL : List Int := [1] ++ ([2] ++ ([1] ++ ([0] ++ [])))
abbrev ieL : List Int := [0] ++ ([1] ++ ([0] ++ ([2] ++ [])))
abbrev rcL : List Int := [2] ++ ([1] ++ ([3] ++ []))
abbrev rbL : List Int := [1] ++ ([2] ++ ([1] ++ []))
def dfS (b : List UInt8) (nv na : Nat) (kd k : Int) : c5 × Int := (⟨if kd = 5 then 5 else 1, pk b k nv, noE, (w5 b nv na (k + 1)).1, 0, [], []⟩, (w5 b nv na (k + 1)).2)
def soS (b : List UInt8) (nv na : Nat) (k : Int) : c5 × Int := (⟨2, pk b k na, n4 b nv (k + 1), (w5 b nv na (k + 1 + 2)).1, 0, [], []⟩, (w5 b nv na (k + 1 + 2)).2)
def mnD (b : List UInt8) (f : Int → c5 × Int) (l : List Int) (k : Int) : List c5 × Int := G6 f (nm b k l).toNat (k + 1)
def ifS (b : List UInt8) (nv na : Nat) (f : Int → c5 × Int) (k : Int) : c5 × Int :=
 (⟨3, 0, noE, (w5 b nv na k).1, 0, (mnD b f ibL (w5 b nv na k).2).1, (mnD b f ieL (mnD b f ibL (w5 b nv na k).2).2).1⟩, (mnD b f ieL (mnD b f ibL (w5 b nv na k).2).2).2)
def rpS (b : List UInt8) (f : Int → c5 × Int) (k : Int) : c5 × Int := (⟨4, 0, noE, noE, nm b k rcL, (mnD b f rbL (k + 1)).1, []⟩, (mnD b f rbL (k + 1)).2)
def C1 (b : List UInt8) (nv na : Nat) : Nat → Int → c5 × Int
 | 0, k => if nm b k L6 = 2 ∧ na ≠ 0 then soS b nv na (k + 1) else dfS b nv na (nm b k L6) (k + 1)
 | d + 1, k => if nm b k L6 = 2 ∧ na ≠ 0 then soS b nv na (k + 1) else if nm b k L6 = 3 ∧ d ≠ 0 then ifS b nv na (C1 b nv na d) (k + 1) else if nm b k L6 = 4 ∧ d ≠ 0 then rpS b (C1 b nv na d) (k + 1)
  else dfS b nv na (nm b k L6) (k + 1)
def cS : Nat → Int
 | 0 => 402
 | d + 1 => 402 + 4 * cS d
theorem aA3 (d : Nat) : 402 ≤ cS d := by
 induction d with
 | zero => exact Int.le_refl _
 | succ d ih => simp only [cS]; omega
section
variable (b : List UInt8) (nv na : Nat) {k : Int}
theorem bR8 (kd : Int) (hk : 0 ≤ k) (hk2 : k + 400 ≤ 1000000000) : k ≤ (dfS b nv na kd k).2 ∧ (dfS b nv na kd k).2 ≤ k + 368 := by
 have h := bj6 b nv na (k := k + 1) (by omega) (by omega)
 simp only [dfS]; omega
theorem bQ1 (hk : 0 ≤ k) (hk2 : k + 400 ≤ 1000000000) : k ≤ (soS b nv na k).2 ∧ (soS b nv na k).2 ≤ k + 370 := by
 have h := bj6 b nv na (k := k + 1 + 2) (by omega) (by omega)
 simp only [soS]; omega
theorem nm2 {l : List Int} (hl : l ≠ []) (h : ∀ x ∈ l, 0 ≤ x ∧ x ≤ 2) (hk : 0 ≤ k) (hk2 : k ≤ 1000000000) : (nm b k l).toNat ≤ 2 ∧ nm b k l = ((nm b k l).toNat : Int) := by
 have := h _ (aw3 b hk hk2 hl); omega
theorem bA4 {f : Int → c5 × Int} {c : Int} {l : List Int} (hl : l ≠ []) (h : ∀ x ∈ l, 0 ≤ x ∧ x ≤ 2) (hc : 0 ≤ c) (hk : 0 ≤ k) (hk2 : k + 1 + 2 * c ≤ 1000000000) (hf : ∀ j, 0 ≤ j → j + c ≤ 1000000000 → j ≤ (f j).2 ∧ (f j).2 ≤ j + c) : k ≤ (mnD b f l k).2 ∧ (mnD b f l k).2 ≤ k + 1 + 2 * c := by
 have h2 := (nm2 b hl h hk (by omega)).1
 have h3 : ∀ m : Nat, m ≤ 2 → k + 1 ≤ (G6 f m (k + 1)).2 ∧ (G6 f m (k + 1)).2 ≤ k + 1 + m * c := by
  intro m
  induction m with
  | zero => intro _; simp [G6]
  | succ m ih =>
   intro hm
   have h4 := ih (by omega)
   have h6 : (m : Int) * c ≤ 1 * c := cl7 (by omega) hc
   have h5 := hf (G6 f m (k + 1)).2 (by omega) (by omega)
   have e : ((m + 1 : Nat) : Int) * c = m * c + c := by rw [Int.natCast_add, Int.add_mul]; simp
   simp only [G6]
   rw [e]
   omega
 have h4 := h3 _ h2
 have h6 : ((nm b k l).toNat : Int) * c ≤ 2 * c := cl7 (by omega) hc
 unfold mnD
 omega
theorem be4 : ∀ x : Int, x ∈ ibL → 0 ≤ x ∧ x ≤ 2 := by intro x hx; simp only [ci8, ck8, List.not_mem_nil, or_false] at hx; omega
theorem be2 : ∀ x : Int, x ∈ ieL → 0 ≤ x ∧ x ≤ 2 := by intro x hx; simp only [ci8, ck8, List.not_mem_nil, or_false] at hx; omega
theorem bc1 : ∀ x : Int, x ∈ rbL → 0 ≤ x ∧ x ≤ 2 := by intro x hx; simp only [ci8, ck8, List.not_mem_nil, or_false] at hx; omega
theorem bR4 {f : Int → c5 × Int} {c : Int} (hc : 0 ≤ c) (hk : 0 ≤ k) (hk2 : k + 380 + 4 * c ≤ 1000000000) (hf : ∀ j, 0 ≤ j → j + c ≤ 1000000000 → j ≤ (f j).2 ∧ (f j).2 ≤ j + c) : k ≤ (w5 b nv na k).2 ∧ (w5 b nv na k).2 ≤ k + 367 ∧ (w5 b nv na k).2 ≤ (mnD b f ibL (w5 b nv na k).2).2 ∧ (mnD b f ibL (w5 b nv na k).2).2 ≤ k + 370 + 2 * c ∧ k ≤ (ifS b nv na f k).2 ∧ (ifS b nv na f k).2 ≤ k + 380 + 4 * c := by
 have h1 := bj6 b nv na (k := k) (by omega) (by omega)
 have h2 := bA4 b (k := (w5 b nv na k).2) (f := f) (c := c) (l := ibL) (by simp) be4 hc (by omega) (by omega) hf
 have h3 := bA4 b (k := (mnD b f ibL (w5 b nv na k).2).2) (f := f) (c := c) (l := ieL) (by simp) be2 hc (by omega) (by omega) hf
 simp only [ifS]
 omega
theorem b40 {f : Int → c5 × Int} {c : Int} (hc : 0 ≤ c) (hk : 0 ≤ k) (hk2 : k + 10 + 2 * c ≤ 1000000000) (hf : ∀ j, 0 ≤ j → j + c ≤ 1000000000 → j ≤ (f j).2 ∧ (f j).2 ≤ j + c) : k ≤ (rpS b f k).2 ∧ (rpS b f k).2 ≤ k + 10 + 2 * c := by
 have h2 := bA4 b (k := k + 1) (f := f) (c := c) (l := rbL) (by simp) bc1 hc (by omega) (by omega) hf
 simp only [rpS]; omega
theorem a11 : ∀ (d : Nat) (k : Int), 0 ≤ k → k + cS d ≤ 1000000000 → k ≤ (C1 b nv na d k).2 ∧ (C1 b nv na d k).2 ≤ k + cS d
 | 0, k, hk, hk2 => by
  rw [C1]
  simp only [cS] at hk2 ⊢
  have h1 := bQ1 b nv na (k := k + 1) (by omega) (by omega)
  have h2 := bR8 b nv na (k := k + 1) (nm b k L6) (by omega) (by omega)
  split <;> omega
 | d + 1, k, hk, hk2 => by
  rw [C1]
  simp only [cS] at hk2 ⊢
  have hc := aA3 d
  have ih := a11 d
  have h1 := bQ1 b nv na (k := k + 1) (by omega) (by omega)
  have h2 := bR8 b nv na (k := k + 1) (nm b k L6) (by omega) (by omega)
  have h3 := bR4 b nv na (k := k + 1) (f := C1 b nv na d) (c := cS d) (by omega) (by omega) (by omega) ih
  have h4 := b40 b (k := k + 1) (f := C1 b nv na d) (c := cS d) (by omega) (by omega) (by omega) ih
  (repeat' split) <;> omega
theorem bd3 : z5 noE = 0 := rfl
theorem bE2 (kd : Int) (hk : 0 ≤ k) (hk2 : k + 400 ≤ 1000000000) : J7 (dfS b nv na kd k).1 ≤ 364 := by
 have h := bb1 b nv na (k := k + 1) (by omega) (by omega)
 simp only [dfS, J7, j5, bd3]; omega
theorem bw3 (hk : 0 ≤ k) (hk2 : k + 400 ≤ 1000000000) : J7 (soS b nv na k).1 ≤ 364 := by
 have h := bb1 b nv na (k := k + 1 + 2) (by omega) (by omega)
 simp only [soS, J7, j5, a86]; omega
def Drw (f : Int → c5 × Int) (c : Int) : Prop := ∀ j, 0 ≤ j → j + c ≤ 1000000000 → j ≤ (f j).2 ∧ (f j).2 ≤ j + c ∧ (J7 (f j).1 : Int) ≤ c
theorem aY0 {f : Int → c5 × Int} {c : Int} (hc : 0 ≤ c) (hf : Drw f c) : ∀ (m : Nat) (k : Int), 0 ≤ k → k + m * c ≤ 1000000000 → k ≤ (G6 f m k).2 ∧ (G6 f m k).2 ≤ k + m * c ∧ (j5 (G6 f m k).1 : Int) ≤ m * (1 + c) := by
 intro m
 induction m with
 | zero => intro k _ _; simp [G6, j5]
 | succ m ih =>
  intro k hk hk2
  have e : ((m + 1 : Nat) : Int) * c = m * c + c := by rw [Int.natCast_add, Int.add_mul]; simp
  have e2 : ((m + 1 : Nat) : Int) * (1 + c) = m * (1 + c) + (1 + c) := by rw [Int.natCast_add, Int.add_mul]; simp
  rw [e] at hk2
  have h4 := ih k hk (by omega)
  have h5 := hf (G6 f m k).2 (by omega) (by omega)
  have h6 : j5 ((G6 f m k).1 ++ [(f (G6 f m k).2).1]) = j5 (G6 f m k).1 + (1 + J7 (f (G6 f m k).2).1) := by
   generalize (G6 f m k).1 = l
   induction l with
   | nil => simp [j5]
   | cons a r ih => simp only [List.cons_append, j5]; omega
  simp only [G6]
  rw [e, e2, h6]
  omega
theorem bd5 {f : Int → c5 × Int} {c : Int} {l : List Int} (hl : l ≠ []) (h : ∀ x ∈ l, 0 ≤ x ∧ x ≤ 2) (hc : 0 ≤ c) (hk : 0 ≤ k) (hk2 : k + 1 + 2 * c ≤ 1000000000) (hf : Drw f c) : (j5 (mnD b f l k).1 : Int) ≤ 2 * (1 + c) := by
 have h2 := (nm2 b hl h hk (by omega)).1
 have h6 : ((nm b k l).toNat : Int) * c ≤ 2 * c := cl7 (by omega) hc
 have h7 : ((nm b k l).toNat : Int) * (1 + c) ≤ 2 * (1 + c) := cl7 (by omega) (by omega)
 have h3 := (aY0 hc hf (nm b k l).toNat (k + 1) (by omega) (by omega)).2.2
 unfold mnD
 omega
theorem ba7 : ∀ (d : Nat) (k : Int), 0 ≤ k → k + cS d ≤ 1000000000 → (J7 (C1 b nv na d k).1 : Int) ≤ cS d
 | 0, k, hk, hk2 => by
  rw [C1]
  simp only [cS] at hk2 ⊢
  have h1 := bw3 b nv na (k := k + 1) (by omega) (by omega)
  have h2 := bE2 b nv na (k := k + 1) (nm b k L6) (by omega) (by omega)
  split <;> omega
 | d + 1, k, hk, hk2 => by
  rw [C1]
  simp only [cS] at hk2 ⊢
  have hc := aA3 d
  have ih := a11 b nv na d
  have hf : Drw (C1 b nv na d) (cS d) := fun j h1 h2 => ⟨(ih j h1 h2).1, (ih j h1 h2).2, ba7 d j h1 h2⟩
  have h1 := bw3 b nv na (k := k + 1) (by omega) (by omega)
  have h2 := bE2 b nv na (k := k + 1) (nm b k L6) (by omega) (by omega)
  have h3 := bR4 b nv na (k := k + 1) (f := C1 b nv na d) (c := cS d) (by omega) (by omega) (by omega) ih
  have h4 := bb1 b nv na (k := k + 1) (by omega) (by omega)
  have h5 := bd5 b (k := (w5 b nv na (k + 1)).2) (l := ibL) (by simp) be4 (by omega) (by omega) (by omega) hf
  have h6 := bd5 b (k := (mnD b (C1 b nv na d) ibL (w5 b nv na (k + 1)).2).2) (l := ieL) (by simp) be2 (by omega) (by omega) (by omega) hf
  have h7 := bd5 b (k := k + 1 + 1) (l := rbL) (by simp) bc1 (by omega) (by omega) (by omega) hf
  split
  ·omega
  ·split
   ·simp only [ifS, J7, bd3]; omega
   ·split
    ·simp only [rpS, J7, bd3, j5]; omega
    ·omega
theorem b84 (d : Nat) : Drw (C1 b nv na d) (cS d) := fun j h1 h2 => ⟨(a11 b nv na d j h1 h2).1, (a11 b nv na d j h1 h2).2, ba7 b nv na d j h1 h2⟩
theorem bS4 {d m i : Nat} {B : Int} (hB : (m : Int) * cS d ≤ B) (hi : i ≤ m) (hk : 0 ≤ k) (hk2 : k + B ≤ 1000000000) : k ≤ (G6 (C1 b nv na d) i k).2 ∧ (G6 (C1 b nv na d) i k).2 ≤ k + B := by
 have hc := aA3 d
 have h6 : (i : Int) * cS d ≤ m * cS d := cl7 (by omega) (by omega)
 have h := aY0 (by omega) (b84 b nv na d) i k hk (by omega)
 omega
theorem ca1 {d m i : Nat} {B : Int} (hB : (m : Int) * cS d ≤ B) (hi : i < m) (hk : 0 ≤ k) (hk2 : k + B ≤ 1000000000) : (G6 (C1 b nv na d) i k).2 + cS d ≤ k + B := by
 have hc := aA3 d
 have h6 : ((i + 1 : Nat) : Int) * cS d ≤ m * cS d := cl7 (by omega) (by omega)
 have e : ((i + 1 : Nat) : Int) * cS d = i * cS d + cS d := by rw [Int.natCast_add, Int.add_mul]; simp
 have h := aY0 (by omega) (b84 b nv na d) i k hk (by omega)
 omega
theorem b54 {m : Int} {c : Int} (h0 : 0 ≤ m) (hm : m ≤ 2) (hc : 0 ≤ c) : (m.toNat : Int) * c ≤ 2 * c := cl7 (by omega) hc
theorem ce4 {m : Int} {c : Int} (h0 : 0 ≤ m) (hm : m ≤ 4) (hc : 0 ≤ c) : (m.toNat : Int) * c ≤ 4 * c := cl7 (by omega) hc
end
theorem aQ7 (b : List UInt8) {k : Int} {l : List Int} {m : Int} (hl : l ≠ []) (h : ∀ x ∈ l, 0 ≤ x ∧ x ≤ m) (hk : 0 ≤ k) (hk2 : k ≤ 1000000000) : 0 ≤ nm b k l ∧ nm b k l ≤ m := h _ (aw3 b hk hk2 hl)
mutual
def AV.den (t : Bool) (n : Nat) : AV → AV
 | .v x => .v x
 | .ptr a b => .ptr a b
 | .ea a b c d => .ea a b c d
 | .ref i => if !t && natEq i n then .v (.slice none 0 0) else .ref i
 | .agg l => .agg (AV.denL t n l)
 | .tup l => .tup (AV.denL t n l)
 | .fn f l => .fn f (AV.denL t n l)
 | .bm f l => .bm f (AV.denL t n l)
 | .tref i => if t && natEq i n then .v (.slice none 0 0) else .tref i
def AV.denL (t : Bool) (n : Nat) : List AV → List AV
 | [] => []
 | x :: r => x.den t n :: AV.denL t n r
end
def It.den (t : Bool) (n : Nat) : It → It
 | .box cs => .box (AV.denL t n cs)
 | x => x
mutual
theorem AV.val_den {ρ : Nat → Value} {t : Bool} {n : Nat} {z : Value} (hz : if t then F8 z = .slice none 0 0 else z = .slice none 0 0) : ∀ (x : AV), (∀ i ∈ (x.den t n).ids, i < n) → x.val (fun j => if j = n then z else ρ j) = (x.den t n).val ρ ∧ ∀ i ∈ x.ids, i < n + 1
 | .v _, _ => ⟨rfl, fun i hi => by simp [AV.ids] at hi⟩
 | .ptr a b, h => by
  have ha : a < n := h a (by simp [AV.den, AV.ids])
  refine ⟨?_, fun i hi => by simp [AV.ids] at hi; omega⟩
  simp only [AV.den, AV.val]
  rw [if_neg (by omega)]
 | .ea a b c d, h => by
  have ha : a < n := h a (by simp [AV.den, AV.ids])
  refine ⟨?_, fun i hi => by simp [AV.ids] at hi; omega⟩
  simp only [AV.den, AV.val]
  rw [if_neg (by omega)]
 | .ref a, h => by
  by_cases e : t = false ∧ a = n
  ·obtain ⟨rfl, rfl⟩ := e
   refine ⟨?_, fun i hi => by simp [AV.ids] at hi; omega⟩
   simp only [Bool.false_eq_true, if_false] at hz
   simp [AV.den, AV.val, natEq, hz]
  ·have hd : (AV.ref a).den t n = .ref a := by
    simp only [AV.den]
    rw [if_neg]
    simp [natEq]; intro h1 h2; exact e ⟨h1, h2⟩
   rw [hd] at h ⊢
   have ha : a < n := h a (by simp [AV.ids])
   refine ⟨?_, fun i hi => by simp [AV.ids] at hi; omega⟩
   simp only [AV.val]
   rw [if_neg (by omega)]
 | .tref a, h => by
  by_cases e : t = true ∧ a = n
  ·obtain ⟨rfl, rfl⟩ := e
   refine ⟨?_, fun i hi => by simp [AV.ids] at hi; omega⟩
   simp only [if_true] at hz
   simp [AV.den, AV.val, natEq, hz]
  ·have hd : (AV.tref a).den t n = .tref a := by
    simp only [AV.den]
    rw [if_neg]
    simp [natEq]; intro h1 h2; exact e ⟨h1, h2⟩
   rw [hd] at h ⊢
   have ha : a < n := h a (by simp [AV.ids])
   refine ⟨?_, fun i hi => by simp [AV.ids] at hi; omega⟩
   simp only [AV.val]
   rw [if_neg (by omega)]
 | .agg l, h => by
  obtain ⟨h1, h2⟩ := AV.vals_den hz l (by simpa [AV.den, AV.ids] using h)
  exact ⟨by simp only [AV.den, AV.val]; rw [h1], by simpa [AV.ids] using h2⟩
 | .tup l, h => by
  obtain ⟨h1, h2⟩ := AV.vals_den hz l (by simpa [AV.den, AV.ids] using h)
  exact ⟨by simp only [AV.den, AV.val]; rw [h1], by simpa [AV.ids] using h2⟩
 | .fn f l, h => by
  obtain ⟨h1, h2⟩ := AV.vals_den hz l (by simpa [AV.den, AV.ids] using h)
  exact ⟨by simp only [AV.den, AV.val]; rw [h1], by simpa [AV.ids] using h2⟩
 | .bm f l, h => by
  obtain ⟨h1, h2⟩ := AV.vals_den hz l (by simpa [AV.den, AV.ids] using h)
  exact ⟨by simp only [AV.den, AV.val]; rw [h1], by simpa [AV.ids] using h2⟩
theorem AV.vals_den {ρ : Nat → Value} {t : Bool} {n : Nat} {z : Value} (hz : if t then F8 z = .slice none 0 0 else z = .slice none 0 0) : ∀ (l : List AV), (∀ i ∈ AV.idsL (AV.denL t n l), i < n) → AV.vals (fun j => if j = n then z else ρ j) l = AV.vals ρ (AV.denL t n l) ∧ ∀ i ∈ AV.idsL l, i < n + 1
 | [], _ => ⟨rfl, fun i hi => by simp [AV.idsL] at hi⟩
 | x :: r, h => by
  obtain ⟨h1, h2⟩ := AV.val_den hz x fun i hi => h i (by simp only [AV.denL, AV.idsL, ci8]; exact .inl hi)
  obtain ⟨h3, h4⟩ := AV.vals_den hz r fun i hi => h i (by simp only [AV.denL, AV.idsL, ci8]; exact .inr hi)
  refine ⟨by simp only [AV.denL, AV.vals]; rw [h1, h3], fun i hi => ?_⟩
  simp only [AV.idsL, ci8] at hi
  rcases hi with hi | hi
  ·exact h2 i hi
  ·exact h4 i hi
end
theorem aI9 {m : Bool} {n : Nat} {t : Nat} {x : AV} : ∀ {tm : List (Nat × AV)}, z8 tm t = some x → z8 (tm.map fun p => (p.1, p.2.den m n)) t = some (x.den m n)
 | [], h => by cases h
 | (k, y) :: r, h => by
  simp only [z8, ck3] at h ⊢
  split at h
  ·rename_i e; cases h; rw [if_pos e]
  ·rename_i e; rw [if_neg e]; exact aI9 h
section
variable {P : Program} {ι : Type} {φ ψ : Nat → Prop} {w0 w : World} {F : ι → Rs} {ρ ρ0 : Nat → Value} {N m n : Nat} {S : List It} {tm : List (Nat × AV)} {a : Act}
theorem t4.nilW (G : t4 φ ψ w0 F N m ρ0 ρ S tm a w) (n : Nat) (hn : S.length = n) (b : Bool) (x : It) (z : Value) (hz : if b then F8 z = .slice none 0 0 else z = .slice none 0 0) (hids : x.ids = []) (hb : ∀ g, ¬ (x.res (fun j => if j = n then z else ρ j) n).blk g)
  (hx : ∀ φ', (x.res (fun j => if j = n then z else ρ j) n).holds w φ') (S1 : List It) (tm1 : List (Nat × AV)) (hS : S = S1.map (It.den b n)) (ht : tm = tm1.map fun p => (p.1, p.2.den b n)) :
  ∃ ρ', t4 φ ψ w0 F N m ρ0 ρ' (S1 ++ [x]) tm1 a w := by
 have hl : S1.length = n := by rw [← hn, hS, List.length_map]
 have hat : ∀ j (hj : j < n), s4 S j = (S1[j]'(by omega)).den b n := fun j hj => by
  rw [aj8 (show j < S.length by omega)]
  have h1 := congrArg (·[j]?) hS
  simp only [List.getElem?_map, ch2 (show j < S.length by omega), ch2 (show j < S1.length by omega), Option.map_some, Option.some.injEq] at h1
  exact h1
 have hnew : ∀ j (hj : j < n), s4 (S1 ++ [x]) j = S1[j]'(by omega) := fun j hj => by
  simp [s4, ch3, ci4 (show j < S1.length by omega), ch2 (show j < S1.length by omega)]
 have hlast : s4 (S1 ++ [x]) n = x := by
  simp [s4, ch3, ← hl]
 have hout : ∀ j, n < j → s4 (S1 ++ [x]) j = .none := fun j hj => y6 (by simp; omega)
 have hbx : ∀ j (hj : j < n), ((S1[j]'(by omega)).res (fun j => if j = n then z else ρ j) j = (s4 S j).res ρ j) ∧ ∀ i ∈ (S1[j]'(by omega)).ids, i < n + 1 := fun j hj => by
  rw [hat j hj]
  have hb := (G.bd j).1
  rw [hat j hj, hn] at hb
  generalize S1[j]'(by omega) = x at *
  cases x with
  | box cs =>
   obtain ⟨h1, h2⟩ := AV.vals_den (ρ := ρ) (n := n) hz cs hb
   refine ⟨?_, h2⟩
   simp only [It.res, It.den]
   rw [h1, if_neg (show ¬ j = n by omega)]
  | none => exact ⟨rfl, fun i hi => by cases hi⟩
  | dead => exact ⟨rfl, fun i hi => by cases hi⟩
  | dat d' => exact ⟨by simp only [It.res, It.den]; rw [if_neg (show ¬ j = n by omega)], fun i hi => by cases hi⟩
  | row e' d' => exact ⟨by simp only [It.res, It.den]; rw [if_neg (show ¬ j = n by omega)], fun i hi => by cases hi⟩
  | tree d' => exact ⟨by simp only [It.res, It.den]; rw [if_neg (show ¬ j = n by omega)], fun i hi => by cases hi⟩
  | kept e' d' => exact ⟨by cases e' <;> (simp only [It.res, It.den]; rw [if_neg (show ¬ j = n by omega)]), fun i hi => by cases hi⟩
 have hw : ∀ t x, z8 tm1 t = some x → x.val (fun j => if j = n then z else ρ j) = (x.den b n).val ρ ∧ ∀ i ∈ x.ids, i < n + 1 := fun t x hx => by
  refine AV.val_den hz x fun i hi => ?_
  have h1 : z8 tm t = some (x.den b n) := by rw [ht]; exact aI9 hx
  have := G.tmi t _ h1 i hi
  omega
 refine ⟨fun j => if j = n then z else ρ j, ?_⟩
 refine ⟨G.size, G.defs, fun t x hx => ?_, fun t x hx i hi => ?_, fun j => ⟨fun i hi => ?_, fun hj => y6 hj⟩, ?_, ?_, fun i hi => ?_⟩
 ·have h1 : z8 tm t = some (x.den b n) := by rw [ht]; exact aI9 hx
  rw [(hw t x hx).1]; exact G.tmv t _ h1
 ·have := (hw t x hx).2 i hi
  simp; omega
 ·rcases Nat.lt_trichotomy j n with h | h | h
  ·rw [hnew j h] at hi
   have := (hbx j h).2 i hi
   simp; omega
  ·subst h; rw [hlast, hids] at hi; cases hi
  ·rw [hout j h] at hi; cases hi
 ·refine l5.put G.mem (.inr n) (fun k hk => ?_) (C8.refl _ _) ?_ ?_
  ·cases k with
   | inl i => rfl
   | inr j =>
    simp only [o0]
    rcases Nat.lt_trichotomy j n with h | h | h
    ·rw [hnew j h]; exact (hbx j h).1
    ·exact absurd (by rw [h]) hk
    ·rw [hout j h, y6 (show S.length ≤ j by omega)]; rfl
  ·simp only [o0, hlast]; exact hx _
  ·intro g hg
   simp only [o0, hlast] at hg
   exact absurd hg (hb g)
 ·have := G.le; simp; omega
 ·show (if i = n then _ else ρ i) = ρ0 i
  have := G.le
  rw [if_neg (by omega)]; exact G.old i hi
theorem t4.nil (G : t4 φ ψ w0 F N m ρ0 ρ S tm a w) (n : Nat) (e : TypeId) (d : D) (k : Nat) (S1 : List It) (tm1 : List (Nat × AV)) (hn : S.length = n := by kernel_rfl) (hd : D.nil k = some d := by kernel_rfl) (hS : S = S1.map (It.den false n) := by kernel_rfl) (ht : tm = tm1.map (fun p => (p.1, p.2.den false n)) := by kernel_rfl) :
  ∃ ρ', t4 φ ψ w0 F N m ρ0 ρ' (S1 ++ [.row e d]) tm1 a w := by
 have hz := D.nil_len hd
 refine G.nilW n hn false (.row e d) (.slice none 0 0) (by simp) rfl (fun g hg => ?_) (fun φ' => ?_) S1 tm1 hS ht
 ·simp only [It.res, if_true] at hg
  cases hg
 ·simp only [It.res, if_true]
  refine ⟨fun xs => RW.nice d xs, [], ?_, RW.nil hz _⟩
  rw [hz]; exact World.ownsRow_nil _ _ _ _
theorem t4.nilT (G : t4 φ ψ w0 F N m ρ0 ρ S tm a w) (n : Nat) (d : D) (S1 : List It) (tm1 : List (Nat × AV)) (hn : S.length = n := by kernel_rfl) (hd : ((an6 d).isSome && natEq d.len 0) = true := by kernel_rfl) (hS : S = S1.map (It.den true n) := by kernel_rfl) (ht : tm = tm1.map (fun p => (p.1, p.2.den true n)) := by kernel_rfl) :
  ∃ ρ', t4 φ ψ w0 F N m ρ0 ρ' (S1 ++ [.tree d]) tm1 a w := by
 simp only [ch0, natEq, beq_iff_eq] at hd
 obtain ⟨e, he⟩ := cl6.1 hd.1
 obtain ⟨z, h1, h2⟩ := aL4 (.slice none 0 0) (fun _ => False) 0 fun b h => h.elim
 refine G.nilW n hn true (.tree d) z (by simp [h1]) rfl (fun g hg => ?_) (fun φ' => ?_) S1 tm1 hS ht
 ·simp only [It.res, if_true] at hg
  exact ((h2 g).1 hg).elim
 ·simp only [It.res, if_true]
  rw [h1]
  refine ⟨fun _ _ h hs => h.same hs, ⟨e, [], fun _ => False, he, ?_, (fun g hg => by cases hg), (fun b hb => hb.elim), ?_⟩, fun b hb => ((h2 b).1 hb).elim⟩
  ·rw [hd.2]; exact World.ownsRow_nil _ _ _ _
  ·have h0 := hd.2
   cases d <;> simp only [an6] at he <;> first | cases he | skip
   all_goals (simp only [D.len] at h0; rw [ci7 h0]; rfl)
end
inductive Ln where
 | no
 | row (e : TypeId)
 | tree
def y7 (M : List Ln) (i : Nat) : Ln := M.getD i .no
def Ln.isT : Ln → Bool
 | .tree => true
 | _ => false
mutual
def AV.tr (M : List Ln) : AV → AV
 | .v x => .v x
 | .ptr a b => .ptr a b
 | .ea a b c d => .ea a b c d
 | .ref i => if (y7 M i).isT then .tref i else .ref i
 | .agg l => .agg (AV.trL M l)
 | .tup l => .tup (AV.trL M l)
 | .fn f l => .fn f (AV.trL M l)
 | .bm f l => .bm f (AV.trL M l)
 | .tref i => .tref i
def AV.trL (M : List Ln) : List AV → List AV
 | [] => []
 | x :: r => x.tr M :: AV.trL M r
end
mutual
def AV.trOk (M : List Ln) : AV → Bool
 | .v _ => true
 | .ptr a _ => !(y7 M a).isT
 | .ea a _ _ _ => !(y7 M a).isT
 | .ref _ => true
 | .agg l => AV.trOkL M l
 | .tup l => AV.trOkL M l
 | .fn _ l => AV.trOkL M l
 | .bm _ l => AV.trOkL M l
 | .tref i => !(y7 M i).isT
def AV.trOkL (M : List Ln) : List AV → Bool
 | [] => true
 | x :: r => x.trOk M && AV.trOkL M r
end
mutual
theorem AV.val_tr {ρ ρ' : Nat → Value} {M : List Ln} (h : ∀ i, ρ' i = if (y7 M i).isT then F8 (ρ i) else ρ i) : ∀ (x : AV), x.trOk M = true → (x.tr M).val ρ = x.val ρ'
 | .v _, _ => rfl
 | .ptr a _, hx => by
  simp only [AV.trOk, ci9] at hx
  simp only [AV.tr, AV.val]; rw [h a, hx]; rfl
 | .ea a _ _ _, hx => by
  simp only [AV.trOk, ci9] at hx
  simp only [AV.tr, AV.val]; rw [h a, hx]; rfl
 | .ref i, _ => by
  simp only [AV.tr]
  cases hm : (y7 M i).isT
  ·simp only [Bool.false_eq_true, if_false, AV.val]; rw [h i, hm]; rfl
  ·simp only [if_true, AV.val]; rw [h i, hm]; rfl
 | .agg l, hx => by simp only [AV.tr, AV.val]; rw [AV.vals_tr h l (by simpa [AV.trOk] using hx)]
 | .tup l, hx => by simp only [AV.tr, AV.val]; rw [AV.vals_tr h l (by simpa [AV.trOk] using hx)]
 | .fn _ l, hx => by simp only [AV.tr, AV.val]; rw [AV.vals_tr h l (by simpa [AV.trOk] using hx)]
 | .bm _ l, hx => by simp only [AV.tr, AV.val]; rw [AV.vals_tr h l (by simpa [AV.trOk] using hx)]
 | .tref i, hx => by
  simp only [AV.trOk, ci9] at hx
  simp only [AV.tr, AV.val]; rw [h i, hx]; rfl
theorem AV.vals_tr {ρ ρ' : Nat → Value} {M : List Ln} (h : ∀ i, ρ' i = if (y7 M i).isT then F8 (ρ i) else ρ i) : ∀ (l : List AV), AV.trOkL M l = true → AV.vals ρ (AV.trL M l) = AV.vals ρ' l
 | [], _ => rfl
 | x :: r, hx => by
  simp only [AV.trOkL, ch0] at hx
  simp only [AV.trL, AV.vals]; rw [AV.val_tr h x hx.1, AV.vals_tr h r hx.2]
end
def A6 (M : List Ln) : Ln → It → It
 | .row e, .dat d => .row e d
 | .tree, .dat d => .tree d
 | .no, .box cs => .box (AV.trL M cs)
 | _, x => x
def X3 (M : List Ln) (S : List It) : List It := (ci5 S.length).map fun i => A6 M (y7 M i) (s4 S i)
theorem aa1 (M : List Ln) (S : List It) (i : Nat) : s4 (X3 M S) i = A6 M (y7 M i) (s4 S i) := by
 unfold X3
 rcases cj1 i S.length with h | h
 ·conv => lhs; rw [s4, ch3, List.getElem?_map, List.getElem?_range h]
  rfl
 ·rw [y6 (by simpa using h), y6 h]
  cases y7 M i <;> rfl
def a63 : D → Bool
 | .rows _ => false
 | .brows _ => false
 | .exprs _ => false
 | .stmts _ => false
 | _ => true
theorem bm8 {w w' : World} {φ φ' : Nat → Prop} {d : D} {xs : List Value} (hd : a63 d = true) (h : RW w φ d xs) : RW w' φ' d xs := by
 intro i hi j x hx
 obtain ⟨u, h1, h2⟩ := h i hi j x hx
 refine ⟨u, h1, ?_⟩
 have : ∃ y, x = .v y := by
  have hm := cj9 hx
  cases d <;> simp only [a63, Bool.false_eq_true] at hd <;> simp [D.elem, bd8, aq4] at hm
  ·exact ⟨_, hm⟩
  ·exact ⟨_, hm⟩
  ·exact ⟨_, hm⟩
  ·exact ⟨_, hm⟩
  ·rcases hm with h | h | h | h | h <;> exact ⟨_, h⟩
  ·rcases hm with h | h <;> exact ⟨_, h⟩
 obtain ⟨y, rfl⟩ := this
 exact h2
def a40 (M : List Ln) (l : Ln) (p x : It) : Bool :=
 match l with
 | .no => match x with
  | .dat _ => (match p with | .dat _ => true | _ => false)
  | .row _ d => a63 d
  | .box cs => AV.trOkL M cs
  | .kept _ _ => false
  | _ => true
 | .row _ => (match p, x with | .dat d, .dat _ => a63 d | _, _ => false)
 | .tree => (match p, x with | .dat d, .dat _ => (an6 d).isSome | _, _ => false)
def by6 (M : List Ln) (l : Ln) (p : It) : Bool :=
 match l, p with
 | .no, .box cs => AV.trOkL M cs
 | _, _ => true
def bA9 (M : List Ln) (c : j8) : Bool :=
 decide (M.length ≤ c.pre.length) && decide (c.pre.length ≤ c.post.length) && AV.trOkL M c.args && c.res.trOk M && (ci5 c.post.length).all (fun i => a40 M (y7 M i) (s4 c.pre i) (s4 c.post i)) && (ci5 c.pre.length).all fun i => by6 M (y7 M i) (s4 c.pre i)
def Rs.snap (w : World) (r : Rs) : Rs := .own r.blk fun w' => ∀ b, r.blk b → b < w.heap.size → w'.heap[b]? = w.heap[b]?
theorem Rs.snap_holds {w : World} {φ φ' : Nat → Prop} {r : Rs} (h : r.holds w φ) : (r.snap w).holds w φ' := by
 refine ⟨fun w1 w2 h1 h2 b hb hlt => ?_, fun b _ _ => rfl, fun b hb => Rs.lt h hb⟩
 have h3 := h1 b hb hlt
 rw [h2 b hb, h3]
 have : (w1.heap[b]?).isSome = true := by rw [h3, Array.getElem?_eq_getElem hlt]; rfl
 obtain ⟨o, ho⟩ := cl6.1 this
 exact (Array.getElem?_eq_some_iff.1 ho).1
theorem aY2 : ∀ {P X : List It} {i : Nat} {d e : D}, ax0 P X = aw9 P X → s4 P i = .dat d → s4 X i = .dat e → d = e
 | P, X, i, d, e, h, h1, h2 => by
  have hp : P[i]? = some (.dat d) := by
   rcases cj1 i P.length with hl | hl
   ·rw [aj8 hl] at h1; rw [ch2 hl, h1]
   ·rw [y6 hl] at h1; cases h1
  have hx : X[i]? = some (.dat e) := by
   rcases cj1 i X.length with hl | hl
   ·rw [aj8 hl] at h2; rw [ch2 hl, h2]
   ·rw [y6 hl] at h2; cases h2
  exact bY6 h hp hx
theorem j8.lend0 {P : Program} {c : j8} (hc : c.ok P) (M : List Ln) (hb : bA9 M c = true) (he : ax0 c.pre c.post = aw9 c.pre c.post) : j8.ok P ⟨c.f, AV.trL M c.args, X3 M c.pre, X3 M c.post, c.res.tr M⟩ := by
 simp only [bA9, ch0, decide_eq_true_eq] at hb
 obtain ⟨⟨⟨⟨⟨hM, hle⟩, hargs⟩, hres⟩, hpost⟩, hpre⟩ := hb
 have hno : ∀ i, c.pre.length ≤ i → y7 M i = .no := fun i hi => by
  unfold y7; rw [ch3, cj3 (by omega)]; rfl
 have hpo : ∀ i, a40 M (y7 M i) (s4 c.pre i) (s4 c.post i) = true := fun i => by
  rcases cj1 i c.post.length with h | h
  ·exact ch8.1 hpost i (cl3.2 h)
  ·rw [hno i (by omega), y6 h]; rfl
 have hpr : ∀ i, by6 M (y7 M i) (s4 c.pre i) = true := fun i => by
  rcases cj1 i c.pre.length with h | h
  ·exact ch8.1 hpre i (cl3.2 h)
  ·rw [hno i h, y6 h]; rfl
 intro ι φ ψ w0 w F ρ MM
 let ρ1 : Nat → Value := fun i => if (y7 M i).isT then F8 (ρ i) else ρ i
 have hρ1 : ∀ i, ρ1 i = if (y7 M i).isT then F8 (ρ i) else ρ i := fun _ => rfl
 let F1 : ι → Rs := fun i => (F i).snap w
 have hLi : ∀ i, o0 F ρ (s4 (X3 M c.pre)) (.inl i) = F i := fun _ => rfl
 have hLj : ∀ j, o0 F ρ (s4 (X3 M c.pre)) (.inr j) = (A6 M (y7 M j) (s4 c.pre j)).res ρ j := fun j => by simp only [o0]; rw [aa1]
 generalize hL : o0 F ρ (s4 (X3 M c.pre)) = L at MM hLi hLj
 have h1j : ∀ j, y7 M j = .no → (s4 c.pre j).res ρ1 j = L (.inr j) := fun j hl => by
  rw [hLj, hl]
  have hp := hpr j
  have e : ρ1 j = ρ j := by rw [hρ1, hl]; rfl
  cases hx : s4 c.pre j with
  | none => rfl
  | dead => rfl
  | dat d => simp only [A6, It.res]; rw [e]
  | row e' d => simp only [A6, It.res]; rw [e]
  | tree d => simp only [A6, It.res]; rw [e]
  | kept e' d => cases e' <;> (simp only [A6, It.res]; rw [e])
  | box cs =>
   rw [hl, hx] at hp
   simp only [by6] at hp
   simp only [A6, It.res]
   rw [e, AV.vals_tr hρ1 cs hp]
 have hlent : ∀ j, y7 M j ≠ .no → (∃ d, s4 c.pre j = .dat d ∧ s4 c.post j = .dat d ∧ ((∃ e, y7 M j = .row e ∧ a63 d = true) ∨ y7 M j = .tree)) := fun j hj => by
  have h := hpo j
  cases hl : y7 M j with
  | no => exact absurd hl hj
  | row e =>
   rw [hl] at h
   simp only [a40] at h
   split at h
   ·rename_i d d' h1 h2
    exact ⟨d, h1, by rw [h2, ← aY2 he h1 h2], .inl ⟨e, rfl, h⟩⟩
   ·cases h
  | tree =>
   rw [hl] at h
   simp only [a40] at h
   split at h
   ·rename_i d d' h1 h2
    exact ⟨d, h1, by rw [h2, ← aY2 he h1 h2], .inr rfl⟩
   ·cases h
 have hsub : ∀ k b, (o0 F1 ρ1 (s4 c.pre) k).blk b → (L k).blk b ∧ ∀ j, k = .inr j → y7 M j = .no := fun k b hb => by
  cases k with
  | inl i => rw [hLi]; exact ⟨hb, fun j h => by cases h⟩
  | inr j =>
   by_cases hl : y7 M j = .no
   ·simp only [o0] at hb
    rw [h1j j hl] at hb
    exact ⟨hb, fun j' h => by cases h; exact hl⟩
   ·obtain ⟨d, h1, _⟩ := hlent j hl
    simp only [o0, h1, It.res] at hb
    exact hb.elim
 have hfr1 : ∀ b, FrF φ L b → FrF φ (o0 F1 ρ1 (s4 c.pre)) b := fun b hb => ⟨hb.1, fun k hk => hb.2 k (hsub k b hk).1⟩
 let ψ1 : Nat → Prop := fun b => ∀ k, ¬ (o0 F1 ρ1 (s4 c.pre) k).blk b
 have M1 : l5 φ ψ1 w w (o0 F1 ρ1 (s4 c.pre)) := by
  refine ⟨C8.refl _ _, fun b hb => MM.fresh b (cj5 MM.size hb), fun k => ?_, fun k k' b hkk h1 h2 => MM.dis k k' b hkk (hsub k b h1).1 (hsub k' b h2).1, fun k b h1 => .inr fun h => h k h1, fun k b h1 => MM.ph k b (hsub k b h1).1⟩
  cases k with
  | inl i => exact Rs.snap_holds (show (F i).holds w _ from by rw [← hLi i]; exact MM.holds (.inl i))
  | inr j =>
   by_cases hl : y7 M j = .no
   ·simp only [o0]
    rw [h1j j hl]
    exact Rs.keep (MM.holds (.inr j)) (Agr.mono fun b _ hf => hfr1 b hf) fun _ _ => rfl
   ·obtain ⟨d, h1, h2, h3⟩ := hlent j hl
    have hh := MM.holds (.inr j)
    have hown : ∀ b, (L (.inr j)).blk b → FrF φ (o0 F1 ρ1 (s4 c.pre)) b := fun b hb => ⟨MM.ph _ _ hb, fun k hk => by
     obtain ⟨q1, q2⟩ := hsub k b hk
     by_cases e : k = .inr j
     ·exact hl (q2 j e)
     ·exact MM.dis k (.inr j) b e q1 hb⟩
    simp only [o0, h1, It.res]
    refine ⟨RD.nice _ _, ?_⟩
    rcases h3 with ⟨e, h3, hflat⟩ | h3
    ·rw [hLj, h3, h1] at hh
     simp only [A6, It.res] at hh
     obtain ⟨_, xs, o1, o2⟩ := hh
     have e1 : ρ1 j = ρ j := by rw [hρ1, h3]; rfl
     rw [e1]
     refine RD.make (A3 o1 fun g hg => hown g ?_) (bm8 hflat o2)
     rw [hLj, h3, h1]; exact hg
    ·rw [hLj, h3, h1] at hh
     simp only [A6, It.res] at hh
     have e1 : ρ1 j = F8 (ρ j) := by rw [hρ1, h3]; rfl
     rw [e1]
     refine F0.read hh.2.1 fun b hb => hown b ?_
     rw [hLj, h3, h1]; exact hb
 simp only
 rw [AV.vals_tr hρ1 c.args hargs]
 refine (hc ι φ ψ1 w w F1 ρ1 M1).mono ?_
 rintro x w' ⟨ρ2, g1, g2, M2⟩
 have hplen : (X3 M c.pre).length = c.pre.length := by simp [X3]
 let ρ' : Nat → Value := fun j => if j < c.pre.length then ρ j else ρ2 j
 have hρ' : ∀ j, ρ2 j = if (y7 M j).isT then F8 (ρ' j) else ρ' j := fun j => by
  show _ = if (y7 M j).isT then F8 (if j < c.pre.length then ρ j else ρ2 j) else (if j < c.pre.length then ρ j else ρ2 j)
  rcases cj1 j c.pre.length with h | h
  ·rw [if_pos h, g1 j h]
  ·rw [hno j h]
   exact (if_neg (Nat.not_lt.2 h)).symm
 have hρo : ∀ j, y7 M j ≠ .no → ρ' j = ρ j := fun j hj => by
  rcases cj1 j c.pre.length with h | h
  ·exact if_pos h
  ·exact absurd (hno j h) hj
 refine ⟨ρ', fun i hi => if_pos (by rw [hplen] at hi; exact hi), by rw [AV.val_tr hρ' c.res hres]; exact g2, ?_⟩
 have hL'j : ∀ j, o0 F ρ' (s4 (X3 M c.post)) (.inr j) = (A6 M (y7 M j) (s4 c.post j)).res ρ' j := fun j => by simp only [o0]; rw [aa1]
 have hL'i : ∀ i, o0 F ρ' (s4 (X3 M c.post)) (.inl i) = F i := fun _ => rfl
 generalize hL' : o0 F ρ' (s4 (X3 M c.post)) = L' at hL'j hL'i
 have hL2j : ∀ j, y7 M j = .no → L' (.inr j) = o0 F1 ρ2 (s4 c.post) (.inr j) := fun j hl => by
  rw [hL'j, hl]
  have hp := hpo j
  have e : ρ2 j = ρ' j := by rw [hρ', hl]; rfl
  simp only [o0]
  cases hx : s4 c.post j with
  | none => rfl
  | dead => rfl
  | dat d => simp only [A6, It.res]; rw [e]
  | row e' d => simp only [A6, It.res]; rw [e]
  | tree d => simp only [A6, It.res]; rw [e]
  | kept e' d => cases e' <;> (simp only [A6, It.res]; rw [e])
  | box cs =>
   rw [hl, hx] at hp
   simp only [a40] at hp
   simp only [A6, It.res]
   rw [e, AV.vals_tr hρ' cs hp]
 have hlj : ∀ j, y7 M j ≠ .no → L' (.inr j) = L (.inr j) := fun j hl => by
  obtain ⟨d, h1, h2, h3⟩ := hlent j hl
  rw [hL'j, hLj, h1, h2]
  rcases h3 with ⟨e, h3, _⟩ | h3
  ·rw [h3]; simp only [A6, It.res]; rw [hρo j hl]
  ·rw [h3]; simp only [A6, It.res]; rw [hρo j hl]
 have hin : ∀ b, b < w.heap.size → ¬ ψ1 b → ∃ k, (L k).blk b ∧ ∀ j, k = .inr j → y7 M j = .no := fun b _ hn => by
  obtain ⟨k, hk⟩ := Classical.not_forall.1 hn
  exact ⟨k, hsub k b (Classical.not_not.1 hk)⟩
 have hnew : ∀ k b, (∀ j, k = .inr j → y7 M j = .no) → (o0 F1 ρ2 (s4 c.post) k).blk b → b < w.heap.size → ∃ k', (L k').blk b ∧ ∀ j, k' = .inr j → y7 M j = .no := fun k b _ hb hlt => by
  rcases M2.ge k b hb with h | h
  ·omega
  ·exact hin b hlt h
 have hback : ∀ k b, (L' k).blk b → b < w.heap.size → ∃ k', (L k').blk b := fun k b hb hlt => by
  cases k with
  | inl i => rw [hL'i] at hb; exact ⟨.inl i, by rw [hLi]; exact hb⟩
  | inr j =>
   by_cases hl : y7 M j = .no
   ·rw [hL2j j hl] at hb
    obtain ⟨k', h1, _⟩ := hnew (.inr j) b (fun j' h => by cases h; exact hl) hb hlt
    exact ⟨k', h1⟩
   ·rw [hlj j hl] at hb; exact ⟨_, hb⟩
 have hsame : ∀ b, b < w.heap.size → ψ1 b → w'.heap[b]? = w.heap[b]? := fun b h1 h2 => M2.kept.block b h1 h2
 have hagr : Agr (FrF φ L) (FrF φ L') w w' := ⟨M2.kept.size, fun b hb hf => ⟨⟨hf.1, fun k hk => let ⟨k', h1⟩ := hback k b hk hb; hf.2 k' h1⟩, hsame b hb fun k hk => (hfr1 b hf).2 k hk⟩⟩
 have hlsame : ∀ j, y7 M j ≠ .no → ∀ b, (L (.inr j)).blk b → w'.heap[b]? = w.heap[b]? := fun j hl b hb => hsame b (MM.lt hb) fun k hk => by
  obtain ⟨q1, q2⟩ := hsub k b hk
  by_cases e : k = .inr j
  ·exact hl (q2 j e)
  ·exact MM.dis k (.inr j) b e q1 hb
 have hcross : ∀ j k b, y7 M j ≠ .no → (∀ j, k = .inr j → y7 M j = .no) → (L (.inr j)).blk b → ¬ (o0 F1 ρ2 (s4 c.post) k).blk b := fun j k b hl hk h1 h2 => by
  obtain ⟨k', h3, h4⟩ := hnew k b hk h2 (MM.lt h1)
  exact MM.dis k' (.inr j) b (fun e => hl (h4 j e)) h3 h1
 refine ⟨⟨M2.kept.os.trans MM.kept.os, M2.kept.tape.trans MM.kept.tape, M2.kept.output.trans MM.kept.output, cj5 MM.size M2.kept.size, fun b hb hp => (hsame b (cl5 hb MM.size) fun k hk => ?_).trans (MM.kept.block b hb hp)⟩, MM.fresh, fun k => ?_, fun k k' b hkk h1 h2 => ?_, fun k b h1 => ?_, fun k b h1 => ?_⟩
 ·rcases MM.ge k b (hsub k b hk).1 with h | h
  ·omega
  ·exact h hp
 ·cases k with
  | inl i =>
   rw [hL'i, ← hLi i]
   refine Rs.keep (MM.holds (.inl i)) hagr fun b hb => ?_
   have := (M2.holds (.inl i)).2.1 b (by rw [← hLi i]; exact hb) (MM.lt hb)
   exact this
  | inr j =>
   by_cases hl : y7 M j = .no
   ·have hh := M2.holds (.inr j)
    rw [← hL2j j hl] at hh
    have hp := hpo j
    rw [hl] at hp
    cases hx : s4 c.post j with
    | none => rw [hL'j, hl, hx]; exact Rs.none_holds _ _
    | dead => rw [hL'j, hl, hx]; exact Rs.none_holds _ _
    | box cs => rw [hL'j, hl, hx] at hh ⊢; exact hh
    | tree d => rw [hL'j, hl, hx] at hh ⊢; exact hh
    | kept e' d => rw [hx] at hp; exact absurd hp (by simp [a40])
    | row e d =>
     rw [hx] at hp
     simp only [a40] at hp
     rw [hL'j, hl, hx] at hh ⊢
     simp only [A6, It.res] at hh ⊢
     obtain ⟨_, xs, o1, o2⟩ := hh
     exact ⟨fun xs => RW.nice d xs, xs, o1, bm8 hp o2⟩
    | dat d =>
     rw [hx] at hp
     simp only [a40] at hp
     split at hp
     ·rename_i d' hpx
      have hd : d' = d := aY2 he hpx hx
      subst hd
      have e : L' (.inr j) = L (.inr j) := by
       rw [hL'j, hLj, hl, hx, hpx]
       simp only [A6, It.res]
       have : j < c.pre.length := by
        rcases cj1 j c.pre.length with h | h
        ·exact h
        ·rw [y6 h] at hpx; cases hpx
       rw [show ρ' j = ρ j from if_pos this]
      rw [e]
      refine Rs.keep (MM.holds (.inr j)) hagr fun b hb => ?_
      rw [hLj, hl, hpx] at hb
      exact hb.elim
     ·cases hp
   ·rw [hlj j hl]
    exact Rs.keep (MM.holds (.inr j)) hagr fun b hb => hlsame j hl b hb
 ·have key : ∀ k, (∃ j, k = .inr j ∧ y7 M j ≠ .no ∧ (L' k) = L k) ∨ ((∀ j, k = .inr j → y7 M j = .no) ∧ ∀ b, (L' k).blk b → (o0 F1 ρ2 (s4 c.post) k).blk b) := fun k => by
   cases k with
   | inl i => exact .inr ⟨(fun j h => by cases h), fun b hb => by rw [hL'i] at hb; exact hb⟩
   | inr j =>
    by_cases hl : y7 M j = .no
    ·exact .inr ⟨fun j' h => by cases h; exact hl, fun b hb => by rw [hL2j j hl] at hb; exact hb⟩
    ·exact .inl ⟨j, rfl, hl, hlj j hl⟩
  rcases key k with ⟨j, rfl, k1, k2⟩ | ⟨k1, k2⟩ <;> rcases key k' with ⟨j', rfl, k3, k4⟩ | ⟨k3, k4⟩
  ·rw [k2] at h1; rw [k4] at h2; exact MM.dis _ _ b hkk h1 h2
  ·rw [k2] at h1; exact hcross j k' b k1 k3 h1 (k4 b h2)
  ·rw [k4] at h2; exact hcross j' k b k3 k1 h2 (k2 b h1)
  ·exact M2.dis k k' b hkk (k2 b h1) (k4 b h2)
 ·cases k with
  | inl i => rw [hL'i, ← hLi i] at h1; exact MM.ge _ b h1
  | inr j =>
   by_cases hl : y7 M j = .no
   ·rw [hL2j j hl] at h1
    rcases cj1 b w.heap.size with hlt | hge
    ·obtain ⟨k', h2, _⟩ := hnew (.inr j) b (fun j' h => by cases h; exact hl) h1 hlt
     exact MM.ge k' b h2
    ·exact .inl (cj5 MM.size hge)
   ·rw [hlj j hl] at h1; exact MM.ge _ b h1
 ·cases k with
  | inl i => rw [hL'i, ← hLi i] at h1; exact MM.ph _ b h1
  | inr j =>
   by_cases hl : y7 M j = .no
   ·rw [hL2j j hl] at h1; exact M2.ph _ b h1
   ·rw [hlj j hl] at h1; exact MM.ph _ b h1
def bB9 (M : List Ln) : Ln → It → It
 | .row e, .dat d => .kept (some e) d
 | .tree, .dat d => .kept none d
 | .no, .box cs => .box (AV.trL M cs)
 | _, x => x
def bB8 (M : List Ln) (S : List It) : List It := (ci5 S.length).map fun i => bB9 M (y7 M i) (s4 S i)
theorem bA7 (M : List Ln) (S : List It) (i : Nat) : s4 (bB8 M S) i = bB9 M (y7 M i) (s4 S i) := by
 unfold bB8
 rcases cj1 i S.length with h | h
 ·conv => lhs; rw [s4, ch3, List.getElem?_map, List.getElem?_range h]
  rfl
 ·rw [y6 (by simpa using h), y6 h]
  cases y7 M i <;> rfl
theorem j8.lend {P : Program} {c : j8} (hc : c.ok P) (M : List Ln) (hb : bA9 M c = true := by kernel_rfl) (he : ax0 c.pre c.post = aw9 c.pre c.post := by kernel_rfl) : j8.ok P ⟨c.f, AV.trL M c.args, X3 M c.pre, bB8 M c.post, c.res.tr M⟩ :=
 j8.okPost (j8.lend0 hc M hb he) _ fun ρ i => by
  simp only
  rw [bA7, aa1]
  cases y7 M i <;> cases s4 c.post i <;> rfl
section
variable {P : Program} {ι κ : Type} {φ ψ : Nat → Prop} {w0 w : World} {F : ι → Rs} {ρ ρ0 : Nat → Value} {N m n : Nat} {S : List It} {tm : List (Nat × AV)} {a : Act}
theorem l5.release {L L' : κ → Rs} (M : l5 φ ψ w0 w L) (h : ∀ k, L' k = L k ∨ ((∀ b, ¬ (L' k).blk b) ∧ ∀ φ', (∀ b, FrF φ L b → φ' b) → (∀ b, (L k).blk b → φ' b) → (L' k).holds w φ')) : l5 φ ψ w0 w L' := by
 have old : ∀ k b, (L' k).blk b → (L k).blk b := fun k b hb => by
  rcases h k with e | ⟨h1, _⟩
  ·rw [e] at hb; exact hb
  ·exact (h1 b hb).elim
 have hfr : ∀ b, FrF φ L b → FrF φ L' b := fun b hb => ⟨hb.1, fun k hk => hb.2 k (old k b hk)⟩
 refine ⟨M.kept, M.fresh, fun k => ?_, fun i j g hij h1 h2 => M.dis i j g hij (old i g h1) (old j g h2), fun i b hb => M.ge i b (old i b hb), fun i b hb => M.ph i b (old i b hb)⟩
 rcases h k with e | ⟨h1, h2⟩
 ·rw [e]; exact Rs.keep (M.holds k) (Agr.mono fun b _ hf => hfr b hf) fun _ _ => rfl
 ·refine h2 _ hfr fun b hb => ⟨M.ph k b hb, fun j hj => ?_⟩
  by_cases e : j = k
  ·subst e; exact h1 b hj
  ·exact M.dis j k b e (old j b hj) hb
mutual
theorem AV.ids_tr (M : List Ln) : ∀ (x : AV), (x.tr M).ids = x.ids
 | .v _ => rfl
 | .ptr _ _ => rfl
 | .ea _ _ _ _ => rfl
 | .ref i => by simp only [AV.tr]; split <;> rfl
 | .agg l => by simp only [AV.tr, AV.ids]; exact AV.idsL_tr M l
 | .tup l => by simp only [AV.tr, AV.ids]; exact AV.idsL_tr M l
 | .fn _ l => by simp only [AV.tr, AV.ids]; exact AV.idsL_tr M l
 | .bm _ l => by simp only [AV.tr, AV.ids]; exact AV.idsL_tr M l
 | .tref _ => rfl
theorem AV.idsL_tr (M : List Ln) : ∀ (l : List AV), AV.idsL (AV.trL M l) = AV.idsL l
 | [] => rfl
 | x :: r => by simp only [AV.trL, AV.idsL]; rw [AV.ids_tr M x, AV.idsL_tr M r]
end
theorem aW8 {M : List Ln} {t : Nat} {x : AV} : ∀ {tm : List (Nat × AV)}, z8 tm t = some x → z8 (tm.map fun p => (p.1, p.2.tr M)) t = some (x.tr M) ∧ ∃ p ∈ tm, p.2 = x
 | [], h => by cases h
 | (k, y) :: r, h => by
  simp only [z8, ck3] at h ⊢
  split at h
  ·cases h; rename_i hk; rw [if_pos hk]; exact ⟨rfl, _, ck9, rfl⟩
  ·rename_i hk; rw [if_neg hk]
   obtain ⟨h1, p, h2, h3⟩ := aW8 h
   exact ⟨h1, p, ck7 _ h2, h3⟩
def b77 (M : List Ln) (m : Nat) (S1 : List It) (tm1 : List (Nat × AV)) : Bool :=
 decide (M.length ≤ S1.length) && (ci5 S1.length).all (fun i => match y7 M i, s4 S1 i with
  | .no, .box cs => AV.trOkL M cs
  | .no, _ => true
  | .row _, .dat _ => true
  | .tree, .dat _ => decide (m ≤ i)
  | _, _ => false) && tm1.all fun p => p.2.trOk M
theorem It.ids_lend (M : List Ln) (l : Ln) (x : It) : x.ids = [] ∨ (A6 M l x).ids = x.ids := by
 cases x with
 | box cs => cases l <;> first | exact .inr rfl | exact .inr (AV.idsL_tr M cs)
 | _ => exact .inl rfl
theorem t4.frz (G : t4 φ ψ w0 F N m ρ0 ρ S tm a w) (M : List Ln) (S1 : List It) (tm1 : List (Nat × AV)) (hb : b77 M m S1 tm1 = true := by kernel_rfl) (hS : S = X3 M S1 := by kernel_rfl) (ht : tm = tm1.map (fun p => (p.1, p.2.tr M)) := by kernel_rfl) :
  ∃ ρ', t4 φ ψ w0 F N m ρ0 ρ' S1 tm1 a w := by
 subst hS
 subst ht
 simp only [b77, ch0, decide_eq_true_eq] at hb
 obtain ⟨⟨hM, hall⟩, htm⟩ := hb
 have hlen : (X3 M S1).length = S1.length := by simp [X3]
 have hno : ∀ i, S1.length ≤ i → y7 M i = .no := fun i hi => by
  unfold y7; rw [ch3, cj3 (by omega)]; rfl
 have hat := fun i (hi : i < S1.length) => ch8.1 hall i (cl3.2 hi)
 let ρ1 : Nat → Value := fun i => if (y7 M i).isT then F8 (ρ i) else ρ i
 have hρ1 : ∀ i, ρ1 i = if (y7 M i).isT then F8 (ρ i) else ρ i := fun _ => rfl
 have hρn : ∀ i, (y7 M i).isT = false → ρ1 i = ρ i := fun i h => by rw [hρ1, h]; rfl
 refine ⟨ρ1, G.size, G.defs, fun t x hx => ?_, fun t x hx i hi => ?_, fun j => ⟨fun i hi => ?_, fun hj => y6 hj⟩, ?_, ?_, fun i hi => ?_⟩
 ·obtain ⟨h1, p, h2, h3⟩ := aW8 (M := M) hx
  rw [G.tmv t _ h1, AV.val_tr hρ1 x (by rw [← h3]; exact ch8.1 htm p h2)]
 ·obtain ⟨h1, _⟩ := aW8 (M := M) hx
  have := G.tmi t _ h1 i (by rw [AV.ids_tr]; exact hi)
  rw [hlen] at this; exact this
 ·have h1 := (G.bd j).1 i
  rw [aa1, hlen] at h1
  rcases It.ids_lend M (y7 M j) (s4 S1 j) with h | h
  ·rw [h] at hi; cases hi
  ·exact h1 (by rw [h]; exact hi)
 ·refine G.mem.release fun k => ?_
  cases k with
  | inl i => exact .inl rfl
  | inr j =>
   simp only [o0]
   rw [aa1]
   rcases cj1 j S1.length with hj | hj
   case inr => rw [hno j hj, y6 hj]; exact .inl rfl
   have h1 := hat j hj
   cases hl : y7 M j with
   | no =>
    have e : ρ1 j = ρ j := hρn j (by rw [hl]; rfl)
    rw [hl] at h1
    left
    cases hx : s4 S1 j with
    | box cs =>
     rw [hx] at h1
     simp only [A6, It.res]
     rw [e, AV.vals_tr hρ1 cs h1]
    | none => rfl
    | dead => rfl
    | dat d => simp only [A6, It.res]; rw [e]
    | row e' d => simp only [A6, It.res]; rw [e]
    | tree d => simp only [A6, It.res]; rw [e]
    | kept e' d => cases e' <;> (simp only [A6, It.res]; rw [e])
   | row e' =>
    have e : ρ1 j = ρ j := hρn j (by rw [hl]; rfl)
    rw [hl] at h1
    cases hx : s4 S1 j <;> rw [hx] at h1 <;> first | cases h1 | skip
    rename_i d
    refine .inr ⟨fun b hb => hb, fun φ' hf hown => ⟨RD.nice _ _, ?_⟩⟩
    have hh := G.mem.holds (.inr j)
    simp only [o0] at hh
    rw [aa1, hl, hx] at hh
    simp only [A6, It.res] at hh
    obtain ⟨_, xs, o1, o2⟩ := hh
    rw [e]
    exact RD.make (A3 o1 fun g hg => hown g hg) (RW.nice _ _ _ _ _ _ (Agr.mono fun b _ hb => hf b hb) o2)
   | tree =>
    have e : ρ1 j = F8 (ρ j) := by rw [hρ1, hl]; rfl
    rw [hl] at h1
    cases hx : s4 S1 j <;> rw [hx] at h1 <;> first | cases h1 | skip
    rename_i d
    refine .inr ⟨fun b hb => hb, fun φ' hf hown => ⟨RD.nice _ _, ?_⟩⟩
    have hh := G.mem.holds (.inr j)
    simp only [o0] at hh
    rw [aa1, hl, hx] at hh
    simp only [A6, It.res] at hh
    rw [e]
    exact F0.read hh.2.1 fun b hb => hown b hb
 ·have := G.le; rw [hlen] at this; exact this
 ·have hm := G.le
  rw [hlen] at hm
  have : (y7 M i).isT = false := by
   cases hl : y7 M i with
   | no => rfl
   | row _ => rfl
   | tree =>
    have h1 := hat i (by omega)
    rw [hl] at h1
    cases hx : s4 S1 i <;> rw [hx] at h1 <;> simp at h1
    omega
  show ρ1 i = ρ0 i
  rw [hρn i this]; exact G.old i hi
end
section
variable {P : Program} {ι κ : Type} {φ ψ : Nat → Prop} {w0 w w' : World} {F : ι → Rs} {ρ ρ0 : Nat → Value}
theorem l5.grow {L L' : κ → Rs} (M : l5 φ ψ w0 w L) (hb : Below w.heap.size w w') (K : κ → Prop) (ho : ∀ k, ¬ K k → L' k = L k) (hg : ∀ k, K k → ∀ b, (L' k).blk b → w.heap.size ≤ b) (hd : ∀ j k b, j ≠ k → K j → K k → (L' j).blk b → ¬ (L' k).blk b) (h : ∀ k, K k → (L' k).holds w' (FrF φ L')) : l5 φ ψ w0 w' L' := by
 have M1 := M.call hb
 have old : ∀ k, ¬ K k → ∀ b, (L' k).blk b → b < w.heap.size := fun k hk b h1 => by rw [ho k hk] at h1; exact M.lt h1
 refine ⟨M1.kept, M.fresh, fun k => ?_, fun i j g hij h1 h2 => ?_, fun i b h1 => ?_, fun i b h1 => ?_⟩
 ·by_cases e : K k
  ·exact h k e
  ·rw [ho k e]
   refine Rs.keep (M.holds k) ⟨hb.size, fun b hl hf => ⟨⟨hf.1, fun j hj => ?_⟩, hb.block b hl⟩⟩ fun g hgx => hb.block g (M.lt hgx)
   by_cases e2 : K j
   ·have := hg j e2 b hj; omega
   ·rw [ho j e2] at hj; exact hf.2 j hj
 ·by_cases e1 : K i <;> by_cases e2 : K j
  ·exact hd i j g hij e1 e2 h1 h2
  ·have := hg i e1 g h1; have := old j e2 g h2; omega
  ·have := hg j e2 g h2; have := old i e1 g h1; omega
  ·rw [ho i e1] at h1; rw [ho j e2] at h2; exact M.dis i j g hij h1 h2
 ·by_cases e : K i
  ·exact .inl (cj5 M.size (hg i e b h1))
  ·rw [ho i e] at h1; exact M.ge i b h1
 ·by_cases e : K i
  ·exact M.fresh b (cj5 M.size (hg i e b h1))
  ·rw [ho i e] at h1; exact M.ph i b h1
end
abbrev oP (p : i5) : List It := [.row 3 (.ints p.vars), .row 3 (.ints p.arrays), .tree (.stmts p.body)]
abbrev oA (r : Nat) : AV := .agg [.ref r, .ref (r + 1), .tref (r + 2)]
theorem ak5 (e : c6) : j8.ok Tryz.prog ⟨251, [.agg [.v (.int .i64 e.kind), .v (.int .i64 e.value), .ref 0]], [.dat (.exprs e.kids)], [.dat (.exprs e.kids)], .v (.bool (noneB e))⟩ := by
  refine E2 17 Tryz.func251 [dE e.kids] [(0, eA e 0)] fun G => ?_; refine wp_seq (j7 G d9 [0, 1] [dE e.kids, .box (eL e 0)] [(1, .ptr 1 0), (2, bA false)] fun G => b6 (wp_seq ?_)); cases h0 : (e.kind == 0)
  · have q0 := ne_of_beq_false h0; refine j7 G (I5 (fc h0 (fc (b := false) rfl fz)) (us [(4, 6, 0), (1007, 1007, 0), (9, 12, 1), (1013, 1013, 1)])) [0] [dE e.kids] [(2, bA false)] fun G => b6 (wp_ret ?_); exact J0 false G [0] (by rw [ck4]; simp [noneB, h0, q0]; done)
  ·
   have q0 := eq_of_beq h0; cases h1 : (e.value == 0)
   · have q1 := ne_of_beq_false h1; refine j7 G (I5 (fc h0 (fc h1 fz)) (us [(4, 6, 0), (1007, 1007, 0), (9, 12, 1), (1013, 1013, 1)])) [0] [dE e.kids] [(2, bA false)] fun G => b6 (wp_ret ?_); exact J0 false G [0] (by rw [ck4]; simp [noneB, h0, q0, h1, q1]; done)
   · have q1 := eq_of_beq h1; refine j7 G (I5 (fc h0 (fc h1 fz)) (us [(4, 6, 0), (1007, 1007, 0), (9, 12, 1), (1013, 1013, 1)])) [0] [dE e.kids] [(2, bA ((e.kids.length : Int) == 0))] fun G => b6 (wp_ret ?_); exact J0 ((e.kids.length : Int) == 0) G [0] (by rw [ck4]; simp [noneB, h0, q0, h1, q1]; done)
theorem am9 (k : Int) : j8.ok Tryz.prog ⟨261, [.v (.int .i64 k)], [], [], .v (.int .i64 (s8 k))⟩ := by
  refine E2 23 Tryz.func261 [] [(0, iA k)] fun G => ?_; refine wp_seq (k8 G d9 [(2, iA 0)] fun G => b6 (wp_seq (wp_block (wp_seq ?_)))); cases h0 : (k == 1)
  ·
   have q0 := ne_of_beq_false h0; refine k8 G (I5 (fc h0 fz) [(3, 0), (4, 0), (1005, 0)]) [(3, bA (k == 2))] fun G => b6 (J1 G (fun h1 q1 => ?_) fun h1 q1 => ?_)
   ·
    refine wp_seq (k8 G d9 [(10, bA (k == 3))] fun G => b6 (J1 G (fun h2 q2 => ?_) fun h2 q2 => ?_))
    ·
     refine wp_seq ?_; cases h3 : (decide (k ≥ 4))
     ·
      have q3 := dFf h3; refine k8 G (I5 (fc h3 fz) [(3, 0), (4, 0), (1005, 0)]) [(13, bA false)] fun G => b6 (rF G false (by kernel_rfl) (wp_seq (C6 G d9 [(2, iA 0), (20, bA (k == 11))] fun G => b6 ?_))); cases h4 : (k == 11)
      · have q4 := ne_of_beq_false h4; refine rF G _ h4 (wp_skip (k6 (b6 (wp_seq (k8 G d9 [(2, iA (-1))] fun G => b6 (wp_ret ?_)))))); exact rxI (-1) G [] (by unfold s8; (repeat' split) <;> omega)
      · have q4 := eq_of_beq h4; exact False.elim (by omega)
     ·
      have q3 := dTt h3; refine k8 G (I5 (fc h3 fz) [(3, 0), (4, 0), (1005, 0)]) [(13, bA (decide (k ≤ 10)))] fun G => b6 (Z6 G (fun h5 q5 => ?_) fun h5 q5 => ?_)
      ·
       refine wp_seq (k8 G d9 [(20, bA (k == 11))] fun G => b6 (J1 G (fun h6 q6 => ?_) fun h6 q6 => ?_))
       · refine wp_skip (k6 (b6 (wp_seq (k8 G d9 [(2, iA (-1))] fun G => b6 (wp_ret ?_))))); exact rxI (-1) G [] (by unfold s8; (repeat' split) <;> omega)
       · refine wp_seq (k8 G d9 [(2, iA 3)] fun G => b6 (wp_ret (z3 (l4 ?_)))); exact rxI 3 G [] (by unfold s8; (repeat' split) <;> omega)
      · refine wp_seq (k8 G d9 [(2, iA 2)] fun G => b6 (wp_ret (z3 (l4 ?_)))); exact rxI 2 G [] (by unfold s8; (repeat' split) <;> omega)
    · refine wp_seq (k8 G d9 [(2, iA 1)] fun G => b6 (wp_ret (z3 (l4 ?_)))); exact rxI 1 G [] (by unfold s8; (repeat' split) <;> omega)
   · refine wp_seq (k8 G d9 [] fun G => b6 (wp_ret (z3 (l4 ?_)))); exact rxI 0 G [] (by unfold s8; (repeat' split) <;> omega)
  · have q0 := eq_of_beq h0; refine k8 G (I5 (fc h0 fz) [(3, 0), (4, 0), (1005, 0)]) [(3, bA true)] fun G => b6 (rT G true (by kernel_rfl) (wp_seq (k8 G d9 [] fun G => b6 (wp_ret (z3 (l4 ?_)))))); exact rxI 0 G [] (by unfold s8; (repeat' split) <;> omega)
theorem aM3 (e : c6) : j8.ok Tryz.prog ⟨234, [.agg [.v (.int .i64 e.kind), .v (.int .i64 e.value), .ref 0]], [.dat (.exprs e.kids)], [.dat (.exprs e.kids)], .v (.bool (atomB e))⟩ := by
 refine E2 11 Tryz.func234 [dE e.kids] [(0, eA e 0)] fun G => ?_; refine wp_seq (j7 G d9 [0, 1] [dE e.kids, .box (eL e 0)] [(1, .ptr 1 0), (2, bA false)] fun G => b6 (wp_seq ?_)); cases h0 : (e.kind == 1)
 ·have q0 := ne_of_beq_false h0; refine j7 G (I5 (fc h0 fz) [(4, 0), (5, 0), (6, 0), (1007, 0)]) [0] [dE e.kids] [(2, bA (e.kind == 2))] fun G => b6 (wp_ret ?_); exact J0 (e.kind == 2) G [0] (by rw [ck4]; simp [atomB, h0, q0]; done)
 ·have q0 := eq_of_beq h0; refine j7 G (I5 (fc h0 fz) [(4, 0), (5, 0), (6, 0), (1007, 0)]) [0] [dE e.kids] [(2, bA true)] fun G => b6 (wp_ret ?_); exact J0 true G [0] (by rw [ck4]; simp [atomB, h0, q0]; done)
theorem bs9 (vs ars : List Int) (b : List c5) (k : Int) : j8.ok Tryz.prog ⟨262, [.agg [.ref 0, .ref 1, .ref 2], .v (.int .i64 k)], [.dat (.ints vs), .dat (.ints ars), .dat (.stmts b)], [.dat (.ints vs), .dat (.ints ars), .dat (.stmts b)], .v (.int .i64 (V0 vs.length ars.length k))⟩ := by
  refine E2 18 Tryz.func262 [dI vs, dI ars, dT b] [(0, pA 0), (1, iA k)] fun G => ?_; refine wp_seq (j7 G d9 (rg 4) [dI vs, dI ars, dT b, .box (pL 0)] [(1, iA k), (2, .ptr 3 0), (4, iA 0)] fun G => b6 (wp_seq (wp_seq (k8 G d9 [(5, iA k)] fun G => b6 (wp_block (wp_seq (k8 G d9 [(6, bA (k == 1))] fun G => b6 (J1 G (fun h0 q0 => ?_) fun h0 q0 => ?_))))))))
  ·
   refine wp_seq (k8 G d9 [(8, bA (k == 2))] fun G => b6 (J1 G (fun h1 q1 => ?_) fun h1 q1 => ?_))
   ·
    refine wp_seq (k8 G d9 [(13, bA (k == 3))] fun G => b6 (J1 G (fun h2 q2 => ?_) fun h2 q2 => ?_))
    · refine wp_skip (k6 (b6 (wp_seq (j7 G d9 [0, 1, 2] [dI vs, dI ars, dT b] [(4, iA 1)] fun G => b6 (wp_ret ?_))))); exact rxI 1 G [0, 1, 2] (by unfold V0; (repeat' split) <;> omega)
    · refine wp_seq (j7 G d9 [0, 1, 2] [dI vs, dI ars, dT b] [(4, iA (ars.length : Int))] fun G => b6 (wp_ret (z3 (l4 ?_)))); exact rxI ((ars.length : Int)) G [0, 1, 2] (by unfold V0; (repeat' split) <;> omega)
   · refine wp_seq (j7 G d9 [0, 1, 2] [dI vs, dI ars, dT b] [(4, iA (vs.length : Int))] fun G => b6 (wp_ret (z3 (l4 ?_)))); exact rxI ((vs.length : Int)) G [0, 1, 2] (by unfold V0; (repeat' split) <;> omega)
  · refine wp_seq (j7 G d9 [0, 1, 2] [dI vs, dI ars, dT b] [(4, iA 256)] fun G => b6 (wp_ret (z3 (l4 ?_)))); exact rxI 256 G [0, 1, 2] (by unfold V0; (repeat' split) <;> omega)
theorem a91 {α : Type} {l : List α} {k : Nat} {p : α → Bool} {z : α} (h : (l.take k).all p = true) (hk : k < l.length) (hp : p (l.getD k z) = true) : (l.take (k + 1)).all p = true := by
 rw [U2 p l k hk, h, ← m0 (d := z) hk, hp]; rfl
theorem aN0 {α : Type} {l : List α} {k : Nat} {p : α → Bool} (h : (l.take k).all p = true) (hk : l.length ≤ k) : l.all p = true := by
 rw [ci6 hk] at h; exact h
section
variable {nv na d : Nat} {e : c6}
theorem bJ1 (h : ¬ (e.kids.length : Int) = s8 e.kind) : f8 nv na (d + 1) e = false := by simp [f8, R7, h]
theorem bJ0 (h : e.value < 0) : f8 nv na (d + 1) e = false := by
 have : ¬ 0 ≤ e.value := by omega
 simp [f8, R7, this]
theorem bI9 (h : V0 nv na e.kind ≤ e.value) : f8 nv na (d + 1) e = false := by
 have : ¬ e.value < V0 nv na e.kind := by omega
 simp [f8, R7, this]
theorem bI8 {k : Nat} {z : c6} (hk : k < e.kids.length) (h : f8 nv na d (e.kids.getD k z) = false) : f8 nv na (d + 1) e = false := by
 rw [m0 hk] at h
 have : e.kids.all (f8 nv na d) = false := as8 hk h
 simp [f8, this]
theorem bb2 (h1 : (e.kids.length : Int) = s8 e.kind) (h2 : ¬ e.value < 0) (h3 : ¬ V0 nv na e.kind ≤ e.value) : R7 nv na e = true := by
 unfold R7; rw [decide_eq_true h1, decide_eq_true (by omega), decide_eq_true (by omega)]; rfl
theorem bI7 (hn : R7 nv na e = true) (ha : e.kids.all (f8 nv na d) = true) (h : ¬ e.kind = 3) : f8 nv na (d + 1) e = true := by
 rw [f8, hn, ha]; simp [az3, h]
theorem bI6 (hn : R7 nv na e = true) (ha : e.kids.all (f8 nv na d) = true) (h : e.kind = 3) (hl : 0 < e.kids.length) : f8 nv na (d + 1) e = atomB (e.kids.getD 0 cg8) := by
 rw [f8, hn, ha, bq1 h hl, m0 hl]; simp [atomB]
theorem aS4 (h1 : (e.kids.length : Int) = s8 e.kind) (h : e.kind = 3) : 0 < e.kids.length := by
 rw [h] at h1; simp [s8] at h1; omega
end
theorem bg3 (vs ars : List Int) (b : List c5) (e : c6) (n : Int) (hn : n = 0) : j8.ok Tryz.prog ⟨252, [.agg [.ref 0, .ref 1, .ref 2], .agg [.v (.int .i64 e.kind), .v (.int .i64 e.value), .ref 3], .v (.int .i64 n)], [.dat (.ints vs), .dat (.ints ars), .dat (.stmts b), .dat (.exprs e.kids)], [.dat (.ints vs), .dat (.ints ars), .dat (.stmts b), .dat (.exprs e.kids)], .v (.bool (f8 vs.length ars.length 0 e))⟩ := by
 have h100 : decide (n < 1) = true := by simp; omega
 refine E2 60 Tryz.func252 [dI vs, dI ars, dT b, dE e.kids] [(0, pA 0), (1, eA e 3), (2, iA n)] fun G => ?_; refine wp_seq (j7 G d9 [0, 1, 2, 3, 4, 12] [dI vs, dI ars, dT b, dE e.kids, .box (pL 0), .box (eL e 3)] [(2, iA n), (3, .ptr 4 0), (4, .ptr 5 0), (6, bA false)] fun G => b6 (wp_seq (wp_seq (bq2 G (I5 (fc (a := decide (n < 1)) (b := true) (by assumption) (fc (b := true) rfl fz)) (us [(3, 9, 0), (1010, 1010, 0), (12, 14, 1), (1015, 1015, 1), (17, 23, 1), (1024, 1024, 1)])) [0, 1, 3, 7, 15, 31, 7, 71, 199, 511, 1023, 2047, 4095, 8191, 16383, 32767, 65535, 131071, 262143, 131071, 131071, 1179647, 3801087, 8388607, 16777215] [(32, bA true)] fun G => b6 (rT G true (by kernel_rfl) (wp_seq (k8 G d9 [] fun G => b6 (wp_ret (l4 ?_))))))))); exact K2 G (rg 4)
theorem bg2 (vs ars : List Int) (b : List c5) (d : Nat) (hd : d ≤ 5) (ih : ∀ (e : c6) (n : Int), n = d → j8.ok Tryz.prog ⟨252, [.agg [.ref 0, .ref 1, .ref 2], .agg [.v (.int .i64 e.kind), .v (.int .i64 e.value), .ref 3], .v (.int .i64 n)], [.dat (.ints vs), .dat (.ints ars), .dat (.stmts b), .dat (.exprs e.kids)], [.dat (.ints vs), .dat (.ints ars), .dat (.stmts b), .dat (.exprs e.kids)], .v (.bool (f8 vs.length ars.length d e))⟩)
    (e : c6) (n : Int) (hn : n = (d + 1 : Nat)) : j8.ok Tryz.prog ⟨252, [.agg [.ref 0, .ref 1, .ref 2], .agg [.v (.int .i64 e.kind), .v (.int .i64 e.value), .ref 3], .v (.int .i64 n)], [.dat (.ints vs), .dat (.ints ars), .dat (.stmts b), .dat (.exprs e.kids)], [.dat (.ints vs), .dat (.ints ars), .dat (.stmts b), .dat (.exprs e.kids)], .v (.bool (f8 vs.length ars.length (d + 1) e))⟩ := by
  have h100 : decide (n < 1) = false := by simp; omega
  refine E2 60 Tryz.func252 [dI vs, dI ars, dT b, dE e.kids] [(0, pA 0), (1, eA e 3), (2, iA n)] fun G => ?_; refine wp_seq (j7 G d9 [0, 1, 2, 3, 4, 12] [dI vs, dI ars, dT b, dE e.kids, .box (pL 0), .box (eL e 3)] [(2, iA n), (3, .ptr 4 0), (4, .ptr 5 0), (6, bA false)] fun G => b6 (wp_seq (wp_seq ?_))); cases h0 : ((e.kids.length : Int) != s8 e.kind)
  ·
   have q0 := bne_eq_false_iff_eq.1 h0; cases h1 : (decide (e.value < 0))
   ·
    have q1 := dFf h1; refine bq2 G (E9 (t3 8 [] (am9 e.kind) (t3 22 [0, 1, 2] (bs9 vs ars b e.kind) E8)) (fc (a := decide (n < 1)) (b := false) (by assumption) (fc h0 (fc h1 fz))) (us [(3, 9, 0), (1010, 1010, 0), (12, 14, 1), (1015, 1015, 1), (17, 23, 2), (1024, 1024, 2)])) [0, 1, 3, 7, 15, 31, 7, 71, 199, 511, 1023, 2047, 4095, 8191, 16383, 32767, 65535, 131071, 262143, 131071, 131071, 1179647, 3801087, 8388607, 16777215] [(32, bA (decide (e.value ≥ V0 vs.length ars.length e.kind)))] fun G => b6 (Z6 G (fun h2 q2 => ?_) fun h2 q2 => ?_)
    ·
     refine wp_skip (b6 (wp_seq (wp_seq (C6 G d9 [(2, iA n), (3, .ptr 4 0), (4, .ptr 5 0), (6, bA false), (7, iA 0)] fun G => b6 (wp_block ?_))))); refine s6 (κ := Nat) (fun k => k ≤ e.kids.length ∧ (e.kids.take k).all (f8 vs.length ars.length d) = true) (fun k => e.kids.length - k) (fun k => [dI vs, dI ars, dT b, dE e.kids, .box (pL 0), .box (eL e 3)]) (fun k => [(2, iA n), (3, .ptr 4 0), (4, .ptr 5 0), (6, bA false), (7, iA k)]) 0 (by simp [h100, h0, h1, h2]) (t4.at G _ _) ?_; clear G; intro k ρ a w hp G; have hlen : e.kids.length ≤ 9223372036854775807 := G.len 3 (d := .exprs e.kids) (by kernel_rfl); have hnode := bb2 (nv := vs.length) (na := ars.length) q0 q1 q2; refine wp_seq (wp_seq (C6 G d9 [(2, iA n), (3, .ptr 4 0), (4, .ptr 5 0), (6, bA false), (7, iA k), (37, bA (decide ((k : Int) < e.kids.length)))] fun G => b6 (Z6 G (fun h3 q3 => ?_) fun h3 q3 => ?_)))
     ·
      refine wp_exit (r7 (r7 (p6 (b6 (wp_seq ?_))))); cases h4 : (e.kind != 3)
      · have q4 := bne_eq_false_iff_eq.1 h4; refine N0 G (E9 (t3 8 [62] (aM3 (e.kids.getD 0 cg8)) E8) (fc h4 fz) (us [(4, 8, 0), (1009, 1009, 0)])) (rg 4) [dI vs, dI ars, dT b, dE e.kids] [(6, bA (atomB (e.kids.getD 0 cg8)))] (iX 0 0 e.kids.length []) (iK (by have := aS4 q0 (by omega); omega) ci3) fun G => b6 (wp_ret ?_); exact J0 (atomB (e.kids.getD 0 cg8)) G (rg 4) (bI6 hnode (aN0 hp.2 (by omega)) (by omega) (aS4 q0 (by omega)))
      · have q4 := bne_iff_ne.1 h4; refine j7 G (I5 (fc h4 fz) (us [(4, 8, 0), (1009, 1009, 0)])) (rg 4) [dI vs, dI ars, dT b, dE e.kids] [(6, bA true)] fun G => b6 (wp_ret ?_); exact J0 true G (rg 4) (bI7 hnode (aN0 hp.2 (by omega)) (by omega))
     ·
      refine wp_skip (b6 (wp_seq (wp_block (wp_seq (ac9 G (s7 8 [0, 1, 2, 46] (ih (e.kids.getD k cg8) (n - 1) (by omega))) [0, 0, 2, 0, 14, 30, 0, 64, 255, 511] [(49, .v (.bool !f8 vs.length ars.length d (e.kids.getD k cg8)))] (iX k k e.kids.length ((wO (n - 1)) :: [])) (iK (by omega) (o1 (by omega))) fun G => b6 ?_))))); cases h5 : (!f8 vs.length ars.length d (e.kids.getD k cg8))
      · have q5 : (f8 vs.length ars.length d (e.kids.getD k cg8)) = true := (Eq.mp (cj6 _) h5); refine rF G _ h5 (wp_skip (k6 (b6 (D0 G d9 [(7, iA ((k : Int) + 1))] [wO ((k : Int) + 1)] (o1 (by omega)) fun G => b6 ?_)))); exact H9 G (k + 1) (⟨by omega, a91 hp.2 (by omega) (by assumption)⟩) (by omega) (rg 6)
      · have q5 : (f8 vs.length ars.length d (e.kids.getD k cg8)) = false := (Eq.mp (ci9 _) h5); refine rT G _ h5 (wp_seq (k8 G d9 [] fun G => b6 (wp_ret (z3 (l4 (l4 (z3 (l4 ?_)))))))); exact J0 false G (rg 4) (bI8 (k := k) (by omega) (by assumption))
    · refine wp_seq (k8 G d9 [] fun G => b6 (wp_ret (l4 ?_))); exact J0 false G (rg 4) (bI9 (by omega))
   · have q1 := dTt h1; refine bq2 G (E9 (t3 8 [] (am9 e.kind) E8) (fc (a := decide (n < 1)) (b := false) (by assumption) (fc h0 (fc h1 fz))) (us [(3, 9, 0), (1010, 1010, 0), (12, 14, 1), (1015, 1015, 1), (17, 23, 2), (1024, 1024, 2)])) [0, 1, 3, 7, 15, 31, 7, 71, 199, 511, 1023, 2047, 4095, 8191, 16383, 32767, 65535, 131071, 262143, 131071, 131071, 1179647, 3801087, 8388607, 16777215] [(32, bA true)] fun G => b6 (rT G true (by kernel_rfl) (wp_seq (k8 G d9 [] fun G => b6 (wp_ret (l4 ?_))))); exact J0 false G (rg 4) (bJ0 (by omega))
  · have q0 := bne_iff_ne.1 h0; refine bq2 G (E9 (t3 8 [] (am9 e.kind) E8) (fc (a := decide (n < 1)) (b := false) (by assumption) (fc h0 (fc (b := true) rfl fz))) (us [(3, 9, 0), (1010, 1010, 0), (12, 14, 1), (1015, 1015, 1), (17, 23, 2), (1024, 1024, 2)])) [0, 1, 3, 7, 15, 31, 7, 71, 199, 511, 1023, 2047, 4095, 8191, 16383, 32767, 65535, 131071, 262143, 131071, 131071, 1179647, 3801087, 8388607, 16777215] [(32, bA true)] fun G => b6 (rT G true (by kernel_rfl) (wp_seq (k8 G d9 [] fun G => b6 (wp_ret (l4 ?_))))); exact J0 false G (rg 4) (bJ1 (by omega))
theorem a43 (vs ars : List Int) (b : List c5) : ∀ (d : Nat), d ≤ 5 → ∀ (e : c6) (n : Int), n = d → j8.ok Tryz.prog ⟨252, [.agg [.ref 0, .ref 1, .ref 2], .agg [.v (.int .i64 e.kind), .v (.int .i64 e.value), .ref 3], .v (.int .i64 n)], [.dat (.ints vs), .dat (.ints ars), .dat (.stmts b), .dat (.exprs e.kids)], [.dat (.ints vs), .dat (.ints ars), .dat (.stmts b), .dat (.exprs e.kids)], .v (.bool (f8 vs.length ars.length d e))⟩
 | 0, _, e, n, hn => bg3 vs ars b e n (by omega)
 | d + 1, hd, e, n, hn => bg2 vs ars b d (by omega) (a43 vs ars b d (by omega)) e n hn
theorem aM2 (vs ars : List Int) (b : List c5) (ky vy : Int) (ks : List c6) (n : Int) (hn : n = 5) : j8.ok Tryz.prog (V8 252 [pA 0, .agg [iA ky, iA vy, .ref 3], iA n] [dI vs, dI ars, dT b, dE ks] (bA (f8 vs.length ars.length 5 ⟨ky, vy, ks⟩))) := a43 vs ars b 5 (by omega) ⟨ky, vy, ks⟩ n hn
def cnP (d : Nat) (ks : List c6) (k : Nat) : Nat := 1 + ((ks.take k).map (ah4 d)).sum
theorem b91 (d : Nat) (ks : List c6) : cnP d ks 0 = 1 := rfl
theorem a72 {d : Nat} {ks : List c6} {k : Nat} (hk : k < ks.length) : cnP d ks (k + 1) = cnP d ks k + ah4 d (ks.getD k cg8) := by
 unfold cnP
 rw [G5 ks k hk, List.map_append, List.sum_append, m0 hk]
 simp; omega
theorem bN8 {d : Nat} {e : c6} {k : Nat} (hk : e.kids.length ≤ k) : cnP d e.kids k = ah4 (d + 1) e := by
 unfold cnP; rw [ci6 hk, ah4]
section
variable {nv na d : Nat} {e : c6}
theorem be9 (he : f8 nv na (d + 1) e = true) {k : Nat} (hk : k < e.kids.length) : f8 nv na d (e.kids.getD k cg8) = true := by
 rw [m0 hk]; exact (aq5 he).2 _ (cj2 hk)
theorem b90 (hd : d ≤ 5) (he : f8 nv na d e = true) : ah4 d e ≤ 1024 := by
 rw [a71 nv na d e he]
 refine cj5 (bw7 nv na d e he) ?_
 exact cj5 (Nat.pow_le_pow_right (by decide) hd) (by decide)
theorem bS0 (hd : d ≤ 4) (he : f8 nv na (d + 1) e = true) : ∀ k : Nat, k ≤ e.kids.length → cnP d e.kids k ≤ 1 + 1024 * k
 | 0, _ => by rw [b91]; omega
 | k + 1, hk => by
  have h := bS0 hd he k (by omega)
  have h2 := b90 (by omega) (be9 he (show k < e.kids.length by omega))
  rw [a72 (by omega)]
  omega
end
abbrev cnC (d : Nat) (e : c6) (n : Int) : j8 := V8 253 [eA e 0, iA n] (eS e) (iA (ah4 d e : Nat))
theorem bp6 (nv na d : Nat) (hd : d ≤ 4) (ih : ∀ (e : c6), f8 nv na d e = true → ∀ n : Int, n = d → j8.ok Tryz.prog (cnC d e n)) (e : c6) (he : f8 nv na (d + 1) e = true) (n : Int) (hn : n = (d + 1 : Nat)) : j8.ok Tryz.prog (cnC (d + 1) e n) := by
  have hk3 := (aq5 he).1; refine E2 29 Tryz.func253 [dE e.kids] [(0, eA e 0), (1, iA n)] fun G => ?_; refine wp_seq (j7 G d9 [0, 1] [dE e.kids, .box (eL e 0)] [(1, iA n), (2, .ptr 1 0), (4, iA 0)] fun G => b6 (wp_seq (k8 G d9 [(5, iA 1)] fun G => b6 (wp_seq (wp_seq (C6 G d9 [(1, iA n), (2, .ptr 1 0), (4, iA 0), (5, iA 1), (6, iA 0)] fun G => b6 (wp_block ?_))))))); refine s6 (κ := Nat) (fun k => k ≤ e.kids.length) (fun k => e.kids.length - k) (fun k => [dE e.kids, .box (eL e 0)]) (fun k => [(1, iA n), (2, .ptr 1 0), (4, iA 0), (5, iA (cnP d e.kids k : Nat)), (6, iA k)]) 0 (by omega) (t4.at G _ _) ?_; clear G; intro k ρ a w hp G; replace G := t4.at G [dE e.kids, .box (eL e 0)] [(1, iA n), (2, .ptr 1 0), (4, iA 0), (5, iA (↑(cnP d e.kids k) : Int)), (6, iA k)]; have hcb := bS0 hd he k hp; refine wp_seq (wp_seq ?_); cases h0 : (decide ((k : Int) < e.kids.length))
  · have q0 := dFf h0; refine k8 G (I5 (fc h0 fz) [(6, 0), (7, 0), (1008, 0)]) [(15, bA false)] fun G => b6 (rF G false (by kernel_rfl) (wp_exit (r7 (r7 (p6 (b6 (wp_seq (j7 G d9 [0] [dE e.kids] [(4, iA (↑(cnP d e.kids k) : Int))] fun G => b6 (wp_ret ?_))))))))); exact rxI ((↑(cnP d e.kids k) : Int)) G [0] (by rw [← bN8 (k := k) (by omega)]; done)
  ·
   have q0 := dTt h0; refine C6 G (I5 (fc h0 fz) [(6, 0), (7, 0), (1008, 0)]) [(1, iA n), (2, .ptr 1 0), (4, iA 0), (5, iA (↑(cnP d e.kids k) : Int)), (6, iA k), (15, bA (decide (n > 0)))] fun G => b6 ?_; cases h1 : (decide (n > 0))
   · have q1 := dFf h1; exact False.elim (by omega)
   · have q1 := dTt h1; refine rT G _ h1 (wp_skip (b6 (wp_seq (wp_block (D0 G (s7 8 [42] (ih (e.kids.getD k cg8) (be9 he (by omega)) (n - 1) (by omega))) [(5, iA ((↑(cnP d e.kids k) : Int) + (↑(ah4 d (e.kids.getD k cg8)) : Int)))] (iX k k e.kids.length ((wO (n - 1)) :: ((wO ((↑(cnP d e.kids k) : Int) + (↑(ah4 d (e.kids.getD k cg8)) : Int))) :: []))) (iK (by omega) ⟨oW (by omega), ⟨(by have h9 := b90 (nv := nv) (na := na) (d := d) (by omega) (be9 he (show k < e.kids.length by omega)); exact w64 (by omega) (by omega)), ci3⟩⟩) fun G => k6 (b6 (D0 G d9 [(6, iA ((k : Int) + 1))] [wO ((k : Int) + 1)] (o1 (by omega)) fun G => b6 ?_))))))); exact H9 G (k + 1) (by omega) (by omega) [0, 1] (ht := by have e1 : ((↑(cnP d e.kids (k + 1)) : Int) : Int) = ((↑(cnP d e.kids k) : Int) + (↑(ah4 d (e.kids.getD k cg8)) : Int)) := (by rw [a72 (by omega)]; omega); (first | rw [e1] | simp only [e1]) <;> rfl)
theorem a44 (nv na : Nat) : ∀ (d : Nat), d ≤ 5 → ∀ (e : c6), f8 nv na d e = true → ∀ n : Int, n = d → j8.ok Tryz.prog (cnC d e n)
 | 0, _, e, h, _, _ => by simp [f8] at h
 | d + 1, hd, e, h, n, hn => bp6 nv na d (by omega) (a44 nv na d (by omega)) e h n hn
theorem bg5 (nv na : Nat) (ky vy : Int) (ks : List c6) (n : Int) (hn : n = 5) (h : f8 nv na 5 ⟨ky, vy, ks⟩ = true) : j8.ok Tryz.prog (V8 253 [.agg [iA ky, iA vy, .ref 0], iA n] [dE ks] (iA (ah4 5 ⟨ky, vy, ks⟩ : Nat))) := a44 nv na 5 (by omega) ⟨ky, vy, ks⟩ h n hn
theorem cc4 {nv na : Nat} {e : c6} (h : f8 nv na 5 ⟨e.kind, e.value, e.kids⟩ = false) : r9 nv na e = false := by
 rw [c6.eta] at h
 unfold r9; rw [h]; rfl
theorem cc3 {nv na : Nat} {e : c6} (h : f8 nv na 5 ⟨e.kind, e.value, e.kids⟩ = true) : r9 nv na e = decide ((ah4 5 ⟨e.kind, e.value, e.kids⟩ : Int) ≤ 15) := by
 rw [c6.eta] at h ⊢
 rw [bb8, h, Bool.true_and, ck4]
 simp only [decide_eq_true_eq]; omega
section
variable {s : c5}
theorem cd1 (h : s.kind = 4) (h2 : ¬ (s.els.length : Int) = 0) : n6 s = false := by
 unfold n6; rw [if_pos (.inr h), if_pos h, decide_eq_false (p := s.els.length = 0) (by omega)]; simp
theorem cd4 (h : s.kind = 4) (h1 : s.target = 0) (h2 : (s.els.length : Int) = 0) (h3 : s.count ≥ 1) (h4 : s.count ≤ 3) (h5 : noneB s.index = true) : n6 s = noneB s.value := by
 unfold n6; rw [if_pos (.inr h), if_pos h, decide_eq_true (p := s.els.length = 0) (by omega), decide_eq_true h1, decide_eq_true (p := 1 ≤ s.count) h3, decide_eq_true h4, h5]; simp
theorem cd3 (h3 : ¬ s.kind = 3) (h4 : ¬ s.kind = 4) (b : ¬ (s.body.length : Int) > 0) (e : ¬ (s.els.length : Int) > 0) (c : s.count = 0) (h2 : ¬ s.kind = 2) : n6 s = noneB s.index := by
 unfold n6; rw [if_neg (by omega), decide_eq_true (p := s.body.length = 0) (by omega), decide_eq_true (p := s.els.length = 0) (by omega), decide_eq_true c, decide_eq_false h2]; simp
theorem cd2 (b : ¬ (s.body.length : Int) > 0) (e : ¬ (s.els.length : Int) > 0) (c : s.count = 0) (h2 : s.kind = 2) : n6 s = true := by
 unfold n6; rw [if_neg (by omega), decide_eq_true (p := s.body.length = 0) (by omega), decide_eq_true (p := s.els.length = 0) (by omega), decide_eq_true c, decide_eq_true h2]; simp
theorem cd0 (h3 : ¬ s.kind = 3) (h4 : ¬ s.kind = 4) (e : (s.els.length : Int) > 0) : n6 s = false := by
 unfold n6; rw [if_neg (by omega), decide_eq_false (p := s.els.length = 0) (by omega)]; simp
theorem cc9 (h3 : ¬ s.kind = 3) (h4 : ¬ s.kind = 4) (e : (s.body.length : Int) > 0) : n6 s = false := by
 unfold n6; rw [if_neg (by omega), decide_eq_false (p := s.body.length = 0) (by omega)]; simp
end
theorem I7 (p : i5) (e : c6) : j8.ok Tryz.prog (V8 233 [pA 0, eA e 3] (pS p ++ eS e) (bA (r9 p.vars.length p.arrays.length e))) := by
 have hcn := fun h => bg5 p.vars.length p.arrays.length e.kind e.value e.kids 5 rfl h
 refine E2 13 Tryz.func233 [dI p.vars, dI p.arrays, dT p.body, dE e.kids] [(0, pA 0), (1, eA e 3)] fun G => ?_; refine wp_seq (j7 G d9 [0, 1, 2, 3, 4, 12] [dI p.vars, dI p.arrays, dT p.body, dE e.kids, .box (pL 0), .box (eL e 3)] [(2, .ptr 4 0), (3, .ptr 5 0), (4, bA false)] fun G => b6 (wp_seq ?_)); cases h0 : (f8 p.vars.length p.arrays.length (5 : Nat) (v9 e))
 ·refine j7 G (E9 (t3 2 (rg 4) (aM2 p.vars p.arrays p.body e.kind e.value e.kids 5 (by kernel_rfl)) E8) (fc h0 fz) [(4, 0), (5, 0), (6, 0), (1007, 0)]) (rg 4) [dI p.vars, dI p.arrays, dT p.body, dE e.kids] [(4, bA false)] fun G => b6 (wp_ret ?_); exact J0 false G (rg 4) (cc4 (by with_reducible assumption))
 ·refine j7 G (E9 (t3 2 (rg 4) (aM2 p.vars p.arrays p.body e.kind e.value e.kids 5 (by kernel_rfl)) (t3 5 [3] (hcn (by assumption)) E8)) (fc h0 fz) [(4, 0), (5, 0), (6, 0), (1007, 0)]) (rg 4) [dI p.vars, dI p.arrays, dT p.body, dE e.kids] [(4, bA (decide ((↑(ah4 5 (v9 e)) : Int) ≤ 15)))] fun G => b6 (wp_ret ?_); exact J0 (decide ((↑(ah4 5 (v9 e)) : Int) ≤ 15)) G (rg 4) (cc3 (by with_reducible assumption))
abbrev aD7 (s : c5) (r0 : List It) : List It := dE s.index.kids :: dE s.value.kids :: dT s.body :: dT s.els :: r0
theorem bs8 (s : c5) : j8.ok Tryz.prog (V8 232 [sA s 0] (sS s) (bA (n6 s))) := by
  refine E2 74 Tryz.func232 (aD7 s []) [(0, sA s 0)] fun G => ?_; refine wp_seq (j7 G d9 (rg 5) (aD7 s [.box (sL s 0)]) [(1, .ptr 4 0), (2, bA false)] fun G => b6 (wp_seq ?_)); cases h0 : (s.kind == 3)
  ·
   have q0 := ne_of_beq_false h0; refine C6 G (I5 (fc h0 fz) [(4, 0), (5, 0), (6, 0), (1007, 0)]) [(1, .ptr 4 0), (2, bA false), (3, bA (s.kind == 4))] fun G => b6 (wp_seq (wp_seq ?_)); cases h1 : (!s.kind == 4)
   ·
    have q1 : s.kind = 4 := (fun hq => eq_of_beq hq) (Eq.mp (cj6 _) h1); cases h2 : (s.kind == 4)
    · have q2 := ne_of_beq_false h2; exact False.elim (by omega)
    ·
     have q2 := eq_of_beq h2; refine k8 G (I5 (fc h1 (fc (b := false) rfl (fc h2 fz))) (us [(3, 7, 0), (12, 12, 0), (1013, 1013, 0), (15, 16, 1), (17, 19, 2), (20, 20, 1), (1020, 1020, 2), (1021, 1021, 1)])) [(33, bA (s.target != 0))] fun G => b6 (rcN G (fun h3 q3 => ?_) fun h3 q3 => ?_)
     ·
      refine wp_skip (b6 (wp_seq (wp_seq (k8 G d9 [(36, bA (s.kind == 4))] fun G => b6 (rT G _ h2 (wp_seq ?_)))))); cases h4 : ((s.els.length : Int) == 0)
      · have q4 := ne_of_beq_false h4; refine k8 G (I5 (fc h4 (fc (b := false) rfl fz)) (us [(5, 7, 0), (1008, 1008, 0), (10, 12, 1), (1013, 1013, 1), (15, 17, 1), (1018, 1018, 1), (20, 22, 1), (1023, 1023, 1)])) [] fun G => b6 (wp_ret (l4 ?_)); exact J0 false G (rg 4) (cd1 (by omega) (by omega))
      ·
       have q4 := eq_of_beq h4; cases h5 : (decide (s.count ≥ 1))
       · have q5 := dFf h5; refine k8 G (I5 (fc h4 (fc h5 (fc (b := false) rfl fz))) (us [(5, 7, 0), (1008, 1008, 0), (10, 12, 1), (1013, 1013, 1), (15, 17, 2), (1018, 1018, 2), (20, 22, 2), (1023, 1023, 2)])) [] fun G => b6 (wp_ret (l4 ?_)); exact J0 false G (rg 4) (by rw [ck4]; simp [n6, h0, q0, h1, q1, h2, q2, h3, q3, h4, q4, h5, q5]; done)
       ·
        have q5 := dTt h5; cases h6 : (decide (s.count ≤ 3))
        · have q6 := dFf h6; refine k8 G (I5 (fc h4 (fc h5 (fc h6 (fc (b := false) rfl fz)))) (us [(5, 7, 0), (1008, 1008, 0), (10, 12, 1), (1013, 1013, 1), (15, 17, 2), (1018, 1018, 2), (20, 22, 3), (1023, 1023, 3)])) [] fun G => b6 (wp_ret (l4 ?_)); exact J0 false G (rg 4) (by rw [ck4]; simp [n6, h0, q0, h1, q1, h2, q2, h3, q3, h4, q4, h5, q5, h6, q6]; done)
        ·
         have q6 := dTt h6; cases h7 : (noneB s.index)
         · refine k8 G (E9 (t3 17 [0] (ak5 s.index) E8) (fc h4 (fc h5 (fc h6 (fc h7 fz)))) (us [(5, 7, 0), (1008, 1008, 0), (10, 12, 1), (1013, 1013, 1), (15, 17, 2), (1018, 1018, 2), (20, 22, 3), (1023, 1023, 3)])) [] fun G => b6 (wp_ret (l4 ?_)); exact J0 false G (rg 4) (by rw [ck4]; simp [n6, h0, q0, h1, q1, h2, q2, h3, q3, h4, q4, h5, q5, h6, q6, h7]; done)
         · refine k8 G (E9 (t3 17 [0] (ak5 s.index) (t3 22 [1] (ak5 s.value) E8)) (fc h4 (fc h5 (fc h6 (fc h7 fz)))) (us [(5, 7, 0), (1008, 1008, 0), (10, 12, 1), (1013, 1013, 1), (15, 17, 2), (1018, 1018, 2), (20, 22, 3), (1023, 1023, 3)])) [(2, bA (noneB s.value))] fun G => b6 (wp_ret (l4 ?_)); exact J0 (noneB s.value) G (rg 4) (cd4 (by omega) (by omega) (by omega) (by omega) (by omega) (by with_reducible assumption))
     · refine wp_seq (k8 G d9 [] fun G => b6 (wp_ret (l4 ?_))); exact J0 false G (rg 4) (by rw [ck4]; simp [n6, h0, q0, h1, q1, h2, q2, h3, q3]; done)
   ·
    have q1 : ¬ (s.kind = 4) := (fun hq => ne_of_beq_false hq) (Eq.mp (ci9 _) h1); cases h8 : (decide ((s.body.length : Int) > 0))
    ·
     have q8 := dFf h8; cases h9 : (decide ((s.els.length : Int) > 0))
     ·
      have q9 := dFf h9; cases h10 : (s.kind == 4)
      ·
       have q10 := ne_of_beq_false h10; refine k8 G (I5 (fc h1 (fc h8 (fc h9 (fc h10 fz)))) (us [(3, 7, 0), (8, 11, 1), (12, 12, 0), (1012, 1012, 1), (1013, 1013, 0), (15, 16, 2), (17, 19, 3), (20, 20, 2), (1020, 1020, 3), (1021, 1021, 2)])) [(33, bA false)] fun G => b6 (rF G false (by kernel_rfl) (wp_skip (b6 (wp_seq (wp_seq (k8 G d9 [(36, bA (s.kind == 4))] fun G => b6 (rF G _ h10 (wp_skip (b6 (wp_seq ?_)))))))))); cases h11 : (s.count == 0)
       · have q11 := ne_of_beq_false h11; refine j7 G (I5 (fc h11 fz) (us [(4, 7, 0), (11, 11, 0), (1012, 1012, 0)])) (rg 4) (aD7 s []) [(2, bA false)] fun G => b6 (wp_ret ?_); exact J0 false G (rg 4) (by rw [ck4]; simp [n6, h0, q0, h1, q1, h8, q8, h9, q9, h10, q10, h11, q11]; done)
       ·
        have q11 := eq_of_beq h11; cases h12 : (s.kind == 2)
        · have q12 := ne_of_beq_false h12; refine j7 G (E9 (t3 10 [0] (ak5 s.index) E8) (fc h11 (fc h12 fz)) (us [(4, 7, 0), (8, 10, 1), (11, 11, 0), (1011, 1011, 1), (1012, 1012, 0)])) (rg 4) (aD7 s []) [(2, bA (noneB s.index))] fun G => b6 (wp_ret ?_); exact J0 (noneB s.index) G (rg 4) (cd3 (by omega) (by omega) (by omega) (by omega) (by omega) (by omega))
        · have q12 := eq_of_beq h12; refine j7 G (I5 (fc h11 (fc h12 fz)) (us [(4, 7, 0), (8, 10, 1), (11, 11, 0), (1011, 1011, 1), (1012, 1012, 0)])) (rg 4) (aD7 s []) [(2, bA true)] fun G => b6 (wp_ret ?_); exact J0 true G (rg 4) (cd2 (by omega) (by omega) (by omega) (by omega))
      · have q10 := eq_of_beq h10; exact False.elim (by omega)
     · have q9 := dTt h9; refine k8 G (I5 (fc h1 (fc h8 (fc h9 fz))) (us [(3, 7, 0), (8, 11, 1), (12, 12, 0), (1012, 1012, 1), (1013, 1013, 0), (15, 16, 2), (20, 20, 2), (1021, 1021, 2)])) [(33, bA true)] fun G => b6 (rT G true (by kernel_rfl) (wp_seq (k8 G d9 [] fun G => b6 (wp_ret (l4 ?_))))); exact J0 false G (rg 4) (cd0 (by omega) (by omega) (by omega))
    · have q8 := dTt h8; refine k8 G (I5 (fc h1 (fc h8 (fc (b := true) rfl fz))) (us [(3, 7, 0), (8, 11, 1), (12, 12, 0), (1012, 1012, 1), (1013, 1013, 0), (15, 16, 2), (20, 20, 2), (1021, 1021, 2)])) [(33, bA true)] fun G => b6 (rT G true (by kernel_rfl) (wp_seq (k8 G d9 [] fun G => b6 (wp_ret (l4 ?_))))); exact J0 false G (rg 4) (cc9 (by omega) (by omega) (by omega))
  ·
   have q0 := eq_of_beq h0; refine k8 G (I5 (fc h0 fz) [(4, 0), (5, 0), (6, 0), (1007, 0)]) [(3, bA true)] fun G => b6 (wp_seq (wp_seq (k8 G (I5 (fc (b := false) rfl (fc (b := true) rfl fz)) (us [(3, 7, 0), (12, 12, 0), (1013, 1013, 0), (15, 16, 0), (17, 19, 1), (20, 20, 0), (1020, 1020, 1), (1021, 1021, 0)])) [(33, bA (s.target != 0))] fun G => b6 (rcN G (fun h13 q13 => ?_) fun h13 q13 => ?_))))
   ·
    refine wp_skip (b6 (wp_seq (wp_seq (C6 G d9 [(1, .ptr 4 0), (2, bA false), (36, bA (s.kind == 4))] fun G => b6 ?_)))); cases h14 : (s.kind == 4)
    ·
     have q14 := ne_of_beq_false h14; refine rF G _ h14 (wp_skip (b6 (wp_seq ?_))); cases h15 : (s.count == 0)
     · have q15 := ne_of_beq_false h15; refine j7 G (I5 (fc h15 fz) (us [(4, 7, 0), (11, 11, 0), (1012, 1012, 0)])) (rg 4) (aD7 s []) [(2, bA false)] fun G => b6 (wp_ret ?_); exact J0 false G (rg 4) (by rw [ck4]; simp [n6, h0, q0, h13, q13, h14, q14, h15, q15]; done)
     ·
      have q15 := eq_of_beq h15; cases h16 : (s.kind == 2)
      · have q16 := ne_of_beq_false h16; refine j7 G (E9 (t3 10 [0] (ak5 s.index) E8) (fc h15 (fc h16 fz)) (us [(4, 7, 0), (8, 10, 1), (11, 11, 0), (1011, 1011, 1), (1012, 1012, 0)])) (rg 4) (aD7 s []) [(2, bA (noneB s.index))] fun G => b6 (wp_ret ?_); exact J0 (noneB s.index) G (rg 4) (by rw [ck4]; simp [n6, h0, q0, h13, q13, h14, q14, h15, q15, h16, q16]; done)
      · have q16 := eq_of_beq h16; exact False.elim (by omega)
    · have q14 := eq_of_beq h14; exact False.elim (by omega)
   · refine wp_seq (k8 G d9 [] fun G => b6 (wp_ret (l4 ?_))); exact J0 false G (rg 4) (by rw [ck4]; simp [n6, h0, q0, h13, q13]; done)
abbrev vbC (p : i5) (d : Nat) (ss : List c5) (n : Int) : j8 := V8 130 [pA 0, .ref 3, iA n] (pS p ++ [dT ss]) (bA (ss.all (j6 p.vars.length p.arrays.length d)))
abbrev vsC (p : i5) (d : Nat) (s : c5) (n : Int) : j8 := V8 193 [pA 0, sA s 3, iA n] (pS p ++ sS s) (bA (j6 p.vars.length p.arrays.length d s))
theorem bp5 (p : i5) (s : c5) (n : Int) (hn : n = 0) : j8.ok Tryz.prog (vsC p 0 s n) := by
 refine E2 96 Tryz.func193 [dI p.vars, dI p.arrays, dT p.body, dE s.index.kids, dE s.value.kids, dT s.body, dT s.els] [(0, pA 0), (1, sA s 3), (2, iA n)] fun G => ?_; refine wp_seq (j7 G d9 [0, 1, 2, 3, 4, 5, 6, 7, 15] [dI p.vars, dI p.arrays, dT p.body, dE s.index.kids, dE s.value.kids, dT s.body, dT s.els, .box (pL 0), .box (sL s 3)] [(2, iA n), (3, .ptr 7 0), (4, .ptr 8 0), (6, bA false)] fun G => b6 (wp_seq (wp_seq ?_))); cases h0 : (decide (n < 1))
 ·have q0 := dFf h0; exact False.elim (by omega)
 ·have q0 := dTt h0; refine k8 G (I5 (fc h0 fz) [(3, 0), (4, 0), (5, 0), (1006, 0)]) [(13, bA true)] fun G => b6 (rT G true (by kernel_rfl) (wp_seq (k8 G d9 [] fun G => b6 (wp_ret (l4 ?_))))); exact K2 G (rg 7)
section
variable {nv na d : Nat} {s : c5}
theorem cb9 (h : n6 s = false) : j6 nv na (d + 1) s = false := by rw [j6, h]; rfl
theorem bT4 (hp : n6 s = true) (h : s.kind = 1 ∨ s.kind = 5) : j6 nv na (d + 1) s = (decide (0 ≤ s.target) && decide (s.target < nv) && r9 nv na s.value) := by rw [j6, hp, if_pos h]; rfl
theorem bw4 (hp : n6 s = true) (h : s.kind = 2) : j6 nv na (d + 1) s = (decide (0 ≤ s.target) && decide (s.target < na) && r9 nv na s.index && atomB s.index && r9 nv na s.value) := by rw [j6, hp, if_neg (by omega), if_pos h]; rfl
theorem bT3 (hp : n6 s = true) (h : s.kind = 3) : j6 nv na (d + 1) s = (r9 nv na s.value && s.body.all (j6 nv na d) && s.els.all (j6 nv na d)) := by rw [j6, hp, if_neg (by omega), if_neg (by omega), if_pos h]; rfl
theorem cc0 (hp : n6 s = true) (h : s.kind = 4) : j6 nv na (d + 1) s = s.body.all (j6 nv na d) := by rw [j6, hp, if_neg (by omega), if_neg (by omega), if_neg (by omega), if_pos h]; rfl
theorem bQ4 (hp : n6 s = true) (h : s.kind = 1 ∨ s.kind = 5) (q : ¬ s.target ≥ 0) : j6 nv na (d + 1) s = false := by rw [bT4 hp h, decide_eq_false (p := 0 ≤ s.target) q]; rfl
theorem bQ3 (hp : n6 s = true) (h : s.kind = 1 ∨ s.kind = 5) (q : ¬ s.target < (nv : Int)) : j6 nv na (d + 1) s = false := by rw [bT4 hp h, decide_eq_false q, Bool.and_false]; rfl
theorem bQ2 (hp : n6 s = true) (h : s.kind = 1 ∨ s.kind = 5) (q : s.target ≥ 0) (r : s.target < (nv : Int)) : j6 nv na (d + 1) s = r9 nv na s.value := by rw [bT4 hp h, decide_eq_true (p := 0 ≤ s.target) q, decide_eq_true r]; rfl
theorem b36 (hp : n6 s = true) (h : s.kind = 2) (q : ¬ s.target ≥ 0) : j6 nv na (d + 1) s = false := by rw [bw4 hp h, decide_eq_false (p := 0 ≤ s.target) q]; rfl
theorem b35 (hp : n6 s = true) (h : s.kind = 2) (q : ¬ s.target < (na : Int)) : j6 nv na (d + 1) s = false := by rw [bw4 hp h, decide_eq_false q, Bool.and_false]; rfl
theorem b34 (hp : n6 s = true) (h : s.kind = 2) (q : r9 nv na s.index = false) : j6 nv na (d + 1) s = false := by rw [bw4 hp h, q, Bool.and_false]; rfl
theorem b33 (hp : n6 s = true) (h : s.kind = 2) (q : atomB s.index = false) : j6 nv na (d + 1) s = false := by rw [bw4 hp h, q, Bool.and_false]; rfl
theorem b32 (hp : n6 s = true) (h : s.kind = 2) (q : s.target ≥ 0) (r : s.target < (na : Int)) (u : r9 nv na s.index = true) (v : atomB s.index = true) : j6 nv na (d + 1) s = r9 nv na s.value := by rw [bw4 hp h, decide_eq_true (p := 0 ≤ s.target) q, decide_eq_true r, u, v]; rfl
theorem b31 (hp : n6 s = true) (h : s.kind = 3) (q : r9 nv na s.value = false) : j6 nv na (d + 1) s = false := by rw [bT3 hp h, q]; rfl
theorem b30 (hp : n6 s = true) (h : s.kind = 3) (q : s.body.all (j6 nv na d) = false) : j6 nv na (d + 1) s = false := by rw [bT3 hp h, q, Bool.and_false]; rfl
theorem b29 (hp : n6 s = true) (h : s.kind = 3) (q : r9 nv na s.value = true) (r : s.body.all (j6 nv na d) = true) : j6 nv na (d + 1) s = s.els.all (j6 nv na d) := by rw [bT3 hp h, q, r]; rfl
theorem cc1 (h1 : ¬ s.kind = 1) (h2 : ¬ s.kind = 2) (h3 : ¬ s.kind = 3) (h4 : ¬ s.kind = 4) (h5 : ¬ s.kind = 5) : j6 nv na (d + 1) s = false := by rw [j6, if_neg (by omega), if_neg h2, if_neg h3, if_neg h4]; simp
end
abbrev R4 (p : i5) (s : c5) (r0 : List It) : List It := dI p.vars :: dI p.arrays :: dT p.body :: dE s.index.kids :: dE s.value.kids :: dT s.body :: dT s.els :: r0
theorem bx2 (p : i5) (d : Nat) (hB : ∀ (ss : List c5) (n : Int), n = d → j8.ok Tryz.prog (vbC p d ss n)) (s : c5) (n : Int) (hn : n = (d + 1 : Nat)) (hd : d ≤ 5) : j8.ok Tryz.prog (vsC p (d + 1) s n) := by
  refine E2 96 Tryz.func193 (R4 p s []) [(0, pA 0), (1, sA s 3), (2, iA n)] fun G => ?_; refine wp_seq (j7 G d9 [0, 1, 2, 3, 4, 5, 6, 7, 15] (R4 p s [.box (pL 0), .box (sL s 3)]) [(2, iA n), (3, .ptr 7 0), (4, .ptr 8 0), (6, bA false)] fun G => b6 (wp_seq (wp_seq ?_))); cases h0 : (decide (n < 1))
  ·
   have q0 := dFf h0; refine k8 G (E9 (t3 4 [3, 4, 5, 6] (bs8 s) E8) (fc h0 fz) [(3, 0), (4, 0), (5, 0), (1006, 0)]) [(13, .v (.bool !n6 s))] fun G => b6 ?_; cases h1 : (!n6 s)
   ·
    have q1 : (n6 s) = true := (Eq.mp (cj6 _) h1); refine rF G _ h1 (wp_skip (b6 (wp_seq (wp_seq (k8 G d9 [(15, iA s.kind)] fun G => b6 (wp_block (wp_seq (wp_seq (k8 G d9 [(16, bA (s.kind == 1))] fun G => b6 (J1 G (fun h2 q2 => ?_) fun h2 q2 => ?_))))))))))
    ·
     refine k8 G d9 [(16, bA (s.kind == 5))] fun G => b6 (J1 G (fun h3 q3 => ?_) fun h3 q3 => ?_)
     ·
      refine wp_seq (k8 G d9 [(36, bA (s.kind == 2))] fun G => b6 (J1 G (fun h4 q4 => ?_) fun h4 q4 => ?_))
      ·
       refine wp_seq (k8 G d9 [(66, bA (s.kind == 3))] fun G => b6 (J1 G (fun h5 q5 => ?_) fun h5 q5 => ?_))
       ·
        refine wp_seq (k8 G d9 [(88, bA (s.kind == 4))] fun G => b6 (J1 G (fun h6 q6 => ?_) fun h6 q6 => ?_))
        · refine wp_skip (k6 (b6 (wp_seq (j7 G d9 (rg 7) (R4 p s []) [(6, bA false)] fun G => b6 (wp_ret ?_))))); exact J0 false G (rg 7) (cc1 (by omega) (by omega) (by omega) (by omega) (by omega))
        · refine wp_seq (N0 G (s7 5 [0, 1, 2, 5] (hB s.body (n - 1) (by omega))) (rg 7) (R4 p s []) [(6, bA (s.body.all (j6 p.vars.length p.arrays.length d)))] [wO (n - 1)] (o1 (by omega)) fun G => b6 (wp_ret (z3 (l4 ?_)))); exact J0 (s.body.all (j6 p.vars.length p.arrays.length d)) G (rg 7) (cc0 (by with_reducible assumption) (by omega))
       ·
        refine wp_seq ?_; cases h7 : (r9 p.vars.length p.arrays.length s.value)
        · refine j7 G (E9 (t3 3 [0, 1, 2, 4] (I7 p s.value) E8) (fc h7 (fc (b := false) rfl fz)) (us [(5, 10, 0), (1011, 1011, 0), (13, 18, 1), (1019, 1019, 1)])) (rg 7) (R4 p s []) [(6, bA false)] fun G => b6 (wp_ret (z3 (l4 ?_))); exact J0 false G (rg 7) (b31 (by with_reducible assumption) (by omega) (by with_reducible assumption))
        ·
         cases h8 : (s.body.all (j6 p.vars.length p.arrays.length d))
         · refine N0 G (E9 (t3 3 [0, 1, 2, 4] (I7 p s.value) (t3 10 [0, 1, 2, 5] (hB s.body (n - 1) (by omega)) E8)) (fc h7 (fc h8 fz)) (us [(5, 10, 0), (1011, 1011, 0), (13, 18, 1), (1019, 1019, 1)])) (rg 7) (R4 p s []) [(6, bA false)] [wO (n - 1)] (o1 (by omega)) fun G => b6 (wp_ret (z3 (l4 ?_))); exact J0 false G (rg 7) (b30 (by with_reducible assumption) (by omega) (by with_reducible assumption))
         · refine N0 G (E9 (t3 3 [0, 1, 2, 4] (I7 p s.value) (t3 10 [0, 1, 2, 5] (hB s.body (n - 1) (by omega)) (t3 18 [0, 1, 2, 6] (hB s.els (n - 1) (by omega)) E8))) (fc h7 (fc h8 fz)) (us [(5, 10, 0), (1011, 1011, 0), (13, 18, 1), (1019, 1019, 1)])) (rg 7) (R4 p s []) [(6, bA (s.els.all (j6 p.vars.length p.arrays.length d)))] [wO (n - 1), wO (n - 1)] (o2 (by omega)) fun G => b6 (wp_ret (z3 (l4 ?_))); exact J0 (s.els.all (j6 p.vars.length p.arrays.length d)) G (rg 7) (b29 (by with_reducible assumption) (by omega) (by with_reducible assumption) (by with_reducible assumption))
      ·
       refine wp_seq ?_; cases h9 : (decide (s.target ≥ 0))
       · have q9 := dFf h9; refine j7 G (I5 (fc h9 (fc (b := false) rfl fz)) (us [(4, 9, 0), (1010, 1010, 0), (12, 15, 1), (1016, 1016, 1), (18, 20, 1), (1021, 1021, 1), (23, 26, 1), (1027, 1027, 1)])) (rg 7) (R4 p s []) [(6, bA false)] fun G => b6 (wp_ret (z3 (l4 ?_))); exact J0 false G (rg 7) (b36 (by with_reducible assumption) (by omega) (by omega))
       ·
        have q9 := dTt h9; cases h10 : (decide (s.target < (p.arrays.length : Int)))
        · have q10 := dFf h10; refine j7 G (I5 (fc h9 (fc h10 (fc (b := false) rfl fz))) (us [(4, 9, 0), (1010, 1010, 0), (12, 15, 1), (1016, 1016, 1), (18, 20, 2), (1021, 1021, 2), (23, 26, 2), (1027, 1027, 2)])) (rg 7) (R4 p s []) [(6, bA false)] fun G => b6 (wp_ret (z3 (l4 ?_))); exact J0 false G (rg 7) (b35 (by with_reducible assumption) (by omega) (by omega))
        ·
         have q10 := dTt h10; cases h11 : (r9 p.vars.length p.arrays.length s.index)
         · refine j7 G (E9 (t3 15 (rg 4) (I7 p s.index) E8) (fc h9 (fc h10 (fc h11 (fc (b := false) rfl fz)))) (us [(4, 9, 0), (1010, 1010, 0), (12, 15, 1), (1016, 1016, 1), (18, 20, 2), (1021, 1021, 2), (23, 26, 3), (1027, 1027, 3)])) (rg 7) (R4 p s []) [(6, bA false)] fun G => b6 (wp_ret (z3 (l4 ?_))); exact J0 false G (rg 7) (b34 (by with_reducible assumption) (by omega) (by with_reducible assumption))
         ·
          cases h12 : (atomB s.index)
          · refine j7 G (E9 (t3 15 (rg 4) (I7 p s.index) (t3 20 [3] (aM3 s.index) E8)) (fc h9 (fc h10 (fc h11 (fc h12 fz)))) (us [(4, 9, 0), (1010, 1010, 0), (12, 15, 1), (1016, 1016, 1), (18, 20, 2), (1021, 1021, 2), (23, 26, 3), (1027, 1027, 3)])) (rg 7) (R4 p s []) [(6, bA false)] fun G => b6 (wp_ret (z3 (l4 ?_))); exact J0 false G (rg 7) (b33 (by with_reducible assumption) (by omega) (by with_reducible assumption))
          · refine j7 G (E9 (t3 15 (rg 4) (I7 p s.index) (t3 20 [3] (aM3 s.index) (t3 26 [0, 1, 2, 4] (I7 p s.value) E8))) (fc h9 (fc h10 (fc h11 (fc h12 fz)))) (us [(4, 9, 0), (1010, 1010, 0), (12, 15, 1), (1016, 1016, 1), (18, 20, 2), (1021, 1021, 2), (23, 26, 3), (1027, 1027, 3)])) (rg 7) (R4 p s []) [(6, bA (r9 p.vars.length p.arrays.length s.value))] fun G => b6 (wp_ret (z3 (l4 ?_))); exact J0 (r9 p.vars.length p.arrays.length s.value) G (rg 7) (b32 (by with_reducible assumption) (by omega) (by omega) (by omega) (by with_reducible assumption) (by with_reducible assumption))
     ·
      refine wp_seq ?_; cases h13 : (decide (s.target ≥ 0))
      · have q13 := dFf h13; refine j7 G (I5 (fc h13 (fc (b := false) rfl fz)) (us [(4, 9, 0), (1010, 1010, 0), (12, 15, 1), (1016, 1016, 1)])) (rg 7) (R4 p s []) [(6, bA false)] fun G => b6 (wp_ret (z3 (l4 ?_))); exact J0 false G (rg 7) (bQ4 (by with_reducible assumption) (by omega) (by omega))
      ·
       have q13 := dTt h13; cases h14 : (decide (s.target < (p.vars.length : Int)))
       · have q14 := dFf h14; refine j7 G (I5 (fc h13 (fc h14 fz)) (us [(4, 9, 0), (1010, 1010, 0), (12, 15, 1), (1016, 1016, 1)])) (rg 7) (R4 p s []) [(6, bA false)] fun G => b6 (wp_ret (z3 (l4 ?_))); exact J0 false G (rg 7) (bQ3 (by with_reducible assumption) (by omega) (by omega))
       · have q14 := dTt h14; refine j7 G (E9 (t3 15 [0, 1, 2, 4] (I7 p s.value) E8) (fc h13 (fc h14 fz)) (us [(4, 9, 0), (1010, 1010, 0), (12, 15, 1), (1016, 1016, 1)])) (rg 7) (R4 p s []) [(6, bA (r9 p.vars.length p.arrays.length s.value))] fun G => b6 (wp_ret (z3 (l4 ?_))); exact J0 (r9 p.vars.length p.arrays.length s.value) G (rg 7) (bQ2 (by with_reducible assumption) (by omega) (by omega) (by omega))
    ·
     refine wp_skip (b6 (rT G _ h2 (wp_seq ?_))); cases h15 : (decide (s.target ≥ 0))
     · have q15 := dFf h15; refine j7 G (I5 (fc h15 (fc (b := false) rfl fz)) (us [(4, 9, 0), (1010, 1010, 0), (12, 15, 1), (1016, 1016, 1)])) (rg 7) (R4 p s []) [(6, bA false)] fun G => b6 (wp_ret (z3 (l4 ?_))); exact J0 false G (rg 7) (bQ4 (by with_reducible assumption) (by omega) (by omega))
     ·
      have q15 := dTt h15; cases h16 : (decide (s.target < (p.vars.length : Int)))
      · have q16 := dFf h16; refine j7 G (I5 (fc h15 (fc h16 fz)) (us [(4, 9, 0), (1010, 1010, 0), (12, 15, 1), (1016, 1016, 1)])) (rg 7) (R4 p s []) [(6, bA false)] fun G => b6 (wp_ret (z3 (l4 ?_))); exact J0 false G (rg 7) (bQ3 (by with_reducible assumption) (by omega) (by omega))
      · have q16 := dTt h16; refine j7 G (E9 (t3 15 [0, 1, 2, 4] (I7 p s.value) E8) (fc h15 (fc h16 fz)) (us [(4, 9, 0), (1010, 1010, 0), (12, 15, 1), (1016, 1016, 1)])) (rg 7) (R4 p s []) [(6, bA (r9 p.vars.length p.arrays.length s.value))] fun G => b6 (wp_ret (z3 (l4 ?_))); exact J0 (r9 p.vars.length p.arrays.length s.value) G (rg 7) (bQ2 (by with_reducible assumption) (by omega) (by omega) (by omega))
   · have q1 : (n6 s) = false := (Eq.mp (ci9 _) h1); refine rT G _ h1 (wp_seq (k8 G d9 [] fun G => b6 (wp_ret (l4 ?_)))); exact J0 false G (rg 7) (cb9 (by with_reducible assumption))
  · have q0 := dTt h0; exact False.elim (by omega)
theorem ca2 {nv na d : Nat} {ss : List c5} {k : Nat} (hk : k < ss.length) (h : j6 nv na d (ss.getD k cg8) = false) : ss.all (j6 nv na d) = false := by
 rw [m0 hk] at h
 exact as8 hk h
theorem aQ4 (p : i5) (d : Nat) (hd : d ≤ 5) (hS : ∀ (s : c5) (n : Int), n = d → j8.ok Tryz.prog (vsC p d s n)) (ss : List c5) (n : Int) (hn : n = d) : j8.ok Tryz.prog (vbC p d ss n) := by
  refine E2 22 Tryz.func130 [dI p.vars, dI p.arrays, dT p.body, dT ss] [(0, pA 0), (1, .ref 3), (2, iA n)] fun G => ?_; refine wp_seq (j7 G d9 (rg 5) [dI p.vars, dI p.arrays, dT p.body, dT ss, .box (pL 0)] [(1, .ref 3), (2, iA n), (3, .ptr 4 0), (6, bA false)] fun G => b6 (wp_seq (wp_seq (C6 G d9 [(1, .ref 3), (2, iA n), (3, .ptr 4 0), (6, bA false), (7, iA 0)] fun G => b6 (wp_block ?_))))); refine s6 (κ := Nat) (fun k => k ≤ ss.length ∧ (ss.take k).all (j6 p.vars.length p.arrays.length d) = true) (fun k => ss.length - k) (fun k => [dI p.vars, dI p.arrays, dT p.body, dT ss, .box (pL 0)]) (fun k => [(1, .ref 3), (2, iA n), (3, .ptr 4 0), (6, bA false), (7, iA k)]) 0 (by simp) (t4.at G _ _) ?_; clear G; intro k ρ a w hp G; have hlen : ss.length ≤ 9223372036854775807 := G.len 3 (d := .stmts ss) (by kernel_rfl); refine wp_seq (wp_seq (C6 G d9 [(1, .ref 3), (2, iA n), (3, .ptr 4 0), (6, bA false), (7, iA k), (11, bA (decide ((k : Int) < ss.length)))] fun G => b6 (Z6 G (fun h0 q0 => ?_) fun h0 q0 => ?_)))
  · refine wp_exit (r7 (r7 (p6 (b6 (wp_seq (j7 G d9 (rg 4) [dI p.vars, dI p.arrays, dT p.body, dT ss] [(6, bA true)] fun G => b6 (wp_ret ?_))))))); exact J0 true G (rg 4) (aN0 hp.2 (by omega))
  ·
   refine wp_skip (b6 (wp_seq (wp_block (wp_seq (ac9 G (s7 6 [0, 1, 2, 37, 38, 39, 40] (hS (ss.getD k cg8) n (by assumption))) [0, 0, 0, 6, 14, 0, 63, 127] [(21, .v (.bool !j6 p.vars.length p.arrays.length d (ss.getD k cg8)))] (iX k k ss.length []) (iK (by omega) ci3) fun G => b6 ?_))))); cases h1 : (!j6 p.vars.length p.arrays.length d (ss.getD k cg8))
   · have q1 : (j6 p.vars.length p.arrays.length d (ss.getD k cg8)) = true := (Eq.mp (cj6 _) h1); refine rF G _ h1 (wp_skip (k6 (b6 (D0 G d9 [(7, iA ((k : Int) + 1))] [wO ((k : Int) + 1)] (o1 (by omega)) fun G => b6 ?_)))); exact H9 G (k + 1) (⟨by omega, a91 hp.2 (by omega) (by assumption)⟩) (by omega) (rg 5)
   · have q1 : (j6 p.vars.length p.arrays.length d (ss.getD k cg8)) = false := (Eq.mp (ci9 _) h1); refine rT G _ h1 (wp_seq (k8 G d9 [] fun G => b6 (wp_ret (z3 (l4 (l4 (z3 (l4 ?_)))))))); exact J0 false G (rg 4) (ca2 (k := k) (by omega) (by with_reducible assumption))
theorem bm0 (p : i5) : ∀ (d : Nat), d ≤ 5 → ∀ (s : c5) (n : Int), n = d → j8.ok Tryz.prog (vsC p d s n)
 | 0, _, s, n, hn => bp5 p s n hn
 | d + 1, hd, s, n, hn => bx2 p d (fun ss n hn => aQ4 p d (by omega) (bm0 p d (by omega)) ss n hn) s n hn (by omega)
theorem bt0 (p : i5) (ss : List c5) (n : Int) (hn : n = 5) : j8.ok Tryz.prog (V8 130 [pA 0, .ref 3, iA n] (pS p ++ [.dat (.stmts ss)]) (bA (ag0 p.vars.length p.arrays.length 5 ss))) :=
 aQ4 p 5 (by omega) (bm0 p 5 (by omega)) ss n hn
def C5 : Nat → List c5 → Nat
 | 0, ss => ss.length
 | d + 1, ss => ss.length + (ss.map fun s => C5 d s.body + C5 d s.els).sum
def szP (d : Nat) (ss : List c5) (k : Nat) : Nat := ss.length + ((ss.take k).map fun s => C5 d s.body + C5 d s.els).sum
theorem bI1 (d : Nat) (ss : List c5) {k : Nat} (h : ss.length ≤ k) : szP d ss k = C5 (d + 1) ss := by unfold szP; rw [ci6 h, C5]
theorem aG1 {d : Nat} {ss : List c5} {k : Nat} (h : k < ss.length) : szP d ss (k + 1) = szP d ss k + (C5 d (ss.getD k cg8).body + C5 d (ss.getD k cg8).els) := by
 unfold szP
 rw [G5 ss k h, List.map_append, List.sum_append, m0 h]
 simp; omega
theorem bw5 : ∀ (d : Nat) (ss : List c5), C5 d ss ≤ j5 ss := by
 intro d
 induction d with
 | zero => intro ss; exact K6 ss
 | succ d ih =>
  intro ss
  induction ss with
  | nil => simp [C5]
  | cons s r ihr =>
   have h1 := ih s.body
   have h2 := ih s.els
   have h3 := aP6 s
   simp only [C5, ck3, List.sum_cons, ch7, j5] at ihr ⊢
   have h4 : j5 s.body + j5 s.els ≤ J7 s := by
    rcases s with ⟨_, _, _, _, _, b, e⟩
    simp only [J7, c5.body, c5.els]; omega
   omega
theorem ba3 {d : Nat} {ss : List c5} {k : Nat} : szP d ss k ≤ j5 ss := by
 refine cj5 ?_ (bw5 (d + 1) ss)
 unfold szP
 rw [C5]
 have : ∀ (l : List Nat) (k : Nat), (l.take k).sum ≤ l.sum := fun l k => by
  have := List.sum_append (l₁ := l.take k) (l₂ := l.drop k)
  rw [List.take_append_drop] at this; omega
 have h := this (ss.map fun s => C5 d s.body + C5 d s.els) k
 rw [← List.map_take] at h
 omega
theorem bn9 {ss : List c5} {k B : Nat} (h : j5 ss ≤ B) (hk : k < ss.length) : j5 (ss.getD k cg8).body ≤ B ∧ j5 (ss.getD k cg8).els ≤ B := by
 rw [m0 hk]
 have h1 := ab3 (cj2 hk)
 have h2 := aP6 ss[k]
 omega
theorem bs7 (ss : List c5) (n : Int) (hn : n = 1) (hb : j5 ss ≤ 1048576) : j8.ok Tryz.prog (V8 131 [.ref 0, iA n] [.dat (.stmts ss)] (iA (C5 0 ss : Nat))) := by
 have h100 : decide (n > 1) = false := by simp; omega
 refine E2 39 Tryz.func131 [dT ss] [(0, .ref 0), (1, iA n)] fun G => ?_; refine wp_seq (k8 G d9 [(4, iA 0)] fun G => b6 (wp_seq (k8 G d9 [(5, iA (ss.length : Int))] fun G => b6 (wp_seq (wp_seq (C6 G d9 [(0, .ref 0), (1, iA n), (4, iA 0), (5, iA (ss.length : Int)), (6, iA 0)] fun G => b6 (wp_block ?_))))))); refine s6 (κ := Nat) (fun k => k = 0) (fun k => 0) (fun k => [dT ss]) (fun k => [(0, .ref 0), (1, iA n), (4, iA 0), (5, iA (ss.length : Nat)), (6, iA k)]) 0 (by kernel_rfl) (t4.at G _ _) ?_; clear G; intro k ρ a w hp G; replace G := t4.at G [dT ss] [(0, .ref 0), (1, iA n), (4, iA 0), (5, iA (ss.length : Int)), (6, iA k)]; refine wp_seq (wp_seq ?_); cases h0 : (decide ((k : Int) < ss.length))
 ·have q0 := dFf h0; refine k8 G (I5 (fc h0 fz) [(5, 0), (6, 0), (1007, 0)]) [(16, bA false)] fun G => b6 (rF G false (by kernel_rfl) (wp_exit (r7 (r7 (p6 (b6 (wp_seq (k8 G d9 [(4, iA (ss.length : Int))] fun G => b6 (wp_ret ?_))))))))); exact K2 G [0]
 ·have q0 := dTt h0; refine k8 G (I5 (fc h0 fz) [(5, 0), (6, 0), (1007, 0)]) [(16, bA (decide (n > 1)))] fun G => b6 (rF G (decide (n > 1)) (by assumption) (wp_exit (r7 (r7 (p6 (b6 (wp_seq (k8 G d9 [(4, iA (ss.length : Int))] fun G => b6 (wp_ret ?_))))))))); exact K2 G [0]
theorem bs5 (d : Nat) (hd : d ≤ 5) (ih : ∀ (ss : List c5) (n : Int), n = (d + 1 : Nat) → j5 ss ≤ 1048576 → j8.ok Tryz.prog (V8 131 [.ref 0, iA n] [.dat (.stmts ss)] (iA (C5 d ss : Nat))))
  (ss : List c5) (n : Int) (hn : n = (d + 2 : Nat)) (hb : j5 ss ≤ 1048576) : j8.ok Tryz.prog (V8 131 [.ref 0, iA n] [.dat (.stmts ss)] (iA (C5 (d + 1) ss : Nat))) := by
 have h100 : decide (n > 1) = true := by simp; omega
 refine E2 39 Tryz.func131 [dT ss] [(0, .ref 0), (1, iA n)] fun G => ?_; refine wp_seq (k8 G d9 [(4, iA 0)] fun G => b6 (wp_seq (k8 G d9 [(5, iA (ss.length : Int))] fun G => b6 (wp_seq (wp_seq (C6 G d9 [(0, .ref 0), (1, iA n), (4, iA 0), (5, iA (ss.length : Int)), (6, iA 0)] fun G => b6 (wp_block ?_))))))); refine s6 (κ := Nat) (fun k => k ≤ ss.length) (fun k => ss.length - k) (fun k => [dT ss]) (fun k => [(0, .ref 0), (1, iA n), (4, iA 0), (5, iA (szP d ss k : Nat)), (6, iA k)]) 0 (by omega) (t4.at G _ _) ?_; clear G; intro k ρ a w hp G; replace G := t4.at G [dT ss] [(0, .ref 0), (1, iA n), (4, iA 0), (5, iA (↑(szP d ss k) : Int)), (6, iA k)]; have hlen := K6 ss; refine wp_seq (wp_seq ?_); cases h0 : (decide ((k : Int) < ss.length))
 ·have q0 := dFf h0; refine k8 G (I5 (fc h0 fz) [(5, 0), (6, 0), (1007, 0)]) [(16, bA false)] fun G => b6 (rF G false (by kernel_rfl) (wp_exit (r7 (r7 (p6 (b6 (wp_seq (k8 G d9 [(4, iA (↑(szP d ss k) : Int))] fun G => b6 (wp_ret ?_))))))))); exact rxI ((↑(szP d ss k) : Int)) G [0] (by have h1 := bI1 d ss (k := k) (by omega); omega)
 ·have q0 := dTt h0; refine k8 G (I5 (fc h0 fz) [(5, 0), (6, 0), (1007, 0)]) [(16, bA (decide (n > 1)))] fun G => b6 (rT G (decide (n > 1)) (by assumption) (wp_skip (b6 (wp_seq (wp_block (ac9 G (E9 (t3 8 [41] (ih ((ss.getD k cg8).body) (n - 1) (by omega) ((bn9 hb (by omega)).1)) (t3 17 [113] (ih ((ss.getD k cg8).els) (n - 1) (by omega) ((bn9 hb (by omega)).2)) E8)) fz []) [0, 0, 0, 6, 14, 30, 0, 64, 254, 511, 0, 0, 3072, 7168, 15360, 0, 32768, 130558, 262143, 524287] [(5, iA ((↑(szP d ss k) : Int) + (↑(C5 d (ss.getD k cg8).body) : Int) + (↑(C5 d (ss.getD k cg8).els) : Int)))] (iX k k ss.length ((wO (n - 1)) :: ((wO ((↑(szP d ss k) : Int) + (↑(C5 d (ss.getD k cg8).body) : Int))) :: (iX k k ss.length ((wO (n - 1)) :: ((wO ((↑(szP d ss k) : Int) + (↑(C5 d (ss.getD k cg8).body) : Int) + (↑(C5 d (ss.getD k cg8).els) : Int))) :: [])))))) (iK (by omega) ⟨oW (by omega), ⟨(by have h1 := aG1 (d := d) (ss := ss) (k := k) (by omega); have h2 := ba3 (d := d) (ss := ss) (k := k + 1); exact w64 (by omega) (by omega)), (iK (by omega) ⟨oW (by omega), ⟨(by have h1 := aG1 (d := d) (ss := ss) (k := k) (by omega); have h2 := ba3 (d := d) (ss := ss) (k := k + 1); exact w64 (by omega) (by omega)), ci3⟩⟩)⟩⟩) fun G => k6 (b6 (D0 G d9 [(6, iA ((k : Int) + 1))] [wO ((k : Int) + 1)] (o1 (by omega)) fun G => b6 ?_)))))))); exact H9 G (k + 1) (by omega) (by omega) [0] (ht := by have e1 : ((↑(szP d ss (k + 1)) : Int) : Int) = ((↑(szP d ss k) : Int) + (↑(C5 d (ss.getD k cg8).body) : Int) + (↑(C5 d (ss.getD k cg8).els) : Int)) := (by have h1 := aG1 (d := d) (ss := ss) (k := k) (by omega); have h2 := ba3 (d := d) (ss := ss) (k := k + 1); omega); (first | rw [e1] | simp only [e1]) <;> rfl)
theorem bs6 : ∀ d, d ≤ 5 → ∀ (ss : List c5) (n : Int), n = (d + 1 : Nat) → j5 ss ≤ 1048576 → j8.ok Tryz.prog (V8 131 [.ref 0, iA n] [.dat (.stmts ss)] (iA (C5 d ss : Nat))) := by
 intro d
 induction d with
 | zero => intro _ ss n hn hb; exact bs7 ss n (by omega) hb
 | succ d ih => intro hd ss n hn hb; exact bs5 d (by omega) (fun ss n hn hb => ih (by omega) ss n hn hb) ss n (by omega) hb
theorem bG1 (ss : List c5) (n : Int) (hn : n = 5) (hb : j5 ss ≤ 1048576) : j8.ok Tryz.prog (V8 131 [.ref 0, iA n] [.dat (.stmts ss)] (iA (C5 4 ss : Nat))) :=
 bs6 4 (by omega) ss n (by omega) hb
theorem bw6 {nv na : Nat} : ∀ (d : Nat) (ss : List c5), (∀ s ∈ ss, j6 nv na (d + 1) s = true) → C5 d ss = V2 ss := by
 intro d
 induction d with
 | zero => intro ss h; rw [a61 h]; rfl
 | succ d ih =>
  intro ss
  induction ss with
  | nil => intro _; rfl
  | cons s r ihr =>
   intro h
   have h1 := ae2 (h s ck9)
   have h2 := ih s.body fun x hx => ch8.1 h1.1 x hx
   have h3 := ih s.els fun x hx => ch8.1 h1.2 x hx
   have h4 := ihr fun x hx => h x (ck7 _ hx)
   rw [V2, aw4, ← h2, ← h3, ← h4]
   simp [C5]; omega
theorem a29 {p : i5} (h : E3 p.vars p.arrays = false) : l8 p = false := by simp [l8, h]
theorem a30 {p : i5} (h : ag0 p.vars.length p.arrays.length 5 p.body = false) : l8 p = false := by simp [l8, h]
theorem bc4 {p : i5} (h1 : E3 p.vars p.arrays = true) (h2 : ag0 p.vars.length p.arrays.length 5 p.body = true) : l8 p = decide ((C5 4 p.body : Int) ≤ 60) := by
 have h3 := bw6 (nv := p.vars.length) (na := p.arrays.length) 4 p.body (fun x hx => ch8.1 h2 x hx)
 rw [l8, h1, h2, h3]
 simp
 exact ⟨fun h => by omega, fun h => by omega⟩
theorem a80 (p : i5) (n : Int) (hn : n = 5) : j8.ok Tryz.prog (V8 130 [pA 0, .ref 2, iA n] (pS p) (bA (ag0 p.vars.length p.arrays.length 5 p.body))) :=
 j8.dup (S := pS p) (S' := pS p) (d := .stmts p.body) (i := 2) (bt0 p p.body n hn) rfl rfl rfl (fun ρ h => by simp only [AV.vals, AV.val]; rw [show ρ 3 = ρ 2 from h]) rfl
theorem Q8 (p : i5) (hb : j5 p.body ≤ 1048576) : j8.ok Tryz.prog (V8 62 [pA 0] (pS p) (bA (l8 p))) := by
  refine E2 17 Tryz.func62 [dI p.vars, dI p.arrays, dT p.body] [(0, pA 0)] fun G => ?_; refine wp_seq (j7 G d9 (rg 4) [dI p.vars, dI p.arrays, dT p.body, .box (pL 0)] [(1, .ptr 3 0), (2, bA false)] fun G => b6 (wp_seq ?_)); cases h0 : (E3 p.vars p.arrays)
  · refine j7 G (E9 (t3 1 [0, 1, 2] (ax5 p) E8) (fc h0 (fc (b := false) rfl fz)) (us [(3, 6, 0), (1007, 1007, 0), (9, 12, 1), (1013, 1013, 1)])) [0, 1, 2] [dI p.vars, dI p.arrays, dT p.body] [(2, bA false)] fun G => b6 (wp_ret ?_); exact J0 false G [0, 1, 2] (a29 (by assumption))
  ·
   cases h1 : (ag0 p.vars.length p.arrays.length (5 : Nat) p.body)
   · refine j7 G (E9 (t3 1 [0, 1, 2] (ax5 p) (t3 6 [0, 1, 2] (a80 p 5 (by kernel_rfl)) E8)) (fc h0 (fc h1 fz)) (us [(3, 6, 0), (1007, 1007, 0), (9, 12, 1), (1013, 1013, 1)])) [0, 1, 2] [dI p.vars, dI p.arrays, dT p.body] [(2, bA false)] fun G => b6 (wp_ret ?_); exact J0 false G [0, 1, 2] (a30 (by assumption))
   · refine j7 G (E9 (t3 1 [0, 1, 2] (ax5 p) (t3 6 [0, 1, 2] (a80 p 5 (by kernel_rfl)) (t3 11 [2] (bG1 p.body 5 (by kernel_rfl) (by assumption)) E8))) (fc h0 (fc h1 fz)) (us [(3, 6, 0), (1007, 1007, 0), (9, 12, 1), (1013, 1013, 1)])) [0, 1, 2] [dI p.vars, dI p.arrays, dT p.body] [(2, bA (decide ((↑(C5 4 p.body) : Int) ≤ 60)))] fun G => b6 (wp_ret ?_); exact J0 (decide ((↑(C5 4 p.body) : Int) ≤ 60)) G [0, 1, 2] (bc4 (by assumption) (by assumption))
def D2 (nv na : Nat) (s : c5) : Bool := n6 s &&
    (if s.kind = 1 ∨ s.kind = 5 then decide (0 ≤ s.target) && decide (s.target < nv) && r9 nv na s.value
     else if s.kind = 2 then decide (0 ≤ s.target) && decide (s.target < na) && r9 nv na s.index && atomB s.index && r9 nv na s.value
     else if s.kind = 3 then r9 nv na s.value
     else decide (s.kind = 4))
theorem S8 {nv na d : Nat} {s : c5} : j6 nv na (d + 1) s = (D2 nv na s && (s.body.all (j6 nv na d) && s.els.all (j6 nv na d))) := by
 rw [ck4]
 constructor
 ·intro h
  have h1 := ae2 h
  rw [h1.1, h1.2, Bool.and_true, Bool.and_true]
  rw [j6, ch0] at h
  rw [D2, h.1, Bool.true_and]
  obtain ⟨-, h⟩ := h
  split at h
  ·rw [if_pos (by assumption)]; exact h
  split at h
  ·rw [if_neg (by assumption), if_pos (by assumption)]; exact h
  split at h
  ·rw [if_neg (by assumption), if_neg (by assumption), if_pos (by assumption)]
   simp only [ch0] at h; exact h.1.1
  split at h
  ·rw [if_neg (by assumption), if_neg (by assumption), if_neg (by assumption)]; simp [*]
  ·simp at h
 ·intro h
  simp only [ch0] at h
  obtain ⟨h, hb, he⟩ := h
  rw [D2, ch0] at h
  obtain ⟨h0, h⟩ := h
  rw [j6, h0, Bool.true_and]
  split at h
  ·rw [if_pos (by assumption)]; exact h
  split at h
  ·rw [if_neg (by assumption), if_pos (by assumption)]; exact h
  split at h
  ·rw [if_neg (by assumption), if_neg (by assumption), if_pos (by assumption), h, hb, he]; rfl
  ·rw [if_neg (by assumption), if_neg (by assumption), if_neg (by assumption), if_pos (by simpa using h), hb]
section
variable {nv na d c : Nat} {s : c5}
end
section
variable {nv na : Nat} {s : c5}
theorem bD0 (k : s.kind = 1 ∨ s.kind = 5) : D2 nv na s = (decide (0 ≤ s.target ∧ s.target < nv ∧ s.body.length = 0 ∧ s.els.length = 0 ∧ s.count = 0) && (noneB s.index && r9 nv na s.value)) := by
 rw [D2, n6, if_pos k, if_neg (by omega), show decide (s.kind = 2) = false from decide_eq_false (by omega), ck4]
 simp only [ch0, decide_eq_true_eq, Bool.false_or]
 constructor
 ·rintro ⟨⟨⟨⟨a, b⟩, c⟩, d⟩, ⟨e, f⟩, g⟩; exact ⟨⟨e, f, a, b, c⟩, d, g⟩
 ·rintro ⟨⟨e, f, a, b, c⟩, d, g⟩; exact ⟨⟨⟨⟨a, b⟩, c⟩, d⟩, ⟨e, f⟩, g⟩
theorem a59 (k : s.kind = 2) : D2 nv na s = (decide (0 ≤ s.target ∧ s.target < na ∧ s.body.length = 0 ∧ s.els.length = 0 ∧ s.count = 0) && (r9 nv na s.index && (atomB s.index && r9 nv na s.value))) := by
 rw [D2, n6, if_neg (by omega), if_pos k, if_neg (by omega), show decide (s.kind = 2) = true from decide_eq_true k, ck4]
 simp only [ch0, decide_eq_true_eq, Bool.true_or]
 constructor
 ·rintro ⟨⟨⟨⟨a, b⟩, c⟩, -⟩, ⟨⟨⟨e, f⟩, i⟩, j⟩, g⟩; exact ⟨⟨e, f, a, b, c⟩, i, j, g⟩
 ·rintro ⟨⟨e, f, a, b, c⟩, i, j, g⟩; exact ⟨⟨⟨⟨a, b⟩, c⟩, ci3⟩, ⟨⟨⟨e, f⟩, i⟩, j⟩, g⟩
theorem bR5 (k : s.kind = 3) : D2 nv na s = (decide (s.target = 0 ∧ s.count = 0) && (noneB s.index && r9 nv na s.value)) := by
 rw [D2, n6, if_pos (show s.kind = 3 ∨ s.kind = 4 from .inl k), if_neg (show ¬ s.kind = 4 by omega), if_neg (by omega), if_neg (by omega), if_pos k, ck4]
 simp only [ch0, decide_eq_true_eq]
 constructor
 ·rintro ⟨⟨a, b, c⟩, d⟩; exact ⟨⟨a, b⟩, c, d⟩
 ·rintro ⟨⟨a, b⟩, c, d⟩; exact ⟨⟨a, b, c⟩, d⟩
theorem b76 (k : s.kind = 4) : D2 nv na s = (decide (s.target = 0 ∧ s.els.length = 0 ∧ 1 ≤ s.count ∧ s.count ≤ 3) && (noneB s.index && noneB s.value)) := by
 rw [D2, n6, if_pos (show s.kind = 3 ∨ s.kind = 4 from .inr k), if_pos k, if_neg (by omega), if_neg (by omega), if_neg (by omega), show decide (s.kind = 4) = true from decide_eq_true k, ck4]
 simp only [ch0, decide_eq_true_eq]
 constructor
 ·rintro ⟨⟨a, ⟨⟨⟨b, c⟩, d⟩, e⟩, f⟩, -⟩; exact ⟨⟨a, b, c, d⟩, e, f⟩
 ·rintro ⟨⟨a, b, c, d⟩, e, f⟩; exact ⟨⟨a, ⟨⟨⟨b, c⟩, d⟩, e⟩, f⟩, ci3⟩
theorem ao1 (k : ¬ s.kind = 1 ∧ ¬ s.kind = 2 ∧ ¬ s.kind = 3 ∧ ¬ s.kind = 4 ∧ ¬ s.kind = 5) : D2 nv na s = false := by
 rw [D2, if_neg (by omega), if_neg (by omega), if_neg (by omega), show decide (s.kind = 4) = false from decide_eq_false (by omega), Bool.and_false]
end
theorem b23 {l : List c6} {k : Nat} (hk : k < l.length) : l.take k ++ [⟨(l.getD k cg8).kind, (l.getD k cg8).value, (l.getD k cg8).kids⟩] = l.take (k + 1) := by
 rw [c6.eta, m6 _ _ hk, m0 hk]
theorem b22 {l : List c5} {k : Nat} (hk : k < l.length) : l.take k ++ [⟨(l.getD k cg8).kind, (l.getD k cg8).target, ⟨(l.getD k cg8).index.kind, (l.getD k cg8).index.value, (l.getD k cg8).index.kids⟩, ⟨(l.getD k cg8).value.kind, (l.getD k cg8).value.value, (l.getD k cg8).value.kids⟩, (l.getD k cg8).count, (l.getD k cg8).body, (l.getD k cg8).els⟩] = l.take (k + 1) := by
 rw [c6.eta, c6.eta, c5.eta, m6 _ _ hk, m0 hk]
theorem bj0 {α : Type} {l : List α} {k : Nat} (h1 : k ≤ l.length) (h2 : ¬ (k : Int) < l.length) : l.take k = l := by rw [ci6 (by omega)]
theorem bB0 {α : Type} {l : List α} {k n : Nat} (h1 : k ≤ l.length) (h : l.length ≤ n) : (l.take k).length ≤ n := by rw [List.length_take]; omega
theorem bB7 {e : c6} (h : z5 e ≤ 1048576) : e.kids.length ≤ 1048576 := by
 have h1 := ar4 e.kids
 have h2 : z5 e = D4 e.kids := by cases e; rfl
 omega
theorem bt6 {l : List c5} (h : j5 l ≤ 1048576) : l.length ≤ 1048576 := cj5 (K6 l) h
theorem bL9 {α : Type} {l : List α} {x : α} {k : Nat} (h1 : k ≤ l.length) (h : l.length ≤ 1048576) : (l.take k).length + [x].length ≤ 1048577 := by
 have := bB0 (k := k) h1 h
 simp only [ch7, ci2]; omega
theorem b82 {a b : Nat} (ha : a ≤ 1048577) (hb : Nat.ble b 1000 = true) : a * b ≤ 140737488355328 := by
 have h1 := Nat.le_of_ble_eq_true hb
 have h2 := Nat.mul_le_mul ha h1
 omega
theorem at6 {l : List c6} {k : Nat} (h : (k : Int) < l.length) : l.getD k cg8 ∈ l := by rw [m0 (by omega)]; exact cj2 (by omega)
theorem ad5 {l : List c5} {k : Nat} (h : (k : Int) < l.length) : l.getD k cg8 ∈ l := by rw [m0 (by omega)]; exact cj2 (by omega)
abbrev cpC (e : c6) : j8 := ⟨132, [eA e 0], eS e, eS e ++ [.tree (.exprs e.kids)], .agg [iA e.kind, iA e.value, .tref 1]⟩
abbrev aZ2 (e : c6) (r0 : List It) : List It := dE e.kids :: .box (eL e 0) :: .box [iA 0, iA 0, .v (.slice none 0 0)] :: r0
theorem bx3 (e : c6) (hb : z5 e ≤ 1048576) (ih : ∀ (x : c6), x ∈ e.kids → j8.ok Tryz.prog (cpC x)) : j8.ok Tryz.prog (cpC e) := by
 refine E2 29 Tryz.func132 [dE e.kids] [(0, eA e 0)] fun G => ?_; have hl := bB7 hb; refine wp_seq (j7 G d9 [0, 1, 9] (aZ2 e []) [(1, .ptr 1 0), (2, .ptr 2 0)] fun G => b6 (wp_seq (j7 G d9 [0, 1, 2, 43] (aZ2 e [.box [iA e.kind, iA e.value, .v (.slice none 0 0)]]) [(1, .ptr 1 0), (2, .ptr 2 0), (3, .ptr 3 0)] fun G => b6 (wp_seq (wp_seq (C6 G d9 [(1, .ptr 1 0), (2, .ptr 2 0), (3, .ptr 3 0), (4, iA 0)] fun G => b6 (wp_block ?_))))))); obtain ⟨ρ, G⟩ := G.nilT 4 (.exprs []) (aZ2 e [.box [iA e.kind, iA e.value, .tref 4]]) [(1, .ptr 1 0), (2, .ptr 2 0), (3, .ptr 3 0), (4, iA 0)]; refine s6 (κ := Nat) (fun k => k ≤ e.kids.length) (fun k => e.kids.length - k) (fun k => [dE e.kids, .box (eL e 0), .box [iA 0, iA 0, .v (.slice none 0 0)], .box [iA e.kind, iA e.value, .tref 4], .tree (.exprs (e.kids.take k))]) (fun k => [(1, .ptr 1 0), (2, .ptr 2 0), (3, .ptr 3 0), (4, iA k)]) 0 (by omega) (t4.at G _ _) ?_; clear G; intro k ρ a w hp G; replace G := t4.at G (aZ2 e [.box [iA e.kind, iA e.value, .tref 4], .tree (D.exprs (ch6 k e.kids))]) [(1, .ptr 1 0), (2, .ptr 2 0), (3, .ptr 3 0), (4, iA k)]; refine wp_seq (wp_seq (k8 G d9 [(14, bA (decide ((k : Int) < e.kids.length)))] fun G => b6 (Z6 G (fun h0 q0 => ?_) fun h0 q0 => ?_)))
 ·refine wp_exit (r7 (r7 (p6 (b6 (wp_seq (j7 G d9 [0, 2, 4] [dE e.kids, .box [iA e.kind, iA e.value, .tref 2], .tree (D.exprs (ch6 k e.kids))] [(2, .ptr 1 0)] fun G => b6 (wp_ret ?_))))))); exact K2 G [0, 2] (by show _ = mR [0, 2] [dE e.kids, .tree (D.exprs e.kids)]; have e1 : (ch6 k e.kids : List c6) = (e.kids) := (bj0 hp (by assumption)); (first | rw [e1] | simp only [e1]) <;> rfl)
 ·refine wp_skip (b6 (wp_seq (wp_block (N5 G (s7 7 [53] (ih (e.kids.getD k cg8) (at6 (by assumption)))) [0, 1, 0, 4, 0, 28, 60, 124, 252, 511, 1023, 2047] [0, 1, 2, 3, 77] (aZ2 e [.box [iA e.kind, iA e.value, .tref 4], .tree (D.exprs (ch6 k e.kids ++ [v9 (e.kids.getD k cg8)]))]) [(1, .ptr 1 0), (2, .ptr 2 0), (3, .ptr 3 0), (4, iA k)] (iX k k e.kids.length (((ch6 k e.kids).length + [v9 (e.kids.getD k cg8)].length ≤ (9223372036854775807 : Nat)) :: ((((ch6 k e.kids).length + [v9 (e.kids.getD k cg8)].length) * (40 : Nat) ≤ (140737488355328 : Nat)) :: []))) (iK (by omega) ⟨(by have := bL9 (x := (cg8 : c6)) hp hl; simp only [ch7, ci2] at this ⊢; omega), ⟨(b82 (bL9 hp hl) (by kernel_rfl)), ci3⟩⟩) fun G => k6 (b6 (D0 G d9 [(4, iA ((k : Int) + 1))] [wO ((k : Int) + 1)] (o1 (by omega)) fun G => b6 ?_)))))); exact H9 G (k + 1) (by omega) (by omega) (rg 5) (by have e1 : (ch6 (k + 1) e.kids : List c6) = (ch6 k e.kids ++ [v9 (e.kids.getD k cg8)]) := ((b23 (by omega)).symm); (first | rw [e1] | simp only [e1]) <;> rfl)
theorem aY9 (e : c6) : z5 e ≤ 1048576 → j8.ok Tryz.prog (cpC e) :=
 c6.ind (P := fun e => z5 e ≤ 1048576 → j8.ok Tryz.prog (cpC e)) (fun k n ks ih hb => bx3 ⟨k, n, ks⟩ hb fun x hx => ih x hx (by
  have h1 := bI2 (show x ∈ ks from hx)
  have h2 : z5 ⟨k, n, ks⟩ = D4 ks := rfl
  omega)) e
abbrev a69 (l : List c5) : j8 := ⟨151, [.ref 0], [dT l], [dT l, .tree (.stmts l)], .tref 1⟩
theorem bm9 {l : List c5} {k : Nat} (hb : j5 l ≤ 1048576) (h : (k : Int) < l.length) : z5 (l.getD k cg8).index ≤ 1048576 ∧ z5 (l.getD k cg8).value ≤ 1048576 ∧ j5 (l.getD k cg8).body ≤ 1048576 ∧ j5 (l.getD k cg8).els ≤ 1048576 := by
 have h1 := ab3 (ad5 h)
 generalize l.getD k cg8 = s at *
 rcases s with ⟨_, _, i, v, _, b, e⟩
 simp only [J7] at h1
 simp only [c5.index, c5.value, c5.body, c5.els]
 omega
abbrev aD9 (k : Nat) (r0 : List (Nat × AV)) : List (Nat × AV) := (0, .ref 0) :: (2, .v (.slice none 0 0)) :: (3, .tref 1) :: (4, iA (k : Int)) :: r0
theorem aH1 (l : List c5) (hb : j5 l ≤ 1048576) (ih1 : ∀ (s : c5), s ∈ l → j8.ok Tryz.prog (a69 s.body)) (ih2 : ∀ (s : c5), s ∈ l → j8.ok Tryz.prog (a69 s.els)) : j8.ok Tryz.prog (a69 l) := by
  refine E2 38 Tryz.func151 [dT l] [(0, .ref 0)] fun G => ?_; have hl := bt6 hb; refine wp_seq (k8 G d9 [(2, .v (.slice none 0 0))] fun G => b6 (wp_seq (j7 G d9 [0, 1] [dT l, .tree (D.stmts [])] [(0, .ref 0), (2, .v (.slice none 0 0)), (3, .tref 1)] fun G => b6 (wp_seq (wp_seq (C6 G d9 [(0, .ref 0), (2, .v (.slice none 0 0)), (3, .tref 1), (4, iA 0)] fun G => b6 (wp_block ?_))))))); refine s6 (κ := Nat) (fun k => k ≤ l.length) (fun k => l.length - k) (fun k => [dT l, .tree (.stmts (l.take k))]) (fun k => [(0, .ref 0), (2, .v (.slice none 0 0)), (3, .tref 1), (4, iA k)]) 0 (by omega) (t4.at G _ _) ?_; clear G; intro k ρ a w hp G; replace G := t4.at G [dT l, .tree (D.stmts (ch6 k l))] (aD9 k []); refine wp_seq (wp_seq (k8 G d9 [(10, bA (decide ((k : Int) < l.length)))] fun G => b6 (Z6 G (fun h0 q0 => ?_) fun h0 q0 => ?_)))
  · refine wp_exit (r7 (r7 (p6 (b6 (wp_seq (k8 G d9 [(2, .tref 1)] fun G => b6 (wp_ret ?_))))))); exact K2 G [0, 1] (by show _ = mR [0, 1] [dT l, .tree (D.stmts l)]; have e1 : (ch6 k l : List c5) = (l) := (bj0 hp (by assumption)); (first | rw [e1] | simp only [e1]) <;> rfl)
  ·
   refine wp_skip (b6 (wp_seq (wp_block (wp_seq (N0 G d9 [0, 1, 26, 27, 28, 29, 34] [dT l, .tree (D.stmts (ch6 k l)), dE (l.getD k cg8).index.kids, dE (l.getD k cg8).value.kids, dT (l.getD k cg8).body, dT (l.getD k cg8).els, .box (sL (l.getD k cg8) 2)] (aD9 k [(5, .ptr 6 0)]) (iX k k l.length []) (iK (by omega) ci3) fun G => b6 (wp_seq (j7 G (s7 2 [2] (aY9 ((l.getD k cg8).index) ((bm9 hb (by assumption)).1))) [0, 1, 3, 4, 5, 6, 23] [dT l, .tree (D.stmts (ch6 k l)), dE (l.getD k cg8).value.kids, dT (l.getD k cg8).body, dT (l.getD k cg8).els, .box [iA (l.getD k cg8).kind, iA (l.getD k cg8).target, iA (l.getD k cg8).index.kind, iA (l.getD k cg8).index.value, .tref 6, iA (l.getD k cg8).value.kind, iA (l.getD k cg8).value.value, .ref 2, iA (l.getD k cg8).count, .ref 3, .ref 4], .tree (D.exprs (l.getD k cg8).index.kids)] (aD9 k [(5, .ptr 5 0)]) fun G => b6 (wp_seq (j7 G (s7 2 [2] (aY9 ((l.getD k cg8).value) ((bm9 hb (by assumption)).2.1))) [0, 1, 3, 4, 5, 6, 23] [dT l, .tree (D.stmts (ch6 k l)), dT (l.getD k cg8).body, dT (l.getD k cg8).els, .box [iA (l.getD k cg8).kind, iA (l.getD k cg8).target, iA (l.getD k cg8).index.kind, iA (l.getD k cg8).index.value, .tref 5, iA (l.getD k cg8).value.kind, iA (l.getD k cg8).value.value, .tref 6, iA (l.getD k cg8).count, .ref 2, .ref 3], .tree (D.exprs (l.getD k cg8).index.kids), .tree (D.exprs (l.getD k cg8).value.kids)] (aD9 k [(5, .ptr 4 0)]) fun G => b6 (wp_seq (j7 G (s7 2 [2] (ih1 (l.getD k cg8) (ad5 (by assumption)))) [0, 1, 3, 4, 5, 6, 23] [dT l, .tree (D.stmts (ch6 k l)), dT (l.getD k cg8).els, .box [iA (l.getD k cg8).kind, iA (l.getD k cg8).target, iA (l.getD k cg8).index.kind, iA (l.getD k cg8).index.value, .tref 4, iA (l.getD k cg8).value.kind, iA (l.getD k cg8).value.value, .tref 5, iA (l.getD k cg8).count, .tref 6, .ref 2], .tree (D.exprs (l.getD k cg8).index.kids), .tree (D.exprs (l.getD k cg8).value.kids), .tree (D.stmts (l.getD k cg8).body)] (aD9 k [(5, .ptr 3 0)]) fun G => b6 (wp_seq (j7 G (s7 2 [2] (ih2 (l.getD k cg8) (ad5 (by assumption)))) [0, 1, 3, 4, 5, 6, 23] [dT l, .tree (D.stmts (ch6 k l)), .box [iA (l.getD k cg8).kind, iA (l.getD k cg8).target, iA (l.getD k cg8).index.kind, iA (l.getD k cg8).index.value, .tref 3, iA (l.getD k cg8).value.kind, iA (l.getD k cg8).value.value, .tref 4, iA (l.getD k cg8).count, .tref 5, .tref 6], .tree (D.exprs (l.getD k cg8).index.kids), .tree (D.exprs (l.getD k cg8).value.kids), .tree (D.stmts (l.getD k cg8).body), .tree (D.stmts (l.getD k cg8).els)] (aD9 k [(5, .ptr 2 0)]) fun G => b6 (N0 G d9 [0, 31] [dT l, .tree (D.stmts (ch6 k l ++ [qzS (l.getD k cg8)]))] (aD9 k []) [(ch6 k l).length + [qzS (l.getD k cg8)].length ≤ (9223372036854775807 : Nat), ((ch6 k l).length + [qzS (l.getD k cg8)].length) * (152 : Nat) ≤ (140737488355328 : Nat)] ⟨(by have := bL9 (x := (cg8 : c5)) hp hl; simp only [ch7, ci2] at this ⊢; omega), (b82 (bL9 hp hl) (by kernel_rfl)), ci3⟩ fun G => ?_))))))))))))))
   refine k6 (b6 (D0 G d9 [(4, iA ((k : Int) + 1))] [wO ((k : Int) + 1)] (o1 (by omega)) fun G => b6 ?_)); exact H9 G (k + 1) (by omega) (by omega) [0, 1] (by have e1 : (ch6 (k + 1) l : List c5) = (ch6 k l ++ [qzS (l.getD k cg8)]) := ((b22 (by omega)).symm); (first | rw [e1] | simp only [e1]) <;> rfl)
theorem bO6 (l : List c5) : j5 l ≤ 1048576 → j8.ok Tryz.prog (a69 l) := fun hb => aH1 l hb
 (fun s hs => (c_copyS2 s).1 (cj5 (Nat.le_of_lt (ab3 hs)) hb)) fun s hs => (c_copyS2 s).2 (cj5 (Nat.le_of_lt (ab3 hs)) hb)
where
 c_copyS2 (s : c5) : (J7 s ≤ 1048576 → j8.ok Tryz.prog (a69 s.body)) ∧ (J7 s ≤ 1048576 → j8.ok Tryz.prog (a69 s.els)) :=
  c5.ind (P := fun s => (J7 s ≤ 1048576 → j8.ok Tryz.prog (a69 s.body)) ∧ (J7 s ≤ 1048576 → j8.ok Tryz.prog (a69 s.els))) (fun k t i v c b e h1 h2 => by
   have hz : J7 ⟨k, t, i, v, c, b, e⟩ = z5 i + z5 v + j5 b + j5 e := rfl
   constructor
   ·intro hb
    refine aH1 b (by omega) (fun s hs => (h1 s hs).1 ?_) fun s hs => (h1 s hs).2 ?_
    ·have := ab3 hs; omega
    ·have := ab3 hs; omega
   ·intro hb
    refine aH1 e (by omega) (fun s hs => (h2 s hs).1 ?_) fun s hs => (h2 s hs).2 ?_
    ·have := ab3 hs; omega
    ·have := ab3 hs; omega) s
theorem bG2 (p : i5) (hb : p.size ≤ 1048576) : j8.ok Tryz.prog ⟨78, [pA 0], pS p, pS p ++ oP p, oA 3⟩ := by
 refine E2 15 Tryz.func78 [dI p.vars, dI p.arrays, dT p.body] [(0, pA 0)] fun G => ?_
 have hb1 : p.vars.length ≤ 1048576 ∧ p.arrays.length ≤ 1048576 ∧ j5 p.body ≤ 1048576 := by unfold i5.size at hb; omega
 refine wp_seq (j7 G d9 [0, 1, 2, 3, 11] [dI p.vars, dI p.arrays, dT p.body, .box (pL 0), .box [.v (.slice none 0 0), .v (.slice none 0 0), .v (.slice none 0 0)]] [(1, .ptr 3 0), (2, .ptr 4 0)] fun G => b6 (wp_seq (N5 G (s7 10 [2] (bO6 p.body (by omega))) [0, 0, 2, 7, 0, 0, 32, 127, 0, 256, 1023, 2047, 4095] [0, 1, 2, 4, 29, 61, 85] [dI p.vars, dI p.arrays, dT p.body, .box [.ref 4, .ref 5, .tref 6], .row 3 (D.ints ([] ++ p.vars)), .row 3 (D.ints ([] ++ p.arrays)), .tree (D.stmts p.body)] [(2, .ptr 3 0)] (aP ((0 : Nat) + p.vars.length) 8 (aP ((0 : Nat) + p.arrays.length) 8 [])) (aK (by omega) (aK (by omega) ci3)) fun G => b6 (wp_ret ?_)))); exact K2 G [0, 1, 2, 4, 5, 6]
def aB0 (vs ars : List Int) (e : c6) : Int := if e.kind = 2 then vs.getD e.value.toNat 0 else if e.kind = 3 then ars.getD e.value.toNat 0 else 0
def i9 (vs ars : List Int) : Nat → c6 → Int
 | 0, _ => 0
 | d + 1, e => e.kids.foldl (fun a k => l0 a (i9 vs ars d k)) (aB0 vs ars e)
def C7 (vs ars : List Int) (d : Nat) (x : Int) (ks : List c6) (k : Nat) : Int := (ks.take k).foldl (fun a k => l0 a (i9 vs ars d k)) x
theorem Y5 {vs ars : List Int} {d k : Nat} {x : Int} {ks : List c6} (h : k < ks.length) : C7 vs ars d x ks (k + 1) = l0 (C7 vs ars d x ks k) (i9 vs ars d (ks.getD k cg8)) := by
 unfold C7; rw [G5 ks k h, List.foldl_append, m0 h]; rfl
theorem ad3 {vs ars : List Int} {d k : Nat} {x : Int} {e : c6} (h : e.kids.length ≤ k) (hx : aB0 vs ars e = x) : i9 vs ars (d + 1) e = C7 vs ars d x e.kids k := by
 unfold C7; rw [ci6 h, i9, hx]
section
variable {nv na d : Nat} {e : c6}
theorem aV4 (h : f8 nv na (d + 1) e = true) : R7 nv na e = true := by simp only [f8, ch0] at h; exact h.1.1
theorem av8 (h : f8 nv na (d + 1) e = true) (k : e.kind = 2) : 0 ≤ e.value ∧ e.value < nv ∧ e.value.toNat < nv := by
 have := aV4 h
 simp [R7, V0, k] at this; omega
theorem av9 (h : f8 nv na (d + 1) e = true) (k : e.kind = 3) : 0 ≤ e.value ∧ e.value < na ∧ e.value.toNat < na := by
 have := aV4 h
 simp [R7, V0, k] at this; omega
theorem Z3 {k : Nat} (h : f8 nv na (d + 1) e = true) (hk : k < e.kids.length) : f8 nv na d (e.kids.getD k cg8) = true := by
 simp only [f8, ch0] at h
 rw [m0 hk]; exact ch8.1 h.1.2 _ (cj2 hk)
theorem aG8 (h : f8 nv na (d + 1) e = true) (k : e.kind = 3) : 0 < e.kids.length := by
 have := aV4 h
 simp [R7, s8, k] at this; omega
end
theorem aR8 {x : Int} (h : i7 x = true) : x = 0 ∨ x = 1 ∨ x = 2 ∨ x = 3 := by simp [i7] at h; omega
theorem I8 (l : Int) : j8.ok Tryz.prog (V8 158 [iA l] [] (bA (i7 l && decide (l % 2 = 1)))) := by
 refine E2 10 Tryz.func158 [] [(0, iA l)] fun G => ?_; refine wp_seq (k8 G d9 [(2, bA false)] fun G => b6 (wp_seq ?_)); cases h0 : (i7 l)
 ·refine k8 G (E9 (t3 1 [] (C2 l) E8) (fc h0 fz) [(3, 0), (4, 0), (5, 0), (1006, 0)]) [] fun G => b6 (wp_ret ?_); exact K2 G []
 ·refine k8 G (E9 (t3 1 [] (C2 l) E8) (fc h0 fz) [(3, 0), (4, 0), (5, 0), (1006, 0)]) [(2, bA (bP2 l 1 == 1))] fun G => b6 (wp_ret ?_); exact J0 (bP2 l 1 == 1) G [] (by rcases aR8 h0 with rfl | rfl | rfl | rfl <;> kernel_rfl)
theorem ak7 (l : Int) : j8.ok Tryz.prog (V8 256 [iA l] [] (bA (i7 l && decide (l ≤ 1)))) := by
 refine E2 10 Tryz.func256 [] [(0, iA l)] fun G => ?_; refine wp_seq (k8 G d9 [(2, bA false)] fun G => b6 (wp_seq ?_)); cases h0 : (i7 l)
 ·refine k8 G (E9 (t3 1 [] (C2 l) E8) (fc h0 fz) [(3, 0), (4, 0), (5, 0), (1006, 0)]) [] fun G => b6 (wp_ret ?_); exact K2 G []
 ·refine k8 G (E9 (t3 1 [] (C2 l) E8) (fc h0 fz) [(3, 0), (4, 0), (5, 0), (1006, 0)]) [(2, bA (bP2 l 2 == 0))] fun G => b6 (wp_ret ?_); exact J0 (bP2 l 2 == 0) G [] (by rcases aR8 h0 with rfl | rfl | rfl | rfl <;> kernel_rfl)
theorem au1 (x y : Int) : j8.ok Tryz.prog (V8 255 [iA x, iA y] [] (bA (i7 x && i7 y && (l0 x y == y)))) := by
  refine E2 18 Tryz.func255 [] [(0, iA x), (1, iA y)] fun G => ?_; refine wp_seq (k8 G d9 [(4, bA false)] fun G => b6 (wp_seq ?_)); cases h0 : (i7 x)
  · refine k8 G (E9 (t3 1 [] (C2 x) E8) (fc h0 (fc (b := false) rfl fz)) (us [(3, 4, 0), (1005, 1005, 0), (7, 11, 1), (1012, 1012, 1)])) [] fun G => b6 (wp_ret ?_); exact K2 G []
  ·
   cases h1 : (i7 y)
   · refine k8 G (E9 (t3 1 [] (C2 x) (t3 4 [] (C2 y) E8)) (fc h0 (fc h1 fz)) (us [(3, 4, 0), (1005, 1005, 0), (7, 11, 1), (1012, 1012, 1)])) [] fun G => b6 (wp_ret ?_); exact K2 G []
   · refine k8 G (E9 (t3 1 [] (C2 x) (t3 4 [] (C2 y) E8)) (fc h0 (fc h1 fz)) (us [(3, 4, 0), (1005, 1005, 0), (7, 11, 1), (1012, 1012, 1)])) [(4, bA (l0 x y == y))] fun G => b6 (wp_ret ?_); exact K2 G []
theorem Q3 {x : Int} (h : i7 x = true) : ∃ a : Fin 4, x = (a.val : Int) := by
 simp [i7] at h
 exact ⟨⟨x.toNat, by omega⟩, by simp; omega⟩
theorem bf8 (p : i5) (d : Nat) (ih : ∀ (e : c6), f8 p.vars.length p.arrays.length d e = true → j8.ok Tryz.prog (V8 159 [pA 0, eA e 3] (pS p ++ eS e) (iA (i9 p.vars p.arrays d e))))
    (e : c6) (he : f8 p.vars.length p.arrays.length (d + 1) e = true) : j8.ok Tryz.prog (V8 159 [pA 0, eA e 3] (pS p ++ eS e) (iA (i9 p.vars p.arrays (d + 1) e))) := by
  refine E2 42 Tryz.func159 [dI p.vars, dI p.arrays, dT p.body, dE e.kids] [(0, pA 0), (1, eA e 3)] fun G => ?_; refine wp_seq (j7 G d9 [0, 1, 2, 3, 4, 12] [dI p.vars, dI p.arrays, dT p.body, dE e.kids, .box (pL 0), .box (eL e 3)] [(2, .ptr 4 0), (3, .ptr 5 0), (4, iA 0)] fun G => b6 (wp_seq (k8 G d9 [(5, iA 0)] fun G => b6 (wp_seq (wp_seq (k8 G d9 [(8, iA e.kind)] fun G => b6 (wp_block (wp_seq (k8 G d9 [(9, bA (e.kind == 2))] fun G => b6 (J1 G (fun h0 q0 => ?_) fun h0 q0 => ?_))))))))))
  ·
   refine wp_seq (k8 G d9 [(17, bA (e.kind == 3))] fun G => b6 (J1 G (fun h1 q1 => ?_) fun h1 q1 => ?_))
   ·
    refine wp_skip (k6 (b6 (wp_seq (wp_seq (C6 G d9 [(2, .ptr 4 0), (3, .ptr 5 0), (4, iA 0), (5, iA 0), (6, iA 0)] fun G => b6 (wp_block ?_)))))); refine s6 (κ := Nat) (fun k => k ≤ e.kids.length) (fun k => e.kids.length - k) (fun k => [dI p.vars, dI p.arrays, dT p.body, dE e.kids, .box (pL 0), .box (eL e 3)]) (fun k => [(2, .ptr 4 0), (3, .ptr 5 0), (4, iA 0), (5, iA (C7 p.vars p.arrays d 0 e.kids k)), (6, iA k)]) 0 (by omega) (t4.at G _ _) ?_; clear G; intro k ρ a w hp G; have hlen : e.kids.length ≤ 9223372036854775807 := G.len 3 (d := .exprs e.kids) (by kernel_rfl); refine wp_seq (wp_seq (C6 G d9 [(2, .ptr 4 0), (3, .ptr 5 0), (4, iA 0), (5, iA (C7 p.vars p.arrays d 0 e.kids k)), (6, iA k), (29, bA (decide ((k : Int) < e.kids.length)))] fun G => b6 (Z6 G (fun h2 q2 => ?_) fun h2 q2 => ?_)))
    · refine wp_exit (r7 (r7 (p6 (b6 (wp_seq (j7 G d9 (rg 4) [dI p.vars, dI p.arrays, dT p.body, dE e.kids] [(4, iA (C7 p.vars p.arrays d 0 e.kids k))] fun G => b6 (wp_ret ?_))))))); exact rxI (C7 p.vars p.arrays d 0 e.kids k) G (rg 4) (ad3 (by omega) (by simp [aB0, h0, q0, h1, q1, h2, q2]; done))
    · refine wp_skip (b6 (wp_seq (wp_block (ac9 G (s7 7 [0, 1, 2, 54] (ih (e.kids.getD k cg8) (Z3 he (by omega)))) [0, 0, 0, 4, 0, 28, 60, 126, 255, 511] [(5, iA (l0 (C7 p.vars p.arrays d 0 e.kids k) (i9 p.vars p.arrays d (e.kids.getD k cg8))))] (iX k k e.kids.length []) (iK (by omega) ci3) fun G => k6 (b6 (D0 G d9 [(6, iA ((k : Int) + 1))] [wO ((k : Int) + 1)] (o1 (by omega)) fun G => b6 ?_)))))); exact H9 G (k + 1) (by omega) (by omega) (rg 6) (ht := by have e1 : (C7 p.vars p.arrays d 0 e.kids (k + 1) : Int) = (l0 (C7 p.vars p.arrays d 0 e.kids k) (i9 p.vars p.arrays d (e.kids.getD k cg8))) := (Y5 (by omega)); (first | rw [e1] | simp only [e1]) <;> rfl)
   ·
    refine D0 G d9 [(5, iA (p.arrays.getD e.value.toNat 0))] [(0 : Int) ≤ e.value, e.value < (p.arrays.length : Int), e.value.toNat < p.arrays.length] ⟨((av9 he (by assumption)).1), ((av9 he (by assumption)).2.1), ((av9 he (by assumption)).2.2), ci3⟩ fun G => k6 (b6 (wp_seq (wp_seq (C6 G d9 [(2, .ptr 4 0), (3, .ptr 5 0), (4, iA 0), (5, iA (p.arrays.getD e.value.toNat 0)), (6, iA 0)] fun G => b6 (wp_block ?_))))); refine s6 (κ := Nat) (fun k => k ≤ e.kids.length) (fun k => e.kids.length - k) (fun k => [dI p.vars, dI p.arrays, dT p.body, dE e.kids, .box (pL 0), .box (eL e 3)]) (fun k => [(2, .ptr 4 0), (3, .ptr 5 0), (4, iA 0), (5, iA (C7 p.vars p.arrays d (p.arrays.getD e.value.toNat 0) e.kids k)), (6, iA k)]) 0 (by omega) (t4.at G _ _) ?_; clear G; intro k ρ a w hp G; have hlen : e.kids.length ≤ 9223372036854775807 := G.len 3 (d := .exprs e.kids) (by kernel_rfl); refine wp_seq (wp_seq (C6 G d9 [(2, .ptr 4 0), (3, .ptr 5 0), (4, iA 0), (5, iA (C7 p.vars p.arrays d (p.arrays.getD e.value.toNat 0) e.kids k)), (6, iA k), (29, bA (decide ((k : Int) < e.kids.length)))] fun G => b6 (Z6 G (fun h3 q3 => ?_) fun h3 q3 => ?_)))
    · refine wp_exit (r7 (r7 (p6 (b6 (wp_seq (j7 G d9 (rg 4) [dI p.vars, dI p.arrays, dT p.body, dE e.kids] [(4, iA (C7 p.vars p.arrays d (p.arrays.getD e.value.toNat 0) e.kids k))] fun G => b6 (wp_ret ?_))))))); exact rxI (C7 p.vars p.arrays d (p.arrays.getD e.value.toNat 0) e.kids k) G (rg 4) (ad3 (by omega) (by simp [aB0, h0, q0, h1, q1, h3, q3]; done))
    · refine wp_skip (b6 (wp_seq (wp_block (ac9 G (s7 7 [0, 1, 2, 54] (ih (e.kids.getD k cg8) (Z3 he (by omega)))) [0, 0, 0, 4, 0, 28, 60, 126, 255, 511] [(5, iA (l0 (C7 p.vars p.arrays d (p.arrays.getD e.value.toNat 0) e.kids k) (i9 p.vars p.arrays d (e.kids.getD k cg8))))] (iX k k e.kids.length []) (iK (by omega) ci3) fun G => k6 (b6 (D0 G d9 [(6, iA ((k : Int) + 1))] [wO ((k : Int) + 1)] (o1 (by omega)) fun G => b6 ?_)))))); exact H9 G (k + 1) (by omega) (by omega) (rg 6) (ht := by have e1 : (C7 p.vars p.arrays d (p.arrays.getD e.value.toNat 0) e.kids (k + 1) : Int) = (l0 (C7 p.vars p.arrays d (p.arrays.getD e.value.toNat 0) e.kids k) (i9 p.vars p.arrays d (e.kids.getD k cg8))) := (Y5 (by omega)); (first | rw [e1] | simp only [e1]) <;> rfl)
  ·
   refine D0 G d9 [(5, iA (p.vars.getD e.value.toNat 0))] [(0 : Int) ≤ e.value, e.value < (p.vars.length : Int), e.value.toNat < p.vars.length] ⟨((av8 he (by assumption)).1), ((av8 he (by assumption)).2.1), ((av8 he (by assumption)).2.2), ci3⟩ fun G => k6 (b6 (wp_seq (wp_seq (C6 G d9 [(2, .ptr 4 0), (3, .ptr 5 0), (4, iA 0), (5, iA (p.vars.getD e.value.toNat 0)), (6, iA 0)] fun G => b6 (wp_block ?_))))); refine s6 (κ := Nat) (fun k => k ≤ e.kids.length) (fun k => e.kids.length - k) (fun k => [dI p.vars, dI p.arrays, dT p.body, dE e.kids, .box (pL 0), .box (eL e 3)]) (fun k => [(2, .ptr 4 0), (3, .ptr 5 0), (4, iA 0), (5, iA (C7 p.vars p.arrays d (p.vars.getD e.value.toNat 0) e.kids k)), (6, iA k)]) 0 (by omega) (t4.at G _ _) ?_; clear G; intro k ρ a w hp G; have hlen : e.kids.length ≤ 9223372036854775807 := G.len 3 (d := .exprs e.kids) (by kernel_rfl); refine wp_seq (wp_seq (C6 G d9 [(2, .ptr 4 0), (3, .ptr 5 0), (4, iA 0), (5, iA (C7 p.vars p.arrays d (p.vars.getD e.value.toNat 0) e.kids k)), (6, iA k), (29, bA (decide ((k : Int) < e.kids.length)))] fun G => b6 (Z6 G (fun h4 q4 => ?_) fun h4 q4 => ?_)))
   · refine wp_exit (r7 (r7 (p6 (b6 (wp_seq (j7 G d9 (rg 4) [dI p.vars, dI p.arrays, dT p.body, dE e.kids] [(4, iA (C7 p.vars p.arrays d (p.vars.getD e.value.toNat 0) e.kids k))] fun G => b6 (wp_ret ?_))))))); exact rxI (C7 p.vars p.arrays d (p.vars.getD e.value.toNat 0) e.kids k) G (rg 4) (ad3 (by omega) (by simp [aB0, h0, q0, h4, q4]; done))
   · refine wp_skip (b6 (wp_seq (wp_block (ac9 G (s7 7 [0, 1, 2, 54] (ih (e.kids.getD k cg8) (Z3 he (by omega)))) [0, 0, 0, 4, 0, 28, 60, 126, 255, 511] [(5, iA (l0 (C7 p.vars p.arrays d (p.vars.getD e.value.toNat 0) e.kids k) (i9 p.vars p.arrays d (e.kids.getD k cg8))))] (iX k k e.kids.length []) (iK (by omega) ci3) fun G => k6 (b6 (D0 G d9 [(6, iA ((k : Int) + 1))] [wO ((k : Int) + 1)] (o1 (by omega)) fun G => b6 ?_)))))); exact H9 G (k + 1) (by omega) (by omega) (rg 6) (ht := by have e1 : (C7 p.vars p.arrays d (p.vars.getD e.value.toNat 0) e.kids (k + 1) : Int) = (l0 (C7 p.vars p.arrays d (p.vars.getD e.value.toNat 0) e.kids k) (i9 p.vars p.arrays d (e.kids.getD k cg8))) := (Y5 (by omega)); (first | rw [e1] | simp only [e1]) <;> rfl)
theorem aM1 (p : i5) : ∀ (d : Nat) (e : c6), f8 p.vars.length p.arrays.length d e = true → j8.ok Tryz.prog (V8 159 [pA 0, eA e 3] (pS p ++ eS e) (iA (i9 p.vars p.arrays d e))) := by
 intro d
 induction d with
 | zero => intro e h; simp [f8] at h
 | succ d ih => intro e h; exact bf8 p d ih e h
def S9 (vs ars : List Int) : Nat → c6 → Bool
 | 0, _ => false
 | d + 1, e => (decide (e.kind = 3) && (i7 (i9 vs ars d (e.kids.getD 0 cg8)) && decide (i9 vs ars d (e.kids.getD 0 cg8) % 2 = 1))) || e.kids.any (S9 vs ars d)
section
variable {vs ars : List Int} {d : Nat} {e : c6}
theorem bT6 (k : e.kind = 3) (h : (i7 (i9 vs ars d (e.kids.getD 0 cg8)) && decide (i9 vs ars d (e.kids.getD 0 cg8) % 2 = 1)) = true) : S9 vs ars (d + 1) e = true := by rw [S9, h]; simp [k]
theorem bT7 (h : e.kids.any (S9 vs ars d) = false) (k : ¬ e.kind = 3) : S9 vs ars (d + 1) e = false := by rw [S9, h]; simp [k]
theorem bJ2 (h : e.kids.any (S9 vs ars d) = false) (k : (i7 (i9 vs ars d (e.kids.getD 0 cg8)) && decide (i9 vs ars d (e.kids.getD 0 cg8) % 2 = 1)) = false) : S9 vs ars (d + 1) e = false := by rw [S9, h, k]; simp
end
theorem a89 {α : Type} {l : List α} {k : Nat} {p : α → Bool} {z : α} (h : (l.take k).any p = false) (hk : k < l.length) (hp : p (l.getD k z) = false) : (l.take (k + 1)).any p = false := by
 rw [G5 l k hk, List.any_append, h, ← m0 (d := z) hk, List.any_cons, hp]; rfl
theorem a90 {α : Type} {l : List α} {k : Nat} {p : α → Bool} (h : (l.take k).any p = false) (hk : l.length ≤ k) : l.any p = false := by
 rw [ci6 hk] at h; exact h
theorem bo1 {α : Type} {l : List α} {k : Nat} {p : α → Bool} {z : α} (hk : k < l.length) (hp : p (l.getD k z) = true) : l.any p = true := by
 rw [m0 hk] at hp
 exact List.any_eq_true.2 ⟨_, cj2 hk, hp⟩
theorem a78 (p : i5) (d : Nat) (ih : ∀ (e : c6), f8 p.vars.length p.arrays.length d e = true → j8.ok Tryz.prog (V8 257 [pA 0, eA e 3] (pS p ++ eS e) (bA (S9 p.vars p.arrays d e))))
    (ihl : ∀ (e : c6), f8 p.vars.length p.arrays.length d e = true → j8.ok Tryz.prog (V8 159 [pA 0, eA e 3] (pS p ++ eS e) (iA (i9 p.vars p.arrays d e))))
    (e : c6) (he : f8 p.vars.length p.arrays.length (d + 1) e = true) : j8.ok Tryz.prog (V8 257 [pA 0, eA e 3] (pS p ++ eS e) (bA (S9 p.vars p.arrays (d + 1) e))) := by
  refine E2 32 Tryz.func257 [dI p.vars, dI p.arrays, dT p.body, dE e.kids] [(0, pA 0), (1, eA e 3)] fun G => ?_; have hlen : e.kids.length ≤ 9223372036854775807 := G.len 3 (d := .exprs e.kids) (by kernel_rfl); refine wp_seq (j7 G d9 [0, 1, 2, 3, 4, 12] [dI p.vars, dI p.arrays, dT p.body, dE e.kids, .box (pL 0), .box (eL e 3)] [(2, .ptr 4 0), (3, .ptr 5 0), (4, bA false)] fun G => b6 (wp_seq (wp_seq ?_))); cases h0 : (e.kind == 3)
  ·
   have q0 := ne_of_beq_false h0; refine bq2 G (I5 (fc h0 fz) (us [(4, 10, 0), (1011, 1011, 0)])) [0, 1, 3, 7, 15, 15, 47, 111, 239, 511, 1023, 2047] [(17, bA false)] fun G => b6 (rF G false (by kernel_rfl) (wp_skip (b6 (wp_seq (wp_seq (C6 G d9 [(2, .ptr 4 0), (3, .ptr 5 0), (4, bA false), (5, iA 0)] fun G => b6 (wp_block ?_))))))); refine s6 (κ := Nat) (fun k => k ≤ e.kids.length ∧ (e.kids.take k).any (S9 p.vars p.arrays d) = false) (fun k => e.kids.length - k) (fun k => [dI p.vars, dI p.arrays, dT p.body, dE e.kids, .box (pL 0), .box (eL e 3)]) (fun k => [(2, .ptr 4 0), (3, .ptr 5 0), (4, bA false), (5, iA k)]) 0 (by simp [he, h0]) (t4.at G _ _) ?_; clear G; intro k ρ a w hp G; refine wp_seq (wp_seq (k8 G d9 [(22, bA (decide ((k : Int) < e.kids.length)))] fun G => b6 (Z6 G (fun h2 q2 => ?_) fun h2 q2 => ?_)))
   · refine wp_exit (r7 (r7 (p6 (b6 (wp_seq (j7 G d9 (rg 4) [dI p.vars, dI p.arrays, dT p.body, dE e.kids] [(4, bA false)] fun G => b6 (wp_ret ?_))))))); exact J0 false G (rg 4) (bT7 (a90 hp.2 (by omega)) (by assumption))
   ·
    refine wp_skip (b6 (wp_seq (wp_block (wp_seq (ac9 G (s7 6 [0, 1, 2, 46] (ih (e.kids.getD k cg8) (Z3 he (by omega)))) [0, 0, 2, 0, 14, 30, 63] [(31, bA (S9 p.vars p.arrays d (e.kids.getD k cg8)))] (iX k k e.kids.length []) (iK (by omega) ci3) fun G => b6 (rcB G (fun h3 => ?_) fun h3 => ?_))))))
    · refine wp_skip (k6 (b6 (D0 G d9 [(5, iA ((k : Int) + 1))] [wO ((k : Int) + 1)] (o1 (by omega)) fun G => b6 ?_))); exact H9 G (k + 1) (⟨by omega, a89 hp.2 (by omega) (by assumption)⟩) (by omega) (rg 6)
    · refine wp_seq (k8 G d9 [(4, bA true)] fun G => b6 (wp_ret (z3 (l4 (l4 (z3 (l4 ?_))))))); exact J0 true G (rg 4) (by rw [S9, bo1 (k := k) (by omega) (by assumption), Bool.or_true])
  ·
   have q0 := eq_of_beq h0; refine ac9 G (E9 (t3 9 [0, 1, 2, 70] (ihl (e.kids.getD 0 cg8) (Z3 he (aG8 he (by assumption)))) (t3 10 [] (I8 (i9 p.vars p.arrays d (e.kids.getD 0 cg8))) E8)) (fc h0 fz) (us [(4, 10, 0), (1011, 1011, 0)])) [0, 1, 3, 7, 15, 15, 47, 111, 239, 511, 1023, 2047] [(17, bA (i7 (i9 p.vars p.arrays d (e.kids.getD 0 cg8)) && decide (i9 p.vars p.arrays d (e.kids.getD 0 cg8) % 2 = 1)))] (iX 0 0 e.kids.length []) (iK (by have := aG8 he (by assumption); omega) ci3) fun G => b6 ?_; cases h1 : (i7 (i9 p.vars p.arrays d (e.kids.getD (0 : Nat) cg8)) && decide (i9 p.vars p.arrays d (e.kids.getD (0 : Nat) cg8) % (2 : Int) = 1))
   ·
    have q1 : ((i7 (i9 p.vars p.arrays d (e.kids.getD 0 cg8))) = false) ∨ (¬ (i9 p.vars p.arrays d (e.kids.getD 0 cg8) % 2 = 1)) := Or.imp (fun hq => (hq)) (fun hq => of_decide_eq_false hq) (Bool.and_eq_false_iff.1 h1); refine rF G _ h1 (wp_skip (b6 (wp_seq (wp_seq (C6 G d9 [(2, .ptr 4 0), (3, .ptr 5 0), (4, bA false), (5, iA 0)] fun G => b6 (wp_block ?_)))))); refine s6 (κ := Nat) (fun k => k ≤ e.kids.length ∧ (e.kids.take k).any (S9 p.vars p.arrays d) = false) (fun k => e.kids.length - k) (fun k => [dI p.vars, dI p.arrays, dT p.body, dE e.kids, .box (pL 0), .box (eL e 3)]) (fun k => [(2, .ptr 4 0), (3, .ptr 5 0), (4, bA false), (5, iA k)]) 0 (by simp [he, h0, h1]) (t4.at G _ _) ?_; clear G; intro k ρ a w hp G; refine wp_seq (wp_seq (k8 G d9 [(22, bA (decide ((k : Int) < e.kids.length)))] fun G => b6 (Z6 G (fun h4 q4 => ?_) fun h4 q4 => ?_)))
    · refine wp_exit (r7 (r7 (p6 (b6 (wp_seq (j7 G d9 (rg 4) [dI p.vars, dI p.arrays, dT p.body, dE e.kids] [(4, bA false)] fun G => b6 (wp_ret ?_))))))); exact J0 false G (rg 4) (bJ2 (a90 hp.2 (by omega)) (by assumption))
    ·
     refine wp_skip (b6 (wp_seq (wp_block (wp_seq (ac9 G (s7 6 [0, 1, 2, 46] (ih (e.kids.getD k cg8) (Z3 he (by omega)))) [0, 0, 2, 0, 14, 30, 63] [(31, bA (S9 p.vars p.arrays d (e.kids.getD k cg8)))] (iX k k e.kids.length []) (iK (by omega) ci3) fun G => b6 (rcB G (fun h5 => ?_) fun h5 => ?_))))))
     · refine wp_skip (k6 (b6 (D0 G d9 [(5, iA ((k : Int) + 1))] [wO ((k : Int) + 1)] (o1 (by omega)) fun G => b6 ?_))); exact H9 G (k + 1) (⟨by omega, a89 hp.2 (by omega) (by assumption)⟩) (by omega) (rg 6)
     · refine wp_seq (k8 G d9 [(4, bA true)] fun G => b6 (wp_ret (z3 (l4 (l4 (z3 (l4 ?_))))))); exact J0 true G (rg 4) (by rw [S9, bo1 (k := k) (by omega) (by assumption), Bool.or_true])
   · have q1 : ((i7 (i9 p.vars p.arrays d (e.kids.getD 0 cg8))) = true) ∧ (i9 p.vars p.arrays d (e.kids.getD 0 cg8) % 2 = 1) := And.imp (fun hq => (hq)) (fun hq => of_decide_eq_true hq) (Bool.and_eq_true_iff.1 h1); refine rT G _ h1 (wp_seq (k8 G d9 [(4, bA true)] fun G => b6 (wp_ret (l4 ?_)))); exact J0 true G (rg 4) (bT6 (by assumption) (by assumption))
def flB (x y : Int) : Bool := i7 x && i7 y && (l0 x y == y)
abbrev m5 (p : i5) (e : c6) : Int := i9 p.vars p.arrays 5 e
def ac0 (x : Int) : Bool := i7 x && decide (x % 2 = 1)
def Q4 (p : i5) (s : c5) (pc : Int) : Int :=
 if s.kind = 1 then if flB (l0 (m5 p s.value) pc) (p.vars.getD s.target.toNat 0) then 0 else 1
 else if s.kind = 2 then if flB (l0 (l0 (m5 p s.value) (m5 p s.index)) pc) (p.arrays.getD s.target.toNat 0) then 0 else 1
 else if s.kind = 5 then if (i7 (m5 p s.value) && decide (m5 p s.value ≤ 1)) && decide (pc = 0) then 0 else 2
 else 0
def ao0 (p : i5) (s : c5) : Int :=
 if s.kind = 3 ∧ ac0 (m5 p s.value) = true then 3
 else if (s.kind ≠ 4 ∧ S9 p.vars p.arrays 5 s.value = true) ∨ (s.kind = 2 ∧ ac0 (m5 p s.index) = true) then 4 else 0
def aa8 (p : i5) (s : c5) (pc : Int) (strict : Bool) : Int := if Q4 p s pc = 0 then (if strict then ao0 p s else 0) else Q4 p s pc
theorem M6 (p : i5) (e : c6) (he : f8 p.vars.length p.arrays.length 5 e = true) : j8.ok Tryz.prog (V8 159 [pA 0, eA e 3] (pS p ++ eS e) (iA (m5 p e))) := aM1 p 5 e he
theorem a79 (p : i5) : ∀ (d : Nat) (e : c6), f8 p.vars.length p.arrays.length d e = true → j8.ok Tryz.prog (V8 257 [pA 0, eA e 3] (pS p ++ eS e) (bA (S9 p.vars p.arrays d e))) := by
 intro d
 induction d with
 | zero => intro e h; simp [f8] at h
 | succ d ih => intro e h; exact a78 p d ih (aM1 p d) e h
theorem E5 (p : i5) (e : c6) (he : f8 p.vars.length p.arrays.length 5 e = true) : j8.ok Tryz.prog (V8 257 [pA 0, eA e 3] (pS p ++ eS e) (bA (S9 p.vars p.arrays 5 e))) := a79 p 5 e he
section
variable {nv na : Nat} {s : c5}
theorem aj1 {e : c6} (h : r9 nv na e = true) : f8 nv na 5 e = true := by unfold r9 at h; simp only [ch0] at h; exact h.1
variable (h : D2 nv na s = true)
include h
theorem z7 (k : ¬ s.kind = 4) : f8 nv na 5 s.value = true := by
 apply aj1
 by_cases k1 : s.kind = 1 ∨ s.kind = 5
 ·rw [bD0 k1] at h; simp only [ch0] at h; exact h.2.2
 by_cases k2 : s.kind = 2
 ·rw [a59 k2] at h; simp only [ch0] at h; exact h.2.2.2
 by_cases k3 : s.kind = 3
 ·rw [bR5 k3] at h; simp only [ch0] at h; exact h.2.2
 ·rw [ao1 (by omega)] at h; cases h
theorem aK5 (k : s.kind = 2) : f8 nv na 5 s.index = true := by
 rw [a59 k] at h; simp only [ch0] at h; exact aj1 h.2.1
theorem aK4 (k : s.kind = 1 ∨ s.kind = 5) : 0 ≤ s.target ∧ s.target < nv ∧ s.target.toNat < nv := by
 rw [bD0 k] at h; simp only [ch0, decide_eq_true_eq] at h; omega
theorem aK6 (k : s.kind = 2) : 0 ≤ s.target ∧ s.target < na ∧ s.target.toNat < na := by
 rw [a59 k] at h; simp only [ch0, decide_eq_true_eq] at h; omega
end
section
variable {p : i5} {s : c5} {pc : Int} {strict : Bool} {x : Int}
theorem as5 (h : Q4 p s pc = x) (hx : x ≠ 0) : aa8 p s pc strict = x := by rw [aa8, h, if_neg hx]
theorem aj6 (h : Q4 p s pc = 0) : aa8 p s pc false = 0 := by rw [aa8, h]; rfl
theorem z6 (h : Q4 p s pc = 0) (hl : ao0 p s = x) : aa8 p s pc true = x := by rw [aa8, h, hl]; rfl
theorem bX8 (k : s.kind = 1) (h : (!(i7 (l0 (m5 p s.value) pc) && i7 (p.vars.getD s.target.toNat 0) && (l0 (l0 (m5 p s.value) pc) (p.vars.getD s.target.toNat 0) == (p.vars.getD s.target.toNat 0)))) = false) : Q4 p s pc = 0 := by rw [Q4, if_pos k, if_pos (by unfold flB; first | (rw [cj6] at h; exact h) | (rw [ci9] at h; rw [h]; simp))]
theorem cg1 (k : s.kind = 1) (h : (!(i7 (l0 (m5 p s.value) pc) && i7 (p.vars.getD s.target.toNat 0) && (l0 (l0 (m5 p s.value) pc) (p.vars.getD s.target.toNat 0) == (p.vars.getD s.target.toNat 0)))) = true) : Q4 p s pc = 1 := by rw [Q4, if_pos k, if_neg (by unfold flB; first | (rw [cj6] at h; exact h) | (rw [ci9] at h; rw [h]; simp))]
theorem bM7 (k : s.kind = 2) (h : (!(i7 (l0 (l0 (m5 p s.value) (m5 p s.index)) pc) && i7 (p.arrays.getD s.target.toNat 0) && (l0 (l0 (l0 (m5 p s.value) (m5 p s.index)) pc) (p.arrays.getD s.target.toNat 0) == (p.arrays.getD s.target.toNat 0)))) = false) : Q4 p s pc = 0 := by rw [Q4, if_neg (by omega), if_pos k, if_pos (by unfold flB; first | (rw [cj6] at h; exact h) | (rw [ci9] at h; rw [h]; simp))]
theorem cg0 (k : s.kind = 2) (h : (!(i7 (l0 (l0 (m5 p s.value) (m5 p s.index)) pc) && i7 (p.arrays.getD s.target.toNat 0) && (l0 (l0 (l0 (m5 p s.value) (m5 p s.index)) pc) (p.arrays.getD s.target.toNat 0) == (p.arrays.getD s.target.toNat 0)))) = true) : Q4 p s pc = 1 := by rw [Q4, if_neg (by omega), if_pos k, if_neg (by unfold flB; first | (rw [cj6] at h; exact h) | (rw [ci9] at h; rw [h]; simp))]
theorem bX7 (k : s.kind = 5) (h : (!(i7 (m5 p s.value) && decide (m5 p s.value ≤ 1))) = false) (h2 : pc = 0) : Q4 p s pc = 0 := by
 rw [cj6] at h
 rw [Q4, if_neg (by omega), if_neg (by omega), if_pos k, h, decide_eq_true h2]; rfl
theorem b79 (k : s.kind = 5) (h : (!(i7 (m5 p s.value) && decide (m5 p s.value ≤ 1))) = true ∨ ¬ pc = 0) : Q4 p s pc = 2 := by
 rw [Q4, if_neg (by omega), if_neg (by omega), if_pos k]
 rcases h with h | h
 ·rw [ci9] at h
  rw [h]; rfl
 ·rw [decide_eq_false h, Bool.and_false]; rfl
theorem fl0 (k : ¬ s.kind = 1 ∧ ¬ s.kind = 2 ∧ ¬ s.kind = 5) : Q4 p s pc = 0 := by rw [Q4, if_neg k.1, if_neg k.2.1, if_neg k.2.2]
theorem lk3 (k : s.kind = 3) (h : (i7 (m5 p s.value) && decide (m5 p s.value % 2 = 1)) = true) : ao0 p s = 3 := by rw [ao0, if_pos ⟨k, (show ac0 _ = true from h)⟩]
theorem lkv (h3 : ¬ s.kind = 3 ∨ (i7 (m5 p s.value) && decide (m5 p s.value % 2 = 1)) = false) (k : ¬ s.kind = 4) (h : S9 p.vars p.arrays 5 s.value = true) : ao0 p s = 4 := by
 rw [ao0, if_neg (by rintro ⟨a, b⟩; exact h3.elim (fun h => h a) (fun h => Bool.false_ne_true (h.symm.trans b))), if_pos (.inl ⟨k, h⟩)]
theorem lki (k : s.kind = 2) (h : (i7 (m5 p s.index) && decide (m5 p s.index % 2 = 1)) = true) : ao0 p s = 4 := by
 rw [ao0, if_neg (by omega), if_pos (.inr ⟨k, (show ac0 _ = true from h)⟩)]
theorem lk0 (h3 : ¬ s.kind = 3 ∨ (i7 (m5 p s.value) && decide (m5 p s.value % 2 = 1)) = false) (h4 : s.kind = 4 ∨ S9 p.vars p.arrays 5 s.value = false) (h2 : ¬ s.kind = 2 ∨ (i7 (m5 p s.index) && decide (m5 p s.index % 2 = 1)) = false) : ao0 p s = 0 := by
 rw [ao0, if_neg (by rintro ⟨a, b⟩; exact h3.elim (fun h => h a) (fun h => Bool.false_ne_true (h.symm.trans b))), if_neg]
 rintro (⟨a, b⟩ | ⟨a, b⟩)
 ·rcases h4 with h | h
  ·exact a h
  ·rw [h] at b; cases b
 ·rcases h2 with h | h
  ·exact h a
  ·exact Bool.false_ne_true (h.symm.trans b)
end
abbrev R5 (p : i5) (s : c5) (r0 : List It) : List It := dI p.vars :: dI p.arrays :: dT p.body :: dE s.index.kids :: dE s.value.kids :: dT s.body :: dT s.els :: r0
theorem bO5 (p : i5) (s : c5) (pc : Int) (strict : Bool) (h : D2 p.vars.length p.arrays.length s = true) : j8.ok Tryz.prog (V8 241 [pA 0, sA s 3, iA pc, bA strict] (pS p ++ sS s) (iA (aa8 p s pc strict))) := by
  refine E2 94 Tryz.func241 (R5 p s []) [(0, pA 0), (1, sA s 3), (2, iA pc), (3, bA strict)] fun G => ?_; refine wp_seq (j7 G d9 [0, 1, 2, 3, 4, 5, 6, 7, 15] (R5 p s [.box (pL 0), .box (sL s 3)]) [(2, iA pc), (3, bA strict), (4, .ptr 7 0), (5, .ptr 8 0), (8, iA 0)] fun G => b6 (wp_seq (wp_seq (k8 G d9 [(10, iA s.kind)] fun G => b6 (wp_block (wp_seq (k8 G d9 [(11, bA (s.kind == 1))] fun G => b6 (J1 G (fun h0 q0 => ?_) fun h0 q0 => ?_))))))))
  ·
   refine wp_seq (k8 G d9 [(27, bA (s.kind == 2))] fun G => b6 (J1 G (fun h1 q1 => ?_) fun h1 q1 => ?_))
   ·
    refine wp_seq (k8 G d9 [(48, bA (s.kind == 5))] fun G => b6 (J1 G (fun h2 q2 => ?_) fun h2 q2 => ?_))
    ·
     refine wp_seq (k8 G d9 [(60, bA (s.kind == 3))] fun G => b6 (J1 G (fun h3 q3 => ?_) fun h3 q3 => ?_))
     ·
      refine wp_skip (k6 (b6 (wp_seq (wp_seq ?_)))); cases h4 : (strict)
      · refine j7 G (I5 (fc h4 fz) (us [(2, 5, 0), (10, 11, 0), (22, 22, 0), (1023, 1023, 0)])) (rg 7) (R5 p s []) [(8, iA 0), (93, bA false)] fun G => b6 (rF G false (by kernel_rfl) (wp_skip (b6 (wp_seq (k8 G d9 [] fun G => b6 (wp_ret ?_)))))); exact rxI 0 G (rg 7) (aj6 (fl0 (by omega)))
      ·
       cases h5 : (s.kind != 4)
       · have q5 := bne_eq_false_iff_eq.1 h5; refine j7 G (I5 (fc h4 (fc h5 (fc (b := false) rfl (fc h1 fz)))) (us [(2, 5, 0), (6, 9, 1), (10, 10, 0), (1010, 1010, 1), (11, 11, 0), (12, 15, 2), (16, 20, 3), (21, 21, 2), (1021, 1021, 3), (22, 22, 0), (1022, 1022, 2), (1023, 1023, 0)])) (rg 7) (R5 p s []) [(8, iA 0), (93, bA false)] fun G => b6 (rF G false (by kernel_rfl) (wp_skip (b6 (wp_seq (k8 G d9 [] fun G => b6 (wp_ret ?_)))))); exact rxI 0 G (rg 7) (z6 (fl0 (by omega)) (lk0 (by exact .inl (by omega)) (by exact .inl (by omega)) (by exact .inl (by omega))))
       ·
        have q5 := bne_iff_ne.1 h5; cases h6 : (S9 p.vars p.arrays (5 : Nat) s.value)
        · refine j7 G (E9 (t3 9 [0, 1, 2, 4] (E5 p s.value (z7 h (by omega))) E8) (fc h4 (fc h5 (fc h6 (fc h1 fz)))) (us [(2, 5, 0), (6, 9, 1), (10, 10, 0), (1010, 1010, 1), (11, 11, 0), (12, 15, 2), (16, 20, 3), (21, 21, 2), (1021, 1021, 3), (22, 22, 0), (1022, 1022, 2), (1023, 1023, 0)])) (rg 7) (R5 p s []) [(8, iA 0), (93, bA false)] fun G => b6 (rF G false (by kernel_rfl) (wp_skip (b6 (wp_seq (k8 G d9 [] fun G => b6 (wp_ret ?_)))))); exact rxI 0 G (rg 7) (z6 (fl0 (by omega)) (lk0 (by exact .inl (by omega)) (by exact .inr (by with_reducible assumption)) (by exact .inl (by omega))))
        · refine j7 G (E9 (t3 9 [0, 1, 2, 4] (E5 p s.value (z7 h (by omega))) E8) (fc h4 (fc h5 (fc h6 fz))) (us [(2, 5, 0), (6, 9, 1), (10, 10, 0), (1010, 1010, 1), (11, 11, 0), (12, 15, 2), (21, 21, 2), (22, 22, 0), (1022, 1022, 2), (1023, 1023, 0)])) (rg 7) (R5 p s []) [(8, iA 0), (93, bA true)] fun G => b6 (rT G true (by kernel_rfl) (wp_seq (k8 G d9 [(8, iA 4)] fun G => b6 (wp_ret (l4 ?_))))); exact rxI 4 G (rg 7) (z6 (fl0 (by omega)) (lkv (by exact .inl (by omega)) (by omega) (by with_reducible assumption)))
     ·
      refine wp_seq ?_; cases h7 : (strict)
      · refine k8 G (I5 (fc h7 fz) (us [(2, 6, 0), (1007, 1007, 0)])) [(69, bA false)] fun G => b6 (rF G false (by kernel_rfl) (wp_skip (k6 (b6 (wp_seq (wp_seq (j7 G (I5 (fc h7 fz) (us [(2, 5, 0), (10, 11, 0), (22, 22, 0), (1023, 1023, 0)])) (rg 7) (R5 p s []) [(8, iA 0), (93, bA false)] fun G => b6 (rF G false (by kernel_rfl) (wp_skip (b6 (wp_seq (k8 G d9 [] fun G => b6 (wp_ret ?_))))))))))))); exact rxI 0 G (rg 7) (aj6 (fl0 (by omega)))
      ·
       refine C6 G (E9 (t3 5 [0, 1, 2, 4] (M6 p s.value (z7 h (by omega))) (t3 6 [] (I8 (m5 p s.value)) E8)) (fc h7 fz) (us [(2, 6, 0), (1007, 1007, 0)])) [(3, bA strict), (4, .ptr 7 0), (5, .ptr 8 0), (8, iA 0), (69, bA (i7 (m5 p s.value) && decide (m5 p s.value % 2 = 1)))] fun G => b6 ?_; cases h8 : (i7 (m5 p s.value) && decide (m5 p s.value % (2 : Int) = 1))
       ·
        have q8 : ((i7 (m5 p s.value)) = false) ∨ (¬ (m5 p s.value % 2 = 1)) := Or.imp (fun hq => (hq)) (fun hq => of_decide_eq_false hq) (Bool.and_eq_false_iff.1 h8); refine rF G _ h8 (wp_skip (k6 (b6 (wp_seq (wp_seq ?_))))); cases h9 : (s.kind != 4)
        · have q9 := bne_eq_false_iff_eq.1 h9; exact False.elim (by omega)
        ·
         have q9 := bne_iff_ne.1 h9; cases h10 : (S9 p.vars p.arrays (5 : Nat) s.value)
         · refine j7 G (E9 (t3 9 [0, 1, 2, 4] (E5 p s.value (z7 h (by omega))) E8) (fc h7 (fc h9 (fc h10 (fc h1 fz)))) (us [(2, 5, 0), (6, 9, 1), (10, 10, 0), (1010, 1010, 1), (11, 11, 0), (12, 15, 2), (16, 20, 3), (21, 21, 2), (1021, 1021, 3), (22, 22, 0), (1022, 1022, 2), (1023, 1023, 0)])) (rg 7) (R5 p s []) [(8, iA 0), (93, bA false)] fun G => b6 (rF G false (by kernel_rfl) (wp_skip (b6 (wp_seq (k8 G d9 [] fun G => b6 (wp_ret ?_)))))); exact rxI 0 G (rg 7) (z6 (fl0 (by omega)) (lk0 (by exact .inr (by with_reducible assumption)) (by exact .inr (by with_reducible assumption)) (by exact .inl (by omega))))
         · refine j7 G (E9 (t3 9 [0, 1, 2, 4] (E5 p s.value (z7 h (by omega))) E8) (fc h7 (fc h9 (fc h10 fz))) (us [(2, 5, 0), (6, 9, 1), (10, 10, 0), (1010, 1010, 1), (11, 11, 0), (12, 15, 2), (21, 21, 2), (22, 22, 0), (1022, 1022, 2), (1023, 1023, 0)])) (rg 7) (R5 p s []) [(8, iA 0), (93, bA true)] fun G => b6 (rT G true (by kernel_rfl) (wp_seq (k8 G d9 [(8, iA 4)] fun G => b6 (wp_ret (l4 ?_))))); exact rxI 4 G (rg 7) (z6 (fl0 (by omega)) (lkv (by exact .inr (by with_reducible assumption)) (by omega) (by with_reducible assumption)))
       · have q8 : ((i7 (m5 p s.value)) = true) ∧ (m5 p s.value % 2 = 1) := And.imp (fun hq => (hq)) (fun hq => of_decide_eq_true hq) (Bool.and_eq_true_iff.1 h8); refine rT G _ h8 (wp_seq (k8 G d9 [(8, iA 3)] fun G => b6 (wp_ret (z3 (l4 ?_))))); exact rxI 3 G (rg 7) (z6 (fl0 (by omega)) (lk3 (by with_reducible assumption) (by with_reducible assumption)))
    ·
     refine wp_seq ?_; cases h11 : (!(i7 (m5 p s.value) && decide (m5 p s.value ≤ 1)))
     ·
      have q11 : ((i7 (m5 p s.value)) = true) ∧ (m5 p s.value ≤ 1) := (fun hq => And.imp (fun hq => (hq)) (fun hq => of_decide_eq_true hq) (Bool.and_eq_true_iff.1 hq)) (Eq.mp (cj6 _) h11); refine C6 G (E9 (t3 3 [0, 1, 2, 4] (M6 p s.value (z7 h (by omega))) (t3 4 [] (ak7 (m5 p s.value)) E8)) (fc h11 fz) [(7, 0), (8, 0), (1009, 0)]) [(3, bA strict), (4, .ptr 7 0), (5, .ptr 8 0), (8, iA 0), (59, bA (pc != 0))] fun G => b6 (rcN G (fun h12 q12 => ?_) fun h12 q12 => ?_)
      ·
       refine wp_skip (k6 (b6 (wp_seq (wp_seq ?_)))); cases h13 : (strict)
       · refine j7 G (I5 (fc h13 fz) (us [(2, 5, 0), (10, 11, 0), (22, 22, 0), (1023, 1023, 0)])) (rg 7) (R5 p s []) [(8, iA 0), (93, bA false)] fun G => b6 (rF G false (by kernel_rfl) (wp_skip (b6 (wp_seq (k8 G d9 [] fun G => b6 (wp_ret ?_)))))); exact rxI 0 G (rg 7) (aj6 (bX7 (by with_reducible assumption) (by with_reducible assumption) (by with_reducible assumption)))
       ·
        cases h14 : (s.kind != 4)
        · have q14 := bne_eq_false_iff_eq.1 h14; exact False.elim (by omega)
        ·
         have q14 := bne_iff_ne.1 h14; cases h15 : (S9 p.vars p.arrays (5 : Nat) s.value)
         · refine j7 G (E9 (t3 9 [0, 1, 2, 4] (E5 p s.value (z7 h (by omega))) E8) (fc h13 (fc h14 (fc h15 (fc h1 fz)))) (us [(2, 5, 0), (6, 9, 1), (10, 10, 0), (1010, 1010, 1), (11, 11, 0), (12, 15, 2), (16, 20, 3), (21, 21, 2), (1021, 1021, 3), (22, 22, 0), (1022, 1022, 2), (1023, 1023, 0)])) (rg 7) (R5 p s []) [(8, iA 0), (93, bA false)] fun G => b6 (rF G false (by kernel_rfl) (wp_skip (b6 (wp_seq (k8 G d9 [] fun G => b6 (wp_ret ?_)))))); exact rxI 0 G (rg 7) (z6 (bX7 (by with_reducible assumption) (by with_reducible assumption) (by with_reducible assumption)) (lk0 (by exact .inl (by omega)) (by exact .inr (by with_reducible assumption)) (by exact .inl (by omega))))
         · refine j7 G (E9 (t3 9 [0, 1, 2, 4] (E5 p s.value (z7 h (by omega))) E8) (fc h13 (fc h14 (fc h15 fz))) (us [(2, 5, 0), (6, 9, 1), (10, 10, 0), (1010, 1010, 1), (11, 11, 0), (12, 15, 2), (21, 21, 2), (22, 22, 0), (1022, 1022, 2), (1023, 1023, 0)])) (rg 7) (R5 p s []) [(8, iA 0), (93, bA true)] fun G => b6 (rT G true (by kernel_rfl) (wp_seq (k8 G d9 [(8, iA 4)] fun G => b6 (wp_ret (l4 ?_))))); exact rxI 4 G (rg 7) (z6 (bX7 (by with_reducible assumption) (by with_reducible assumption) (by with_reducible assumption)) (lkv (by exact .inl (by omega)) (by omega) (by with_reducible assumption)))
      · refine wp_seq (k8 G d9 [(8, iA 2)] fun G => b6 (wp_ret (z3 (l4 ?_)))); exact rxI 2 G (rg 7) (as5 (b79 (by with_reducible assumption) (.inr (by with_reducible assumption))) (by decide))
     · have q11 : ((i7 (m5 p s.value)) = false) ∨ (¬ (m5 p s.value ≤ 1)) := (fun hq => Or.imp (fun hq => (hq)) (fun hq => of_decide_eq_false hq) (Bool.and_eq_false_iff.1 hq)) (Eq.mp (ci9 _) h11); refine k8 G (E9 (t3 3 [0, 1, 2, 4] (M6 p s.value (z7 h (by omega))) (t3 4 [] (ak7 (m5 p s.value)) E8)) (fc h11 fz) [(7, 0), (8, 0), (1009, 0)]) [(59, bA true)] fun G => b6 (rT G true (by kernel_rfl) (wp_seq (k8 G d9 [(8, iA 2)] fun G => b6 (wp_ret (z3 (l4 ?_)))))); exact rxI 2 G (rg 7) (as5 (b79 (by with_reducible assumption) (.inl (by with_reducible assumption))) (by decide))
   ·
    refine wp_seq (bU7 G (E9 (t3 3 [0, 1, 2, 4] (M6 p s.value (z7 h (by omega))) (t3 7 (rg 4) (M6 p s.index (aK5 h (by with_reducible assumption))) (t3 17 [] (au1 (l0 (l0 (m5 p s.value) (m5 p s.index)) pc) (p.arrays.getD s.target.toNat 0)) E8))) fz []) [0, 0, 2, 7, 0, 0, 32, 127, 255, 0, 1023, 0, 2048, 0, 8192, 30720, 63488, 131071, 262143] [(3, bA strict), (4, .ptr 7 0), (5, .ptr 8 0), (8, iA 0), (47, .v (.bool !(i7 (l0 (l0 (m5 p s.value) (m5 p s.index)) pc) && i7 (p.arrays.getD s.target.toNat 0) && l0 (l0 (l0 (m5 p s.value) (m5 p s.index)) pc) (p.arrays.getD s.target.toNat 0) == p.arrays.getD s.target.toNat 0)))] [(0 : Int) ≤ s.target, s.target < (p.arrays.length : Int), s.target.toNat < p.arrays.length] ⟨((aK6 h (by omega)).1), ((aK6 h (by omega)).2.1), ((aK6 h (by omega)).2.2), ci3⟩ fun G => b6 ?_); cases h16 : (!(i7 (l0 (l0 (m5 p s.value) (m5 p s.index)) pc) && i7 (p.arrays.getD s.target.toNat (0 : Int)) && l0 (l0 (l0 (m5 p s.value) (m5 p s.index)) pc) (p.arrays.getD s.target.toNat (0 : Int)) == p.arrays.getD s.target.toNat (0 : Int)))
    ·
     have q16 : (((i7 (l0 (l0 (m5 p s.value) (m5 p s.index)) pc)) = true) ∧ ((i7 (p.arrays.getD s.target.toNat 0)) = true)) ∧ (l0 (l0 (l0 (m5 p s.value) (m5 p s.index)) pc) (p.arrays.getD s.target.toNat 0) = p.arrays.getD s.target.toNat 0) := (fun hq => And.imp (fun hq => And.imp (fun hq => (hq)) (fun hq => (hq)) (Bool.and_eq_true_iff.1 hq)) (fun hq => eq_of_beq hq) (Bool.and_eq_true_iff.1 hq)) (Eq.mp (cj6 _) h16); refine rF G _ h16 (wp_skip (k6 (b6 (wp_seq (wp_seq ?_))))); cases h17 : (strict)
     · refine j7 G (I5 (fc h17 fz) (us [(2, 5, 0), (10, 11, 0), (22, 22, 0), (1023, 1023, 0)])) (rg 7) (R5 p s []) [(8, iA 0), (93, bA false)] fun G => b6 (rF G false (by kernel_rfl) (wp_skip (b6 (wp_seq (k8 G d9 [] fun G => b6 (wp_ret ?_)))))); exact rxI 0 G (rg 7) (aj6 (bM7 (by with_reducible assumption) (by with_reducible assumption)))
     ·
      cases h18 : (s.kind != 4)
      · have q18 := bne_eq_false_iff_eq.1 h18; exact False.elim (by omega)
      ·
       have q18 := bne_iff_ne.1 h18; cases h19 : (S9 p.vars p.arrays (5 : Nat) s.value)
       ·
        refine j7 G (E9 (t3 9 [0, 1, 2, 4] (E5 p s.value (z7 h (by omega))) (t3 19 (rg 4) (M6 p s.index (aK5 h (by with_reducible assumption))) (t3 20 [] (I8 (m5 p s.index)) E8))) (fc h17 (fc h18 (fc h19 (fc h1 fz)))) (us [(2, 5, 0), (6, 9, 1), (10, 10, 0), (1010, 1010, 1), (11, 11, 0), (12, 15, 2), (16, 20, 3), (21, 21, 2), (1021, 1021, 3), (22, 22, 0), (1022, 1022, 2), (1023, 1023, 0)])) (rg 7) (R5 p s []) [(8, iA 0), (93, bA (i7 (m5 p s.index) && decide (m5 p s.index % 2 = 1)))] fun G => b6 ?_; cases h20 : (i7 (m5 p s.index) && decide (m5 p s.index % (2 : Int) = 1))
        · have q20 : ((i7 (m5 p s.index)) = false) ∨ (¬ (m5 p s.index % 2 = 1)) := Or.imp (fun hq => (hq)) (fun hq => of_decide_eq_false hq) (Bool.and_eq_false_iff.1 h20); refine rF G _ h20 (wp_skip (b6 (wp_seq (k8 G d9 [] fun G => b6 (wp_ret ?_))))); exact rxI 0 G (rg 7) (z6 (bM7 (by with_reducible assumption) (by with_reducible assumption)) (lk0 (by exact .inl (by omega)) (by exact .inr (by with_reducible assumption)) (by exact .inr (by with_reducible assumption))))
        · have q20 : ((i7 (m5 p s.index)) = true) ∧ (m5 p s.index % 2 = 1) := And.imp (fun hq => (hq)) (fun hq => of_decide_eq_true hq) (Bool.and_eq_true_iff.1 h20); refine rT G _ h20 (wp_seq (k8 G d9 [(8, iA 4)] fun G => b6 (wp_ret (l4 ?_)))); exact rxI 4 G (rg 7) (z6 (bM7 (by with_reducible assumption) (by with_reducible assumption)) (lki (by with_reducible assumption) (by with_reducible assumption)))
       · refine j7 G (E9 (t3 9 [0, 1, 2, 4] (E5 p s.value (z7 h (by omega))) E8) (fc h17 (fc h18 (fc h19 fz))) (us [(2, 5, 0), (6, 9, 1), (10, 10, 0), (1010, 1010, 1), (11, 11, 0), (12, 15, 2), (21, 21, 2), (22, 22, 0), (1022, 1022, 2), (1023, 1023, 0)])) (rg 7) (R5 p s []) [(8, iA 0), (93, bA true)] fun G => b6 (rT G true (by kernel_rfl) (wp_seq (k8 G d9 [(8, iA 4)] fun G => b6 (wp_ret (l4 ?_))))); exact rxI 4 G (rg 7) (z6 (bM7 (by with_reducible assumption) (by with_reducible assumption)) (lkv (by exact .inl (by omega)) (by omega) (by with_reducible assumption)))
    · have q16 : (((i7 (l0 (l0 (m5 p s.value) (m5 p s.index)) pc)) = false) ∨ ((i7 (p.arrays.getD s.target.toNat 0)) = false)) ∨ (¬ (l0 (l0 (l0 (m5 p s.value) (m5 p s.index)) pc) (p.arrays.getD s.target.toNat 0) = p.arrays.getD s.target.toNat 0)) := (fun hq => Or.imp (fun hq => Or.imp (fun hq => (hq)) (fun hq => (hq)) (Bool.and_eq_false_iff.1 hq)) (fun hq => ne_of_beq_false hq) (Bool.and_eq_false_iff.1 hq)) (Eq.mp (ci9 _) h16); refine rT G _ h16 (wp_seq (k8 G d9 [(8, iA 1)] fun G => b6 (wp_ret (z3 (l4 ?_))))); exact rxI 1 G (rg 7) (as5 (cg0 (by with_reducible assumption) (by with_reducible assumption)) (by decide))
  ·
   refine wp_seq (bU7 G (E9 (t3 3 [0, 1, 2, 4] (M6 p s.value (z7 h (by omega))) (t3 12 [] (au1 (l0 (m5 p s.value) pc) (p.vars.getD s.target.toNat 0)) E8)) fz []) [0, 0, 2, 7, 0, 31, 0, 64, 0, 256, 960, 1984, 4095, 8191] [(3, bA strict), (4, .ptr 7 0), (5, .ptr 8 0), (8, iA 0), (26, .v (.bool !(i7 (l0 (m5 p s.value) pc) && i7 (p.vars.getD s.target.toNat 0) && l0 (l0 (m5 p s.value) pc) (p.vars.getD s.target.toNat 0) == p.vars.getD s.target.toNat 0)))] [(0 : Int) ≤ s.target, s.target < (p.vars.length : Int), s.target.toNat < p.vars.length] ⟨((aK4 h (by omega)).1), ((aK4 h (by omega)).2.1), ((aK4 h (by omega)).2.2), ci3⟩ fun G => b6 ?_); cases h21 : (!(i7 (l0 (m5 p s.value) pc) && i7 (p.vars.getD s.target.toNat (0 : Int)) && l0 (l0 (m5 p s.value) pc) (p.vars.getD s.target.toNat (0 : Int)) == p.vars.getD s.target.toNat (0 : Int)))
   ·
    have q21 : (((i7 (l0 (m5 p s.value) pc)) = true) ∧ ((i7 (p.vars.getD s.target.toNat 0)) = true)) ∧ (l0 (l0 (m5 p s.value) pc) (p.vars.getD s.target.toNat 0) = p.vars.getD s.target.toNat 0) := (fun hq => And.imp (fun hq => And.imp (fun hq => (hq)) (fun hq => (hq)) (Bool.and_eq_true_iff.1 hq)) (fun hq => eq_of_beq hq) (Bool.and_eq_true_iff.1 hq)) (Eq.mp (cj6 _) h21); refine rF G _ h21 (wp_skip (k6 (b6 (wp_seq (wp_seq ?_))))); cases h22 : (strict)
    · refine j7 G (I5 (fc h22 fz) (us [(2, 5, 0), (10, 11, 0), (22, 22, 0), (1023, 1023, 0)])) (rg 7) (R5 p s []) [(8, iA 0), (93, bA false)] fun G => b6 (rF G false (by kernel_rfl) (wp_skip (b6 (wp_seq (k8 G d9 [] fun G => b6 (wp_ret ?_)))))); exact rxI 0 G (rg 7) (aj6 (bX8 (by with_reducible assumption) (by with_reducible assumption)))
    ·
     cases h23 : (s.kind != 4)
     · have q23 := bne_eq_false_iff_eq.1 h23; exact False.elim (by omega)
     ·
      have q23 := bne_iff_ne.1 h23; cases h24 : (S9 p.vars p.arrays (5 : Nat) s.value)
      ·
       cases h25 : (s.kind == 2)
       · have q25 := ne_of_beq_false h25; refine j7 G (E9 (t3 9 [0, 1, 2, 4] (E5 p s.value (z7 h (by omega))) E8) (fc h22 (fc h23 (fc h24 (fc h25 fz)))) (us [(2, 5, 0), (6, 9, 1), (10, 10, 0), (1010, 1010, 1), (11, 11, 0), (12, 15, 2), (16, 20, 3), (21, 21, 2), (1021, 1021, 3), (22, 22, 0), (1022, 1022, 2), (1023, 1023, 0)])) (rg 7) (R5 p s []) [(8, iA 0), (93, bA false)] fun G => b6 (rF G false (by kernel_rfl) (wp_skip (b6 (wp_seq (k8 G d9 [] fun G => b6 (wp_ret ?_)))))); exact rxI 0 G (rg 7) (z6 (bX8 (by with_reducible assumption) (by with_reducible assumption)) (lk0 (by exact .inl (by omega)) (by exact .inr (by with_reducible assumption)) (by exact .inl (by omega))))
       · have q25 := eq_of_beq h25; exact False.elim (by omega)
      · refine j7 G (E9 (t3 9 [0, 1, 2, 4] (E5 p s.value (z7 h (by omega))) E8) (fc h22 (fc h23 (fc h24 fz))) (us [(2, 5, 0), (6, 9, 1), (10, 10, 0), (1010, 1010, 1), (11, 11, 0), (12, 15, 2), (21, 21, 2), (22, 22, 0), (1022, 1022, 2), (1023, 1023, 0)])) (rg 7) (R5 p s []) [(8, iA 0), (93, bA true)] fun G => b6 (rT G true (by kernel_rfl) (wp_seq (k8 G d9 [(8, iA 4)] fun G => b6 (wp_ret (l4 ?_))))); exact rxI 4 G (rg 7) (z6 (bX8 (by with_reducible assumption) (by with_reducible assumption)) (lkv (by exact .inl (by omega)) (by omega) (by with_reducible assumption)))
   · have q21 : (((i7 (l0 (m5 p s.value) pc)) = false) ∨ ((i7 (p.vars.getD s.target.toNat 0)) = false)) ∨ (¬ (l0 (l0 (m5 p s.value) pc) (p.vars.getD s.target.toNat 0) = p.vars.getD s.target.toNat 0)) := (fun hq => Or.imp (fun hq => Or.imp (fun hq => (hq)) (fun hq => (hq)) (Bool.and_eq_false_iff.1 hq)) (fun hq => ne_of_beq_false hq) (Bool.and_eq_false_iff.1 hq)) (Eq.mp (ci9 _) h21); refine rT G _ h21 (wp_seq (k8 G d9 [(8, iA 1)] fun G => b6 (wp_ret (z3 (l4 ?_))))); exact rxI 1 G (rg 7) (as5 (cg1 (by with_reducible assumption) (by with_reducible assumption)) (by decide))
def D8 (F : Nat → c5 → Int × Nat) : Nat → List c5 → Int × Nat
 | c, [] => (0, c)
 | c, s :: r => if (F c s).1 = 0 then D8 F (F c s).2 r else F c s
def ak0 (p : i5) (s : c5) (pc : Int) : Int := if s.kind = 3 then l0 pc (m5 p s.value) else pc
def stC (p : i5) (strict : Bool) : Nat → Int → Nat → c5 → Int × Nat
  | 0, _, c, _ => (0, c)
  | d + 1, pc, c, s => if aa8 p s pc strict = 0 then
      (if (D8 (stC p strict d (ak0 p s pc)) (c + 1) s.body).1 = 0 then D8 (stC p strict d (ak0 p s pc)) (D8 (stC p strict d (ak0 p s pc)) (c + 1) s.body).2 s.els
       else D8 (stC p strict d (ak0 p s pc)) (c + 1) s.body)
    else (aa8 p s pc strict, c)
abbrev v5 (p : i5) (strict : Bool) (d : Nat) (pc : Int) (c : Nat) (ss : List c5) : Int × Nat := D8 (stC p strict d pc) c ss
theorem af2 (F : Nat → c5 → Int × Nat) : ∀ (a b : List c5) (c : Nat), D8 F c (a ++ b) = if (D8 F c a).1 = 0 then D8 F (D8 F c a).2 b else D8 F c a
 | [], b, c => by simp [D8]
 | x :: r, b, c => by
  simp only [List.cons_append, D8]
  by_cases h : (F c x).1 = 0
  ·simp only [h, if_true]; exact af2 F r b _
  ·simp [h]
theorem aa4 {F : Nat → c5 → Int × Nat} {c k : Nat} {ss : List c5} (h : (D8 F c (ss.take k)).1 = 0) (hk : k < ss.length) : D8 F c (ss.take (k + 1)) = F (D8 F c (ss.take k)).2 (ss.getD k cg8) := by
 rw [m6 _ _ hk, af2, if_pos h, m0 hk]
 simp only [D8]
 split
 ·rename_i h; exact Prod.ext h.symm rfl
 ·rfl
theorem E4 {F : Nat → c5 → Int × Nat} {c k : Nat} {ss : List c5} (h : (D8 F c (ss.take k)).1 = 0) (hk : k < ss.length) (hf : ¬ (F (D8 F c (ss.take k)).2 (ss.getD k cg8)).1 = 0) : D8 F c ss = F (D8 F c (ss.take k)).2 (ss.getD k cg8) := by
 conv => lhs; rw [← List.take_append_drop (k + 1) ss]
 rw [af2, aa4 h hk, if_neg hf]
theorem aK8 {F : Nat → c5 → Int × Nat} {c k : Nat} {ss : List c5} (hk : ss.length ≤ k) : D8 F c ss = D8 F c (ss.take k) := by rw [ci6 hk]
theorem at7 {F : Nat → c5 → Int × Nat} (hF : ∀ c s, (F c s).2 ≤ c + nS s) : ∀ (ss : List c5) (c : Nat), (D8 F c ss).2 ≤ c + V2 ss
 | [], c => by simp [D8]
 | s :: r, c => by
  simp only [D8, V2]
  have h1 := hF c s
  have h2 := at7 hF r (F c s).2
  split <;> omega
theorem ba8 {p : i5} {strict : Bool} : ∀ (d : Nat) (pc : Int) (c : Nat) (s : c5), (stC p strict d pc c s).2 ≤ c + nS s
 | 0, _, c, s => by simp [stC]
 | d + 1, pc, c, s => by
  have hs := aw4 s
  have h1 := at7 (ba8 (p := p) (strict := strict) d (ak0 p s pc)) s.body (c + 1)
  have h2 := at7 (ba8 (p := p) (strict := strict) d (ak0 p s pc)) s.els (D8 (stC p strict d (ak0 p s pc)) (c + 1) s.body).2
  rw [stC]
  split
  ·split <;> omega
  ·simp only; omega
theorem bg8 {p : i5} {strict : Bool} {d : Nat} {pc : Int} {c : Nat} {ss : List c5} : (v5 p strict d pc c ss).2 ≤ c + V2 ss := at7 (ba8 d pc) ss c
theorem S5 {nv na d k : Nat} {ss : List c5} (hs : ss.all (j6 nv na (d + 1)) = true) (hk : k < ss.length) : D2 nv na (ss.getD k cg8) = true ∧ (ss.getD k cg8).body.all (j6 nv na d) = true ∧ (ss.getD k cg8).els.all (j6 nv na d) = true := by
 have h := ch8.1 hs _ (cj2 hk)
 rw [S8, ch0, ch0] at h
 rw [m0 hk]; exact h
theorem bS3 {k : Nat} {ss : List c5} (hk : k < ss.length) : V2 (ss.take k) + (1 + V2 (ss.getD k cg8).body + V2 (ss.getD k cg8).els) ≤ V2 ss := by
 have h1 := bq6 hk
 have h2 := a36 ss (k + 1)
 rw [aw4] at h1
 rw [m0 hk]; omega
section
variable {p : i5} {strict : Bool} {d c : Nat} {pc : Int} {s : c5}
theorem aC6 (h : ¬ aa8 p s pc strict = 0) : stC p strict (d + 1) pc c s = (aa8 p s pc strict, c) := by rw [stC, if_neg h]
theorem U6 {x : Int} (h : aa8 p s pc strict = 0) (hx : ak0 p s pc = x) (h2 : ¬ (v5 p strict d x (c + 1) s.body).1 = 0) : stC p strict (d + 1) pc c s = v5 p strict d x (c + 1) s.body := by
 subst hx; rw [stC, if_pos h, if_neg h2]
theorem O1 {x : Int} (h : aa8 p s pc strict = 0) (hx : ak0 p s pc = x) (h2 : (v5 p strict d x (c + 1) s.body).1 = 0) : stC p strict (d + 1) pc c s = v5 p strict d x (v5 p strict d x (c + 1) s.body).2 s.els := by
 subst hx; rw [stC, if_pos h, if_pos h2]
theorem ac4 (k : s.kind = 3) : ak0 p s pc = l0 pc (m5 p s.value) := if_pos k
theorem ac3 (k : ¬ s.kind = 3) : ak0 p s pc = pc := if_neg k
end
theorem aM5 {p : i5} {strict : Bool} {d k c : Nat} {pc : Int} {ss : List c5} (hc : c + V2 ss ≤ 4000000) (hk : k < ss.length) : (v5 p strict (d + 1) pc c (ss.take k)).2 + 1 + V2 (ss.getD k cg8).body ≤ 4000000 := by
 have h1 := bS3 (k := k) (ss := ss) hk
 have h2 := bg8 (p := p) (strict := strict) (d := d + 1) (pc := pc) (c := c) (ss := ss.take k)
 omega
theorem aS3 {p : i5} {strict : Bool} {d k c : Nat} {pc x : Int} {ss : List c5} (hc : c + V2 ss ≤ 4000000) (hk : k < ss.length) : (v5 p strict d x ((v5 p strict (d + 1) pc c (ss.take k)).2 + 1) (ss.getD k cg8).body).2 + V2 (ss.getD k cg8).els ≤ 4000000 := by
 have h1 := bS3 (k := k) (ss := ss) hk
 have h2 := bg8 (p := p) (strict := strict) (d := d + 1) (pc := pc) (c := c) (ss := ss.take k)
 have h3 := bg8 (p := p) (strict := strict) (d := d) (pc := x) (c := (v5 p strict (d + 1) pc c (ss.take k)).2 + 1) (ss := (ss.getD k cg8).body)
 omega
theorem bO9 {p : i5} {strict : Bool} {d k c : Nat} {pc : Int} {ss : List c5} (hc : c + V2 ss ≤ 4000000) (hk : k < ss.length) : IntKind.i64.wrap (((v5 p strict (d + 1) pc c (ss.take k)).2 : Int) + 1) = ((v5 p strict (d + 1) pc c (ss.take k)).2 : Int) + 1 := by
 have h1 := aM5 (p := p) (strict := strict) (d := d) (pc := pc) hc hk
 exact w64 (by omega) (by omega)
abbrev bO8 (p : i5) (d : Nat) (ss : List c5) (pc : Int) (c : Nat) (strict : Bool) : j8 := V8 201 [pA 0, .ref 3, iA pc, iA c, bA strict] (pS p ++ [.dat (.stmts ss)]) (.tup [iA (v5 p strict d pc c ss).1, iA (v5 p strict d pc c ss).2])
theorem bg1 (p : i5) (pc : Int) (c : Nat) (strict : Bool) : j8.ok Tryz.prog (bO8 p 0 [] pc c strict) := by
 refine E2 74 Tryz.func201 [dI p.vars, dI p.arrays, dT p.body, dT []] [(0, pA 0), (1, .ref 3), (2, iA pc), (3, iA c), (4, bA strict)] fun G => ?_; refine wp_seq (j7 G d9 (rg 5) [dI p.vars, dI p.arrays, dT p.body, dT [], .box (pL 0)] [(1, .ref 3), (2, iA pc), (3, iA c), (4, bA strict), (5, .ptr 4 0), (10, iA 0), (11, iA 0)] fun G => b6 (wp_seq (wp_seq (C6 G d9 [(1, .ref 3), (2, iA pc), (3, iA c), (4, bA strict), (5, .ptr 4 0), (10, iA 0), (11, iA 0), (12, iA 0)] fun G => b6 (wp_block ?_))))); refine s6 (κ := Nat) (fun k => k = 0) (fun k => 0) (fun k => [dI p.vars, dI p.arrays, dT p.body, dT [], .box (pL 0)]) (fun k => [(1, .ref 3), (2, iA pc), (3, iA c), (4, bA strict), (5, .ptr 4 0), (10, iA 0), (11, iA 0), (12, iA 0)]) 0 (by kernel_rfl) (t4.at G _ _) ?_; clear G; intro k ρ a w hp G; refine wp_seq (wp_seq (k8 G d9 [(19, bA false)] fun G => b6 (rF G false (by kernel_rfl) (wp_exit (r7 (r7 (p6 (b6 (wp_seq (j7 G d9 (rg 4) [dI p.vars, dI p.arrays, dT p.body, dT []] [(10, iA 0), (11, iA c)] fun G => b6 (wp_ret ?_))))))))))); exact K2 G (rg 4)
abbrev an3 (p : i5) (d : Nat) (strict : Bool) (ss : List c5) (pc : Int) (c : Nat) (k : Nat) := v5 p strict d (l0 pc (m5 p (ss.getD k cg8).value)) ((v5 p strict (d + 1) pc c (ch6 k ss)).snd + 1) (ss.getD k cg8).body
abbrev ab1 (p : i5) (d : Nat) (strict : Bool) (ss : List c5) (pc : Int) (c : Nat) (k : Nat) := v5 p strict d pc ((v5 p strict (d + 1) pc c (ch6 k ss)).snd + 1) (ss.getD k cg8).body
abbrev aZ7 (p : i5) (d : Nat) (strict : Bool) (ss : List c5) (pc : Int) (c : Nat) (k : Nat) := v5 p strict d (l0 pc (m5 p (ss.getD k cg8).value)) (an3 p d strict ss pc c k).snd (ss.getD k cg8).els
abbrev aO6 (strict : Bool) (k : Nat) (r0 : List (Nat × AV)) : List (Nat × AV) := (4, bA strict) :: (5, .ptr 4 0) :: (10, iA 0) :: (11, iA 0) :: (12, iA (k : Int)) :: r0
abbrev aE2 (p : i5) (ss : List c5) (r0 : List It) : List It := dI p.vars :: dI p.arrays :: dT p.body :: dT ss :: .box (pL 0) :: r0
theorem bf9 (p : i5) (d : Nat) (strict : Bool) (ih : ∀ (ss : List c5) (pc : Int) (c : Nat), ss.all (j6 p.vars.length p.arrays.length d) = true → c + V2 ss ≤ 4000000 → j8.ok Tryz.prog (bO8 p d ss pc c strict))
    (ss : List c5) (pc : Int) (c : Nat) (hs : ss.all (j6 p.vars.length p.arrays.length (d + 1)) = true) (hc : c + V2 ss ≤ 4000000) : j8.ok Tryz.prog (bO8 p (d + 1) ss pc c strict) := by
  refine E2 74 Tryz.func201 [dI p.vars, dI p.arrays, dT p.body, dT ss] [(0, pA 0), (1, .ref 3), (2, iA pc), (3, iA c), (4, bA strict)] fun G => ?_; have hlen : ss.length ≤ 9223372036854775807 := G.len 3 (d := .stmts ss) (by kernel_rfl); refine wp_seq (j7 G d9 (rg 5) (aE2 p ss []) [(1, .ref 3), (2, iA pc), (3, iA c), (4, bA strict), (5, .ptr 4 0), (10, iA 0), (11, iA 0)] fun G => b6 (wp_seq (wp_seq (C6 G d9 [(1, .ref 3), (2, iA pc), (3, iA c), (4, bA strict), (5, .ptr 4 0), (10, iA 0), (11, iA 0), (12, iA 0)] fun G => b6 (wp_block ?_))))); refine s6 (κ := Nat) (fun k => k ≤ ss.length ∧ (v5 p strict (d + 1) pc c (ss.take k)).1 = 0) (fun k => ss.length - k) (fun k => [dI p.vars, dI p.arrays, dT p.body, dT ss, .box (pL 0)]) (fun k => [(1, .ref 3), (2, iA pc), (3, iA (v5 p strict (d + 1) pc c (ss.take k)).2), (4, bA strict), (5, .ptr 4 0), (10, iA 0), (11, iA 0), (12, iA k)]) 0 (⟨cl0 _, rfl⟩) (t4.at G _ _) ?_; clear G; intro k ρ a w hp G; replace G := t4.at G (aE2 p ss []) ((1, .ref 3) :: (2, iA pc) :: (3, iA ((v5 p strict (d + 1) pc c (ch6 k ss)).snd : Int)) :: (aO6 strict k [])); refine wp_seq (wp_seq (k8 G d9 [(19, bA (decide ((k : Int) < ss.length)))] fun G => b6 (Z6 G (fun h0 q0 => ?_) fun h0 q0 => ?_)))
  · refine wp_exit (r7 (r7 (p6 (b6 (wp_seq (j7 G d9 (rg 4) [dI p.vars, dI p.arrays, dT p.body, dT ss] [(10, iA 0), (11, iA ((v5 p strict (d + 1) pc c (ch6 k ss)).snd : Int))] fun G => b6 (wp_ret ?_))))))); exact T7 (.tup [iA 0, iA ((v5 p strict (d + 1) pc c (ch6 k ss)).snd : Int)]) G (rg 4) (by have e1 : ((v5 p strict (d + 1) pc c ss).fst : Int) = (0) := (by rw [v5, aK8 (k := k) (by omega)]; exact hp.2); have e2 : (((v5 p strict (d + 1) pc c ss).snd : Int) : Int) = (((v5 p strict (d + 1) pc c (ch6 k ss)).snd : Int)) := (by rw [v5, aK8 (k := k) (by omega)]); (first | rw [e1, e2] | simp only [e1, e2]) <;> rfl)
  ·
   refine wp_skip (b6 (wp_seq (wp_block (wp_seq (N0 G d9 [0, 1, 2, 3, 4, 29, 30, 31, 32, 37] (aE2 p ss [dE (ss.getD k cg8).index.kids, dE (ss.getD k cg8).value.kids, dT (ss.getD k cg8).body, dT (ss.getD k cg8).els, .box (sL (ss.getD k cg8) 5)]) ((1, .ref 3) :: (2, iA pc) :: (3, iA ((v5 p strict (d + 1) pc c (ch6 k ss)).snd : Int)) :: (aO6 strict k [(13, .ptr 9 0)])) (iX k k ss.length []) (iK (by omega) ci3) fun G => b6 (wp_seq (k8 G (s7 4 [0, 1, 2, 5, 6, 7, 8] (bO5 p (ss.getD k cg8) pc strict ((S5 hs (by omega)).1))) [(14, iA (aa8 p (ss.getD k cg8) pc strict))] fun G => b6 (wp_seq (wp_seq (k8 G d9 [(32, bA (aa8 p (ss.getD k cg8) pc strict != 0))] fun G => b6 (rcN G (fun h1 q1 => ?_) fun h1 q1 => ?_)))))))))))
   ·
    refine wp_skip (b6 (wp_seq (D0 G d9 [(3, iA (((v5 p strict (d + 1) pc c (ch6 k ss)).snd : Int) + 1))] [wO (((v5 p strict (d + (1 : Nat)) pc c (ch6 k ss)).snd : Int) + 1)] ⟨(bO9 hc (by omega)), ci3⟩ fun G => b6 (wp_seq (k8 G d9 [(15, iA pc)] fun G => b6 (wp_seq (wp_seq (k8 G d9 [(40, bA ((ss.getD k cg8).kind == 3))] fun G => b6 (J1 G (fun h2 q2 => ?_) fun h2 q2 => ?_)))))))))
    ·
     refine wp_skip (b6 (wp_seq (k8 G (s7 6 [0, 1, 2, 7] (ih ((ss.getD k cg8).body) pc ((v5 p strict (d + 1) pc c (ch6 k ss)).snd + 1) ((S5 hs (by omega)).2.1) (aM5 hc (by omega)))) [(3, iA ((ab1 p d strict ss pc c k).snd : Int)), (14, iA (ab1 p d strict ss pc c k).fst)] fun G => b6 (wp_seq (wp_seq (k8 G d9 [(58, bA ((ab1 p d strict ss pc c k).fst == 0))] fun G => b6 (J1 (u := ((v5 p strict d pc ((v5 p strict (d + (1 : Nat)) pc c (ch6 k ss)).snd + (1 : Nat)) (ss.getD k cg8).body).fst)) (v := (0 : Int)) G (fun h3 q3 => ?_) fun h3 q3 => ?_)))))))
     ·
      refine wp_skip (b6 (wp_seq (j7 G d9 (rg 5) (aE2 p ss []) ((1, .ref 3) :: (2, iA pc) :: (3, iA ((ab1 p d strict ss pc c k).snd : Int)) :: (aO6 strict k [(14, iA (ab1 p d strict ss pc c k).fst), (70, bA ((ab1 p d strict ss pc c k).fst != 0))])) fun G => b6 ?_))); cases h4 : ((v5 p strict d pc ((v5 p strict (d + (1 : Nat)) pc c (ch6 k ss)).snd + (1 : Nat)) (ss.getD k cg8).body).fst != 0)
      · have q4 := bne_eq_false_iff_eq.1 h4; exact False.elim (by omega)
      · have q4 := bne_iff_ne.1 h4; refine rT G _ h4 (wp_seq (k8 G d9 [(10, iA (ab1 p d strict ss pc c k).fst), (11, iA ((ab1 p d strict ss pc c k).snd : Int))] fun G => b6 (wp_ret (z3 (l4 (l4 (z3 (l4 ?_)))))))); exact T7 (.tup [iA (v5 p strict d pc ((v5 p strict (d + 1) pc c (ch6 k ss)).snd + 1) (ss.getD k cg8).body).fst, iA ((v5 p strict d pc ((v5 p strict (d + 1) pc c (ch6 k ss)).snd + 1) (ss.getD k cg8).body).snd : Int)]) G (rg 4) (by have e1 : ((v5 p strict (d + 1) pc c ss).fst : Int) = ((v5 p strict d pc ((v5 p strict (d + 1) pc c (ch6 k ss)).snd + 1) (ss.getD k cg8).body).fst) := (by rw [v5, E4 hp.2 (by omega) (by rw [U6 (by with_reducible assumption) (ac3 (by with_reducible assumption)) (by with_reducible assumption)]; with_reducible assumption), U6 (by with_reducible assumption) (ac3 (by with_reducible assumption)) (by with_reducible assumption)]); have e2 : (((v5 p strict (d + 1) pc c ss).snd : Int) : Int) = (((v5 p strict d pc ((v5 p strict (d + 1) pc c (ch6 k ss)).snd + 1) (ss.getD k cg8).body).snd : Int)) := (by rw [v5, E4 hp.2 (by omega) (by rw [U6 (by with_reducible assumption) (ac3 (by with_reducible assumption)) (by with_reducible assumption)]; with_reducible assumption), U6 (by with_reducible assumption) (ac3 (by with_reducible assumption)) (by with_reducible assumption)]); (first | rw [e1, e2] | simp only [e1, e2]) <;> rfl)
     ·
      refine j7 G (s7 6 [0, 1, 2, 8] (ih ((ss.getD k cg8).els) pc ((ab1 p d strict ss pc c k).snd) ((S5 hs (by omega)).2.2) (aS3 hc (by omega)))) (rg 5) (aE2 p ss []) ((1, .ref 3) :: (2, iA pc) :: (3, iA ((v5 p strict d pc (ab1 p d strict ss pc c k).snd (ss.getD k cg8).els).snd : Int)) :: (aO6 strict k [(14, iA (v5 p strict d pc (ab1 p d strict ss pc c k).snd (ss.getD k cg8).els).fst)])) fun G => b6 (wp_seq (k8 G d9 [(70, bA ((v5 p strict d pc (ab1 p d strict ss pc c k).snd (ss.getD k cg8).els).fst != 0))] fun G => b6 (rcN (u := ((v5 p strict d pc (v5 p strict d pc ((v5 p strict (d + (1 : Nat)) pc c (ch6 k ss)).snd + (1 : Nat)) (ss.getD k cg8).body).snd (ss.getD k cg8).els).fst)) (v := (0 : Int)) G (fun h5 q5 => ?_) fun h5 q5 => ?_)))
      · refine wp_skip (k6 (b6 (D0 G d9 [(12, iA ((k : Int) + 1))] [wO ((k : Int) + 1)] (o1 (by omega)) fun G => b6 ?_))); exact H9 G (k + 1) (⟨by omega, by rw [v5, aa4 hp.2 (by omega), O1 (by with_reducible assumption) (ac3 (by with_reducible assumption)) (by with_reducible assumption)]; with_reducible assumption⟩) (by omega) (rg 5) (ht := by have e1 : (((v5 p strict (d + 1) pc c (ch6 (k + 1) ss)).snd : Int) : Int) = (((v5 p strict d pc (v5 p strict d pc ((v5 p strict (d + 1) pc c (ch6 k ss)).snd + 1) (ss.getD k cg8).body).snd (ss.getD k cg8).els).snd : Int)) := (by rw [v5, aa4 hp.2 (by omega), O1 (by with_reducible assumption) (ac3 (by with_reducible assumption)) (by with_reducible assumption)]); (first | rw [e1] | simp only [e1]) <;> rfl)
      · refine wp_seq (k8 G d9 [(10, iA (v5 p strict d pc (ab1 p d strict ss pc c k).snd (ss.getD k cg8).els).fst), (11, iA ((v5 p strict d pc (ab1 p d strict ss pc c k).snd (ss.getD k cg8).els).snd : Int))] fun G => b6 (wp_ret (z3 (l4 (l4 (z3 (l4 ?_))))))); exact T7 (.tup [iA (v5 p strict d pc (v5 p strict d pc ((v5 p strict (d + 1) pc c (ch6 k ss)).snd + 1) (ss.getD k cg8).body).snd (ss.getD k cg8).els).fst, iA ((v5 p strict d pc (v5 p strict d pc ((v5 p strict (d + 1) pc c (ch6 k ss)).snd + 1) (ss.getD k cg8).body).snd (ss.getD k cg8).els).snd : Int)]) G (rg 4) (by have e1 : ((v5 p strict (d + 1) pc c ss).fst : Int) = ((v5 p strict d pc (v5 p strict d pc ((v5 p strict (d + 1) pc c (ch6 k ss)).snd + 1) (ss.getD k cg8).body).snd (ss.getD k cg8).els).fst) := (by rw [v5, E4 hp.2 (by omega) (by rw [O1 (by with_reducible assumption) (ac3 (by with_reducible assumption)) (by with_reducible assumption)]; with_reducible assumption), O1 (by with_reducible assumption) (ac3 (by with_reducible assumption)) (by with_reducible assumption)]); have e2 : (((v5 p strict (d + 1) pc c ss).snd : Int) : Int) = (((v5 p strict d pc (v5 p strict d pc ((v5 p strict (d + 1) pc c (ch6 k ss)).snd + 1) (ss.getD k cg8).body).snd (ss.getD k cg8).els).snd : Int)) := (by rw [v5, E4 hp.2 (by omega) (by rw [O1 (by with_reducible assumption) (ac3 (by with_reducible assumption)) (by with_reducible assumption)]; with_reducible assumption), O1 (by with_reducible assumption) (ac3 (by with_reducible assumption)) (by with_reducible assumption)]); (first | rw [e1, e2] | simp only [e1, e2]) <;> rfl)
    ·
     refine k8 G (s7 4 [0, 1, 2, 6] (M6 p ((ss.getD k cg8).value) (z7 (S5 hs (by omega)).1 (by omega)))) [(15, iA (l0 pc (m5 p (ss.getD k cg8).value)))] fun G => b6 (wp_seq (k8 G (s7 6 [0, 1, 2, 7] (ih ((ss.getD k cg8).body) (l0 pc (m5 p (ss.getD k cg8).value)) ((v5 p strict (d + 1) pc c (ch6 k ss)).snd + 1) ((S5 hs (by omega)).2.1) (aM5 hc (by omega)))) [(3, iA ((an3 p d strict ss pc c k).snd : Int)), (14, iA (an3 p d strict ss pc c k).fst)] fun G => b6 (wp_seq (wp_seq (k8 G d9 [(58, bA ((an3 p d strict ss pc c k).fst == 0))] fun G => b6 (J1 (u := ((v5 p strict d (l0 pc (m5 p (ss.getD k cg8).value)) ((v5 p strict (d + (1 : Nat)) pc c (ch6 k ss)).snd + (1 : Nat)) (ss.getD k cg8).body).fst)) (v := (0 : Int)) G (fun h6 q6 => ?_) fun h6 q6 => ?_))))))
     ·
      refine wp_skip (b6 (wp_seq (j7 G d9 (rg 5) (aE2 p ss []) ((1, .ref 3) :: (2, iA pc) :: (3, iA ((an3 p d strict ss pc c k).snd : Int)) :: (aO6 strict k [(14, iA (an3 p d strict ss pc c k).fst), (70, bA ((an3 p d strict ss pc c k).fst != 0))])) fun G => b6 ?_))); cases h7 : ((v5 p strict d (l0 pc (m5 p (ss.getD k cg8).value)) ((v5 p strict (d + (1 : Nat)) pc c (ch6 k ss)).snd + (1 : Nat)) (ss.getD k cg8).body).fst != 0)
      · have q7 := bne_eq_false_iff_eq.1 h7; exact False.elim (by omega)
      · have q7 := bne_iff_ne.1 h7; refine rT G _ h7 (wp_seq (k8 G d9 [(10, iA (an3 p d strict ss pc c k).fst), (11, iA ((an3 p d strict ss pc c k).snd : Int))] fun G => b6 (wp_ret (z3 (l4 (l4 (z3 (l4 ?_)))))))); exact T7 (.tup [iA (v5 p strict d (l0 pc (m5 p (ss.getD k cg8).value)) ((v5 p strict (d + 1) pc c (ch6 k ss)).snd + 1) (ss.getD k cg8).body).fst, iA ((v5 p strict d (l0 pc (m5 p (ss.getD k cg8).value)) ((v5 p strict (d + 1) pc c (ch6 k ss)).snd + 1) (ss.getD k cg8).body).snd : Int)]) G (rg 4) (by have e1 : ((v5 p strict (d + 1) pc c ss).fst : Int) = ((v5 p strict d (l0 pc (m5 p (ss.getD k cg8).value)) ((v5 p strict (d + 1) pc c (ch6 k ss)).snd + 1) (ss.getD k cg8).body).fst) := (by rw [v5, E4 hp.2 (by omega) (by rw [U6 (by with_reducible assumption) (ac4 (by with_reducible assumption)) (by with_reducible assumption)]; with_reducible assumption), U6 (by with_reducible assumption) (ac4 (by with_reducible assumption)) (by with_reducible assumption)]); have e2 : (((v5 p strict (d + 1) pc c ss).snd : Int) : Int) = (((v5 p strict d (l0 pc (m5 p (ss.getD k cg8).value)) ((v5 p strict (d + 1) pc c (ch6 k ss)).snd + 1) (ss.getD k cg8).body).snd : Int)) := (by rw [v5, E4 hp.2 (by omega) (by rw [U6 (by with_reducible assumption) (ac4 (by with_reducible assumption)) (by with_reducible assumption)]; with_reducible assumption), U6 (by with_reducible assumption) (ac4 (by with_reducible assumption)) (by with_reducible assumption)]); (first | rw [e1, e2] | simp only [e1, e2]) <;> rfl)
     ·
      refine j7 G (s7 6 [0, 1, 2, 8] (ih ((ss.getD k cg8).els) (l0 pc (m5 p (ss.getD k cg8).value)) ((an3 p d strict ss pc c k).snd) ((S5 hs (by omega)).2.2) (aS3 hc (by omega)))) (rg 5) (aE2 p ss []) ((1, .ref 3) :: (2, iA pc) :: (3, iA ((aZ7 p d strict ss pc c k).snd : Int)) :: (aO6 strict k [(14, iA (aZ7 p d strict ss pc c k).fst)])) fun G => b6 (wp_seq (k8 G d9 [(70, bA ((aZ7 p d strict ss pc c k).fst != 0))] fun G => b6 (rcN (u := ((v5 p strict d (l0 pc (m5 p (ss.getD k cg8).value)) (v5 p strict d (l0 pc (m5 p (ss.getD k cg8).value)) ((v5 p strict (d + (1 : Nat)) pc c (ch6 k ss)).snd + (1 : Nat)) (ss.getD k cg8).body).snd (ss.getD k cg8).els).fst)) (v := (0 : Int)) G (fun h8 q8 => ?_) fun h8 q8 => ?_)))
      · refine wp_skip (k6 (b6 (D0 G d9 [(12, iA ((k : Int) + 1))] [wO ((k : Int) + 1)] (o1 (by omega)) fun G => b6 ?_))); exact H9 G (k + 1) (⟨by omega, by rw [v5, aa4 hp.2 (by omega), O1 (by with_reducible assumption) (ac4 (by with_reducible assumption)) (by with_reducible assumption)]; with_reducible assumption⟩) (by omega) (rg 5) (ht := by have e1 : (((v5 p strict (d + 1) pc c (ch6 (k + 1) ss)).snd : Int) : Int) = (((v5 p strict d (l0 pc (m5 p (ss.getD k cg8).value)) (v5 p strict d (l0 pc (m5 p (ss.getD k cg8).value)) ((v5 p strict (d + 1) pc c (ch6 k ss)).snd + 1) (ss.getD k cg8).body).snd (ss.getD k cg8).els).snd : Int)) := (by rw [v5, aa4 hp.2 (by omega), O1 (by with_reducible assumption) (ac4 (by with_reducible assumption)) (by with_reducible assumption)]); (first | rw [e1] | simp only [e1]) <;> rfl)
      · refine wp_seq (k8 G d9 [(10, iA (aZ7 p d strict ss pc c k).fst), (11, iA ((aZ7 p d strict ss pc c k).snd : Int))] fun G => b6 (wp_ret (z3 (l4 (l4 (z3 (l4 ?_))))))); exact T7 (.tup [iA (v5 p strict d (l0 pc (m5 p (ss.getD k cg8).value)) (v5 p strict d (l0 pc (m5 p (ss.getD k cg8).value)) ((v5 p strict (d + 1) pc c (ch6 k ss)).snd + 1) (ss.getD k cg8).body).snd (ss.getD k cg8).els).fst, iA ((v5 p strict d (l0 pc (m5 p (ss.getD k cg8).value)) (v5 p strict d (l0 pc (m5 p (ss.getD k cg8).value)) ((v5 p strict (d + 1) pc c (ch6 k ss)).snd + 1) (ss.getD k cg8).body).snd (ss.getD k cg8).els).snd : Int)]) G (rg 4) (by have e1 : ((v5 p strict (d + 1) pc c ss).fst : Int) = ((v5 p strict d (l0 pc (m5 p (ss.getD k cg8).value)) (v5 p strict d (l0 pc (m5 p (ss.getD k cg8).value)) ((v5 p strict (d + 1) pc c (ch6 k ss)).snd + 1) (ss.getD k cg8).body).snd (ss.getD k cg8).els).fst) := (by rw [v5, E4 hp.2 (by omega) (by rw [O1 (by with_reducible assumption) (ac4 (by with_reducible assumption)) (by with_reducible assumption)]; with_reducible assumption), O1 (by with_reducible assumption) (ac4 (by with_reducible assumption)) (by with_reducible assumption)]); have e2 : (((v5 p strict (d + 1) pc c ss).snd : Int) : Int) = (((v5 p strict d (l0 pc (m5 p (ss.getD k cg8).value)) (v5 p strict d (l0 pc (m5 p (ss.getD k cg8).value)) ((v5 p strict (d + 1) pc c (ch6 k ss)).snd + 1) (ss.getD k cg8).body).snd (ss.getD k cg8).els).snd : Int)) := (by rw [v5, E4 hp.2 (by omega) (by rw [O1 (by with_reducible assumption) (ac4 (by with_reducible assumption)) (by with_reducible assumption)]; with_reducible assumption), O1 (by with_reducible assumption) (ac4 (by with_reducible assumption)) (by with_reducible assumption)]); (first | rw [e1, e2] | simp only [e1, e2]) <;> rfl)
   · refine wp_seq (k8 G d9 [(10, iA (aa8 p (ss.getD k cg8) pc strict)), (11, iA ((v5 p strict (d + 1) pc c (ch6 k ss)).snd : Int))] fun G => b6 (wp_ret (l4 (z3 (l4 (l4 (z3 (l4 ?_)))))))); exact T7 (.tup [iA (aa8 p (ss.getD k cg8) pc strict), iA ((v5 p strict (d + 1) pc c (ch6 k ss)).snd : Int)]) G (rg 4) (by have e1 : ((v5 p strict (d + 1) pc c ss).fst : Int) = (aa8 p (ss.getD k cg8) pc strict) := (by rw [v5, E4 hp.2 (by omega) (by rw [aC6 (by with_reducible assumption)]; with_reducible assumption), aC6 (by with_reducible assumption)]); have e2 : (((v5 p strict (d + 1) pc c ss).snd : Int) : Int) = (((v5 p strict (d + 1) pc c (ch6 k ss)).snd : Int)) := (by rw [v5, E4 hp.2 (by omega) (by rw [aC6 (by with_reducible assumption)]; with_reducible assumption), aC6 (by with_reducible assumption)]); (first | rw [e1, e2] | simp only [e1, e2]) <;> rfl)
theorem bg0 (p : i5) (strict : Bool) : ∀ (d : Nat) (ss : List c5) (pc : Int) (c : Nat), ss.all (j6 p.vars.length p.arrays.length d) = true → c + V2 ss ≤ 4000000 → j8.ok Tryz.prog (bO8 p d ss pc c strict) := by
 intro d
 induction d with
 | zero =>
  intro ss pc c h hc
  cases ss with
  | nil => exact bg1 p pc c strict
  | cons s r => simp [j6] at h
 | succ d ih => intro ss pc c h hc; exact bf9 p d strict ih ss pc c h hc
theorem aw2 {p : i5} (h : l8 p = true) : p.body.all (j6 p.vars.length p.arrays.length 5) = true ∧ V2 p.body ≤ 60 := by
 simp only [l8, ag0, ch0, decide_eq_true_eq] at h
 exact ⟨h.1.2, h.2⟩
theorem bG0 (p : i5) (strict : Bool) (h : l8 p = true) : j8.ok Tryz.prog (V8 201 [pA 0, .ref 2, iA 0, iA 0, bA strict] (pS p) (.tup [iA (v5 p strict 5 0 0 p.body).1, iA (v5 p strict 5 0 0 p.body).2])) :=
 j8.dup (S := pS p) (S' := pS p) (d := .stmts p.body) (i := 2) (bg0 p strict 5 p.body 0 0 (aw2 h).1 (by have := (aw2 h).2; omega)) rfl rfl rfl (fun ρ h => by simp only [AV.vals, AV.val]; rw [show ρ 3 = ρ 2 from h]; rfl) rfl
def V9 (p : i5) (strict : Bool) : Int × Int := if l8 p then (if (v5 p strict 5 0 0 p.body).1 = 0 then (0, -1) else ((v5 p strict 5 0 0 p.body).1, ((v5 p strict 5 0 0 p.body).2 : Int))) else (5, -1)
section
variable {p : i5} {strict : Bool}
theorem bS1 (h : l8 p = false) : V9 p strict = (5, -1) := by rw [V9, h]; rfl
theorem bn4 (h : l8 p = true) (h1 : (v5 p strict 5 0 0 p.body).1 = 0) : V9 p strict = (0, -1) := by rw [V9, h, h1]; rfl
theorem bF2 (h : l8 p = true) (h1 : ¬ (v5 p strict 5 0 0 p.body).1 = 0) : V9 p strict = ((v5 p strict 5 0 0 p.body).1, ((v5 p strict 5 0 0 p.body).2 : Int)) := by rw [V9, h, if_neg h1]; rfl
end
theorem bs4 (p : i5) (strict : Bool) (hb : j5 p.body ≤ 1048576) : j8.ok Tryz.prog (V8 150 [pA 0, bA strict] (pS p) (.tup [iA (V9 p strict).1, iA (V9 p strict).2])) := by
  refine E2 24 Tryz.func150 [dI p.vars, dI p.arrays, dT p.body] [(0, pA 0), (1, bA strict)] fun G => ?_; refine wp_seq (j7 G d9 (rg 4) [dI p.vars, dI p.arrays, dT p.body, .box (pL 0)] [(1, bA strict), (2, .ptr 3 0), (4, iA 0), (5, iA 0)] fun G => b6 (wp_seq (wp_seq (k8 G (s7 1 [0, 1, 2] (Q8 p (by assumption))) [(10, .v (.bool !l8 p))] fun G => b6 ?_)))); cases h0 : (!l8 p)
  ·
   have q0 : (l8 p) = true := (Eq.mp (cj6 _) h0); refine rF G _ h0 (wp_skip (b6 (wp_seq (j7 G (s7 4 [0, 1, 2] (bG0 p strict (by assumption))) [0, 1, 2] [dI p.vars, dI p.arrays, dT p.body] [(4, iA 0), (5, iA 0), (6, iA (v5 p strict 5 0 0 p.body).fst), (7, iA ((v5 p strict 5 0 0 p.body).snd : Int))] fun G => b6 (wp_seq (wp_seq (k8 G d9 [(20, bA ((v5 p strict 5 0 0 p.body).fst == 0))] fun G => b6 (J1 G (fun h1 q1 => ?_) fun h1 q1 => ?_))))))))
   · refine wp_skip (b6 (wp_seq (k8 G d9 [(4, iA (v5 p strict 5 0 0 p.body).fst), (5, iA ((v5 p strict 5 0 0 p.body).snd : Int))] fun G => b6 (wp_ret ?_)))); exact T7 (.tup [iA (v5 p strict 5 0 0 p.body).fst, iA ((v5 p strict 5 0 0 p.body).snd : Int)]) G [0, 1, 2] (by have e1 : ((V9 p strict).fst : Int) = ((v5 p strict 5 0 0 p.body).fst) := (by rw [bF2 (by assumption) (by assumption)]; done); have e2 : ((V9 p strict).snd : Int) = (((v5 p strict 5 0 0 p.body).snd : Int)) := (by rw [bF2 (by assumption) (by assumption)]; done); (first | rw [e1, e2] | simp only [e1, e2]) <;> rfl)
   · refine wp_seq (k8 G d9 [(4, iA (v5 p strict 5 0 0 p.body).fst), (5, iA (-1))] fun G => b6 (wp_ret (l4 ?_))); exact T7 (.tup [iA (v5 p strict 5 0 0 p.body).fst, iA (-1)]) G [0, 1, 2] (by have e1 : ((V9 p strict).fst : Int) = ((v5 p strict 5 0 0 p.body).fst) := ((congrArg Prod.fst (bn4 (by assumption) (by assumption))).trans (Eq.symm (by assumption))); have e2 : ((V9 p strict).snd : Int) = (-1) := (by rw [bn4 (by assumption) (by assumption)]; done); (first | rw [e1, e2] | simp only [e1, e2]) <;> rfl)
  · have q0 : (l8 p) = false := (Eq.mp (ci9 _) h0); refine rT G _ h0 (wp_seq (k8 G d9 [(4, iA 5), (5, iA (-1))] fun G => b6 (wp_ret (l4 ?_)))); exact T7 (.tup [iA 5, iA (-1)]) G [0, 1, 2] (by have e1 : ((V9 p strict).fst : Int) = (5) := (by rw [bS1 (by assumption)]; done); have e2 : ((V9 p strict).snd : Int) = (-1) := (by rw [bS1 (by assumption)]; done); (first | rw [e1, e2] | simp only [e1, e2]) <;> rfl)
theorem a84 (p : i5) (hb : j5 p.body ≤ 1048576) : j8.ok Tryz.prog (V8 77 [pA 0] (pS p) (.tup [iA (V9 p false).1, iA (V9 p false).2])) := by
 refine E2 8 Tryz.func77 [dI p.vars, dI p.arrays, dT p.body] [(0, pA 0)] fun G => ?_; refine wp_seq (j7 G d9 (rg 4) [dI p.vars, dI p.arrays, dT p.body, .box (pL 0)] [(1, .ptr 3 0), (2, iA 0), (3, iA 0)] fun G => b6 (wp_seq (j7 G (s7 1 [0, 1, 2] (bs4 p false (by assumption))) [0, 1, 2] [dI p.vars, dI p.arrays, dT p.body] [(2, iA (V9 p false).fst), (3, iA (V9 p false).snd)] fun G => b6 (wp_ret ?_)))); exact K2 G [0, 1, 2]
section
variable {p : i5} {s : c5} {cx : Int}
end
end Go.Proofs.YthikdkjjdeehoaaGreat
