/- Part 4: functions on the way, plain laws. Conditions: as said. -/
import Derived.Deep.LoopGhost
import Derived.IntWalk
import Derived.WalkSpells
import Derived.Lib.SliceRun
import Derived.Test.YthikdkjjdeehoaaGreatK1
import Derived.Test.YthikdkjjdeehoaaGreatK3
set_option maxRecDepth 100000
set_option maxHeartbeats 16000000
set_option linter.unusedVariables false
set_option linter.unusedSimpArgs false
open Array renaming replicate → ck5
open Bool renaming and_eq_true → ch4, eq_iff_iff → ck7, not_eq_false' → ck2, not_eq_true' → cj4, or_eq_true → cl7
open Inhabited renaming default → ch2
open Int renaming mul_le_mul_of_nonneg_right → cm6
open List renaming all_eq_true → ci2, eq_nil_of_length_eq_zero → cj2, getD_eq_getElem?_getD → ch7, getElem?_append_left → ci9, getElem?_eq_getElem → ch6, getElem?_eq_none → cj8, getElem?_eq_some_iff → ci5, getElem_mem → cj1, length_cons → ci1, length_nil → ci6, map_cons → ck9, mem_append → cj5, mem_cons → cl2, mem_cons_of_mem → cl1, mem_cons_self → cl3, mem_of_getElem? → ck1, mem_range → cl5, mem_singleton → ck4, range → cj0, take → ci0, take_of_length_le → ci8
open Nat renaming le_refl → ch9, le_trans → cj7, lt_of_lt_of_le → cl6, lt_or_ge → cj6, mul_le_mul_right → cl8, zero_add → cl9, zero_le → ck8
open Option renaming isSome_iff_exists → cm0, map_eq_some_iff → ci4
open True renaming intro → ci7

namespace Go.Proofs.YthikdkjjdeehoaaGreat
open Go Go.RowKit
section
variable {P : Program} {ι : Type} {φ ψ : Nat → Prop} {w0 w w' : World} {F : ι → Rs} {ρ : Nat → Value} {S : Nat → It} {N m n : Nat} {ρ0 : Nat → Value}
theorem a99 {l : List Oper} {Q : Exit → Act → World → Prop} (I : Array Bool → Act → World → Prop) (hb : al2 l.toArray = true)
  (step : ∀ listed a w, I listed a w → ∀ i o, l[i]? = some o → listed.getD i true = false → (∀ e ∈ o.after, Region.binds .any e = true → listed.getD e.on false = true) →
   ∀ Q' : Exit → Act → World → Prop, (∀ a w, I (listed.setIfInBounds i true) a w → Q' .normal a w) → wpList P l.toArray Q' [o] a w)
  (done : ∀ listed a w, I listed a w → (∀ j, j < l.length → listed.getD j true = true) → Q .normal a w) :
  ∀ (fuel : Nat) (listed : Array Bool) (a : Act) (w : World), listed.size = l.toArray.size → listed.toList.count false = fuel → I listed a w → wpAny P .any l.toArray Q fuel listed a w := by
 have hfin : ∀ (listed : Array Bool) (a : Act) (w : World), listed.size = l.toArray.size → Region.ready .any l.toArray listed = [] → I listed a w → Q .normal a w := by
  intro listed a w hsz hr hI
  refine done listed a w hI fun j hj => ?_
  cases hl : listed.getD j true
  ·exact absurd hr (a09 hb hsz j (by simpa using hj) hl)
  ·rfl
 intro fuel
 induction fuel with
 | zero =>
  intro listed a w hsz hc hI
  have hr : Region.ready .any l.toArray listed = [] := by
   rw [List.eq_nil_iff_forall_not_mem]
   intro j hj
   have := Y2 (mem_ready.1 hj).1
   omega
  exact ⟨hr, hfin listed a w hsz hr hI⟩
 | succ f ih =>
  intro listed a w hsz hc hI
  refine ⟨fun hr => hfin listed a w hsz hr hI, fun i hi => ?_⟩
  obtain ⟨h1, o, ho, h2⟩ := mem_ready.1 hi
  have ho' : l[i]? = some o := by simpa using ho
  have hcl := Y2 h1
  have hs := step listed a w hI i o ho' h1 h2 (fun e a w => e = .normal ∧ I (listed.setIfInBounds i true) a w) fun a w h => ⟨rfl, h⟩
  unfold wpOp
  rw [ho]
  simp only
  unfold wpList at hs
  split
  ·rename_i hw
   rw [if_pos hw] at hs
   rcases hs with hs | ⟨_, a, w, he, _⟩
   ·exact .inl (bo8 (fun _ _ _ h => h.1) (Oper.wp_mono (fun a' w' h => ih _ a' w' (by simpa using hsz) (by omega) h.2) hs))
   ·cases he
  ·rename_i hw
   rw [if_neg hw] at hs
   exact ih _ _ _ (by simpa using hsz) (by omega) hs.2
theorem aF7 {id : Nat} {l : List Oper} {Q : Exit → Act → World → Prop} {a : Act} {w : World} (I : Array Bool → Act → World → Prop) (hm : P.follows .mixedOrders = true) (hb : al2 l.toArray = true)
  (h0 : I (ck5 l.length false) a w.drew)
  (step : ∀ listed a w, I listed a w → ∀ i o, l[i]? = some o → listed.getD i true = false → (∀ e ∈ o.after, Region.binds .any e = true → listed.getD e.on false = true) →
   ∀ Q' : Exit → Act → World → Prop, (∀ a w, I (listed.setIfInBounds i true) a w → Q' .normal a w) → wpList P l.toArray Q' [o] a w)
  (done : ∀ listed a w, I listed a w → (∀ j, j < l.length → listed.getD j true = true) → Q .normal a w) : (Code.region id l.toArray true).wp P Q a w :=
 wp_region_any hm (a99 I hb step done _ _ _ _ (by simp) (by simp) (by simpa using h0))
def RI (φ ψ : Nat → Prop) (w0 : World) (F : ι → Rs) (N m : Nat) (ρ0 : Nat → Value) (l : List Oper) (az : List Ac) (tm : Nat → Option AV) (S : Nat → It) (listed : Array Bool) (a : Act) (w : World) : Prop :=
 listed.size = l.length ∧ bH5 l (fun j => listed.getD j false) ∧ ∃ ρ, (∀ i, i < m → ρ i = ρ0 i) ∧ a.tmps.size = N ∧ a.defers = [] ∧ (∀ t x, tmD az (fun j => listed.getD j false) tm t = some x → a.tmps[t]? = some (x.val ρ)) ∧ l7 φ ψ w0 w (p8 F ρ (sD az (fun j => listed.getD j false) S))
theorem bc7 {ms : List Nat} {az : List Ac} (h : bV7 ms az = true) {i j : Nat} {a b : Ac} (ha : az[i]? = some a) (hb : az[j]? = some b) (hij : i ≠ j) (hm : ag2 a b = true) : (j < i → bef ms j i = true) ∧ (i < j → bef ms i j = true) := by
 have hi := (ci5.1 ha).1
 have hj := (ci5.1 hb).1
 have h1 := ci2.1 (ci2.1 h i (cl5.2 hi)) j (cl5.2 hj)
 rw [ha, hb] at h1
 have hne : natEq i j = false := by simp [natEq, hij]
 simp only [hne, hm, Bool.not_true, Bool.false_or] at h1
 constructor
 ·intro hlt; rw [if_pos (by simpa using hlt)] at h1; exact h1
 ·intro hlt; rw [if_neg (by simp; omega)] at h1; exact h1
theorem bl6 {ms : List Nat} {n0 : Nat} {az : List Ac} (h : bA8 ms n0 az = true) {i : Nat} {a : Ac} (ha : az[i]? = some a) : ∀ id, (id ∈ a.t.res.ids ∨ id ∈ a.t.new.map (·.1) ∨ ∃ p ∈ a.t.new, id ∈ p.2.ids) → id < n0 ∨ (id - n0) / 8 = i ∨ bef ms ((id - n0) / 8) i = true := by
 intro id hid
 have hi := (ci5.1 ha).1
 have h1 := ci2.1 h i (cl5.2 hi)
 rw [ha] at h1
 have h2 := ci2.1 h1 id (by
  rcases hid with h | h | ⟨p, hp, h⟩
  ·exact List.mem_append_left _ (List.mem_append_left _ h)
  ·exact List.mem_append_left _ (List.mem_append_right _ h)
  ·exact List.mem_append_right _ (List.mem_flatMap.2 ⟨p, hp, h⟩))
 simp only [cl7, decide_eq_true_eq, natEq, beq_iff_eq] at h2
 rcases h2 with (h2 | h2) | h2
 ·exact .inl h2
 ·exact .inr (.inl h2)
 ·exact .inr (.inr h2)
theorem aT6 {dk : TypeId → Nat} {H : U0} (hH : ∀ i c τ, N5 H.calls i = some (c, τ) → c.ok P) (hF : R5 H.facts) {l : List Oper} {id : Nat} {Q : Exit → Act → World → Prop} {tm : List (Nat × AV)} {a : Act} {wr : World} (I0 : Inn φ ψ w0 F N m ρ0 n ρ (A1 tm) S a wr) {r : RS} (hrun : Y0 P dk N l H l 0 tm S n = some r) (ho : v9 r.obs) (heq : r.acts.map (·.eqs.1) = r.acts.map (·.eqs.2)) (hew : r.acts.map (·.eqw.1) = r.acts.map (·.eqw.2))
  (ms : List Nat) (hm : P.follows .mixedOrders = true) (hb : al2 l.toArray = true) (hms : aW2 ms l = true) (hord : bV7 ms r.acts = true) (hment : bA8 ms n r.acts = true) (hweak : bv4 ms S r.acts = true)
  (done : ∀ ρ' a' w' n', Inn φ ψ w0 F N m ρ0 n' ρ' (A1 r.tm) r.S a' w' → Q .normal a' w') : (Code.region id l.toArray true).wp P Q a wr := by
 obtain ⟨hlen, hfT, hfS, hat⟩ := bk3 l 0 n hrun ho
 have hmt : ∀ (i : Nat) ac, r.acts[i]? = some ac → ∀ t b, b.dst = some t → t ∈ ac.rt → ag2 ac b = true := fun i ac _ t b hb ht => by
  simp [ag2, hb, t3.2 ht]
 have hmd : ∀ ac b t, ac.dst = some t → b.dst = some t → ag2 ac b = true := fun ac b t h1 h2 => by
  simp [ag2, h1, h2, natEq]
 have hms' : ∀ (ac b : Ac) (j : Nat), j ∈ ac.ri → j ∈ b.t.new.map (·.1) → ag2 ac b = true := fun ac b j h1 h2 => by
  obtain ⟨p, hp, rfl⟩ := List.mem_map.1 h2
  unfold ag2
  have : b.t.new.any (fun p => memN p.1 ac.ri || ac.t.new.any fun q => natEq q.1 p.1) = true := List.any_eq_true.2 ⟨p, hp, by simp [t3.2 h1]⟩
  rw [this]; simp
 have hmn : ∀ (ac b : Ac) (j : Nat), j ∈ ac.t.new.map (·.1) → j ∈ b.t.new.map (·.1) → ag2 ac b = true := fun ac b j h1 h2 => by
  obtain ⟨p, hp, rfl⟩ := List.mem_map.1 h2
  obtain ⟨q, hq, e⟩ := List.mem_map.1 h1
  unfold ag2
  have : b.t.new.any (fun p => memN p.1 ac.ri || ac.t.new.any fun q => natEq q.1 p.1) = true := List.any_eq_true.2 ⟨p, hp, by
   have : ac.t.new.any (fun q => natEq q.1 p.1) = true := List.any_eq_true.2 ⟨q, hq, by simp [natEq, e]⟩
   rw [this]; simp⟩
  rw [this]; simp
 refine aF7 (RI φ ψ w0 F N m ρ0 l r.acts (A1 tm) S) hm hb ?_ ?_ ?_
 ·refine ⟨by simp, fun j o _ hj => ?_, ρ, I0.old, I0.size, I0.defs, fun t x hx => ?_, ?_⟩
  ·have hj' : (ck5 l.length false).getD j false = true := hj
   rw [getD_replicate_false] at hj'; cases hj'
  ·refine I0.tmv t x ?_
   rw [← hx]
   exact (ab5 fun j b _ _ => getD_replicate_false _ _).symm
  ·have e : sD r.acts (fun j => (ck5 l.length false).getD j false) S = S := by
    funext j; exact ab5 fun j b _ _ => getD_replicate_false _ _
   rw [e]; exact I0.mem.drew
 ·rintro listed a w ⟨hsz, hdn, ρ, hold, hN, hdf, hv, M⟩ i o hoi hun hdep Q' hQ
  generalize hB : (fun j => listed.getD j false) = B at *
  have hBj : ∀ j, B j = listed.getD j false := fun j => by rw [← hB]
  have hil := (ci5.1 hoi).1
  have hBi : B i = false := by
   rw [hBj, ← bm9 (by omega)]; exact hun
  obtain ⟨ac, ob, hac, hob, hop⟩ := hat i o hoi
  simp only [cl9] at hop
  have heqi : ac.eqs.1 = ac.eqs.2 := by
   have := congrArg (·[i]?) heq
   simpa [hac] using this
  have hewi : ac.eqw.1 = ac.eqw.2 := by
   have := congrArg (·[i]?) hew
   simpa [hac] using this
  obtain ⟨hdst, hdN, hfine⟩ := aV8 hop
  obtain ⟨hf1, hf2, hf3⟩ := af2 hfine
  have hdep' : ∀ e ∈ o.after, Region.binds .any e = true → B e.on = true := fun e he hbi => by rw [hBj]; exact hdep e he hbi
  have ahead : ∀ j, bef ms j i = true → B j = true := fun j hj => bu2 hms hb hdn hoi hdep' hj
  have behind : ∀ j, j < l.length → bef ms i j = true → B j = false := fun j hjl hj => by
   cases h : B j
   ·rfl
   ·have := aM1 hms hb hdn j hjl h i hj
    rw [hBi] at this; cases this
  have hagree : ∀ (j : Nat) b, r.acts[j]? = some b → ag2 ac b = true → B j = decide (j < i) := fun j b hj hmm => by
   have hjl : j < l.length := by have := (ci5.1 hj).1; omega
   rcases Nat.lt_trichotomy j i with h | h | h
   ·rw [ahead j ((bc7 hord hac hj (by omega) hmm).1 h)]; simp [h]
   ·subst h; rw [hBi]; simp
   ·rw [behind j hjl ((bc7 hord hac hj (by omega) hmm).2 h)]
    have : ¬ j < i := by omega
    simp [this]
  have hop2 := bq9 hop (tm' := tmD r.acts B (A1 tm)) (S' := sD r.acts B S) (fun t ht => V2 fun j b hj hw => by
    rw [cl9]
    refine hagree j b hj (hmt i ac hac t b ?_ ht)
    unfold wrT at hw
    split at hw
    ·assumption
    ·cases hw)
   (fun q hq => V2 fun j b hj hw => by
    rw [cl9]
    obtain ⟨x, hx⟩ := cm0.1 hw
    exact hagree j b hj (hms' ac b q hq (List.mem_map.2 ⟨_, T7 hx, rfl⟩)))
   (fun q hq => by
    show knd (pf (wrS q) r.acts 0 B (S q)) = _
    rw [bj1 hweak hac hq fun k _ hk => ahead k hk, bj1 hweak hac hq fun k hk _ => by simpa using hk])
  have hrange : ∀ id, n + 8 * i ≤ id → id < n + 8 * i + 8 → (id - n) / 8 = i := fun id h1 h2 => by omega
  have hmk : ∀ j ∈ ac.t.made, sD r.acts B S j = .none := fun j hj => by
   obtain ⟨g1, g2⟩ := hf2 j hj
   have e : sD r.acts B S j = S j := ab5 fun k b hk hw => by
    rw [cl9]
    obtain ⟨x, hx⟩ := cm0.1 hw
    have hkl : k < l.length := by have := (ci5.1 hk).1; omega
    rcases bl6 hment hk j (.inr (.inl (List.mem_map.2 ⟨_, T7 hx, rfl⟩))) with h | h | h
    ·omega
    ·rw [hrange j g1 g2] at h; subst h; exact hBi
    ·rw [hrange j g1 g2] at h; exact behind k hkl h
   rw [e]; exact (I0.bd j).2 (by omega)
  have hnot : ∀ (k : Nat) b, r.acts[k]? = some b → B k = true → ∀ id, (id ∈ b.t.res.ids ∨ id ∈ b.t.new.map (·.1) ∨ ∃ p ∈ b.t.new, id ∈ p.2.ids) → id ∉ ac.t.made := fun k b hk hBk id hid hm => by
   obtain ⟨g1, g2⟩ := hf2 id hm
   have hkl : k < l.length := by have := (ci5.1 hk).1; omega
   rcases bl6 hment hk id hid with h | h | h
   ·omega
   ·rw [hrange id g1 g2] at h; subst h; rw [hBi] at hBk; cases hBk
   ·rw [hrange id g1 g2] at h; rw [behind k hkl h] at hBk; cases hBk
  have hitem : ∀ j, ∀ id ∈ (sD r.acts B S j).ids, id ∉ ac.t.made := fun j => by
   refine at1 (fun x : It => ∀ id ∈ x.ids, id ∉ ac.t.made) (fun id hid hm => ?_) fun k b x hk hBk hw id hid => ?_
   ·have := (I0.bd j).1 id hid; have := (hf2 id hm).1; omega
   ·rw [cl9] at hBk
    exact hnot k b hk hBk id (.inr (.inr ⟨_, T7 hw, hid⟩))
  have htm : ∀ t x, tmD r.acts B (A1 tm) t = some x → ∀ id ∈ x.ids, id ∉ ac.t.made := fun t => by
   refine at1 (fun y : Option AV => ∀ x, y = some x → ∀ id ∈ x.ids, id ∉ ac.t.made) (fun x hx id hid hm => ?_) fun k b y hk hBk hw x hx id hid => ?_
   ·have := I0.tmi t x hx id hid; have := (hf2 id hm).1; omega
   ·rw [cl9] at hBk
    unfold wrT at hw
    split at hw
    ·cases hw; cases hx
     exact hnot k b hk hBk id (.inl hid)
    ·cases hw
  have hinv : Inv (sD r.acts B S) ρ ac.t.made := fun ρ' ha j => by
   refine It.res_congr _ (fun id hid => ha id (hitem j id hid)) ?_
   by_cases hj : j ∈ ac.t.made
   ·exact .inl (hmk j hj)
   ·exact .inr (.inr (ha j hj))
  refine bK9 hH hF hv M hop2 hob heqi hewi hmk hinv fun ρ' w' ha M' => ?_
  refine hQ _ _ ?_
  have hB' : ∀ j, (listed.setIfInBounds i true).getD j false = if j = i then true else B j := fun j => by
   by_cases e : j = i
   ·subst e
    have : j < listed.size := by omega
    simp [this]
   ·rw [if_neg e, getD_set_ne false (fun h => e h.symm), hBj]
  have hBe : (fun j => (listed.setIfInBounds i true).getD j false) = fun j => if j = i then true else B j := funext hB'
  have later : ∀ (j : Nat) b, i < j → r.acts[j]? = some b → ag2 ac b = true → (if j = i then true else B j) = false := fun j b hij hj hmm => by
   have hjl : j < l.length := by have := (ci5.1 hj).1; omega
   rw [if_neg (by omega)]
   exact behind j hjl ((bc7 hord hac hj (by omega) hmm).2 hij)
  have eT : tmD r.acts (fun j => if j = i then true else B j) (A1 tm) = aM9 ac.dst ac.t.res (tmD r.acts B (A1 tm)) := by
   funext t
   simp only [aM9]
   by_cases e : ac.dst = some t
   ·rw [if_pos e]
    refine aV7 (i := i) hac (by simp [wrT, e]) (by simp) fun j b hij hj hw => ?_
    rw [cl9]
    refine later j b hij hj (hmd ac b t e ?_)
    unfold wrT at hw
    split at hw
    ·assumption
    ·cases hw
   ·rw [if_neg e]
    refine V2 fun j b hj hw => ?_
    have : j ≠ i := fun h => by
     subst h
     rw [hac] at hj; cases hj
     simp [wrT, e] at hw
    simp [this]
  have eS : sD r.acts (fun j => if j = i then true else B j) S = n7 (sD r.acts B S) ac.t.new := by
   funext q
   rw [av9]
   cases hx : aK7 ac.t.new q with
   | some x =>
    refine aV7 (i := i) hac hx (by simp) fun j b hij hj hw => ?_
    rw [cl9]
    obtain ⟨y, hy⟩ := cm0.1 hw
    exact later j b hij hj (hmn ac b q (List.mem_map.2 ⟨_, T7 hx, rfl⟩) (List.mem_map.2 ⟨_, T7 hy, rfl⟩))
   | none =>
    refine V2 fun j b hj hw => ?_
    have : j ≠ i := fun h => by
     subst h
     rw [hac] at hj; cases hj
     unfold wrS at hw
     rw [hx] at hw; cases hw
    simp [this]
  refine ⟨by simpa using hsz, ?_, ρ', fun j hj => (ha j fun hm => by have := (hf2 j hm).1; have := I0.le; omega).trans (hold j hj), (a25 _ _ _).trans hN, (a26 _ _ _).trans hdf, ?_, ?_⟩
  ·rw [hBe]
   intro j oj hj hBj' e he hbi
   show (if e.on = i then true else B e.on) = true
   by_cases e1 : e.on = i
   ·simp [e1]
   ·rw [if_neg e1]
    by_cases e2 : j = i
    ·subst e2
     rw [hoi] at hj; cases hj
     exact hdep' e he hbi
    ·simp only [if_neg e2] at hBj'
     exact hdn j oj hj hBj' e he hbi
  ·rw [hBe, eT, hdst]
   intro t x hx
   rw [by6 (by rw [hN]; exact hdN)]
   simp only [aM9] at hx
   split
   ·rename_i e; rw [if_pos e] at hx; cases hx; rfl
   ·rename_i e
    rw [if_neg e] at hx
    rw [hv t x hx, AV.val_congr x fun id hid => ha id (htm t x hx id hid)]
  ·rw [hBe, eS]; exact M'
 ·rintro listed a w ⟨hsz, hdn, ρ, hold, hN, hdf, hv, M⟩ hall
  have hall' : ∀ j, j < l.length → listed.getD j false = true := fun j hj => by rw [← bm9 (by omega)]; exact hall j hj
  have eT : tmD r.acts (fun j => listed.getD j false) (A1 tm) = A1 r.tm := by
   funext t
   rw [hfT t]
   refine V2 fun j b hj _ => ?_
   rw [cl9]
   exact hall' j (by have := (ci5.1 hj).1; omega)
  have eS : sD r.acts (fun j => listed.getD j false) S = r.S := by
   funext q
   rw [hfS q]
   refine V2 fun j b hj _ => ?_
   rw [cl9]
   exact hall' j (by have := (ci5.1 hj).1; omega)
  have hids : ∀ (k : Nat) b, r.acts[k]? = some b → ∀ id, (id ∈ b.t.res.ids ∨ id ∈ b.t.new.map (·.1) ∨ ∃ p ∈ b.t.new, id ∈ p.2.ids) → id < n + 8 * l.length := fun k b hk id hid => by
   have hkl : k < l.length := by have := (ci5.1 hk).1; omega
   obtain ⟨o, ho'⟩ : ∃ o, l[k]? = some o := ⟨_, ch6 hkl⟩
   obtain ⟨ac, ob, hac, _, hop⟩ := hat k o ho'
   rw [hk] at hac; cases hac
   obtain ⟨_, _, hfine⟩ := aV8 hop
   obtain ⟨hf1, hf2, hf3⟩ := af2 hfine
   rcases hid with h | h | ⟨p, hp, h⟩
   ·have := hf3 id h; omega
   ·obtain ⟨p, hp, rfl⟩ := List.mem_map.1 h
    have := (hf1 p hp).1; omega
   ·have := (hf1 p hp).2 id h; omega
  refine done ρ a w (n + 8 * l.length) ⟨hN, hdf, by rw [← eT]; exact hv, fun t x hx => ?_, fun j => ?_, by rw [← eS]; exact M, by have := I0.le; omega, hold⟩
  ·rw [hfT t] at hx
   revert x
   refine at1 (fun y : Option AV => ∀ x, y = some x → ∀ id ∈ x.ids, id < n + 8 * l.length) (fun x hx id hid => ?_) fun k b y hk _ hw x hx id hid => ?_
   ·have := I0.tmi t x hx id hid; omega
   ·unfold wrT at hw
    split at hw
    ·cases hw; cases hx
     exact hids k b hk id (.inl hid)
    ·cases hw
  ·refine ⟨?_, fun hj => ?_⟩
   ·rw [hfS j]
    refine at1 (fun x : It => ∀ id ∈ x.ids, id < n + 8 * l.length) (fun id hid => ?_) fun k b x hk _ hw id hid => ?_
    ·have := (I0.bd j).1 id hid; omega
    ·exact hids k b hk id (.inr (.inr ⟨_, T7 hw, hid⟩))
   ·rw [hfS j, ab5 fun k b hk hw => ?_]
    ·exact (I0.bd j).2 (by omega)
    ·obtain ⟨x, hx⟩ := cm0.1 hw
     have := hids k b hk j (.inr (.inl (List.mem_map.2 ⟨_, T7 hx, rfl⟩)))
     omega
end
def t7 {ι : Type} (φ ψ : Nat → Prop) (w0 : World) (F : ι → Rs) (N m : Nat) (ρ0 ρ : Nat → Value) (S : List It) (tm : List (Nat × AV)) (a : Act) (w : World) : Prop := Inn φ ψ w0 F N m ρ0 S.length ρ (A1 tm) (s6 S) a w
def wfB (S : List It) (tm : List (Nat × AV)) : Bool := S.all (fun x => Z9 S.length x.ids) && tm.all (fun p => Z9 S.length p.2.ids)
def bR4 (m : Nat) (js : List Nat) : Bool := (cj0 m).all fun i => natEq (nth js i) i && decide (i < js.length)
def ai8 (m : Nat) (js : List Nat) (S : List It) (tm : List (Nat × AV)) : Bool := nodupB js && natEq js.length S.length && wfB S tm && bR4 m js
section
variable {P : Program} {ι : Type} {φ ψ : Nat → Prop} {w0 w w' : World} {F : ι → Rs} {ρ ρ0 : Nat → Value} {N m n : Nat} {S : List It} {tm : List (Nat × AV)} {a : Act} {Q : Exit → Act → World → Prop}
theorem aI7 : ∀ {tm : List (Nat × AV)} {t : Nat} {x : AV}, A1 tm t = some x → (t, x) ∈ tm
 | [], _, _, h => by cases h
 | (k, y) :: r, t, x, h => by
  simp only [A1, natEq, beq_iff_eq] at h
  split at h
  ·rename_i e; subst e; cases h; exact cl3
  ·exact cl1 _ (aI7 h)
theorem aj9 {l : List It} {i : Nat} (h : i < l.length) : s6 l i = l[i] := by simp [s6, ch7, h]
theorem y8 {l : List It} {i : Nat} (h : l.length ≤ i) : s6 l i = .none := by simp [s6, ch7, h]
theorem bQ3 {S : List It} {tm : List (Nat × AV)} (h : wfB S tm = true) : (∀ j, (∀ id ∈ (s6 S j).ids, id < S.length) ∧ (S.length ≤ j → s6 S j = .none)) ∧ ∀ t x, A1 tm t = some x → ∀ id ∈ x.ids, id < S.length := by
 simp only [wfB, ch4] at h
 refine ⟨fun j => ⟨fun id hid => ?_, fun hj => y8 hj⟩, fun t x hx id hid => ?_⟩
 ·rcases cj6 j S.length with hj | hj
  ·rw [aj9 hj] at hid
   exact E3 (ci2.1 h.1 _ (cj1 hj)) id hid
  ·rw [y8 hj] at hid; cases hid
 ·exact E3 (ci2.1 h.2 _ (aI7 hx)) id hid
theorem Inn.sel {tf : Nat → Option AV} {Sf : Nat → It} (I : Inn φ ψ w0 F N m ρ0 n ρ tf Sf a w) (js : List Nat) (S1 : List It) (tm1 : List (Nat × AV)) (hb : ai8 m js S1 tm1 = true) (hS : js.map Sf = S1.map (It.ren (nth js))) (ht : (tm1.map (·.1)).map tf = tm1.map fun p => some (p.2.ren (nth js))) :
  t7 φ ψ w0 F N m ρ0 (fun i => ρ (nth js i)) S1 tm1 a w := by
 simp only [ai8, ch4, natEq, beq_iff_eq] at hb
 obtain ⟨⟨⟨hnd, hl⟩, hwf⟩, hkeep⟩ := hb
 have hn := aq5 hnd
 obtain ⟨b1, b2⟩ := bQ3 hwf
 have hk : ∀ i, i < m → nth js i = i ∧ i < js.length := fun i hi => by
  have := ci2.1 hkeep i (cl5.2 hi)
  simpa [natEq] using this
 refine ⟨I.size, I.defs, fun t x hx => ?_, b2, b1, ?_, ?_, fun i hi => ?_⟩
 ·obtain ⟨i, hi⟩ := List.mem_iff_getElem?.1 (aI7 hx)
  have h1 := congrArg (·[i]?) ht
  simp only [List.getElem?_map, hi, Option.map_some] at h1
  rw [I.tmv t _ (Option.some.inj h1), AV.val_ren]
 ·refine I.mem.map (fun k : ι ⊕ Nat => (match k with | .inl i => some (.inl i) | .inr i => if i < js.length then some (.inr (nth js i)) else none : Option (ι ⊕ Nat))) ?_ ?_
  ·intro k k' x h1 h2
   match k, k' with
   | .inl i, .inl i' => simp at h1 h2; rw [← h1] at h2; simpa using h2.symm
   | .inl i, .inr j => simp only at h1 h2; cases h1; split at h2 <;> simp at h2
   | .inr j, .inl i => simp only at h1 h2; cases h2; split at h1 <;> simp at h1
   | .inr j, .inr j' =>
    simp at h1 h2
    obtain ⟨f1, f2⟩ := h1
    obtain ⟨g1, g2⟩ := h2
    rw [← f2] at g2
    have hj := Sum.inr.inj g2
    have e1 := ch6 f1
    have e2 := ch6 g1
    rw [I1 e2, I1 e1] at hj
    have := (List.getElem?_inj f1 hn).1 (e1.trans (by rw [← hj]; exact e2.symm))
    rw [this]
  ·intro k
   match k with
   | .inl i => exact .inl ⟨_, rfl, rfl⟩
   | .inr i =>
    by_cases hlt : i < js.length
    ·refine .inl ⟨.inr (nth js i), by simp [hlt], ?_⟩
     have h1 := congrArg (·[i]?) hS
     have hlt' : i < S1.length := by omega
     simp only [List.getElem?_map, ch6 hlt, ch6 hlt', Option.map_some, Option.some.injEq] at h1
     simp only [p8]
     rw [aj9 hlt', I1 (ch6 hlt), h1, ← It.res_ren, I1 (ch6 hlt)]
    ·refine .inr ?_
     simp only [p8]
     rw [y8 (by omega)]
     rfl
 ·rcases cj6 S1.length m with h | h
  ·have := (hk S1.length h).2; omega
  ·exact h
 ·rw [(hk i hi).1]; exact I.old i hi
def a31 (o : Option RS) (js ts : List Nat) : Option (List Prop × List It × List (Option AV) × List (List (List AV × List It)) × List (List AV)) := o.map fun r => (r.obs, js.map r.S, ts.map (A1 r.tm), r.acts.map (·.eqs.1), r.acts.map (·.eqw.1))
def bc6 (o : Option RS) (obs : List Prop) (js : List Nat) (S : List It) (tm : List (Nat × AV)) : Option (List Prop × List It × List (Option AV) × List (List (List AV × List It)) × List (List AV)) := o.map fun r => (obs, S.map (It.ren (nth js)), tm.map (fun p => some (p.2.ren (nth js))), r.acts.map (·.eqs.2), r.acts.map (·.eqw.2))
def bn4 (l : List Oper) (ms : List Nat) (n : Nat) (S : Nat → It) (o : Option RS) : Bool := aW2 ms l && al2 l.toArray && match o with
 | some r => bV7 ms r.acts && bA8 ms n r.acts && bv4 ms S r.acts
 | none => false
theorem bU6 {dk : TypeId → Nat} {l : List Oper} {id : Nat} (G : t7 φ ψ w0 F N m ρ0 ρ S tm a w) (H : U0) (hH : ∀ i c τ, N5 H.calls i = some (c, τ) → c.ok P) (hF : R5 H.facts) (js : List Nat) (S1 : List It) (tm1 : List (Nat × AV)) (obs : List Prop)
  (hs : ((Y0 P dk N l H l 0 tm (s6 S) S.length).isSome && ai8 m js S1 tm1) = true)
  (hc : a31 (Y0 P dk N l H l 0 tm (s6 S) S.length) js (tm1.map (·.1)) = bc6 (Y0 P dk N l H l 0 tm (s6 S) S.length) obs js S1 tm1)
  (ho : v9 obs) (k : ∀ ρ' a' w', t7 φ ψ w0 F N m ρ0 ρ' S1 tm1 a' w' → Q .normal a' w') : (Code.region id l.toArray false).wp P Q a w := by
 simp only [ch4] at hs
 obtain ⟨r, hr⟩ := cm0.1 hs.1
 rw [hr] at hc
 simp only [a31, bc6, Option.map_some, Option.some.injEq, Prod.mk.injEq] at hc
 obtain ⟨h1, h2, h3, h4, h5⟩ := hc
 refine wp_region_lit (bk2 hH hF l 0 S.length G hr (by rw [h1]; exact ho) h4 h5 fun ρ' a' w' n' I => ?_)
 exact k _ a' w' (I.sel js S1 tm1 hs.2 h2 h3)
theorem bJ7 {dk : TypeId → Nat} {l : List Oper} {id : Nat} (G : t7 φ ψ w0 F N m ρ0 ρ S tm a w) (H : U0) (hH : ∀ i c τ, N5 H.calls i = some (c, τ) → c.ok P) (hF : R5 H.facts) (ms : List Nat) (js : List Nat) (S1 : List It) (tm1 : List (Nat × AV)) (obs : List Prop) (hm : P.follows .mixedOrders = true)
  (hs : (bn4 l ms S.length (s6 S) (Y0 P dk N l H l 0 tm (s6 S) S.length) && ai8 m js S1 tm1) = true)
  (hc : a31 (Y0 P dk N l H l 0 tm (s6 S) S.length) js (tm1.map (·.1)) = bc6 (Y0 P dk N l H l 0 tm (s6 S) S.length) obs js S1 tm1)
  (ho : v9 obs) (k : ∀ ρ' a' w', t7 φ ψ w0 F N m ρ0 ρ' S1 tm1 a' w' → Q .normal a' w') : (Code.region id l.toArray true).wp P Q a w := by
 simp only [ch4, bn4] at hs
 obtain ⟨⟨⟨q1, q2⟩, q3⟩, q4⟩ := hs
 cases hr : Y0 P dk N l H l 0 tm (s6 S) S.length with
 | none => rw [hr] at q3; cases q3
 | some r =>
  rw [hr] at q3 hc
  simp only [ch4] at q3
  simp only [a31, bc6, Option.map_some, Option.some.injEq, Prod.mk.injEq] at hc
  obtain ⟨h1, h2, h3, h4, h5⟩ := hc
  refine aT6 hH hF G hr (by rw [h1]; exact ho) h4 h5 ms hm q2 q1 q3.1.1 q3.1.2 q3.2 fun ρ' a' w' n' I => ?_
  exact k _ a' w' (I.sel js S1 tm1 q4 h2 h3)
theorem rs1 {dk : TypeId → Nat} {l : List Oper} {id : Nat} (G : t7 φ ψ w0 F N m ρ0 ρ S tm a w) (H : U0) (hH : ∀ i c τ, N5 H.calls i = some (c, τ) → c.ok P) (hF : R5 H.facts) (js : List Nat) (S1 : List It) (tm1 : List (Nat × AV)) (obs : List Prop)
  (ho : v9 obs) (k : ∀ ρ' a' w', t7 φ ψ w0 F N m ρ0 ρ' S1 tm1 a' w' → Q .normal a' w')
  (hs : ((Y0 P dk N l H l 0 tm (s6 S) S.length).isSome && ai8 m js S1 tm1) = true := by kernel_rfl)
  (hc : a31 (Y0 P dk N l H l 0 tm (s6 S) S.length) js (tm1.map (·.1)) = bc6 (Y0 P dk N l H l 0 tm (s6 S) S.length) obs js S1 tm1 := by kernel_rfl) : (Code.region id l.toArray false).wp P Q a w := bU6 G H hH hF js S1 tm1 obs hs hc ho k
theorem rd1 {dk : TypeId → Nat} {l : List Oper} {id : Nat} (G : t7 φ ψ w0 F N m ρ0 ρ S tm a w) (H : U0) (hH : ∀ i c τ, N5 H.calls i = some (c, τ) → c.ok P) (hF : R5 H.facts) (ms : List Nat) (js : List Nat) (S1 : List It) (tm1 : List (Nat × AV)) (obs : List Prop)
  (ho : v9 obs) (k : ∀ ρ' a' w', t7 φ ψ w0 F N m ρ0 ρ' S1 tm1 a' w' → Q .normal a' w') (hm : P.follows .mixedOrders = true := by kernel_rfl)
  (hs : (bn4 l ms S.length (s6 S) (Y0 P dk N l H l 0 tm (s6 S) S.length) && ai8 m js S1 tm1) = true := by kernel_rfl)
  (hc : a31 (Y0 P dk N l H l 0 tm (s6 S) S.length) js (tm1.map (·.1)) = bc6 (Y0 P dk N l H l 0 tm (s6 S) S.length) obs js S1 tm1 := by kernel_rfl) : (Code.region id l.toArray true).wp P Q a w := bJ7 G H hH hF ms js S1 tm1 obs hm hs hc ho k
theorem an1 : ∀ i c τ, N5 [] i = some (c, τ) → j9.ok P c := fun i c τ h => by cases h
theorem aL4 {i0 : Nat} {c0 : j9} {τ0 : List Nat} {r : List (Nat × j9 × List Nat)} (h0 : c0.ok P) (hr : ∀ i c τ, N5 r i = some (c, τ) → j9.ok P c) : ∀ i c τ, N5 ((i0, c0, τ0) :: r) i = some (c, τ) → j9.ok P c := fun i c τ h => by
 simp only [N5] at h
 split at h
 ·cases h; exact h0
 ·exact hr i c τ h
theorem t7.sel (G : t7 φ ψ w0 F N m ρ0 ρ S tm a w) (js : List Nat) (S1 : List It) (tm1 : List (Nat × AV)) (hb : ai8 m js S1 tm1 = true) (hS : js.map (s6 S) = S1.map (It.ren (nth js))) (ht : (tm1.map (·.1)).map (A1 tm) = tm1.map fun p => some (p.2.ren (nth js))) : ∃ ρ', t7 φ ψ w0 F N m ρ0 ρ' S1 tm1 a w := ⟨_, Inn.sel G js S1 tm1 hb hS ht⟩
theorem t7.as (G : t7 φ ψ w0 F N m ρ0 ρ S tm a w) (S1 : List It) (tm1 : List (Nat × AV)) (hS : S = S1) (ht : tm = tm1) : t7 φ ψ w0 F N m ρ0 ρ S1 tm1 a w := by subst hS; subst ht; exact G
theorem t7.at (G : t7 φ ψ w0 F N m ρ0 ρ S tm a w) (S1 : List It) (tm1 : List (Nat × AV)) (hS : S = S1 := by kernel_rfl) (ht : tm = tm1 := by kernel_rfl) : t7 φ ψ w0 F N m ρ0 ρ S1 tm1 a w := G.as S1 tm1 hS ht
theorem al6 {c : Nat} {x y : Code} (G : t7 φ ψ w0 F N m ρ0 ρ S tm a w) (b : Bool) (hc : A1 tm c = some (.v (.bool b))) (ht : b = true → x.wp P Q a w) (hf : b = false → y.wp P Q a w) : (Code.cond (.tmp c) x y).wp P Q a w := by
 have h := G.tmv c _ hc
 refine wp_cond_split (t := b) ?_ ht hf
 simp [Act.eval, Array.getD_eq_getD_getElem?, h, AV.val]
theorem bx9 {c : Nat} {x y : Code} (G : t7 φ ψ w0 F N m ρ0 ρ S tm a w) (b : Bool) (hc : A1 tm c = some (.v (.bool b))) (hb : b = true) (h : x.wp P Q a w) : (Code.cond (.tmp c) x y).wp P Q a w := al6 G b hc (fun _ => h) fun hf => by rw [hb] at hf; cases hf
theorem by0 {c : Nat} {x y : Code} (G : t7 φ ψ w0 F N m ρ0 ρ S tm a w) (b : Bool) (hc : A1 tm c = some (.v (.bool b))) (hb : b = false) (h : y.wp P Q a w) : (Code.cond (.tmp c) x y).wp P Q a w := al6 G b hc (fun ht => by rw [hb] at ht; cases ht) fun _ => h
def bb8 (P : Program) (tm : Nat → Option AV) (S : Nat → It) : List ResultVar → Option (List AV)
 | [] => some []
 | .tmp t :: r =>
  match tm t, bb8 P tm S r with
  | some x, some l => some (x :: l)
  | _, _ => none
 | .cell t ty :: r =>
  match tm t, bb8 P tm S r with
  | some (.ptr b off), some l =>
   match S b with
   | .box cs => (bu3 P ty ((cs.drop off).take (aG0 P ty))).map fun x => x :: l
   | _ => none
  | _, _ => none
def a22 (P : Program) (fn : Func) (tm : List (Nat × AV)) (S : List It) : Option AV :=
 match bb8 P (A1 tm) (s6 S) fn.results.toList with
 | some [x] => some x
 | some l => some (.tup l)
 | none => none
theorem bH3 {cs : List AV} {ty : TypeId} {b off : Nat} {x : AV} (hB : C4 w b (AV.vals ρ cs)) (h : bu3 P ty ((cs.drop off).take (aG0 P ty)) = some x) : (loadVar ty ⟨b, off, none⟩).run P w = .ok (x.val ρ) w :=
 ay7 h ⟨b, off, none⟩ fun j u hj => by
  rw [AV.vals_take, AV.vals_drop] at hj
  have hadd : (⟨b, off, none⟩ : Addr).add j = ⟨b, off + j, none⟩ := by unfold Addr.add; split <;> simp_all
  rw [hadd, hB.cell]
  rw [List.getElem?_take] at hj
  split at hj
  ·rw [List.getElem?_drop] at hj; exact hj
  ·cases hj
theorem aV3 (G : t7 φ ψ w0 F N m ρ0 ρ S tm a w) : ∀ {rs : List ResultVar} {l : List AV}, bb8 P (A1 tm) (s6 S) rs = some l →
  (rs.mapM (fun r => (match r with | .tmp t => pure (a.tmps.getD t undef) | .cell b t => do loadVar t (← asAddr (a.tmps.getD b undef)) : Sem Value))).run P w = .ok (AV.vals ρ l) w
 | [], l, h => by cases h; simp [AV.vals]
 | .tmp t :: r, l, h => by
  simp only [bb8] at h
  split at h
  case h_2 => cases h
  rename_i x l' h1 h2
  cases h
  have ht := G.tmv t x h1
  have ih := aV3 G h2
  have e : (pure (a.tmps.getD t undef) : Sem Value).run P w = .ok (x.val ρ) w := by simp [Array.getD_eq_getD_getElem?, ht]
  rw [List.mapM_cons, Sem.run_bind, e, Result.andThen_ok, Sem.run_bind, ih]
  rfl
 | .cell t ty :: r, l, h => by
  simp only [bb8] at h
  split at h
  case h_2 => cases h
  rename_i b off l' h1 h2
  split at h
  case h_2 => cases h
  rename_i cs hS
  obtain ⟨x, h3, h4⟩ := ci4.1 h
  subst h4
  have ht := G.tmv t _ h1
  have ih := aV3 G h2
  have hl := bH3 (P := P) (G.mem.boxAt hS) h3
  have e : (do loadVar ty (← asAddr (a.tmps.getD t undef)) : Sem Value).run P w = .ok (x.val ρ) w := by
   rw [show a.tmps.getD t undef = .pointer (some ⟨X7 (ρ b), off, none⟩) by simp [Array.getD_eq_getD_getElem?, ht, AV.val]]
   simp [asAddr, hl]
  rw [List.mapM_cons, Sem.run_bind, e, Result.andThen_ok, Sem.run_bind, ih]
  rfl
theorem bU7 {fn : Func} {R : Ending → World → Prop} {v : AV} (G : t7 φ ψ w0 F N m ρ0 ρ S tm a w) (h : a22 P fn tm S = some v) (hR : R (.returned (v.val ρ)) w) : bodyPost P fn R .ret a w := by
 refine ⟨G.defs, v.val ρ, ?_, hR⟩
 unfold a22 at h
 cases hl : bb8 P (A1 tm) (s6 S) fn.results.toList with
 | none => rw [hl] at h; cases h
 | some l =>
  rw [hl] at h
  have := aV3 G hl
  unfold results
  rw [Sem.run_bind, Array.mapM_eq_mapM_toList, Sem.run_map]
  erw [this]
  simp only [Result.andThen_ok, Sem.run_pure]
  match l, h with
  | [], h => cases h; rfl
  | [x], h => cases h; rfl
  | x :: y :: r, h => cases h; rfl
def aM4 (i : Nat) : List AV → List (Nat × AV)
 | [] => []
 | x :: r => (i, x) :: aM4 (i + 1) r
theorem a87 (ρ : Nat → Value) : ∀ {l : List AV} {i t : Nat} {x : AV}, A1 (aM4 i l) t = some x → i ≤ t ∧ (AV.vals ρ l)[t - i]? = some (x.val ρ)
 | [], _, _, _, h => by cases h
 | y :: r, i, t, x, h => by
  simp only [aM4, A1, natEq, beq_iff_eq] at h
  split at h
  ·rename_i e; subst e; cases h; exact ⟨ch9 _, by simp [AV.vals]⟩
  ·obtain ⟨h1, h2⟩ := a87 ρ h
   refine ⟨by omega, ?_⟩
   rw [show t - i = (t - (i + 1)) + 1 by omega]
   simpa [AV.vals] using h2
def a92 (φ ψ : Nat → Prop) (w0 : World) (F : ι → Rs) (ρ0 : Nat → Value) (c : j9) (x : Ending) (w' : World) : Prop := ∃ ρ', (∀ i, i < c.pre.length → ρ' i = ρ0 i) ∧ x = .returned (c.res.val ρ') ∧ l7 φ ψ w0 w' (p8 F ρ' (s6 c.post))
theorem bx8 {c : j9} {fn : Func} {code : Code} (N : Nat) (hf : P.funcs[c.f]? = some fn) (hb : fn.body = some code) (hN : fn.ntmps = N) (hw : (wfB c.pre (aM4 0 c.args) && decide (c.args.length ≤ N)) = true)
  (k : ∀ {ι : Type} (φ ψ : Nat → Prop) (w0 w : World) (F : ι → Rs) (ρ0 ρ : Nat → Value) (a : Act), t7 φ ψ w0 F N c.pre.length ρ0 ρ c.pre (aM4 0 c.args) a w → code.wp P (bodyPost P fn (a92 φ ψ w0 F ρ0 c)) a w) : c.ok P := by
 intro ι φ ψ w0 w F ρ M
 simp only [ch4, decide_eq_true_eq] at hw
 obtain ⟨b1, b2⟩ := bQ3 hw.1
 refine calls_of_wp hf hb (k φ ψ w0 w F ρ ρ _ ⟨?_, rfl, fun t x hx => ?_, b2, b1, M, ch9 _, fun _ _ => rfl⟩)
 ·simp [AV.vals_length, hN]; omega
 ·obtain ⟨_, h1⟩ := a87 ρ hx
  rw [Nat.sub_zero] at h1
  have hlt := (ci5.1 h1).1
  rw [Array.getElem?_append_left (by simpa using hlt)]
  simpa using h1
theorem aH4 {fn : Func} {c : j9} {v : AV} (G : t7 φ ψ w0 F N c.pre.length ρ0 ρ S tm a w) (js : List Nat) (h : a22 P fn tm S = some v) (hb : ai8 c.pre.length js c.post [] = true) (hS : js.map (s6 S) = c.post.map (It.ren (nth js))) (hv : v = c.res.ren (nth js)) : bodyPost P fn (a92 φ ψ w0 F ρ0 c) .ret a w := by
 have G1 := Inn.sel G js c.post [] hb hS rfl
 refine bU7 G h ⟨fun i => ρ (nth js i), G1.old, ?_, G1.mem⟩
 rw [hv, AV.val_ren]
theorem b6 {K : Act → World → Prop} (h : K a w) : Exit.then K Q .normal a w := h
theorem s7 {K : Act → World → Prop} {id : Nat} (h : Q (.exit id) a w) : Exit.then K Q (.exit id) a w := h
theorem l6 {K : Act → World → Prop} (h : Q .ret a w) : Exit.then K Q .ret a w := h
theorem l0 {id : Nat} (h : Q .normal a w) : Exit.inBlock id Q .normal a w := h
theorem z5 {id : Nat} (h : Q .ret a w) : Exit.inBlock id Q .ret a w := h
theorem r8 {id : Nat} (h : Q .normal a w) : Exit.inBlock id Q (.exit id) a w := by simp only [Exit.inBlock, if_true]; exact h
theorem bP3 {id id' : Nat} (hne : natEq id' id = false) (h : Q (.exit id') a w) : Exit.inBlock id Q (.exit id') a w := by
 simp only [Exit.inBlock]
 rw [if_neg (by simpa [natEq] using hne)]; exact h
theorem w64 {x : Int} (h1 : -9223372036854775808 ≤ x) (h2 : x ≤ 9223372036854775807) : IntKind.i64.wrap x = x := IntWalk.i64_in x ⟨h1, h2⟩
theorem rT {c : Nat} {x y : Code} (G : t7 φ ψ w0 F N m ρ0 ρ S tm a w) (b : Bool) (hb : b = true) (h : x.wp P Q a w) (hc : A1 tm c = some (.v (.bool b)) := by kernel_rfl) : (Code.cond (.tmp c) x y).wp P Q a w := bx9 G b hc hb h
theorem rF {c : Nat} {x y : Code} (G : t7 φ ψ w0 F N m ρ0 ρ S tm a w) (b : Bool) (hb : b = false) (h : y.wp P Q a w) (hc : A1 tm c = some (.v (.bool b)) := by kernel_rfl) : (Code.cond (.tmp c) x y).wp P Q a w := by0 G b hc hb h
theorem t0 {κ : Type} {c : Code} (pre : κ → Prop) (μ : κ → Nat) (Sk : κ → List It) (Tk : κ → List (Nat × AV)) (k0 : κ) (hp : pre k0) (G : t7 φ ψ w0 F N m ρ0 ρ (Sk k0) (Tk k0) a w)
  (round : ∀ k ρ a w, pre k → t7 φ ψ w0 F N m ρ0 ρ (Sk k) (Tk k) a w → c.wp P (Exit.then (fun a' w' => ∃ k' ρ', pre k' ∧ μ k' < μ k ∧ t7 φ ψ w0 F N m ρ0 ρ' (Sk k') (Tk k') a' w') Q) a w) : (Code.loop c).wp P Q a w := by
 refine wp_loop_ghost (fun n a w => ∃ k ρ, μ k = n ∧ pre k ∧ t7 φ ψ w0 F N m ρ0 ρ (Sk k) (Tk k) a w) (μ k0) ⟨k0, ρ, rfl, hp, G⟩ ?_
 rintro n a w ⟨k, ρ, rfl, hk, Gk⟩
 refine wp_mono (round k ρ a w hk Gk) ?_
 intro e a' w' hq
 cases e with
 | normal =>
  obtain ⟨k', ρ', h1, h2, h3⟩ := hq
  exact ⟨μ k', h2, k', ρ', rfl, h1, h3⟩
 | _ => exact hq
theorem bJ6 {κ : Type} {pre : κ → Prop} {μ : κ → Nat} {Sk : κ → List It} {Tk : κ → List (Nat × AV)} {k : κ} (G : t7 φ ψ w0 F N m ρ0 ρ S tm a w) (k' : κ) (hp : pre k') (hμ : μ k' < μ k) (js : List Nat) (S1 : List It) (tm1 : List (Nat × AV)) (hs1 : Sk k' = S1) (ht1 : Tk k' = tm1)
  (hb : ai8 m js S1 tm1 = true) (hS : js.map (s6 S) = S1.map (It.ren (nth js))) (ht : (tm1.map (·.1)).map (A1 tm) = tm1.map fun p => some (p.2.ren (nth js))) :
  ∃ k' ρ', pre k' ∧ μ k' < μ k ∧ t7 φ ψ w0 F N m ρ0 ρ' (Sk k') (Tk k') a w := by
 subst hs1; subst ht1
 exact ⟨k', _, hp, hμ, Inn.sel G js _ _ hb hS ht⟩
theorem t7.len (G : t7 φ ψ w0 F N m ρ0 ρ S tm a w) (i : Nat) {d : D} (h : itD (s6 S i) = some d) : d.len ≤ 9223372036854775807 := by
 obtain ⟨_, cap, _, h1, h2, _⟩ := G.mem.sliceAt h
 unfold maxLen at h2; omega
end
def dkP (t : TypeId) : Nat :=
 if natEq t 3 then 1 else
 if natEq t 4 then 2 else
 if natEq t 5 then 3 else
 if natEq t 9 then 4 else
if natEq t 86 then 5 else
 if natEq t 23 then 7 else
if natEq t 57 then 8 else
if natEq t 104 then 9 else
if natEq t 106 then 10 else
 0
abbrev eA (e : c6) (r : Nat) : AV := .agg [.v (.int .i64 e.kind), .v (.int .i64 e.value), .ref r]
abbrev eS (e : c6) : List It := [.dat (.exprs e.kids)]
abbrev sA (s : c5) (r : Nat) : AV := .agg [.v (.int .i64 s.kind), .v (.int .i64 s.target), .v (.int .i64 s.index.kind), .v (.int .i64 s.index.value), .ref r, .v (.int .i64 s.value.kind), .v (.int .i64 s.value.value), .ref (r + 1), .v (.int .i64 s.count), .ref (r + 2), .ref (r + 3)]
abbrev sS (s : c5) : List It := [.dat (.exprs s.index.kids), .dat (.exprs s.value.kids), .dat (.stmts s.body), .dat (.stmts s.els)]
abbrev pA (r : Nat) : AV := .agg [.ref r, .ref (r + 1), .ref (r + 2)]
abbrev pS (p : i6) : List It := [.dat (.ints p.vars), .dat (.ints p.arrays), .dat (.stmts p.body)]
abbrev iA (n : Int) : AV := .v (.int .i64 n)
abbrev bA (b : Bool) : AV := .v (.bool b)
abbrev T5 (f : FuncId) (args : List AV) (S : List It) (res : AV) : j9 := ⟨f, args, S, S, res⟩
abbrev dI (l : List Int) : It := .dat (.ints l)
abbrev dB (l : List Bool) : It := .dat (.bools l)
abbrev dY (l : List UInt8) : It := .dat (.bytes l)
abbrev dN (l : List d7) : It := .dat (.instrs l)
abbrev dE (l : List c6) : It := .dat (.exprs l)
abbrev dT (l : List c5) : It := .dat (.stmts l)
abbrev eL (e : c6) (r : Nat) : List AV := [.v (.int .i64 e.kind), .v (.int .i64 e.value), .ref r]
abbrev sL (s : c5) (r : Nat) : List AV := [.v (.int .i64 s.kind), .v (.int .i64 s.target), .v (.int .i64 s.index.kind), .v (.int .i64 s.index.value), .ref r, .v (.int .i64 s.value.kind), .v (.int .i64 s.value.value), .ref (r + 1), .v (.int .i64 s.count), .ref (r + 2), .ref (r + 3)]
abbrev pL (r : Nat) : List AV := [.ref r, .ref (r + 1), .ref (r + 2)]
section
variable {P : Program} {ι : Type} {φ ψ : Nat → Prop} {w0 w w' : World} {F : ι → Rs} {ρ ρ0 : Nat → Value} {N m n : Nat} {S : List It} {tm : List (Nat × AV)} {a : Act} {Q : Exit → Act → World → Prop}
end
theorem c6.eta (e : c6) : (⟨e.kind, e.value, e.kids⟩ : c6) = e := by cases e; rfl
theorem c5.eta (s : c5) : (⟨s.kind, s.target, s.index, s.value, s.count, s.body, s.els⟩ : c5) = s := by cases s; rfl
section
variable {ι : Type} {P : Program} {φ ψ : Nat → Prop} {w0 w : World} {F : ι → Rs} {N m : Nat} {ρ0 ρ : Nat → Value} {S : List It} {tm : List (Nat × AV)} {a : Act}
theorem K8 {fn : Func} {c : j9} (G : t7 φ ψ w0 F N c.pre.length ρ0 ρ S tm a w) (js : List Nat) (hS : js.map (s6 S) = c.post.map (It.ren (nth js)) := by kernel_rfl) (h : a22 P fn tm S = some (c.res.ren (nth js)) := by kernel_rfl) (hb : ai8 c.pre.length js c.post [] = true := by kernel_rfl) : bodyPost P fn (a92 φ ψ w0 F ρ0 c) .ret a w := aH4 G js h hb hS rfl
theorem cc6 {fn : Func} {c : j9} (G : t7 φ ψ w0 F N c.pre.length ρ0 ρ S tm a w) (js : List Nat) (hS : js.map (s6 S) = c.post.map (It.ren (nth js)) := by kernel_rfl) (h : a22 P fn tm S = some (c.res.ren (nth js)) := by kernel_rfl) (hb : ai8 c.pre.length js c.post [] = true := by kernel_rfl) : bodyPost P fn (a92 φ ψ w0 F ρ0 c) .normal a w := aH4 G js h hb hS rfl
theorem U2 {fn : Func} {c : j9} (v : AV) (G : t7 φ ψ w0 F N c.pre.length ρ0 ρ S tm a w) (js : List Nat) (hv : v = c.res.ren (nth js)) (hS : js.map (s6 S) = c.post.map (It.ren (nth js)) := by kernel_rfl) (h : a22 P fn tm S = some v := by kernel_rfl) (hb : ai8 c.pre.length js c.post [] = true := by kernel_rfl) : bodyPost P fn (a92 φ ψ w0 F ρ0 c) .ret a w := aH4 G js h hb hS hv
theorem I9 {κ : Type} {pre : κ → Prop} {μ : κ → Nat} {Sk : κ → List It} {Tk : κ → List (Nat × AV)} {k : κ} (G : t7 φ ψ w0 F N m ρ0 ρ S tm a w) (k' : κ) (hp : pre k') (hμ : μ k' < μ k) (js : List Nat) (hS : js.map (s6 S) = (Sk k').map (It.ren (nth js)) := by kernel_rfl) (ht : ((Tk k').map (·.1)).map (A1 tm) = (Tk k').map (fun p => some (p.2.ren (nth js))) := by kernel_rfl) (hb : ai8 m js (Sk k') (Tk k') = true := by kernel_rfl) : ∃ k' ρ', pre k' ∧ μ k' < μ k ∧ t7 φ ψ w0 F N m ρ0 ρ' (Sk k') (Tk k') a w := bJ6 G k' hp hμ js _ _ rfl rfl hb hS ht
theorem J6 {fn : Func} {f : FuncId} {args : List AV} {pre post : List It} {x : Bool} (y : Bool) (G : t7 φ ψ w0 F N pre.length ρ0 ρ S tm a w) (js : List Nat) (e : x = y) (hS : js.map (s6 S) = post.map (It.ren (nth js)) := by kernel_rfl) (h : a22 P fn tm S = some (bA y) := by kernel_rfl) (hb : ai8 pre.length js post [] = true := by kernel_rfl) : bodyPost P fn (a92 φ ψ w0 F ρ0 ⟨f, args, pre, post, bA x⟩) .ret a w := aH4 (c := ⟨f, args, pre, post, bA x⟩) G js h hb hS (by rw [e]; rfl)
theorem rxI {fn : Func} {f : FuncId} {args : List AV} {pre post : List It} {x : Int} (y : Int) (G : t7 φ ψ w0 F N pre.length ρ0 ρ S tm a w) (js : List Nat) (e : x = y) (hS : js.map (s6 S) = post.map (It.ren (nth js)) := by kernel_rfl) (h : a22 P fn tm S = some (iA y) := by kernel_rfl) (hb : ai8 pre.length js post [] = true := by kernel_rfl) : bodyPost P fn (a92 φ ψ w0 F ρ0 ⟨f, args, pre, post, iA x⟩) .ret a w := aH4 (c := ⟨f, args, pre, post, iA x⟩) G js h hb hS (by rw [e]; rfl)
end
abbrev wO (x : Int) : Prop := IntKind.i64.wrap x = x
theorem oW {x : Int} (h : -9223372036854775808 ≤ x ∧ x ≤ 9223372036854775807) : wO x := w64 h.1 h.2
theorem o1 {x : Int} (h : -9223372036854775808 ≤ x ∧ x ≤ 9223372036854775807) : v9 [wO x] := ⟨oW h, ci7⟩
theorem o2 {x y : Int} (h : (-9223372036854775808 ≤ x ∧ x ≤ 9223372036854775807) ∧ -9223372036854775808 ≤ y ∧ y ≤ 9223372036854775807) : v9 [wO x, wO y] := ⟨oW h.1, oW h.2, ci7⟩
theorem o3 {x y z : Int} (h : (-9223372036854775808 ≤ x ∧ x ≤ 9223372036854775807) ∧ (-9223372036854775808 ≤ y ∧ y ≤ 9223372036854775807) ∧ -9223372036854775808 ≤ z ∧ z ≤ 9223372036854775807) : v9 [wO x, wO y, wO z] := ⟨oW h.1, oW h.2.1, oW h.2.2, ci7⟩
theorem o4 {x y z u : Int} (h : (-9223372036854775808 ≤ x ∧ x ≤ 9223372036854775807) ∧ (-9223372036854775808 ≤ y ∧ y ≤ 9223372036854775807) ∧ (-9223372036854775808 ≤ z ∧ z ≤ 9223372036854775807) ∧ -9223372036854775808 ≤ u ∧ u ≤ 9223372036854775807) : v9 [wO x, wO y, wO z, wO u] := ⟨oW h.1, oW h.2.1, oW h.2.2.1, oW h.2.2.2, ci7⟩
abbrev aP (n b : Nat) (r : List Prop) : List Prop := (n ≤ 9223372036854775807) :: (n * b ≤ 140737488355328) :: r
theorem aK {n b : Nat} {r : List Prop} (h : n ≤ 100000000000) (k : v9 r) (hb : b ≤ 1000 := by decide) : v9 (aP n b r) := ⟨by omega, cj7 (Nat.mul_le_mul h hb) (by decide), k⟩
abbrev iX (x : Int) (n l : Nat) (r : List Prop) : List Prop := (0 ≤ x) :: (x < (l : Int)) :: (n < l) :: r
theorem iK {x : Int} {n l : Nat} {r : List Prop} (h : 0 ≤ x ∧ x < (l : Int) ∧ n < l) (k : v9 r) : v9 (iX x n l r) := ⟨h.1, h.2.1, h.2.2, k⟩
abbrev mR (js : List Nat) (l : List It) : List It := List.map (It.ren (nth js)) l
theorem fz : R5 [] := ci7
theorem fc {a b : Bool} {r : List (Bool × Bool)} (h : a = b) (k : R5 r) : R5 ((a, b) :: r) := ⟨h, k⟩
abbrev x5 (e : c6) : c6 := c6.mk e.kind e.value e.kids
abbrev qzS (s : c5) : c5 := c5.mk s.kind s.target (c6.mk s.index.kind s.index.value s.index.kids) (c6.mk s.value.kind s.value.value s.value.kids) s.count s.body s.els
def kL (P : Program) (N m : Nat) (l : List Oper) (H : U0) (tm : List (Nat × AV)) (S : List It) (js : List Nat) (S1 : List It) (t1 : List (Nat × AV)) := ((Y0 P dkP N l H l 0 tm (s6 S) S.length).isSome && ai8 m js S1 t1, a31 (Y0 P dkP N l H l 0 tm (s6 S) S.length) js (t1.map (·.1)))
def kR (P : Program) (N : Nat) (l : List Oper) (H : U0) (tm : List (Nat × AV)) (S : List It) (o : List Prop) (js : List Nat) (S1 : List It) (t1 : List (Nat × AV)) := (true, bc6 (Y0 P dkP N l H l 0 tm (s6 S) S.length) o js S1 t1)
def kM (P : Program) (N m : Nat) (l : List Oper) (H : U0) (ms : List Nat) (tm : List (Nat × AV)) (S : List It) (js : List Nat) (S1 : List It) (t1 : List (Nat × AV)) := (bn4 l ms S.length (s6 S) (Y0 P dkP N l H l 0 tm (s6 S) S.length) && ai8 m js S1 t1, a31 (Y0 P dkP N l H l 0 tm (s6 S) S.length) js (t1.map (·.1)))
theorem E9 {P : Program} {c : j9} {fn : Func} {code : Code} (N : Nat) (hf : P.funcs[c.f]? = some fn) (S : List It) (tm : List (Nat × AV)) (k : ∀ {ι : Type} {φ ψ : Nat → Prop} {w0 w : World} {F : ι → Rs} {ρ0 ρ : Nat → Value} {a : Act}, t7 φ ψ w0 F N c.pre.length ρ0 ρ S tm a w → code.wp P (bodyPost P fn (a92 φ ψ w0 F ρ0 c)) a w) (hb : fn.body = some code := by rfl) (hN : (fn.ntmps, c.pre, aM4 0 c.args) = (N, S, tm) := by kernel_rfl) (hw : (wfB c.pre (aM4 0 c.args) && decide (c.args.length ≤ N)) = true := by kernel_rfl) : c.ok P := by
 simp only [Prod.mk.injEq] at hN
 obtain ⟨h1, h2, h3⟩ := hN
 exact bx8 N hf hb h1 hw fun φ ψ w0 w F ρ0 ρ a G => k (ρ := ρ) (G.as S tm h2 h3)
def aT (x y : List (Nat × AV)) : List (Nat × AV) := x ++ y.filter fun p => !(x.any fun q => natEq q.1 p.1)
def HH (P : Program) (H : U0) : Prop := (∀ i c τ, N5 H.calls i = some (c, τ) → c.ok P) ∧ R5 H.facts
theorem d9 {P : Program} : HH P ⟨[], [], []⟩ := ⟨an1, ci7⟩
theorem s8 {P : Program} {c : j9} (i : Nat) (σ : List Nat) (h : c.ok P) : HH P ⟨[(i, c, σ)], [], []⟩ := ⟨aL4 h an1, ci7⟩
theorem J1 {P : Program} {f : List (Bool × Bool)} (h : R5 f) (u : List (Nat × Nat)) : HH P ⟨[], f, u⟩ := ⟨an1, h⟩
def Cs (P : Program) (r : List (Nat × j9 × List Nat)) : Prop := ∀ i c τ, N5 r i = some (c, τ) → c.ok P
theorem F8 {P : Program} : Cs P [] := an1
theorem t4 {P : Program} {c : j9} {r : List (Nat × j9 × List Nat)} (i : Nat) (σ : List Nat) (h : c.ok P) (k : Cs P r) : Cs P ((i, c, σ) :: r) := aL4 h k
theorem F9 {P : Program} {r : List (Nat × j9 × List Nat)} {f : List (Bool × Bool)} (h : Cs P r) (h' : R5 f) (u : List (Nat × Nat)) : HH P ⟨r, f, u⟩ := ⟨h, h'⟩
section
variable {ι : Type} {P : Program} {φ ψ : Nat → Prop} {w0 w : World} {F : ι → Rs} {N m : Nat} {ρ0 ρ : Nat → Value} {S : List It} {tm : List (Nat × AV)} {a : Act} {l : List Oper} {id : Nat} {Q : Exit → Act → World → Prop} {H : U0}
theorem N7 (G : t7 φ ψ w0 F N m ρ0 ρ S tm a w) (hh : HH P H) (js : List Nat) (S1 : List It) (t1 : List (Nat × AV)) (o : List Prop) (ho : v9 o) (k : ∀ {ρ' a' w'}, t7 φ ψ w0 F N m ρ0 ρ' S1 t1 a' w' → Q .normal a' w') (h : kL P N m l H tm S js S1 t1 = kR P N l H tm S o js S1 t1 := by kernel_rfl) : (Code.region id l.toArray false).wp P Q a w := rs1 (dk := dkP) G H hh.1 hh.2 js S1 t1 o ho (fun _ _ _ => k) (congrArg Prod.fst h) (congrArg Prod.snd h)
theorem j8 (G : t7 φ ψ w0 F N m ρ0 ρ S tm a w) (hh : HH P H) (js : List Nat) (S1 : List It) (t1 : List (Nat × AV)) (k : ∀ {ρ' a' w'}, t7 φ ψ w0 F N m ρ0 ρ' S1 t1 a' w' → Q .normal a' w') (h : kL P N m l H tm S js S1 t1 = kR P N l H tm S [] js S1 t1 := by kernel_rfl) : (Code.region id l.toArray false).wp P Q a w := N7 G hh js S1 t1 [] ci7 k h
theorem rB1 (G : t7 φ ψ w0 F N m ρ0 ρ S tm a w) (hh : HH P H) (t1 : List (Nat × AV)) (o : List Prop) (ho : v9 o) (k : ∀ {ρ' a' w'}, t7 φ ψ w0 F N m ρ0 ρ' S t1 a' w' → Q .normal a' w') (h : kL P N m l H tm S (cj0 S.length) S t1 = kR P N l H tm S o (cj0 S.length) S t1 := by kernel_rfl) : (Code.region id l.toArray false).wp P Q a w := rs1 (dk := dkP) G H hh.1 hh.2 (cj0 S.length) S t1 o ho (fun _ _ _ => k) (congrArg Prod.fst h) (congrArg Prod.snd h)
theorem D2 (G : t7 φ ψ w0 F N m ρ0 ρ S tm a w) (hh : HH P H) (t1 : List (Nat × AV)) (k : ∀ {ρ' a' w'}, t7 φ ψ w0 F N m ρ0 ρ' S t1 a' w' → Q .normal a' w') (h : kL P N m l H tm S (cj0 S.length) S t1 = kR P N l H tm S [] (cj0 S.length) S t1 := by kernel_rfl) : (Code.region id l.toArray false).wp P Q a w := rB1 G hh t1 [] ci7 k h
theorem E0 (G : t7 φ ψ w0 F N m ρ0 ρ S tm a w) (hh : HH P H) (t1 : List (Nat × AV)) (o : List Prop) (ho : v9 o) (k : ∀ {ρ' a' w'}, t7 φ ψ w0 F N m ρ0 ρ' S (aT t1 tm) a' w' → Q .normal a' w') (h : kL P N m l H tm S (cj0 S.length) S (aT t1 tm) = kR P N l H tm S o (cj0 S.length) S (aT t1 tm) := by kernel_rfl) : (Code.region id l.toArray false).wp P Q a w := rs1 (dk := dkP) G H hh.1 hh.2 (cj0 S.length) S (aT t1 tm) o ho (fun _ _ _ => k) (congrArg Prod.fst h) (congrArg Prod.snd h)
theorem k8 (G : t7 φ ψ w0 F N m ρ0 ρ S tm a w) (hh : HH P H) (t1 : List (Nat × AV)) (k : ∀ {ρ' a' w'}, t7 φ ψ w0 F N m ρ0 ρ' S (aT t1 tm) a' w' → Q .normal a' w') (h : kL P N m l H tm S (cj0 S.length) S (aT t1 tm) = kR P N l H tm S [] (cj0 S.length) S (aT t1 tm) := by kernel_rfl) : (Code.region id l.toArray false).wp P Q a w := E0 G hh t1 [] ci7 k h
theorem O1 (G : t7 φ ψ w0 F N m ρ0 ρ S tm a w) (hh : HH P H) (ms : List Nat) (js : List Nat) (S1 : List It) (t1 : List (Nat × AV)) (o : List Prop) (ho : v9 o) (k : ∀ {ρ' a' w'}, t7 φ ψ w0 F N m ρ0 ρ' S1 t1 a' w' → Q .normal a' w') (hm : P.follows .mixedOrders = true := by kernel_rfl) (h : kM P N m l H ms tm S js S1 t1 = kR P N l H tm S o js S1 t1 := by kernel_rfl) : (Code.region id l.toArray true).wp P Q a w := rd1 (dk := dkP) G H hh.1 hh.2 ms js S1 t1 o ho (fun _ _ _ => k) hm (congrArg Prod.fst h) (congrArg Prod.snd h)
theorem ag9 (G : t7 φ ψ w0 F N m ρ0 ρ S tm a w) (hh : HH P H) (ms : List Nat) (js : List Nat) (S1 : List It) (t1 : List (Nat × AV)) (k : ∀ {ρ' a' w'}, t7 φ ψ w0 F N m ρ0 ρ' S1 t1 a' w' → Q .normal a' w') (hm : P.follows .mixedOrders = true := by kernel_rfl) (h : kM P N m l H ms tm S js S1 t1 = kR P N l H tm S [] js S1 t1 := by kernel_rfl) : (Code.region id l.toArray true).wp P Q a w := O1 G hh ms js S1 t1 [] ci7 k hm h
theorem b46 (G : t7 φ ψ w0 F N m ρ0 ρ S tm a w) (hh : HH P H) (ms : List Nat) (t1 : List (Nat × AV)) (o : List Prop) (ho : v9 o) (k : ∀ {ρ' a' w'}, t7 φ ψ w0 F N m ρ0 ρ' S t1 a' w' → Q .normal a' w') (hm : P.follows .mixedOrders = true := by kernel_rfl) (h : kM P N m l H ms tm S (cj0 S.length) S t1 = kR P N l H tm S o (cj0 S.length) S t1 := by kernel_rfl) : (Code.region id l.toArray true).wp P Q a w := rd1 (dk := dkP) G H hh.1 hh.2 ms (cj0 S.length) S t1 o ho (fun _ _ _ => k) hm (congrArg Prod.fst h) (congrArg Prod.snd h)
theorem ac8 (G : t7 φ ψ w0 F N m ρ0 ρ S tm a w) (hh : HH P H) (ms : List Nat) (t1 : List (Nat × AV)) (o : List Prop) (ho : v9 o) (k : ∀ {ρ' a' w'}, t7 φ ψ w0 F N m ρ0 ρ' S (aT t1 tm) a' w' → Q .normal a' w') (hm : P.follows .mixedOrders = true := by kernel_rfl) (h : kM P N m l H ms tm S (cj0 S.length) S (aT t1 tm) = kR P N l H tm S o (cj0 S.length) S (aT t1 tm) := by kernel_rfl) : (Code.region id l.toArray true).wp P Q a w := rd1 (dk := dkP) G H hh.1 hh.2 ms (cj0 S.length) S (aT t1 tm) o ho (fun _ _ _ => k) hm (congrArg Prod.fst h) (congrArg Prod.snd h)
theorem bq7 (G : t7 φ ψ w0 F N m ρ0 ρ S tm a w) (hh : HH P H) (ms : List Nat) (t1 : List (Nat × AV)) (k : ∀ {ρ' a' w'}, t7 φ ψ w0 F N m ρ0 ρ' S (aT t1 tm) a' w' → Q .normal a' w') (hm : P.follows .mixedOrders = true := by kernel_rfl) (h : kM P N m l H ms tm S (cj0 S.length) S (aT t1 tm) = kR P N l H tm S [] (cj0 S.length) S (aT t1 tm) := by kernel_rfl) : (Code.region id l.toArray true).wp P Q a w := ac8 G hh ms t1 [] ci7 k hm h
variable {c : Nat} {x y : Code}
theorem rcB {b : Bool} (G : t7 φ ψ w0 F N m ρ0 ρ S tm a w) (f : b = false → y.wp P Q a w) (t : b = true → x.wp P Q a w) (h : A1 tm c = some (.v (.bool b)) := by rfl) : (Code.cond (.tmp c) x y).wp P Q a w := al6 G b h t f
theorem J7 {α : Type} [BEq α] [LawfulBEq α] {u v : α} (G : t7 φ ψ w0 F N m ρ0 ρ S tm a w) (f : (u == v) = false → u ≠ v → y.wp P Q a w) (t : (u == v) = true → u = v → x.wp P Q a w) (h : A1 tm c = some (.v (.bool (u == v))) := by rfl) : (Code.cond (.tmp c) x y).wp P Q a w := al6 G _ h (fun q => t q (eq_of_beq q)) fun q => f q (ne_of_beq_false q)
theorem rcN {α : Type} [BEq α] [LawfulBEq α] {u v : α} (G : t7 φ ψ w0 F N m ρ0 ρ S tm a w) (f : (u != v) = false → u = v → y.wp P Q a w) (t : (u != v) = true → u ≠ v → x.wp P Q a w) (h : A1 tm c = some (.v (.bool (u != v))) := by rfl) : (Code.cond (.tmp c) x y).wp P Q a w := al6 G _ h (fun q => t q (bne_iff_ne.1 q)) fun q => f q (bne_eq_false_iff_eq.1 q)
theorem rcD {p : Prop} [Decidable p] (G : t7 φ ψ w0 F N m ρ0 ρ S tm a w) (f : decide p = false → ¬ p → y.wp P Q a w) (t : decide p = true → p → x.wp P Q a w) (h : A1 tm c = some (.v (.bool (decide p))) := by rfl) : (Code.cond (.tmp c) x y).wp P Q a w := al6 G _ h (fun q => t q (dTt q)) fun q => f q (dFf q)
end
section
variable {P : Program} {f : FuncId}
theorem aV9 {args : List AV} {S : List It} {x : Value} (h : ∀ (φ : Nat → Prop) (w : World) (ρ : Nat → Value), (∀ i d, s6 S i = .dat d → RD w φ d (ρ i)) → Calls P f (AV.vals ρ args).toArray w fun e w' => e = .returned x ∧ Below w.heap.size w w') : j9.ok P (T5 f args S (.v x)) := by
 intro ι φ ψ w0 w F ρ M
 refine (h (FrF φ (p8 F ρ (s6 S))) w ρ fun i d hi => M.datAt hi).mono ?_
 rintro e w' ⟨rfl, hb⟩
 exact ⟨ρ, fun _ _ => rfl, rfl, M.call hb⟩
end
theorem C7 (l : Int) : j9.ok Tryz.prog (T5 192 [iA l] [] (bA (i8 l))) :=
 aV9 fun φ w ρ _ => (I5 l w).mono fun e w' h => ⟨h.1, h.2 ▸ Below.refl _ _⟩
theorem ay1 (p : i6) : j9.ok Tryz.prog (T5 129 [pA 0] (pS p) (bA (F0 p.vars p.arrays))) :=
 aV9 fun φ w ρ h => as4 (ρ 0) (ρ 1) (ρ 2) _ _ w (A2.row (h 0 _ rfl)) (A2.row (h 1 _ rfl))
mutual
theorem b59 : ∀ s : c5, nS s ≤ 1 + K3 s
 | ⟨_, _, _, _, _, b, e⟩ => by
  have h1 := aW1 b
  have h2 := aW1 e
  simp only [nS, K3]; omega
theorem aW1 : ∀ ss : List c5, V6 ss ≤ j6 ss
 | [] => ch9 _
 | s :: r => by
  have h1 := b59 s
  have h2 := aW1 r
  simp only [V6, j6]; omega
end
theorem ae5 (a b : List c5) : V6 (a ++ b) = V6 a + V6 b := by
 induction a with
 | nil => simp [V6]
 | cons x r ih => simp [V6, ih]; omega
theorem br1 {ss : List c5} {k : Nat} (h : k < ss.length) : V6 (ss.take (k + 1)) = V6 (ss.take k) + nS ss[k] := by
 rw [m8 _ _ h, ae5]; simp [V6]
theorem a36 (ss : List c5) (k : Nat) : V6 (ss.take k) ≤ V6 ss := by
 have := ae5 (ss.take k) (ss.drop k)
 rw [List.take_append_drop] at this
 omega
theorem ax0 (s : c5) : nS s = 1 + V6 s.body + V6 s.els := by cases s; simp only [nS]; rfl
theorem ad9 {nv na d : Nat} {s : c5} (h : j7 nv na (d + 1) s = true) : s.body.all (j7 nv na d) = true ∧ s.els.all (j7 nv na d) = true := by
 rw [j7, ch4] at h
 obtain ⟨h1, h2⟩ := h
 unfold n9 at h1
 by_cases k3 : s.kind = 3
 ·rw [if_neg (by omega), if_neg (by omega), if_pos k3] at h2
  simp only [ch4] at h2
  exact ⟨h2.1.2, h2.2⟩
 by_cases k4 : s.kind = 4
 ·rw [if_neg (by omega), if_neg (by omega), if_neg (by omega), if_pos k4] at h2
  rw [if_pos (.inr k4), if_pos k4] at h1
  simp only [ch4, decide_eq_true_eq] at h1
  exact ⟨h2, by rw [cj2 h1.2.1.1.1.1]; rfl⟩
 ·rw [if_neg (by omega)] at h1
  simp only [ch4, decide_eq_true_eq] at h1
  exact ⟨by rw [cj2 h1.1.1.1]; rfl, by rw [cj2 h1.1.1.2]; rfl⟩
theorem aP2 (s : c5) : j6 s.body ≤ K3 s ∧ j6 s.els ≤ K3 s := by
 rcases s with ⟨_, _, _, _, _, b, e⟩
 simp only [K3, c5.body, c5.els]
 omega
theorem a59 {nv na : Nat} : ∀ {ss : List c5}, (∀ s ∈ ss, j7 nv na 1 s = true) → V6 ss = ss.length
 | [], _ => rfl
 | s :: r, h => by
  have h1 := ad9 (h s cl3)
  have key : ∀ l : List c5, l.all (j7 nv na 0) = true → l = [] := fun l hl => by
   cases l with
   | nil => rfl
   | cons a r => simp [j7] at hl
  have h2 := a59 (ss := r) fun x hx => h x (cl1 _ hx)
  rw [V6, ax0, key _ h1.1, key _ h1.2, h2]
  simp [V6]; omega
def l4 (x y : Int) : Int := IntKind.i64.wrap ((BitVec.ofInt (IntKind.bits .i64) x ||| BitVec.ofInt (IntKind.bits .i64) y).toNat : Int)
def bP5 (x y : Int) : Int := IntKind.i64.wrap ((BitVec.ofInt (IntKind.bits .i64) x &&& BitVec.ofInt (IntKind.bits .i64) y).toNat : Int)
def a98 (x y : Int) : Int := IntKind.i64.wrap ((BitVec.ofInt (IntKind.bits .i64) x ^^^ BitVec.ofInt (IntKind.bits .i64) y).toNat : Int)
theorem j9.dup {P : Program} {f : FuncId} {args args' : List AV} {S S' : List It} {d : D} {res : AV} {i : Nat} (hc : j9.ok P ⟨f, args, S ++ [.dat d], S' ++ [.dat d], res⟩) (hi : S[i]? = some (.dat d)) (hl : S'.length = S.length)
  (hS : S.all (fun x => Z9 S.length x.ids) = true) (ha : ∀ ρ : Nat → Value, ρ S.length = ρ i → AV.vals ρ args = AV.vals ρ args') (hg : Z9 S.length (AV.idsL args') = true) : j9.ok P ⟨f, args', S, S', res⟩ := by
 intro ι φ ψ w0 w F ρ M
 have hi' : s6 S i = .dat d := by simp [s6, hi]
 have hlt : i < S.length := (ci5.1 hi).1
 have hinv : Inv (s6 S) ρ [S.length] := fun ρ' h j => by
  by_cases hj : j < S.length
  ·refine It.res_congr _ (fun k hk => h k ?_) (.inr (.inr (h j (by simp; omega))))
   have h1 := E3 (ci2.1 hS (S[j]) (cj1 hj)) k (by simpa [s6, ch7, ch6 hj] using hk)
   simp; omega
  ·rw [show s6 S j = .none by simp only [s6, ch7, cj8 (Nat.le_of_not_lt hj)]; rfl]; rfl
 obtain ⟨ρ', h1, M1, h2⟩ := M.newDat (id := S.length) (by simp [s6]) hinv (M.datAt hi')
 have e : n7 (s6 S) [(S.length, .dat d)] = s6 (S ++ [.dat d]) := by
  funext j
  simp only [n7, s6, ch7]
  by_cases hj : j = S.length
  ·subst hj; simp
  ·rw [if_neg hj]
   by_cases hj2 : j < S.length
   ·rw [ci9 hj2]
   ·rw [cj8 (by omega), cj8 (by simp; omega)]
 rw [e] at M1
 have hρ : ρ' i = ρ i := h1 i (by simp; omega)
 have ea : AV.vals ρ args' = AV.vals ρ' args := by
  rw [ha ρ' (by rw [← h2, hρ])]
  exact (AV.vals_congr _ fun k hk => by
   have := E3 hg k hk
   exact h1 k (by simp; omega)).symm
 simp only
 rw [ea]
 refine (hc ι φ ψ w0 w F ρ' M1).mono ?_
 rintro x w' ⟨ρ2, g1, g2, M2⟩
 refine ⟨ρ2, fun k hk => ?_, g2, ?_⟩
 ·rw [g1 k (by simp; omega)]; exact h1 k (by simp; omega)
 ·refine M2.map (fun k => match k with | .inl i => some (.inl i) | .inr j => if j < S'.length then some (.inr j) else none) ?_ ?_
  ·intro k k' x h1 h2
   match k, k' with
   | .inl i, .inl i' => simp at h1 h2; rw [h1, h2]
   | .inl i, .inr j => simp at h1; subst h1; simp at h2
   | .inr j, .inl i => simp at h2; subst h2; simp at h1
   | .inr j, .inr j' => simp at h1 h2; rw [← h1.2] at h2; rw [Sum.inr.inj h2.2]
  ·intro k
   match k with
   | .inl i => exact .inl ⟨.inl i, rfl, rfl⟩
   | .inr j =>
    by_cases hj : j < S'.length
    ·refine .inl ⟨.inr j, by simp [hj], ?_⟩
     simp only [p8, s6, ch7, ci9 hj]
    ·refine .inr ?_
     simp only [p8, s6, ch7, cj8 (Nat.le_of_not_lt hj)]
     rfl
def pkX (b : List UInt8) (k : Int) : Int := ((b.getD (k.tmod b.length).toNat 0).toNat : Int) * 131 + ((b.getD ((k * 7 + 3).tmod b.length).toNat 0).toNat : Int) * 1117 + k * 29 + k.tdiv b.length * 53
def pk (b : List UInt8) (k n : Int) : Int :=
 if n < 1 ∨ b.length = 0 then 0 else if k < b.length then ((b.getD k.toNat 0).toNat : Int).tmod n else (a98 (pkX b k) ((pkX b k).tdiv 64)).tmod n
def nm (b : List UInt8) (k : Int) (l : List Int) : Int := l.getD (pk b k l.length).toNat 0
theorem bH6 {x y : Int} (hx : 0 ≤ x) (hx2 : x < 9223372036854775808) (hy : 0 ≤ y) (hy2 : y < 9223372036854775808) : 0 ≤ a98 x y := by
 obtain ⟨a, rfl⟩ := Int.eq_ofNat_of_zero_le hx
 obtain ⟨c, rfl⟩ := Int.eq_ofNat_of_zero_le hy
 have ha : a < 2 ^ 63 := by omega
 have hc : c < 2 ^ 63 := by omega
 have h : (BitVec.ofInt (IntKind.bits .i64) (a : Int) ^^^ BitVec.ofInt (IntKind.bits .i64) (c : Int)).toNat < 2 ^ 63 := by
  rw [BitVec.toNat_xor]
  refine Nat.xor_lt_two_pow ?_ ?_
  ·simp only [BitVec.ofInt_natCast, BitVec.toNat_ofNat, IntKind.bits]; omega
  ·simp only [BitVec.ofInt_natCast, BitVec.toNat_ofNat, IntKind.bits]; omega
 unfold a98
 generalize (BitVec.ofInt (IntKind.bits .i64) (a : Int) ^^^ BitVec.ofInt (IntKind.bits .i64) (c : Int)).toNat = z at h ⊢
 rw [w64 (by omega) (by omega)]
 omega
theorem a00 (x : UInt8) : ((x.toNat : Nat) : Int) ≤ 255 := by have := x.toNat_lt; omega
theorem a03 {k n : Int} (hk : 0 ≤ k) (hn : 1 ≤ n) : 0 ≤ k.tdiv n ∧ k.tdiv n ≤ k := by
 refine ⟨Int.tdiv_nonneg hk (by omega), ?_⟩
 rw [Int.tdiv_eq_ediv_of_nonneg hk]
 exact Int.ediv_le_self _ hk
theorem a29 {b : List UInt8} {k : Int} (hk : 0 ≤ k) (hk2 : k ≤ 1000000000) (hb : b.length ≠ 0) : 0 ≤ pkX b k ∧ pkX b k ≤ 100000000000 := by
 unfold pkX
 have h1 := a00 (b.getD (k.tmod b.length).toNat 0)
 have h2 := a00 (b.getD ((k * 7 + 3).tmod b.length).toNat 0)
 have h3 := a03 (n := b.length) hk (by omega)
 omega
theorem ba1 {x n : Int} (hx : 0 ≤ x) (hn : 1 ≤ n) : 0 ≤ x.tmod n ∧ x.tmod n < n := ⟨Int.tmod_nonneg _ hx, Int.tmod_lt_of_pos _ (by omega)⟩
theorem bQ9 {b : List UInt8} {k : Int} (hk : 0 ≤ k) (hk2 : k ≤ 1000000000) (hb : b.length ≠ 0) : 0 ≤ (pkX b k).tdiv 64 ∧ (pkX b k).tdiv 64 ≤ 100000000000 := by
 have h := a29 hk hk2 hb
 have h2 := a03 (n := 64) h.1 (by omega)
 omega
theorem bV6 (b : List UInt8) {k n : Int} (hk : 0 ≤ k) (hk2 : k ≤ 1000000000) (hn : 1 ≤ n) : 0 ≤ pk b k n ∧ pk b k n < n := by
 unfold pk
 split
 ·omega
 ·split
  ·exact ba1 (by omega) hn
  ·have h := a29 hk hk2 (show b.length ≠ 0 by omega)
   have h2 := bQ9 hk hk2 (show b.length ≠ 0 by omega)
   exact ba1 (bH6 h.1 (by omega) h2.1 (by omega)) hn
theorem bl5 (b : List UInt8) {k : Int} (hk : 0 ≤ k) (hk2 : k ≤ 1000000000) {l : List Int} (hl : l ≠ []) : 0 ≤ pk b k l.length ∧ pk b k l.length < l.length ∧ (pk b k l.length).toNat < l.length := by
 have h0 : 0 < l.length := List.length_pos_iff.2 hl
 have h := bV6 b (n := l.length) hk hk2 (by omega)
 omega
theorem aw9 (b : List UInt8) {k : Int} (hk : 0 ≤ k) (hk2 : k ≤ 1000000000) {l : List Int} (hl : l ≠ []) : nm b k l ∈ l := by
 unfold nm
 rw [m6 (bl5 b hk hk2 hl).2.2]
 exact cj1 _
def H6 {α : Type} (f : Int → α × Int) : Nat → Int → List α × Int
 | 0, k => ([], k)
 | n + 1, k => ((H6 f n k).1 ++ [(f (H6 f n k).2).1], (f (H6 f n k).2).2)
theorem aX8 {α : Type} (f : Int → α × Int) (n : Nat) (k : Int) : (H6 f n k).1.length = n := by
 induction n with
 | zero => rfl
 | succ n ih => simp [H6, ih]
theorem bE2 {α : Type} {f : Int → α × Int} {c : Int} (hc : 0 ≤ c) {m : Nat} : ∀ (n : Nat) (k : Int), n ≤ m → (∀ j, k ≤ j → j ≤ k + m * c → j ≤ (f j).2 ∧ (f j).2 ≤ j + c) → k ≤ (H6 f n k).2 ∧ (H6 f n k).2 ≤ k + n * c := by
 intro n
 induction n with
 | zero => intro k _ _; simp [H6]
 | succ n ih =>
  intro k hm h
  have h1 := ih k (by omega) h
  have e : ((n + 1 : Nat) : Int) * c = n * c + c := by rw [Int.natCast_add, Int.add_mul]; simp
  have h3 : ((n + 1 : Nat) : Int) * c ≤ m * c := cm6 (by omega) hc
  have h2 := h (H6 f n k).2 h1.1 (by omega)
  simp only [H6]
  rw [e]
  omega
theorem bN6 {α : Type} {f : Int → α × Int} {Q : α → Prop} (h : ∀ j, Q (f j).1) (n : Nat) (k : Int) : ∀ x ∈ (H6 f n k).1, Q x := by
 induction n with
 | zero => intro x hx; cases hx
 | succ n ih =>
  intro x hx
  simp only [H6, cj5, ck4] at hx
  rcases hx with hx | rfl
  ·exact ih x hx
  ·exact h _
abbrev atL : List Int := [1] ++ ([0] ++ ([2] ++ ([3] ++ ([255] ++ ([7] ++ ([128] ++ []))))))
def n6 (b : List UInt8) (nv : Int) (k : Int) : c6 := if pk b k 3 = 0 then ⟨1, nm b (k + 1) atL, []⟩ else ⟨2, pk b (k + 1) nv, []⟩
abbrev P5 : List Int := [4] ++ ([10] ++ ([8] ++ ([9] ++ ([3] ++ ([6] ++ ([7] ++ ([5] ++ ([11] ++ []))))))))
def N9 (b : List UInt8) (nv na : Int) : Nat → Int → c6 × Int
 | 0, k => (n6 b nv k, k + 2)
 | d + 1, k => if d = 0 then (n6 b nv k, k + 2) else if pk b k 4 = 0 then (n6 b nv (k + 1), k + 3)
  else if nm b (k + 1) P5 = 3 then (if na = 0 then (n6 b nv (k + 2), k + 4) else (⟨3, pk b (k + 2) na, [n6 b nv (k + 3)]⟩, k + 5))
  else (⟨nm b (k + 1) P5, 0, (H6 (N9 b nv na d) (t2 (nm b (k + 1) P5)).toNat (k + 2)).1⟩, (H6 (N9 b nv na d) (t2 (nm b (k + 1) P5)).toNat (k + 2)).2)
def cE : Nat → Int
 | 0 => 2
 | d + 1 => 5 + 3 * cE d
theorem aL9 (d : Nat) : 2 ≤ cE d := by
 induction d with
 | zero => exact Int.le_refl _
 | succ d ih => simp only [cE]; omega
theorem ar3 (k : Int) : (t2 k).toNat ≤ 3 := by unfold t2; (repeat' split) <;> decide
theorem a65 (b : List UInt8) (nv na : Int) : ∀ (d : Nat) (k : Int), k ≤ (N9 b nv na d k).2 ∧ (N9 b nv na d k).2 ≤ k + cE d
 | 0, k => by simp only [N9, cE]; omega
 | d + 1, k => by
  have hc := aL9 d
  rw [N9]
  simp only [cE]
  split
  ·simp only; omega
  ·split
   ·simp only; omega
   ·split
    ·split <;> (simp only; omega)
    ·have h3 := ar3 (nm b (k + 1) P5)
     have h := bE2 (f := N9 b nv na d) (c := cE d) (m := 3) (by omega) (t2 (nm b (k + 1) P5)).toNat (k + 2) h3 fun j _ _ => a65 b nv na d j
     have h4 : ((t2 (nm b (k + 1) P5)).toNat : Int) * cE d ≤ 3 * cE d := cm6 (by omega) (by omega)
     simp only
     omega
theorem bj3 {c : Nat} : ∀ {l : List c6}, (∀ x ∈ l, z7 x ≤ c) → D9 l ≤ l.length * (1 + c)
 | [], _ => ck8 _
 | e :: r, h => by
  have h1 := h e (cl3 ..)
  have h2 := bj3 (l := r) fun x hx => h x (cl1 _ hx)
  simp only [D9, ci1]
  rw [Nat.add_mul]
  omega
theorem bE3 (b : List UInt8) (nv na : Int) : ∀ (d : Nat) (k : Int), (z7 (N9 b nv na d k).1 : Int) ≤ cE d
 | 0, k => by
  simp only [N9, cE, n6]
  split <;> simp [z7, D9]
 | d + 1, k => by
  have hc := aL9 d
  have ha : ∀ j, z7 (n6 b nv j) = 0 := fun j => by unfold n6; split <;> rfl
  rw [N9]
  simp only [cE]
  split
  ·simp only [ha]; omega
  ·split
   ·simp only [ha]; omega
   ·split
    ·split
     ·simp only [ha]; omega
     ·simp only [z7, D9, ha]; omega
    ·have h3 := ar3 (nm b (k + 1) P5)
     have h1 := bN6 (f := N9 b nv na d) (Q := fun x => z7 x ≤ (cE d).toNat) (fun j => by have := bE3 b nv na d j; omega) (t2 (nm b (k + 1) P5)).toNat (k + 2)
     have h2 := bj3 h1
     rw [aX8] at h2
     simp only [z7]
     have h4 := cl8 (1 + (cE d).toNat) h3
     omega
abbrev dpL : List Int := [2] ++ ([3] ++ ([2] ++ ([1] ++ ([4] ++ []))))
def x6 (b : List UInt8) (nv na : Nat) (k : Int) : c6 × Int :=
 if s4 nv na (N9 b nv na (nm b k dpL).toNat (k + 1)).1 = true then N9 b nv na (nm b k dpL).toNat (k + 1)
 else (n6 b nv (N9 b nv na (nm b k dpL).toNat (k + 1)).2, (N9 b nv na (nm b k dpL).toNat (k + 1)).2 + 2)
theorem cE4 {d : Nat} (h : d ≤ 4) : cE d ≤ 364 := by
 match d, h with
 | 0, _ => decide
 | 1, _ => decide
 | 2, _ => decide
 | 3, _ => decide
 | 4, _ => decide
theorem dp4 (b : List UInt8) {k : Int} (hk : 0 ≤ k) (hk2 : k ≤ 1000000000) : 1 ≤ nm b k dpL ∧ nm b k dpL ≤ 4 ∧ (nm b k dpL).toNat ≤ 4 := by
 have h := aw9 b hk hk2 (l := dpL) (by simp)
 simp only [cj5, cl2, List.not_mem_nil, or_false] at h
 omega
theorem bY9 (b : List UInt8) {k : Int} (hk : 0 ≤ k) (hk2 : k ≤ 1000000000) : nm b k dpL = ((nm b k dpL).toNat : Int) := by have := dp4 b hk hk2; omega
theorem bj8 (b : List UInt8) (nv na : Nat) {k : Int} (hk : 0 ≤ k) (hk2 : k ≤ 1000000000) : k ≤ (x6 b nv na k).2 ∧ (x6 b nv na k).2 ≤ k + 367 := by
 have h := a65 b nv na (nm b k dpL).toNat (k + 1)
 have h2 := cE4 (dp4 b hk hk2).2.2
 unfold x6
 split
 ·omega
 ·simp only; omega
theorem a86 (b : List UInt8) (nv j : Int) : z7 (n6 b nv j) = 0 := by unfold n6; split <;> rfl
theorem bb0 (b : List UInt8) (nv na : Nat) {k : Int} (hk : 0 ≤ k) (hk2 : k ≤ 1000000000) : z7 (x6 b nv na k).1 ≤ 364 := by
 have h := bE3 b nv na (nm b k dpL).toNat (k + 1)
 have h2 := cE4 (dp4 b hk hk2).2.2
 unfold x6
 split
 ·omega
 ·rw [a86]; omega
abbrev noE : c6 := ⟨0, 0, []⟩
abbrev M4 : List Int := [1] ++ ([1] ++ ([2] ++ ([3] ++ ([4] ++ ([1] ++ ([3] ++ ([5] ++ [])))))))
abbrev ibL : List Int := [1] ++ ([2] ++ ([1] ++ ([0] ++ [])))
abbrev ieL : List Int := [0] ++ ([1] ++ ([0] ++ ([2] ++ [])))
abbrev rcL : List Int := [2] ++ ([1] ++ ([3] ++ []))
abbrev rbL : List Int := [1] ++ ([2] ++ ([1] ++ []))
def dfS (b : List UInt8) (nv na : Nat) (kd k : Int) : c5 × Int := (⟨if kd = 5 then 5 else 1, pk b k nv, noE, (x6 b nv na (k + 1)).1, 0, [], []⟩, (x6 b nv na (k + 1)).2)
def soS (b : List UInt8) (nv na : Nat) (k : Int) : c5 × Int := (⟨2, pk b k na, n6 b nv (k + 1), (x6 b nv na (k + 1 + 2)).1, 0, [], []⟩, (x6 b nv na (k + 1 + 2)).2)
def mnD (b : List UInt8) (f : Int → c5 × Int) (l : List Int) (k : Int) : List c5 × Int := H6 f (nm b k l).toNat (k + 1)
def ifS (b : List UInt8) (nv na : Nat) (f : Int → c5 × Int) (k : Int) : c5 × Int :=
 (⟨3, 0, noE, (x6 b nv na k).1, 0, (mnD b f ibL (x6 b nv na k).2).1, (mnD b f ieL (mnD b f ibL (x6 b nv na k).2).2).1⟩, (mnD b f ieL (mnD b f ibL (x6 b nv na k).2).2).2)
def rpS (b : List UInt8) (f : Int → c5 × Int) (k : Int) : c5 × Int := (⟨4, 0, noE, noE, nm b k rcL, (mnD b f rbL (k + 1)).1, []⟩, (mnD b f rbL (k + 1)).2)
def C6 (b : List UInt8) (nv na : Nat) : Nat → Int → c5 × Int
 | 0, k => if nm b k M4 = 2 ∧ na ≠ 0 then soS b nv na (k + 1) else dfS b nv na (nm b k M4) (k + 1)
 | d + 1, k => if nm b k M4 = 2 ∧ na ≠ 0 then soS b nv na (k + 1) else if nm b k M4 = 3 ∧ d ≠ 0 then ifS b nv na (C6 b nv na d) (k + 1) else if nm b k M4 = 4 ∧ d ≠ 0 then rpS b (C6 b nv na d) (k + 1)
  else dfS b nv na (nm b k M4) (k + 1)
def cS : Nat → Int
 | 0 => 402
 | d + 1 => 402 + 4 * cS d
theorem aA8 (d : Nat) : 402 ≤ cS d := by
 induction d with
 | zero => exact Int.le_refl _
 | succ d ih => simp only [cS]; omega
section
variable (b : List UInt8) (nv na : Nat) {k : Int}
theorem bS2 (kd : Int) (hk : 0 ≤ k) (hk2 : k + 400 ≤ 1000000000) : k ≤ (dfS b nv na kd k).2 ∧ (dfS b nv na kd k).2 ≤ k + 368 := by
 have h := bj8 b nv na (k := k + 1) (by omega) (by omega)
 simp only [dfS]; omega
theorem bQ4 (hk : 0 ≤ k) (hk2 : k + 400 ≤ 1000000000) : k ≤ (soS b nv na k).2 ∧ (soS b nv na k).2 ≤ k + 370 := by
 have h := bj8 b nv na (k := k + 1 + 2) (by omega) (by omega)
 simp only [soS]; omega
theorem nm2 {l : List Int} (hl : l ≠ []) (h : ∀ x ∈ l, 0 ≤ x ∧ x ≤ 2) (hk : 0 ≤ k) (hk2 : k ≤ 1000000000) : (nm b k l).toNat ≤ 2 ∧ nm b k l = ((nm b k l).toNat : Int) := by
 have := h _ (aw9 b hk hk2 hl); omega
theorem bA7 {f : Int → c5 × Int} {c : Int} {l : List Int} (hl : l ≠ []) (h : ∀ x ∈ l, 0 ≤ x ∧ x ≤ 2) (hc : 0 ≤ c) (hk : 0 ≤ k) (hk2 : k + 1 + 2 * c ≤ 1000000000) (hf : ∀ j, 0 ≤ j → j + c ≤ 1000000000 → j ≤ (f j).2 ∧ (f j).2 ≤ j + c) : k ≤ (mnD b f l k).2 ∧ (mnD b f l k).2 ≤ k + 1 + 2 * c := by
 have h2 := (nm2 b hl h hk (by omega)).1
 have h3 : ∀ m : Nat, m ≤ 2 → k + 1 ≤ (H6 f m (k + 1)).2 ∧ (H6 f m (k + 1)).2 ≤ k + 1 + m * c := by
  intro m
  induction m with
  | zero => intro _; simp [H6]
  | succ m ih =>
   intro hm
   have h4 := ih (by omega)
   have h6 : (m : Int) * c ≤ 1 * c := cm6 (by omega) hc
   have h5 := hf (H6 f m (k + 1)).2 (by omega) (by omega)
   have e : ((m + 1 : Nat) : Int) * c = m * c + c := by rw [Int.natCast_add, Int.add_mul]; simp
   simp only [H6]
   rw [e]
   omega
 have h4 := h3 _ h2
 have h6 : ((nm b k l).toNat : Int) * c ≤ 2 * c := cm6 (by omega) hc
 unfold mnD
 omega
theorem be2 : ∀ x : Int, x ∈ ibL → 0 ≤ x ∧ x ≤ 2 := by intro x hx; simp only [cj5, cl2, List.not_mem_nil, or_false] at hx; omega
theorem be0 : ∀ x : Int, x ∈ ieL → 0 ≤ x ∧ x ≤ 2 := by intro x hx; simp only [cj5, cl2, List.not_mem_nil, or_false] at hx; omega
theorem bc0 : ∀ x : Int, x ∈ rbL → 0 ≤ x ∧ x ≤ 2 := by intro x hx; simp only [cj5, cl2, List.not_mem_nil, or_false] at hx; omega
theorem bR7 {f : Int → c5 × Int} {c : Int} (hc : 0 ≤ c) (hk : 0 ≤ k) (hk2 : k + 380 + 4 * c ≤ 1000000000) (hf : ∀ j, 0 ≤ j → j + c ≤ 1000000000 → j ≤ (f j).2 ∧ (f j).2 ≤ j + c) : k ≤ (x6 b nv na k).2 ∧ (x6 b nv na k).2 ≤ k + 367 ∧ (x6 b nv na k).2 ≤ (mnD b f ibL (x6 b nv na k).2).2 ∧ (mnD b f ibL (x6 b nv na k).2).2 ≤ k + 370 + 2 * c ∧ k ≤ (ifS b nv na f k).2 ∧ (ifS b nv na f k).2 ≤ k + 380 + 4 * c := by
 have h1 := bj8 b nv na (k := k) (by omega) (by omega)
 have h2 := bA7 b (k := (x6 b nv na k).2) (f := f) (c := c) (l := ibL) (by simp) be2 hc (by omega) (by omega) hf
 have h3 := bA7 b (k := (mnD b f ibL (x6 b nv na k).2).2) (f := f) (c := c) (l := ieL) (by simp) be0 hc (by omega) (by omega) hf
 simp only [ifS]
 omega
theorem b45 {f : Int → c5 × Int} {c : Int} (hc : 0 ≤ c) (hk : 0 ≤ k) (hk2 : k + 10 + 2 * c ≤ 1000000000) (hf : ∀ j, 0 ≤ j → j + c ≤ 1000000000 → j ≤ (f j).2 ∧ (f j).2 ≤ j + c) : k ≤ (rpS b f k).2 ∧ (rpS b f k).2 ≤ k + 10 + 2 * c := by
 have h2 := bA7 b (k := k + 1) (f := f) (c := c) (l := rbL) (by simp) bc0 hc (by omega) (by omega) hf
 simp only [rpS]; omega
theorem a06 : ∀ (d : Nat) (k : Int), 0 ≤ k → k + cS d ≤ 1000000000 → k ≤ (C6 b nv na d k).2 ∧ (C6 b nv na d k).2 ≤ k + cS d
 | 0, k, hk, hk2 => by
  rw [C6]
  simp only [cS] at hk2 ⊢
  have h1 := bQ4 b nv na (k := k + 1) (by omega) (by omega)
  have h2 := bS2 b nv na (k := k + 1) (nm b k M4) (by omega) (by omega)
  split <;> omega
 | d + 1, k, hk, hk2 => by
  rw [C6]
  simp only [cS] at hk2 ⊢
  have hc := aA8 d
  have ih := a06 d
  have h1 := bQ4 b nv na (k := k + 1) (by omega) (by omega)
  have h2 := bS2 b nv na (k := k + 1) (nm b k M4) (by omega) (by omega)
  have h3 := bR7 b nv na (k := k + 1) (f := C6 b nv na d) (c := cS d) (by omega) (by omega) (by omega) ih
  have h4 := b45 b (k := k + 1) (f := C6 b nv na d) (c := cS d) (by omega) (by omega) (by omega) ih
  (repeat' split) <;> omega
theorem bd1 : z7 noE = 0 := rfl
theorem bE4 (kd : Int) (hk : 0 ≤ k) (hk2 : k + 400 ≤ 1000000000) : K3 (dfS b nv na kd k).1 ≤ 364 := by
 have h := bb0 b nv na (k := k + 1) (by omega) (by omega)
 simp only [dfS, K3, j6, bd1]; omega
theorem bw7 (hk : 0 ≤ k) (hk2 : k + 400 ≤ 1000000000) : K3 (soS b nv na k).1 ≤ 364 := by
 have h := bb0 b nv na (k := k + 1 + 2) (by omega) (by omega)
 simp only [soS, K3, j6, a86]; omega
def Drw (f : Int → c5 × Int) (c : Int) : Prop := ∀ j, 0 ≤ j → j + c ≤ 1000000000 → j ≤ (f j).2 ∧ (f j).2 ≤ j + c ∧ (K3 (f j).1 : Int) ≤ c
theorem aX7 {f : Int → c5 × Int} {c : Int} (hc : 0 ≤ c) (hf : Drw f c) : ∀ (m : Nat) (k : Int), 0 ≤ k → k + m * c ≤ 1000000000 → k ≤ (H6 f m k).2 ∧ (H6 f m k).2 ≤ k + m * c ∧ (j6 (H6 f m k).1 : Int) ≤ m * (1 + c) := by
 intro m
 induction m with
 | zero => intro k _ _; simp [H6, j6]
 | succ m ih =>
  intro k hk hk2
  have e : ((m + 1 : Nat) : Int) * c = m * c + c := by rw [Int.natCast_add, Int.add_mul]; simp
  have e2 : ((m + 1 : Nat) : Int) * (1 + c) = m * (1 + c) + (1 + c) := by rw [Int.natCast_add, Int.add_mul]; simp
  rw [e] at hk2
  have h4 := ih k hk (by omega)
  have h5 := hf (H6 f m k).2 (by omega) (by omega)
  have h6 : j6 ((H6 f m k).1 ++ [(f (H6 f m k).2).1]) = j6 (H6 f m k).1 + (1 + K3 (f (H6 f m k).2).1) := by
   generalize (H6 f m k).1 = l
   induction l with
   | nil => simp [j6]
   | cons a r ih => simp only [List.cons_append, j6]; omega
  simp only [H6]
  rw [e, e2, h6]
  omega
theorem bd3 {f : Int → c5 × Int} {c : Int} {l : List Int} (hl : l ≠ []) (h : ∀ x ∈ l, 0 ≤ x ∧ x ≤ 2) (hc : 0 ≤ c) (hk : 0 ≤ k) (hk2 : k + 1 + 2 * c ≤ 1000000000) (hf : Drw f c) : (j6 (mnD b f l k).1 : Int) ≤ 2 * (1 + c) := by
 have h2 := (nm2 b hl h hk (by omega)).1
 have h6 : ((nm b k l).toNat : Int) * c ≤ 2 * c := cm6 (by omega) hc
 have h7 : ((nm b k l).toNat : Int) * (1 + c) ≤ 2 * (1 + c) := cm6 (by omega) (by omega)
 have h3 := (aX7 hc hf (nm b k l).toNat (k + 1) (by omega) (by omega)).2.2
 unfold mnD
 omega
theorem ba6 : ∀ (d : Nat) (k : Int), 0 ≤ k → k + cS d ≤ 1000000000 → (K3 (C6 b nv na d k).1 : Int) ≤ cS d
 | 0, k, hk, hk2 => by
  rw [C6]
  simp only [cS] at hk2 ⊢
  have h1 := bw7 b nv na (k := k + 1) (by omega) (by omega)
  have h2 := bE4 b nv na (k := k + 1) (nm b k M4) (by omega) (by omega)
  split <;> omega
 | d + 1, k, hk, hk2 => by
  rw [C6]
  simp only [cS] at hk2 ⊢
  have hc := aA8 d
  have ih := a06 b nv na d
  have hf : Drw (C6 b nv na d) (cS d) := fun j h1 h2 => ⟨(ih j h1 h2).1, (ih j h1 h2).2, ba6 d j h1 h2⟩
  have h1 := bw7 b nv na (k := k + 1) (by omega) (by omega)
  have h2 := bE4 b nv na (k := k + 1) (nm b k M4) (by omega) (by omega)
  have h3 := bR7 b nv na (k := k + 1) (f := C6 b nv na d) (c := cS d) (by omega) (by omega) (by omega) ih
  have h4 := bb0 b nv na (k := k + 1) (by omega) (by omega)
  have h5 := bd3 b (k := (x6 b nv na (k + 1)).2) (l := ibL) (by simp) be2 (by omega) (by omega) (by omega) hf
  have h6 := bd3 b (k := (mnD b (C6 b nv na d) ibL (x6 b nv na (k + 1)).2).2) (l := ieL) (by simp) be0 (by omega) (by omega) (by omega) hf
  have h7 := bd3 b (k := k + 1 + 1) (l := rbL) (by simp) bc0 (by omega) (by omega) (by omega) hf
  split
  ·omega
  ·split
   ·simp only [ifS, K3, bd1]; omega
   ·split
    ·simp only [rpS, K3, bd1, j6]; omega
    ·omega
theorem b90 (d : Nat) : Drw (C6 b nv na d) (cS d) := fun j h1 h2 => ⟨(a06 b nv na d j h1 h2).1, (a06 b nv na d j h1 h2).2, ba6 b nv na d j h1 h2⟩
theorem bS8 {d m i : Nat} {B : Int} (hB : (m : Int) * cS d ≤ B) (hi : i ≤ m) (hk : 0 ≤ k) (hk2 : k + B ≤ 1000000000) : k ≤ (H6 (C6 b nv na d) i k).2 ∧ (H6 (C6 b nv na d) i k).2 ≤ k + B := by
 have hc := aA8 d
 have h6 : (i : Int) * cS d ≤ m * cS d := cm6 (by omega) (by omega)
 have h := aX7 (by omega) (b90 b nv na d) i k hk (by omega)
 omega
theorem ca7 {d m i : Nat} {B : Int} (hB : (m : Int) * cS d ≤ B) (hi : i < m) (hk : 0 ≤ k) (hk2 : k + B ≤ 1000000000) : (H6 (C6 b nv na d) i k).2 + cS d ≤ k + B := by
 have hc := aA8 d
 have h6 : ((i + 1 : Nat) : Int) * cS d ≤ m * cS d := cm6 (by omega) (by omega)
 have e : ((i + 1 : Nat) : Int) * cS d = i * cS d + cS d := by rw [Int.natCast_add, Int.add_mul]; simp
 have h := aX7 (by omega) (b90 b nv na d) i k hk (by omega)
 omega
theorem b60 {m : Int} {c : Int} (h0 : 0 ≤ m) (hm : m ≤ 2) (hc : 0 ≤ c) : (m.toNat : Int) * c ≤ 2 * c := cm6 (by omega) hc
theorem ce8 {m : Int} {c : Int} (h0 : 0 ≤ m) (hm : m ≤ 4) (hc : 0 ≤ c) : (m.toNat : Int) * c ≤ 4 * c := cm6 (by omega) hc
end
theorem aQ1 (b : List UInt8) {k : Int} {l : List Int} {m : Int} (hl : l ≠ []) (h : ∀ x ∈ l, 0 ≤ x ∧ x ≤ m) (hk : 0 ≤ k) (hk2 : k ≤ 1000000000) : 0 ≤ nm b k l ∧ nm b k l ≤ m := h _ (aw9 b hk hk2 hl)
mutual
def AV.den (t : Bool) (n : Nat) : AV → AV
 | .v x => .v x
 | .ptr a b => .ptr a b
 | .ea a b c d => .ea a b c d
 | .ref i => if !t && natEq i n then .v (.slice none 0 0) else .ref i
 | .agg l => .agg (AV.denL t n l)
 | .tup l => .tup (AV.denL t n l)
 | .fn f l => .fn f (AV.denL t n l)
 | .bm f l => .bm f (AV.denL t n l)
 | .tref i => if t && natEq i n then .v (.slice none 0 0) else .tref i
def AV.denL (t : Bool) (n : Nat) : List AV → List AV
 | [] => []
 | x :: r => x.den t n :: AV.denL t n r
end
def It.den (t : Bool) (n : Nat) : It → It
 | .box cs => .box (AV.denL t n cs)
 | x => x
mutual
theorem AV.val_den {ρ : Nat → Value} {t : Bool} {n : Nat} {z : Value} (hz : if t then G7 z = .slice none 0 0 else z = .slice none 0 0) : ∀ (x : AV), (∀ i ∈ (x.den t n).ids, i < n) → x.val (fun j => if j = n then z else ρ j) = (x.den t n).val ρ ∧ ∀ i ∈ x.ids, i < n + 1
 | .v _, _ => ⟨rfl, fun i hi => by simp [AV.ids] at hi⟩
 | .ptr a b, h => by
  have ha : a < n := h a (by simp [AV.den, AV.ids])
  refine ⟨?_, fun i hi => by simp [AV.ids] at hi; omega⟩
  simp only [AV.den, AV.val]
  rw [if_neg (by omega)]
 | .ea a b c d, h => by
  have ha : a < n := h a (by simp [AV.den, AV.ids])
  refine ⟨?_, fun i hi => by simp [AV.ids] at hi; omega⟩
  simp only [AV.den, AV.val]
  rw [if_neg (by omega)]
 | .ref a, h => by
  by_cases e : t = false ∧ a = n
  ·obtain ⟨rfl, rfl⟩ := e
   refine ⟨?_, fun i hi => by simp [AV.ids] at hi; omega⟩
   simp only [Bool.false_eq_true, if_false] at hz
   simp [AV.den, AV.val, natEq, hz]
  ·have hd : (AV.ref a).den t n = .ref a := by
    simp only [AV.den]
    rw [if_neg]
    simp [natEq]; intro h1 h2; exact e ⟨h1, h2⟩
   rw [hd] at h ⊢
   have ha : a < n := h a (by simp [AV.ids])
   refine ⟨?_, fun i hi => by simp [AV.ids] at hi; omega⟩
   simp only [AV.val]
   rw [if_neg (by omega)]
 | .tref a, h => by
  by_cases e : t = true ∧ a = n
  ·obtain ⟨rfl, rfl⟩ := e
   refine ⟨?_, fun i hi => by simp [AV.ids] at hi; omega⟩
   simp only [if_true] at hz
   simp [AV.den, AV.val, natEq, hz]
  ·have hd : (AV.tref a).den t n = .tref a := by
    simp only [AV.den]
    rw [if_neg]
    simp [natEq]; intro h1 h2; exact e ⟨h1, h2⟩
   rw [hd] at h ⊢
   have ha : a < n := h a (by simp [AV.ids])
   refine ⟨?_, fun i hi => by simp [AV.ids] at hi; omega⟩
   simp only [AV.val]
   rw [if_neg (by omega)]
 | .agg l, h => by
  obtain ⟨h1, h2⟩ := AV.vals_den hz l (by simpa [AV.den, AV.ids] using h)
  exact ⟨by simp only [AV.den, AV.val]; rw [h1], by simpa [AV.ids] using h2⟩
 | .tup l, h => by
  obtain ⟨h1, h2⟩ := AV.vals_den hz l (by simpa [AV.den, AV.ids] using h)
  exact ⟨by simp only [AV.den, AV.val]; rw [h1], by simpa [AV.ids] using h2⟩
 | .fn f l, h => by
  obtain ⟨h1, h2⟩ := AV.vals_den hz l (by simpa [AV.den, AV.ids] using h)
  exact ⟨by simp only [AV.den, AV.val]; rw [h1], by simpa [AV.ids] using h2⟩
 | .bm f l, h => by
  obtain ⟨h1, h2⟩ := AV.vals_den hz l (by simpa [AV.den, AV.ids] using h)
  exact ⟨by simp only [AV.den, AV.val]; rw [h1], by simpa [AV.ids] using h2⟩
theorem AV.vals_den {ρ : Nat → Value} {t : Bool} {n : Nat} {z : Value} (hz : if t then G7 z = .slice none 0 0 else z = .slice none 0 0) : ∀ (l : List AV), (∀ i ∈ AV.idsL (AV.denL t n l), i < n) → AV.vals (fun j => if j = n then z else ρ j) l = AV.vals ρ (AV.denL t n l) ∧ ∀ i ∈ AV.idsL l, i < n + 1
 | [], _ => ⟨rfl, fun i hi => by simp [AV.idsL] at hi⟩
 | x :: r, h => by
  obtain ⟨h1, h2⟩ := AV.val_den hz x fun i hi => h i (by simp only [AV.denL, AV.idsL, cj5]; exact .inl hi)
  obtain ⟨h3, h4⟩ := AV.vals_den hz r fun i hi => h i (by simp only [AV.denL, AV.idsL, cj5]; exact .inr hi)
  refine ⟨by simp only [AV.denL, AV.vals]; rw [h1, h3], fun i hi => ?_⟩
  simp only [AV.idsL, cj5] at hi
  rcases hi with hi | hi
  ·exact h2 i hi
  ·exact h4 i hi
end
theorem aI9 {m : Bool} {n : Nat} {t : Nat} {x : AV} : ∀ {tm : List (Nat × AV)}, A1 tm t = some x → A1 (tm.map fun p => (p.1, p.2.den m n)) t = some (x.den m n)
 | [], h => by cases h
 | (k, y) :: r, h => by
  simp only [A1, ck9] at h ⊢
  split at h
  ·rename_i e; cases h; rw [if_pos e]
  ·rename_i e; rw [if_neg e]; exact aI9 h
section
variable {P : Program} {ι : Type} {φ ψ : Nat → Prop} {w0 w : World} {F : ι → Rs} {ρ ρ0 : Nat → Value} {N m n : Nat} {S : List It} {tm : List (Nat × AV)} {a : Act}
theorem t7.nilW (G : t7 φ ψ w0 F N m ρ0 ρ S tm a w) (n : Nat) (hn : S.length = n) (b : Bool) (x : It) (z : Value) (hz : if b then G7 z = .slice none 0 0 else z = .slice none 0 0) (hids : x.ids = []) (hb : ∀ g, ¬ (x.res (fun j => if j = n then z else ρ j) n).blk g)
  (hx : ∀ φ', (x.res (fun j => if j = n then z else ρ j) n).holds w φ') (S1 : List It) (tm1 : List (Nat × AV)) (hS : S = S1.map (It.den b n)) (ht : tm = tm1.map fun p => (p.1, p.2.den b n)) :
  ∃ ρ', t7 φ ψ w0 F N m ρ0 ρ' (S1 ++ [x]) tm1 a w := by
 have hl : S1.length = n := by rw [← hn, hS, List.length_map]
 have hat : ∀ j (hj : j < n), s6 S j = (S1[j]'(by omega)).den b n := fun j hj => by
  rw [aj9 (show j < S.length by omega)]
  have h1 := congrArg (·[j]?) hS
  simp only [List.getElem?_map, ch6 (show j < S.length by omega), ch6 (show j < S1.length by omega), Option.map_some, Option.some.injEq] at h1
  exact h1
 have hnew : ∀ j (hj : j < n), s6 (S1 ++ [x]) j = S1[j]'(by omega) := fun j hj => by
  simp [s6, ch7, ci9 (show j < S1.length by omega), ch6 (show j < S1.length by omega)]
 have hlast : s6 (S1 ++ [x]) n = x := by
  simp [s6, ch7, ← hl]
 have hout : ∀ j, n < j → s6 (S1 ++ [x]) j = .none := fun j hj => y8 (by simp; omega)
 have hbx : ∀ j (hj : j < n), ((S1[j]'(by omega)).res (fun j => if j = n then z else ρ j) j = (s6 S j).res ρ j) ∧ ∀ i ∈ (S1[j]'(by omega)).ids, i < n + 1 := fun j hj => by
  rw [hat j hj]
  have hb := (G.bd j).1
  rw [hat j hj, hn] at hb
  generalize S1[j]'(by omega) = x at *
  cases x with
  | box cs =>
   obtain ⟨h1, h2⟩ := AV.vals_den (ρ := ρ) (n := n) hz cs hb
   refine ⟨?_, h2⟩
   simp only [It.res, It.den]
   rw [h1, if_neg (show ¬ j = n by omega)]
  | none => exact ⟨rfl, fun i hi => by cases hi⟩
  | dead => exact ⟨rfl, fun i hi => by cases hi⟩
  | dat d' => exact ⟨by simp only [It.res, It.den]; rw [if_neg (show ¬ j = n by omega)], fun i hi => by cases hi⟩
  | row e' d' => exact ⟨by simp only [It.res, It.den]; rw [if_neg (show ¬ j = n by omega)], fun i hi => by cases hi⟩
  | tree d' => exact ⟨by simp only [It.res, It.den]; rw [if_neg (show ¬ j = n by omega)], fun i hi => by cases hi⟩
  | kept e' d' => exact ⟨by cases e' <;> (simp only [It.res, It.den]; rw [if_neg (show ¬ j = n by omega)]), fun i hi => by cases hi⟩
 have hw : ∀ t x, A1 tm1 t = some x → x.val (fun j => if j = n then z else ρ j) = (x.den b n).val ρ ∧ ∀ i ∈ x.ids, i < n + 1 := fun t x hx => by
  refine AV.val_den hz x fun i hi => ?_
  have h1 : A1 tm t = some (x.den b n) := by rw [ht]; exact aI9 hx
  have := G.tmi t _ h1 i hi
  omega
 refine ⟨fun j => if j = n then z else ρ j, ?_⟩
 refine ⟨G.size, G.defs, fun t x hx => ?_, fun t x hx i hi => ?_, fun j => ⟨fun i hi => ?_, fun hj => y8 hj⟩, ?_, ?_, fun i hi => ?_⟩
 ·have h1 : A1 tm t = some (x.den b n) := by rw [ht]; exact aI9 hx
  rw [(hw t x hx).1]; exact G.tmv t _ h1
 ·have := (hw t x hx).2 i hi
  simp; omega
 ·rcases Nat.lt_trichotomy j n with h | h | h
  ·rw [hnew j h] at hi
   have := (hbx j h).2 i hi
   simp; omega
  ·subst h; rw [hlast, hids] at hi; cases hi
  ·rw [hout j h] at hi; cases hi
 ·refine l7.put G.mem (.inr n) (fun k hk => ?_) (D4.refl _ _) ?_ ?_
  ·cases k with
   | inl i => rfl
   | inr j =>
    simp only [p8]
    rcases Nat.lt_trichotomy j n with h | h | h
    ·rw [hnew j h]; exact (hbx j h).1
    ·exact absurd (by rw [h]) hk
    ·rw [hout j h, y8 (show S.length ≤ j by omega)]; rfl
  ·simp only [p8, hlast]; exact hx _
  ·intro g hg
   simp only [p8, hlast] at hg
   exact absurd hg (hb g)
 ·have := G.le; simp; omega
 ·show (if i = n then _ else ρ i) = ρ0 i
  have := G.le
  rw [if_neg (by omega)]; exact G.old i hi
theorem t7.nil (G : t7 φ ψ w0 F N m ρ0 ρ S tm a w) (n : Nat) (e : TypeId) (d : D) (k : Nat) (S1 : List It) (tm1 : List (Nat × AV)) (hn : S.length = n := by kernel_rfl) (hd : D.nil k = some d := by kernel_rfl) (hS : S = S1.map (It.den false n) := by kernel_rfl) (ht : tm = tm1.map (fun p => (p.1, p.2.den false n)) := by kernel_rfl) :
  ∃ ρ', t7 φ ψ w0 F N m ρ0 ρ' (S1 ++ [.row e d]) tm1 a w := by
 have hz := D.nil_len hd
 refine G.nilW n hn false (.row e d) (.slice none 0 0) (by simp) rfl (fun g hg => ?_) (fun φ' => ?_) S1 tm1 hS ht
 ·simp only [It.res, if_true] at hg
  cases hg
 ·simp only [It.res, if_true]
  refine ⟨fun xs => RW.nice d xs, [], ?_, RW.nil hz _⟩
  rw [hz]; exact World.ownsRow_nil _ _ _ _
theorem t7.nilT (G : t7 φ ψ w0 F N m ρ0 ρ S tm a w) (n : Nat) (d : D) (S1 : List It) (tm1 : List (Nat × AV)) (hn : S.length = n := by kernel_rfl) (hd : ((ao4 d).isSome && natEq d.len 0) = true := by kernel_rfl) (hS : S = S1.map (It.den true n) := by kernel_rfl) (ht : tm = tm1.map (fun p => (p.1, p.2.den true n)) := by kernel_rfl) :
  ∃ ρ', t7 φ ψ w0 F N m ρ0 ρ' (S1 ++ [.tree d]) tm1 a w := by
 simp only [ch4, natEq, beq_iff_eq] at hd
 obtain ⟨e, he⟩ := cm0.1 hd.1
 obtain ⟨z, h1, h2⟩ := aK9 (.slice none 0 0) (fun _ => False) 0 fun b h => h.elim
 refine G.nilW n hn true (.tree d) z (by simp [h1]) rfl (fun g hg => ?_) (fun φ' => ?_) S1 tm1 hS ht
 ·simp only [It.res, if_true] at hg
  exact ((h2 g).1 hg).elim
 ·simp only [It.res, if_true]
  rw [h1]
  refine ⟨fun _ _ h hs => h.same hs, ⟨e, [], fun _ => False, he, ?_, (fun g hg => by cases hg), (fun b hb => hb.elim), ?_⟩, fun b hb => ((h2 b).1 hb).elim⟩
  ·rw [hd.2]; exact World.ownsRow_nil _ _ _ _
  ·have h0 := hd.2
   cases d <;> simp only [ao4] at he <;> first | cases he | skip
   all_goals (simp only [D.len] at h0; rw [cj2 h0]; rfl)
end
inductive Ln where
 | no
 | row (e : TypeId)
 | tree
def y9 (M : List Ln) (i : Nat) : Ln := M.getD i .no
def Ln.isT : Ln → Bool
 | .tree => true
 | _ => false
mutual
def AV.tr (M : List Ln) : AV → AV
 | .v x => .v x
 | .ptr a b => .ptr a b
 | .ea a b c d => .ea a b c d
 | .ref i => if (y9 M i).isT then .tref i else .ref i
 | .agg l => .agg (AV.trL M l)
 | .tup l => .tup (AV.trL M l)
 | .fn f l => .fn f (AV.trL M l)
 | .bm f l => .bm f (AV.trL M l)
 | .tref i => .tref i
def AV.trL (M : List Ln) : List AV → List AV
 | [] => []
 | x :: r => x.tr M :: AV.trL M r
end
mutual
def AV.trOk (M : List Ln) : AV → Bool
 | .v _ => true
 | .ptr a _ => !(y9 M a).isT
 | .ea a _ _ _ => !(y9 M a).isT
 | .ref _ => true
 | .agg l => AV.trOkL M l
 | .tup l => AV.trOkL M l
 | .fn _ l => AV.trOkL M l
 | .bm _ l => AV.trOkL M l
 | .tref i => !(y9 M i).isT
def AV.trOkL (M : List Ln) : List AV → Bool
 | [] => true
 | x :: r => x.trOk M && AV.trOkL M r
end
mutual
theorem AV.val_tr {ρ ρ' : Nat → Value} {M : List Ln} (h : ∀ i, ρ' i = if (y9 M i).isT then G7 (ρ i) else ρ i) : ∀ (x : AV), x.trOk M = true → (x.tr M).val ρ = x.val ρ'
 | .v _, _ => rfl
 | .ptr a _, hx => by
  simp only [AV.trOk, cj4] at hx
  simp only [AV.tr, AV.val]; rw [h a, hx]; rfl
 | .ea a _ _ _, hx => by
  simp only [AV.trOk, cj4] at hx
  simp only [AV.tr, AV.val]; rw [h a, hx]; rfl
 | .ref i, _ => by
  simp only [AV.tr]
  cases hm : (y9 M i).isT
  ·simp only [Bool.false_eq_true, if_false, AV.val]; rw [h i, hm]; rfl
  ·simp only [if_true, AV.val]; rw [h i, hm]; rfl
 | .agg l, hx => by simp only [AV.tr, AV.val]; rw [AV.vals_tr h l (by simpa [AV.trOk] using hx)]
 | .tup l, hx => by simp only [AV.tr, AV.val]; rw [AV.vals_tr h l (by simpa [AV.trOk] using hx)]
 | .fn _ l, hx => by simp only [AV.tr, AV.val]; rw [AV.vals_tr h l (by simpa [AV.trOk] using hx)]
 | .bm _ l, hx => by simp only [AV.tr, AV.val]; rw [AV.vals_tr h l (by simpa [AV.trOk] using hx)]
 | .tref i, hx => by
  simp only [AV.trOk, cj4] at hx
  simp only [AV.tr, AV.val]; rw [h i, hx]; rfl
theorem AV.vals_tr {ρ ρ' : Nat → Value} {M : List Ln} (h : ∀ i, ρ' i = if (y9 M i).isT then G7 (ρ i) else ρ i) : ∀ (l : List AV), AV.trOkL M l = true → AV.vals ρ (AV.trL M l) = AV.vals ρ' l
 | [], _ => rfl
 | x :: r, hx => by
  simp only [AV.trOkL, ch4] at hx
  simp only [AV.trL, AV.vals]; rw [AV.val_tr h x hx.1, AV.vals_tr h r hx.2]
end
def A8 (M : List Ln) : Ln → It → It
 | .row e, .dat d => .row e d
 | .tree, .dat d => .tree d
 | .no, .box cs => .box (AV.trL M cs)
 | _, x => x
def X6 (M : List Ln) (S : List It) : List It := (cj0 S.length).map fun i => A8 M (y9 M i) (s6 S i)
theorem aa0 (M : List Ln) (S : List It) (i : Nat) : s6 (X6 M S) i = A8 M (y9 M i) (s6 S i) := by
 unfold X6
 rcases cj6 i S.length with h | h
 ·conv => lhs; rw [s6, ch7, List.getElem?_map, List.getElem?_range h]
  rfl
 ·rw [y8 (by simpa using h), y8 h]
  cases y9 M i <;> rfl
def a61 : D → Bool
 | .rows _ => false
 | .brows _ => false
 | .exprs _ => false
 | .stmts _ => false
 | _ => true
theorem bn1 {w w' : World} {φ φ' : Nat → Prop} {d : D} {xs : List Value} (hd : a61 d = true) (h : RW w φ d xs) : RW w' φ' d xs := by
 intro i hi j x hx
 obtain ⟨u, h1, h2⟩ := h i hi j x hx
 refine ⟨u, h1, ?_⟩
 have : ∃ y, x = .v y := by
  have hm := ck1 hx
  cases d <;> simp only [a61, Bool.false_eq_true] at hd <;> simp [D.elem, bd6, ar1] at hm
  ·exact ⟨_, hm⟩
  ·exact ⟨_, hm⟩
  ·exact ⟨_, hm⟩
  ·exact ⟨_, hm⟩
  ·rcases hm with h | h | h | h | h <;> exact ⟨_, h⟩
  ·rcases hm with h | h <;> exact ⟨_, h⟩
 obtain ⟨y, rfl⟩ := this
 exact h2
def a40 (M : List Ln) (l : Ln) (p x : It) : Bool :=
 match l with
 | .no => match x with
  | .dat _ => (match p with | .dat _ => true | _ => false)
  | .row _ d => a61 d
  | .box cs => AV.trOkL M cs
  | .kept _ _ => false
  | _ => true
 | .row _ => (match p, x with | .dat d, .dat _ => a61 d | _, _ => false)
 | .tree => (match p, x with | .dat d, .dat _ => (ao4 d).isSome | _, _ => false)
def bz0 (M : List Ln) (l : Ln) (p : It) : Bool :=
 match l, p with
 | .no, .box cs => AV.trOkL M cs
 | _, _ => true
def bB2 (M : List Ln) (c : j9) : Bool :=
 decide (M.length ≤ c.pre.length) && decide (c.pre.length ≤ c.post.length) && AV.trOkL M c.args && c.res.trOk M && (cj0 c.post.length).all (fun i => a40 M (y9 M i) (s6 c.pre i) (s6 c.post i)) && (cj0 c.pre.length).all fun i => bz0 M (y9 M i) (s6 c.pre i)
def Rs.snap (w : World) (r : Rs) : Rs := .own r.blk fun w' => ∀ b, r.blk b → b < w.heap.size → w'.heap[b]? = w.heap[b]?
theorem Rs.snap_holds {w : World} {φ φ' : Nat → Prop} {r : Rs} (h : r.holds w φ) : (r.snap w).holds w φ' := by
 refine ⟨fun w1 w2 h1 h2 b hb hlt => ?_, fun b _ _ => rfl, fun b hb => Rs.lt h hb⟩
 have h3 := h1 b hb hlt
 rw [h2 b hb, h3]
 have : (w1.heap[b]?).isSome = true := by rw [h3, Array.getElem?_eq_getElem hlt]; rfl
 obtain ⟨o, ho⟩ := cm0.1 this
 exact (Array.getElem?_eq_some_iff.1 ho).1
theorem aX9 : ∀ {P X : List It} {i : Nat} {d e : D}, ax6 P X = ax5 P X → s6 P i = .dat d → s6 X i = .dat e → d = e
 | P, X, i, d, e, h, h1, h2 => by
  have hp : P[i]? = some (.dat d) := by
   rcases cj6 i P.length with hl | hl
   ·rw [aj9 hl] at h1; rw [ch6 hl, h1]
   ·rw [y8 hl] at h1; cases h1
  have hx : X[i]? = some (.dat e) := by
   rcases cj6 i X.length with hl | hl
   ·rw [aj9 hl] at h2; rw [ch6 hl, h2]
   ·rw [y8 hl] at h2; cases h2
  exact bZ1 h hp hx
theorem j9.lend0 {P : Program} {c : j9} (hc : c.ok P) (M : List Ln) (hb : bB2 M c = true) (he : ax6 c.pre c.post = ax5 c.pre c.post) : j9.ok P ⟨c.f, AV.trL M c.args, X6 M c.pre, X6 M c.post, c.res.tr M⟩ := by
 simp only [bB2, ch4, decide_eq_true_eq] at hb
 obtain ⟨⟨⟨⟨⟨hM, hle⟩, hargs⟩, hres⟩, hpost⟩, hpre⟩ := hb
 have hno : ∀ i, c.pre.length ≤ i → y9 M i = .no := fun i hi => by
  unfold y9; rw [ch7, cj8 (by omega)]; rfl
 have hpo : ∀ i, a40 M (y9 M i) (s6 c.pre i) (s6 c.post i) = true := fun i => by
  rcases cj6 i c.post.length with h | h
  ·exact ci2.1 hpost i (cl5.2 h)
  ·rw [hno i (by omega), y8 h]; rfl
 have hpr : ∀ i, bz0 M (y9 M i) (s6 c.pre i) = true := fun i => by
  rcases cj6 i c.pre.length with h | h
  ·exact ci2.1 hpre i (cl5.2 h)
  ·rw [hno i h, y8 h]; rfl
 intro ι φ ψ w0 w F ρ MM
 let ρ1 : Nat → Value := fun i => if (y9 M i).isT then G7 (ρ i) else ρ i
 have hρ1 : ∀ i, ρ1 i = if (y9 M i).isT then G7 (ρ i) else ρ i := fun _ => rfl
 let F1 : ι → Rs := fun i => (F i).snap w
 have hLi : ∀ i, p8 F ρ (s6 (X6 M c.pre)) (.inl i) = F i := fun _ => rfl
 have hLj : ∀ j, p8 F ρ (s6 (X6 M c.pre)) (.inr j) = (A8 M (y9 M j) (s6 c.pre j)).res ρ j := fun j => by simp only [p8]; rw [aa0]
 generalize hL : p8 F ρ (s6 (X6 M c.pre)) = L at MM hLi hLj
 have h1j : ∀ j, y9 M j = .no → (s6 c.pre j).res ρ1 j = L (.inr j) := fun j hl => by
  rw [hLj, hl]
  have hp := hpr j
  have e : ρ1 j = ρ j := by rw [hρ1, hl]; rfl
  cases hx : s6 c.pre j with
  | none => rfl
  | dead => rfl
  | dat d => simp only [A8, It.res]; rw [e]
  | row e' d => simp only [A8, It.res]; rw [e]
  | tree d => simp only [A8, It.res]; rw [e]
  | kept e' d => cases e' <;> (simp only [A8, It.res]; rw [e])
  | box cs =>
   rw [hl, hx] at hp
   simp only [bz0] at hp
   simp only [A8, It.res]
   rw [e, AV.vals_tr hρ1 cs hp]
 have hlent : ∀ j, y9 M j ≠ .no → (∃ d, s6 c.pre j = .dat d ∧ s6 c.post j = .dat d ∧ ((∃ e, y9 M j = .row e ∧ a61 d = true) ∨ y9 M j = .tree)) := fun j hj => by
  have h := hpo j
  cases hl : y9 M j with
  | no => exact absurd hl hj
  | row e =>
   rw [hl] at h
   simp only [a40] at h
   split at h
   ·rename_i d d' h1 h2
    exact ⟨d, h1, by rw [h2, ← aX9 he h1 h2], .inl ⟨e, rfl, h⟩⟩
   ·cases h
  | tree =>
   rw [hl] at h
   simp only [a40] at h
   split at h
   ·rename_i d d' h1 h2
    exact ⟨d, h1, by rw [h2, ← aX9 he h1 h2], .inr rfl⟩
   ·cases h
 have hsub : ∀ k b, (p8 F1 ρ1 (s6 c.pre) k).blk b → (L k).blk b ∧ ∀ j, k = .inr j → y9 M j = .no := fun k b hb => by
  cases k with
  | inl i => rw [hLi]; exact ⟨hb, fun j h => by cases h⟩
  | inr j =>
   by_cases hl : y9 M j = .no
   ·simp only [p8] at hb
    rw [h1j j hl] at hb
    exact ⟨hb, fun j' h => by cases h; exact hl⟩
   ·obtain ⟨d, h1, _⟩ := hlent j hl
    simp only [p8, h1, It.res] at hb
    exact hb.elim
 have hfr1 : ∀ b, FrF φ L b → FrF φ (p8 F1 ρ1 (s6 c.pre)) b := fun b hb => ⟨hb.1, fun k hk => hb.2 k (hsub k b hk).1⟩
 let ψ1 : Nat → Prop := fun b => ∀ k, ¬ (p8 F1 ρ1 (s6 c.pre) k).blk b
 have M1 : l7 φ ψ1 w w (p8 F1 ρ1 (s6 c.pre)) := by
  refine ⟨D4.refl _ _, fun b hb => MM.fresh b (cj7 MM.size hb), fun k => ?_, fun k k' b hkk h1 h2 => MM.dis k k' b hkk (hsub k b h1).1 (hsub k' b h2).1, fun k b h1 => .inr fun h => h k h1, fun k b h1 => MM.ph k b (hsub k b h1).1⟩
  cases k with
  | inl i => exact Rs.snap_holds (show (F i).holds w _ from by rw [← hLi i]; exact MM.holds (.inl i))
  | inr j =>
   by_cases hl : y9 M j = .no
   ·simp only [p8]
    rw [h1j j hl]
    exact Rs.keep (MM.holds (.inr j)) (Agr.mono fun b _ hf => hfr1 b hf) fun _ _ => rfl
   ·obtain ⟨d, h1, h2, h3⟩ := hlent j hl
    have hh := MM.holds (.inr j)
    have hown : ∀ b, (L (.inr j)).blk b → FrF φ (p8 F1 ρ1 (s6 c.pre)) b := fun b hb => ⟨MM.ph _ _ hb, fun k hk => by
     obtain ⟨q1, q2⟩ := hsub k b hk
     by_cases e : k = .inr j
     ·exact hl (q2 j e)
     ·exact MM.dis k (.inr j) b e q1 hb⟩
    simp only [p8, h1, It.res]
    refine ⟨RD.nice _ _, ?_⟩
    rcases h3 with ⟨e, h3, hflat⟩ | h3
    ·rw [hLj, h3, h1] at hh
     simp only [A8, It.res] at hh
     obtain ⟨_, xs, o1, o2⟩ := hh
     have e1 : ρ1 j = ρ j := by rw [hρ1, h3]; rfl
     rw [e1]
     refine RD.make (B5 o1 fun g hg => hown g ?_) (bn1 hflat o2)
     rw [hLj, h3, h1]; exact hg
    ·rw [hLj, h3, h1] at hh
     simp only [A8, It.res] at hh
     have e1 : ρ1 j = G7 (ρ j) := by rw [hρ1, h3]; rfl
     rw [e1]
     refine G0.read hh.2.1 fun b hb => hown b ?_
     rw [hLj, h3, h1]; exact hb
 simp only
 rw [AV.vals_tr hρ1 c.args hargs]
 refine (hc ι φ ψ1 w w F1 ρ1 M1).mono ?_
 rintro x w' ⟨ρ2, g1, g2, M2⟩
 have hplen : (X6 M c.pre).length = c.pre.length := by simp [X6]
 let ρ' : Nat → Value := fun j => if j < c.pre.length then ρ j else ρ2 j
 have hρ' : ∀ j, ρ2 j = if (y9 M j).isT then G7 (ρ' j) else ρ' j := fun j => by
  show _ = if (y9 M j).isT then G7 (if j < c.pre.length then ρ j else ρ2 j) else (if j < c.pre.length then ρ j else ρ2 j)
  rcases cj6 j c.pre.length with h | h
  ·rw [if_pos h, g1 j h]
  ·rw [hno j h]
   exact (if_neg (Nat.not_lt.2 h)).symm
 have hρo : ∀ j, y9 M j ≠ .no → ρ' j = ρ j := fun j hj => by
  rcases cj6 j c.pre.length with h | h
  ·exact if_pos h
  ·exact absurd (hno j h) hj
 refine ⟨ρ', fun i hi => if_pos (by rw [hplen] at hi; exact hi), by rw [AV.val_tr hρ' c.res hres]; exact g2, ?_⟩
 have hL'j : ∀ j, p8 F ρ' (s6 (X6 M c.post)) (.inr j) = (A8 M (y9 M j) (s6 c.post j)).res ρ' j := fun j => by simp only [p8]; rw [aa0]
 have hL'i : ∀ i, p8 F ρ' (s6 (X6 M c.post)) (.inl i) = F i := fun _ => rfl
 generalize hL' : p8 F ρ' (s6 (X6 M c.post)) = L' at hL'j hL'i
 have hL2j : ∀ j, y9 M j = .no → L' (.inr j) = p8 F1 ρ2 (s6 c.post) (.inr j) := fun j hl => by
  rw [hL'j, hl]
  have hp := hpo j
  have e : ρ2 j = ρ' j := by rw [hρ', hl]; rfl
  simp only [p8]
  cases hx : s6 c.post j with
  | none => rfl
  | dead => rfl
  | dat d => simp only [A8, It.res]; rw [e]
  | row e' d => simp only [A8, It.res]; rw [e]
  | tree d => simp only [A8, It.res]; rw [e]
  | kept e' d => cases e' <;> (simp only [A8, It.res]; rw [e])
  | box cs =>
   rw [hl, hx] at hp
   simp only [a40] at hp
   simp only [A8, It.res]
   rw [e, AV.vals_tr hρ' cs hp]
 have hlj : ∀ j, y9 M j ≠ .no → L' (.inr j) = L (.inr j) := fun j hl => by
  obtain ⟨d, h1, h2, h3⟩ := hlent j hl
  rw [hL'j, hLj, h1, h2]
  rcases h3 with ⟨e, h3, _⟩ | h3
  ·rw [h3]; simp only [A8, It.res]; rw [hρo j hl]
  ·rw [h3]; simp only [A8, It.res]; rw [hρo j hl]
 have hin : ∀ b, b < w.heap.size → ¬ ψ1 b → ∃ k, (L k).blk b ∧ ∀ j, k = .inr j → y9 M j = .no := fun b _ hn => by
  obtain ⟨k, hk⟩ := Classical.not_forall.1 hn
  exact ⟨k, hsub k b (Classical.not_not.1 hk)⟩
 have hnew : ∀ k b, (∀ j, k = .inr j → y9 M j = .no) → (p8 F1 ρ2 (s6 c.post) k).blk b → b < w.heap.size → ∃ k', (L k').blk b ∧ ∀ j, k' = .inr j → y9 M j = .no := fun k b _ hb hlt => by
  rcases M2.ge k b hb with h | h
  ·omega
  ·exact hin b hlt h
 have hback : ∀ k b, (L' k).blk b → b < w.heap.size → ∃ k', (L k').blk b := fun k b hb hlt => by
  cases k with
  | inl i => rw [hL'i] at hb; exact ⟨.inl i, by rw [hLi]; exact hb⟩
  | inr j =>
   by_cases hl : y9 M j = .no
   ·rw [hL2j j hl] at hb
    obtain ⟨k', h1, _⟩ := hnew (.inr j) b (fun j' h => by cases h; exact hl) hb hlt
    exact ⟨k', h1⟩
   ·rw [hlj j hl] at hb; exact ⟨_, hb⟩
 have hsame : ∀ b, b < w.heap.size → ψ1 b → w'.heap[b]? = w.heap[b]? := fun b h1 h2 => M2.kept.block b h1 h2
 have hagr : Agr (FrF φ L) (FrF φ L') w w' := ⟨M2.kept.size, fun b hb hf => ⟨⟨hf.1, fun k hk => let ⟨k', h1⟩ := hback k b hk hb; hf.2 k' h1⟩, hsame b hb fun k hk => (hfr1 b hf).2 k hk⟩⟩
 have hlsame : ∀ j, y9 M j ≠ .no → ∀ b, (L (.inr j)).blk b → w'.heap[b]? = w.heap[b]? := fun j hl b hb => hsame b (MM.lt hb) fun k hk => by
  obtain ⟨q1, q2⟩ := hsub k b hk
  by_cases e : k = .inr j
  ·exact hl (q2 j e)
  ·exact MM.dis k (.inr j) b e q1 hb
 have hcross : ∀ j k b, y9 M j ≠ .no → (∀ j, k = .inr j → y9 M j = .no) → (L (.inr j)).blk b → ¬ (p8 F1 ρ2 (s6 c.post) k).blk b := fun j k b hl hk h1 h2 => by
  obtain ⟨k', h3, h4⟩ := hnew k b hk h2 (MM.lt h1)
  exact MM.dis k' (.inr j) b (fun e => hl (h4 j e)) h3 h1
 refine ⟨⟨M2.kept.os.trans MM.kept.os, M2.kept.tape.trans MM.kept.tape, M2.kept.output.trans MM.kept.output, cj7 MM.size M2.kept.size, fun b hb hp => (hsame b (cl6 hb MM.size) fun k hk => ?_).trans (MM.kept.block b hb hp)⟩, MM.fresh, fun k => ?_, fun k k' b hkk h1 h2 => ?_, fun k b h1 => ?_, fun k b h1 => ?_⟩
 ·rcases MM.ge k b (hsub k b hk).1 with h | h
  ·omega
  ·exact h hp
 ·cases k with
  | inl i =>
   rw [hL'i, ← hLi i]
   refine Rs.keep (MM.holds (.inl i)) hagr fun b hb => ?_
   have := (M2.holds (.inl i)).2.1 b (by rw [← hLi i]; exact hb) (MM.lt hb)
   exact this
  | inr j =>
   by_cases hl : y9 M j = .no
   ·have hh := M2.holds (.inr j)
    rw [← hL2j j hl] at hh
    have hp := hpo j
    rw [hl] at hp
    cases hx : s6 c.post j with
    | none => rw [hL'j, hl, hx]; exact Rs.none_holds _ _
    | dead => rw [hL'j, hl, hx]; exact Rs.none_holds _ _
    | box cs => rw [hL'j, hl, hx] at hh ⊢; exact hh
    | tree d => rw [hL'j, hl, hx] at hh ⊢; exact hh
    | kept e' d => rw [hx] at hp; exact absurd hp (by simp [a40])
    | row e d =>
     rw [hx] at hp
     simp only [a40] at hp
     rw [hL'j, hl, hx] at hh ⊢
     simp only [A8, It.res] at hh ⊢
     obtain ⟨_, xs, o1, o2⟩ := hh
     exact ⟨fun xs => RW.nice d xs, xs, o1, bn1 hp o2⟩
    | dat d =>
     rw [hx] at hp
     simp only [a40] at hp
     split at hp
     ·rename_i d' hpx
      have hd : d' = d := aX9 he hpx hx
      subst hd
      have e : L' (.inr j) = L (.inr j) := by
       rw [hL'j, hLj, hl, hx, hpx]
       simp only [A8, It.res]
       have : j < c.pre.length := by
        rcases cj6 j c.pre.length with h | h
        ·exact h
        ·rw [y8 h] at hpx; cases hpx
       rw [show ρ' j = ρ j from if_pos this]
      rw [e]
      refine Rs.keep (MM.holds (.inr j)) hagr fun b hb => ?_
      rw [hLj, hl, hpx] at hb
      exact hb.elim
     ·cases hp
   ·rw [hlj j hl]
    exact Rs.keep (MM.holds (.inr j)) hagr fun b hb => hlsame j hl b hb
 ·have key : ∀ k, (∃ j, k = .inr j ∧ y9 M j ≠ .no ∧ (L' k) = L k) ∨ ((∀ j, k = .inr j → y9 M j = .no) ∧ ∀ b, (L' k).blk b → (p8 F1 ρ2 (s6 c.post) k).blk b) := fun k => by
   cases k with
   | inl i => exact .inr ⟨(fun j h => by cases h), fun b hb => by rw [hL'i] at hb; exact hb⟩
   | inr j =>
    by_cases hl : y9 M j = .no
    ·exact .inr ⟨fun j' h => by cases h; exact hl, fun b hb => by rw [hL2j j hl] at hb; exact hb⟩
    ·exact .inl ⟨j, rfl, hl, hlj j hl⟩
  rcases key k with ⟨j, rfl, k1, k2⟩ | ⟨k1, k2⟩ <;> rcases key k' with ⟨j', rfl, k3, k4⟩ | ⟨k3, k4⟩
  ·rw [k2] at h1; rw [k4] at h2; exact MM.dis _ _ b hkk h1 h2
  ·rw [k2] at h1; exact hcross j k' b k1 k3 h1 (k4 b h2)
  ·rw [k4] at h2; exact hcross j' k b k3 k1 h2 (k2 b h1)
  ·exact M2.dis k k' b hkk (k2 b h1) (k4 b h2)
 ·cases k with
  | inl i => rw [hL'i, ← hLi i] at h1; exact MM.ge _ b h1
  | inr j =>
   by_cases hl : y9 M j = .no
   ·rw [hL2j j hl] at h1
    rcases cj6 b w.heap.size with hlt | hge
    ·obtain ⟨k', h2, _⟩ := hnew (.inr j) b (fun j' h => by cases h; exact hl) h1 hlt
     exact MM.ge k' b h2
    ·exact .inl (cj7 MM.size hge)
   ·rw [hlj j hl] at h1; exact MM.ge _ b h1
 ·cases k with
  | inl i => rw [hL'i, ← hLi i] at h1; exact MM.ph _ b h1
  | inr j =>
   by_cases hl : y9 M j = .no
   ·rw [hL2j j hl] at h1; exact M2.ph _ b h1
   ·rw [hlj j hl] at h1; exact MM.ph _ b h1
def bC2 (M : List Ln) : Ln → It → It
 | .row e, .dat d => .kept (some e) d
 | .tree, .dat d => .kept none d
 | .no, .box cs => .box (AV.trL M cs)
 | _, x => x
def bC1 (M : List Ln) (S : List It) : List It := (cj0 S.length).map fun i => bC2 M (y9 M i) (s6 S i)
theorem bB0 (M : List Ln) (S : List It) (i : Nat) : s6 (bC1 M S) i = bC2 M (y9 M i) (s6 S i) := by
 unfold bC1
 rcases cj6 i S.length with h | h
 ·conv => lhs; rw [s6, ch7, List.getElem?_map, List.getElem?_range h]
  rfl
 ·rw [y8 (by simpa using h), y8 h]
  cases y9 M i <;> rfl
theorem j9.lend {P : Program} {c : j9} (hc : c.ok P) (M : List Ln) (hb : bB2 M c = true := by kernel_rfl) (he : ax6 c.pre c.post = ax5 c.pre c.post := by kernel_rfl) : j9.ok P ⟨c.f, AV.trL M c.args, X6 M c.pre, bC1 M c.post, c.res.tr M⟩ :=
 j9.okPost (j9.lend0 hc M hb he) _ fun ρ i => by
  simp only
  rw [bB0, aa0]
  cases y9 M i <;> cases s6 c.post i <;> rfl
section
variable {P : Program} {ι κ : Type} {φ ψ : Nat → Prop} {w0 w : World} {F : ι → Rs} {ρ ρ0 : Nat → Value} {N m n : Nat} {S : List It} {tm : List (Nat × AV)} {a : Act}
theorem l7.release {L L' : κ → Rs} (M : l7 φ ψ w0 w L) (h : ∀ k, L' k = L k ∨ ((∀ b, ¬ (L' k).blk b) ∧ ∀ φ', (∀ b, FrF φ L b → φ' b) → (∀ b, (L k).blk b → φ' b) → (L' k).holds w φ')) : l7 φ ψ w0 w L' := by
 have old : ∀ k b, (L' k).blk b → (L k).blk b := fun k b hb => by
  rcases h k with e | ⟨h1, _⟩
  ·rw [e] at hb; exact hb
  ·exact (h1 b hb).elim
 have hfr : ∀ b, FrF φ L b → FrF φ L' b := fun b hb => ⟨hb.1, fun k hk => hb.2 k (old k b hk)⟩
 refine ⟨M.kept, M.fresh, fun k => ?_, fun i j g hij h1 h2 => M.dis i j g hij (old i g h1) (old j g h2), fun i b hb => M.ge i b (old i b hb), fun i b hb => M.ph i b (old i b hb)⟩
 rcases h k with e | ⟨h1, h2⟩
 ·rw [e]; exact Rs.keep (M.holds k) (Agr.mono fun b _ hf => hfr b hf) fun _ _ => rfl
 ·refine h2 _ hfr fun b hb => ⟨M.ph k b hb, fun j hj => ?_⟩
  by_cases e : j = k
  ·subst e; exact h1 b hj
  ·exact M.dis j k b e (old j b hj) hb
mutual
theorem AV.ids_tr (M : List Ln) : ∀ (x : AV), (x.tr M).ids = x.ids
 | .v _ => rfl
 | .ptr _ _ => rfl
 | .ea _ _ _ _ => rfl
 | .ref i => by simp only [AV.tr]; split <;> rfl
 | .agg l => by simp only [AV.tr, AV.ids]; exact AV.idsL_tr M l
 | .tup l => by simp only [AV.tr, AV.ids]; exact AV.idsL_tr M l
 | .fn _ l => by simp only [AV.tr, AV.ids]; exact AV.idsL_tr M l
 | .bm _ l => by simp only [AV.tr, AV.ids]; exact AV.idsL_tr M l
 | .tref _ => rfl
theorem AV.idsL_tr (M : List Ln) : ∀ (l : List AV), AV.idsL (AV.trL M l) = AV.idsL l
 | [] => rfl
 | x :: r => by simp only [AV.trL, AV.idsL]; rw [AV.ids_tr M x, AV.idsL_tr M r]
end
theorem aW4 {M : List Ln} {t : Nat} {x : AV} : ∀ {tm : List (Nat × AV)}, A1 tm t = some x → A1 (tm.map fun p => (p.1, p.2.tr M)) t = some (x.tr M) ∧ ∃ p ∈ tm, p.2 = x
 | [], h => by cases h
 | (k, y) :: r, h => by
  simp only [A1, ck9] at h ⊢
  split at h
  ·cases h; rename_i hk; rw [if_pos hk]; exact ⟨rfl, _, cl3, rfl⟩
  ·rename_i hk; rw [if_neg hk]
   obtain ⟨h1, p, h2, h3⟩ := aW4 h
   exact ⟨h1, p, cl1 _ h2, h3⟩
def b83 (M : List Ln) (m : Nat) (S1 : List It) (tm1 : List (Nat × AV)) : Bool :=
 decide (M.length ≤ S1.length) && (cj0 S1.length).all (fun i => match y9 M i, s6 S1 i with
  | .no, .box cs => AV.trOkL M cs
  | .no, _ => true
  | .row _, .dat _ => true
  | .tree, .dat _ => decide (m ≤ i)
  | _, _ => false) && tm1.all fun p => p.2.trOk M
theorem It.ids_lend (M : List Ln) (l : Ln) (x : It) : x.ids = [] ∨ (A8 M l x).ids = x.ids := by
 cases x with
 | box cs => cases l <;> first | exact .inr rfl | exact .inr (AV.idsL_tr M cs)
 | _ => exact .inl rfl
theorem t7.frz (G : t7 φ ψ w0 F N m ρ0 ρ S tm a w) (M : List Ln) (S1 : List It) (tm1 : List (Nat × AV)) (hb : b83 M m S1 tm1 = true := by kernel_rfl) (hS : S = X6 M S1 := by kernel_rfl) (ht : tm = tm1.map (fun p => (p.1, p.2.tr M)) := by kernel_rfl) :
  ∃ ρ', t7 φ ψ w0 F N m ρ0 ρ' S1 tm1 a w := by
 subst hS
 subst ht
 simp only [b83, ch4, decide_eq_true_eq] at hb
 obtain ⟨⟨hM, hall⟩, htm⟩ := hb
 have hlen : (X6 M S1).length = S1.length := by simp [X6]
 have hno : ∀ i, S1.length ≤ i → y9 M i = .no := fun i hi => by
  unfold y9; rw [ch7, cj8 (by omega)]; rfl
 have hat := fun i (hi : i < S1.length) => ci2.1 hall i (cl5.2 hi)
 let ρ1 : Nat → Value := fun i => if (y9 M i).isT then G7 (ρ i) else ρ i
 have hρ1 : ∀ i, ρ1 i = if (y9 M i).isT then G7 (ρ i) else ρ i := fun _ => rfl
 have hρn : ∀ i, (y9 M i).isT = false → ρ1 i = ρ i := fun i h => by rw [hρ1, h]; rfl
 refine ⟨ρ1, G.size, G.defs, fun t x hx => ?_, fun t x hx i hi => ?_, fun j => ⟨fun i hi => ?_, fun hj => y8 hj⟩, ?_, ?_, fun i hi => ?_⟩
 ·obtain ⟨h1, p, h2, h3⟩ := aW4 (M := M) hx
  rw [G.tmv t _ h1, AV.val_tr hρ1 x (by rw [← h3]; exact ci2.1 htm p h2)]
 ·obtain ⟨h1, _⟩ := aW4 (M := M) hx
  have := G.tmi t _ h1 i (by rw [AV.ids_tr]; exact hi)
  rw [hlen] at this; exact this
 ·have h1 := (G.bd j).1 i
  rw [aa0, hlen] at h1
  rcases It.ids_lend M (y9 M j) (s6 S1 j) with h | h
  ·rw [h] at hi; cases hi
  ·exact h1 (by rw [h]; exact hi)
 ·refine G.mem.release fun k => ?_
  cases k with
  | inl i => exact .inl rfl
  | inr j =>
   simp only [p8]
   rw [aa0]
   rcases cj6 j S1.length with hj | hj
   case inr => rw [hno j hj, y8 hj]; exact .inl rfl
   have h1 := hat j hj
   cases hl : y9 M j with
   | no =>
    have e : ρ1 j = ρ j := hρn j (by rw [hl]; rfl)
    rw [hl] at h1
    left
    cases hx : s6 S1 j with
    | box cs =>
     rw [hx] at h1
     simp only [A8, It.res]
     rw [e, AV.vals_tr hρ1 cs h1]
    | none => rfl
    | dead => rfl
    | dat d => simp only [A8, It.res]; rw [e]
    | row e' d => simp only [A8, It.res]; rw [e]
    | tree d => simp only [A8, It.res]; rw [e]
    | kept e' d => cases e' <;> (simp only [A8, It.res]; rw [e])
   | row e' =>
    have e : ρ1 j = ρ j := hρn j (by rw [hl]; rfl)
    rw [hl] at h1
    cases hx : s6 S1 j <;> rw [hx] at h1 <;> first | cases h1 | skip
    rename_i d
    refine .inr ⟨fun b hb => hb, fun φ' hf hown => ⟨RD.nice _ _, ?_⟩⟩
    have hh := G.mem.holds (.inr j)
    simp only [p8] at hh
    rw [aa0, hl, hx] at hh
    simp only [A8, It.res] at hh
    obtain ⟨_, xs, o1, o2⟩ := hh
    rw [e]
    exact RD.make (B5 o1 fun g hg => hown g hg) (RW.nice _ _ _ _ _ _ (Agr.mono fun b _ hb => hf b hb) o2)
   | tree =>
    have e : ρ1 j = G7 (ρ j) := by rw [hρ1, hl]; rfl
    rw [hl] at h1
    cases hx : s6 S1 j <;> rw [hx] at h1 <;> first | cases h1 | skip
    rename_i d
    refine .inr ⟨fun b hb => hb, fun φ' hf hown => ⟨RD.nice _ _, ?_⟩⟩
    have hh := G.mem.holds (.inr j)
    simp only [p8] at hh
    rw [aa0, hl, hx] at hh
    simp only [A8, It.res] at hh
    rw [e]
    exact G0.read hh.2.1 fun b hb => hown b hb
 ·have := G.le; rw [hlen] at this; exact this
 ·have hm := G.le
  rw [hlen] at hm
  have : (y9 M i).isT = false := by
   cases hl : y9 M i with
   | no => rfl
   | row _ => rfl
   | tree =>
    have h1 := hat i (by omega)
    rw [hl] at h1
    cases hx : s6 S1 i <;> rw [hx] at h1 <;> simp at h1
    omega
  show ρ1 i = ρ0 i
  rw [hρn i this]; exact G.old i hi
end
section
variable {P : Program} {ι κ : Type} {φ ψ : Nat → Prop} {w0 w w' : World} {F : ι → Rs} {ρ ρ0 : Nat → Value}
theorem l7.grow {L L' : κ → Rs} (M : l7 φ ψ w0 w L) (hb : Below w.heap.size w w') (K : κ → Prop) (ho : ∀ k, ¬ K k → L' k = L k) (hg : ∀ k, K k → ∀ b, (L' k).blk b → w.heap.size ≤ b) (hd : ∀ j k b, j ≠ k → K j → K k → (L' j).blk b → ¬ (L' k).blk b) (h : ∀ k, K k → (L' k).holds w' (FrF φ L')) : l7 φ ψ w0 w' L' := by
 have M1 := M.call hb
 have old : ∀ k, ¬ K k → ∀ b, (L' k).blk b → b < w.heap.size := fun k hk b h1 => by rw [ho k hk] at h1; exact M.lt h1
 refine ⟨M1.kept, M.fresh, fun k => ?_, fun i j g hij h1 h2 => ?_, fun i b h1 => ?_, fun i b h1 => ?_⟩
 ·by_cases e : K k
  ·exact h k e
  ·rw [ho k e]
   refine Rs.keep (M.holds k) ⟨hb.size, fun b hl hf => ⟨⟨hf.1, fun j hj => ?_⟩, hb.block b hl⟩⟩ fun g hgx => hb.block g (M.lt hgx)
   by_cases e2 : K j
   ·have := hg j e2 b hj; omega
   ·rw [ho j e2] at hj; exact hf.2 j hj
 ·by_cases e1 : K i <;> by_cases e2 : K j
  ·exact hd i j g hij e1 e2 h1 h2
  ·have := hg i e1 g h1; have := old j e2 g h2; omega
  ·have := hg j e2 g h2; have := old i e1 g h1; omega
  ·rw [ho i e1] at h1; rw [ho j e2] at h2; exact M.dis i j g hij h1 h2
 ·by_cases e : K i
  ·exact .inl (cj7 M.size (hg i e b h1))
  ·rw [ho i e] at h1; exact M.ge i b h1
 ·by_cases e : K i
  ·exact M.fresh b (cj7 M.size (hg i e b h1))
  ·rw [ho i e] at h1; exact M.ph i b h1
end
abbrev oP (p : i6) : List It := [.row 3 (.ints p.vars), .row 3 (.ints p.arrays), .tree (.stmts p.body)]
abbrev oA (r : Nat) : AV := .agg [.ref r, .ref (r + 1), .tref (r + 2)]
theorem ak9 (e : c6) : j9.ok Tryz.prog ⟨251, [.agg [.v (.int .i64 e.kind), .v (.int .i64 e.value), .ref 0]], [.dat (.exprs e.kids)], [.dat (.exprs e.kids)], .v (.bool (noneB e))⟩ := by
  refine E9 17 Tryz.func251 [dE e.kids] [(0, eA e 0)] fun G => ?_; refine wp_seq (j8 G d9 [0, 1] [dE e.kids, .box (eL e 0)] [(1, .ptr 1 0), (2, bA false)] fun G => b6 (wp_seq ?_)); cases h0 : (e.kind == 0)
  · have q0 := ne_of_beq_false h0; refine j8 G (J1 (fc h0 (fc (b := false) rfl fz)) (us [(4, 6, 0), (1007, 1007, 0), (9, 12, 1), (1013, 1013, 1)])) [0] [dE e.kids] [(2, bA false)] fun G => b6 (wp_ret ?_); exact J6 false G [0] (by rw [ck7]; simp [noneB, h0, q0]; done)
  ·
   have q0 := eq_of_beq h0; cases h1 : (e.value == 0)
   · have q1 := ne_of_beq_false h1; refine j8 G (J1 (fc h0 (fc h1 fz)) (us [(4, 6, 0), (1007, 1007, 0), (9, 12, 1), (1013, 1013, 1)])) [0] [dE e.kids] [(2, bA false)] fun G => b6 (wp_ret ?_); exact J6 false G [0] (by rw [ck7]; simp [noneB, h0, q0, h1, q1]; done)
   · have q1 := eq_of_beq h1; refine j8 G (J1 (fc h0 (fc h1 fz)) (us [(4, 6, 0), (1007, 1007, 0), (9, 12, 1), (1013, 1013, 1)])) [0] [dE e.kids] [(2, bA ((e.kids.length : Int) == 0))] fun G => b6 (wp_ret ?_); exact J6 ((e.kids.length : Int) == 0) G [0] (by rw [ck7]; simp [noneB, h0, q0, h1, q1]; done)
theorem an6 (k : Int) : j9.ok Tryz.prog ⟨261, [.v (.int .i64 k)], [], [], .v (.int .i64 (t2 k))⟩ := by
  refine E9 23 Tryz.func261 [] [(0, iA k)] fun G => ?_; refine wp_seq (k8 G d9 [(2, iA 0)] fun G => b6 (wp_seq (wp_block (wp_seq ?_)))); cases h0 : (k == 1)
  ·
   have q0 := ne_of_beq_false h0; refine k8 G (J1 (fc h0 fz) [(3, 0), (4, 0), (1005, 0)]) [(3, bA (k == 2))] fun G => b6 (J7 G (fun h1 q1 => ?_) fun h1 q1 => ?_)
   ·
    refine wp_seq (k8 G d9 [(10, bA (k == 3))] fun G => b6 (J7 G (fun h2 q2 => ?_) fun h2 q2 => ?_))
    ·
     refine wp_seq ?_; cases h3 : (decide (k ≥ 4))
     ·
      have q3 := dFf h3; refine k8 G (J1 (fc h3 fz) [(3, 0), (4, 0), (1005, 0)]) [(13, bA false)] fun G => b6 (rF G false (by kernel_rfl) (wp_seq (D2 G d9 [(2, iA 0), (20, bA (k == 11))] fun G => b6 ?_))); cases h4 : (k == 11)
      · have q4 := ne_of_beq_false h4; refine rF G _ h4 (wp_skip (l0 (b6 (wp_seq (k8 G d9 [(2, iA (-1))] fun G => b6 (wp_ret ?_)))))); exact rxI (-1) G [] (by unfold t2; (repeat' split) <;> omega)
      · have q4 := eq_of_beq h4; exact False.elim (by omega)
     ·
      have q3 := dTt h3; refine k8 G (J1 (fc h3 fz) [(3, 0), (4, 0), (1005, 0)]) [(13, bA (decide (k ≤ 10)))] fun G => b6 (rcD G (fun h5 q5 => ?_) fun h5 q5 => ?_)
      ·
       refine wp_seq (k8 G d9 [(20, bA (k == 11))] fun G => b6 (J7 G (fun h6 q6 => ?_) fun h6 q6 => ?_))
       · refine wp_skip (l0 (b6 (wp_seq (k8 G d9 [(2, iA (-1))] fun G => b6 (wp_ret ?_))))); exact rxI (-1) G [] (by unfold t2; (repeat' split) <;> omega)
       · refine wp_seq (k8 G d9 [(2, iA 3)] fun G => b6 (wp_ret (z5 (l6 ?_)))); exact rxI 3 G [] (by unfold t2; (repeat' split) <;> omega)
      · refine wp_seq (k8 G d9 [(2, iA 2)] fun G => b6 (wp_ret (z5 (l6 ?_)))); exact rxI 2 G [] (by unfold t2; (repeat' split) <;> omega)
    · refine wp_seq (k8 G d9 [(2, iA 1)] fun G => b6 (wp_ret (z5 (l6 ?_)))); exact rxI 1 G [] (by unfold t2; (repeat' split) <;> omega)
   · refine wp_seq (k8 G d9 [] fun G => b6 (wp_ret (z5 (l6 ?_)))); exact rxI 0 G [] (by unfold t2; (repeat' split) <;> omega)
  · have q0 := eq_of_beq h0; refine k8 G (J1 (fc h0 fz) [(3, 0), (4, 0), (1005, 0)]) [(3, bA true)] fun G => b6 (rT G true (by kernel_rfl) (wp_seq (k8 G d9 [] fun G => b6 (wp_ret (z5 (l6 ?_)))))); exact rxI 0 G [] (by unfold t2; (repeat' split) <;> omega)
theorem aL8 (e : c6) : j9.ok Tryz.prog ⟨234, [.agg [.v (.int .i64 e.kind), .v (.int .i64 e.value), .ref 0]], [.dat (.exprs e.kids)], [.dat (.exprs e.kids)], .v (.bool (atomB e))⟩ := by
 refine E9 11 Tryz.func234 [dE e.kids] [(0, eA e 0)] fun G => ?_; refine wp_seq (j8 G d9 [0, 1] [dE e.kids, .box (eL e 0)] [(1, .ptr 1 0), (2, bA false)] fun G => b6 (wp_seq ?_)); cases h0 : (e.kind == 1)
 ·have q0 := ne_of_beq_false h0; refine j8 G (J1 (fc h0 fz) [(4, 0), (5, 0), (6, 0), (1007, 0)]) [0] [dE e.kids] [(2, bA (e.kind == 2))] fun G => b6 (wp_ret ?_); exact J6 (e.kind == 2) G [0] (by rw [ck7]; simp [atomB, h0, q0]; done)
 ·have q0 := eq_of_beq h0; refine j8 G (J1 (fc h0 fz) [(4, 0), (5, 0), (6, 0), (1007, 0)]) [0] [dE e.kids] [(2, bA true)] fun G => b6 (wp_ret ?_); exact J6 true G [0] (by rw [ck7]; simp [atomB, h0, q0]; done)
theorem bt3 (vs ars : List Int) (b : List c5) (k : Int) : j9.ok Tryz.prog ⟨262, [.agg [.ref 0, .ref 1, .ref 2], .v (.int .i64 k)], [.dat (.ints vs), .dat (.ints ars), .dat (.stmts b)], [.dat (.ints vs), .dat (.ints ars), .dat (.stmts b)], .v (.int .i64 (V4 vs.length ars.length k))⟩ := by
  refine E9 18 Tryz.func262 [dI vs, dI ars, dT b] [(0, pA 0), (1, iA k)] fun G => ?_; refine wp_seq (j8 G d9 (rg 4) [dI vs, dI ars, dT b, .box (pL 0)] [(1, iA k), (2, .ptr 3 0), (4, iA 0)] fun G => b6 (wp_seq (wp_seq (k8 G d9 [(5, iA k)] fun G => b6 (wp_block (wp_seq (k8 G d9 [(6, bA (k == 1))] fun G => b6 (J7 G (fun h0 q0 => ?_) fun h0 q0 => ?_))))))))
  ·
   refine wp_seq (k8 G d9 [(8, bA (k == 2))] fun G => b6 (J7 G (fun h1 q1 => ?_) fun h1 q1 => ?_))
   ·
    refine wp_seq (k8 G d9 [(13, bA (k == 3))] fun G => b6 (J7 G (fun h2 q2 => ?_) fun h2 q2 => ?_))
    · refine wp_skip (l0 (b6 (wp_seq (j8 G d9 [0, 1, 2] [dI vs, dI ars, dT b] [(4, iA 1)] fun G => b6 (wp_ret ?_))))); exact rxI 1 G [0, 1, 2] (by unfold V4; (repeat' split) <;> omega)
    · refine wp_seq (j8 G d9 [0, 1, 2] [dI vs, dI ars, dT b] [(4, iA (ars.length : Int))] fun G => b6 (wp_ret (z5 (l6 ?_)))); exact rxI ((ars.length : Int)) G [0, 1, 2] (by unfold V4; (repeat' split) <;> omega)
   · refine wp_seq (j8 G d9 [0, 1, 2] [dI vs, dI ars, dT b] [(4, iA (vs.length : Int))] fun G => b6 (wp_ret (z5 (l6 ?_)))); exact rxI ((vs.length : Int)) G [0, 1, 2] (by unfold V4; (repeat' split) <;> omega)
  · refine wp_seq (j8 G d9 [0, 1, 2] [dI vs, dI ars, dT b] [(4, iA 256)] fun G => b6 (wp_ret (z5 (l6 ?_)))); exact rxI 256 G [0, 1, 2] (by unfold V4; (repeat' split) <;> omega)
theorem a91 {α : Type} {l : List α} {k : Nat} {p : α → Bool} {z : α} (h : (l.take k).all p = true) (hk : k < l.length) (hp : p (l.getD k z) = true) : (l.take (k + 1)).all p = true := by
 rw [O4 p l k hk, h, ← m6 (d := z) hk, hp]; rfl
theorem aM5 {α : Type} {l : List α} {k : Nat} {p : α → Bool} (h : (l.take k).all p = true) (hk : l.length ≤ k) : l.all p = true := by
 rw [ci8 hk] at h; exact h
section
variable {nv na d : Nat} {e : c6}
theorem bJ0 (h : ¬ (e.kids.length : Int) = t2 e.kind) : i5 nv na (d + 1) e = false := by simp [i5, S6, h]
theorem bI9 (h : e.value < 0) : i5 nv na (d + 1) e = false := by
 have : ¬ 0 ≤ e.value := by omega
 simp [i5, S6, this]
theorem bI8 (h : V4 nv na e.kind ≤ e.value) : i5 nv na (d + 1) e = false := by
 have : ¬ e.value < V4 nv na e.kind := by omega
 simp [i5, S6, this]
theorem bI7 {k : Nat} {z : c6} (hk : k < e.kids.length) (h : i5 nv na d (e.kids.getD k z) = false) : i5 nv na (d + 1) e = false := by
 rw [m6 hk] at h
 have : e.kids.all (i5 nv na d) = false := al9 hk h
 simp [i5, this]
theorem bb1 (h1 : (e.kids.length : Int) = t2 e.kind) (h2 : ¬ e.value < 0) (h3 : ¬ V4 nv na e.kind ≤ e.value) : S6 nv na e = true := by
 unfold S6; rw [decide_eq_true h1, decide_eq_true (by omega), decide_eq_true (by omega)]; rfl
theorem bI6 (hn : S6 nv na e = true) (ha : e.kids.all (i5 nv na d) = true) (h : ¬ e.kind = 3) : i5 nv na (d + 1) e = true := by
 rw [i5, hn, ha]; simp [az9, h]
theorem bI5 (hn : S6 nv na e = true) (ha : e.kids.all (i5 nv na d) = true) (h : e.kind = 3) (hl : 0 < e.kids.length) : i5 nv na (d + 1) e = atomB (e.kids.getD 0 ch2) := by
 rw [i5, hn, ha, bq6 h hl, m6 hl]; simp [atomB]
theorem aR9 (h1 : (e.kids.length : Int) = t2 e.kind) (h : e.kind = 3) : 0 < e.kids.length := by
 rw [h] at h1; simp [t2] at h1; omega
end
theorem bg4 (vs ars : List Int) (b : List c5) (e : c6) (n : Int) (hn : n = 0) : j9.ok Tryz.prog ⟨252, [.agg [.ref 0, .ref 1, .ref 2], .agg [.v (.int .i64 e.kind), .v (.int .i64 e.value), .ref 3], .v (.int .i64 n)], [.dat (.ints vs), .dat (.ints ars), .dat (.stmts b), .dat (.exprs e.kids)], [.dat (.ints vs), .dat (.ints ars), .dat (.stmts b), .dat (.exprs e.kids)], .v (.bool (i5 vs.length ars.length 0 e))⟩ := by
 have h100 : decide (n < 1) = true := by simp; omega
 refine E9 60 Tryz.func252 [dI vs, dI ars, dT b, dE e.kids] [(0, pA 0), (1, eA e 3), (2, iA n)] fun G => ?_; refine wp_seq (j8 G d9 [0, 1, 2, 3, 4, 12] [dI vs, dI ars, dT b, dE e.kids, .box (pL 0), .box (eL e 3)] [(2, iA n), (3, .ptr 4 0), (4, .ptr 5 0), (6, bA false)] fun G => b6 (wp_seq (wp_seq (bq7 G (J1 (fc (a := decide (n < 1)) (b := true) (by assumption) (fc (b := true) rfl fz)) (us [(3, 9, 0), (1010, 1010, 0), (12, 14, 1), (1015, 1015, 1), (17, 23, 1), (1024, 1024, 1)])) [0, 1, 3, 7, 15, 31, 7, 71, 199, 511, 1023, 2047, 4095, 8191, 16383, 32767, 65535, 131071, 262143, 131071, 131071, 1179647, 3801087, 8388607, 16777215] [(32, bA true)] fun G => b6 (rT G true (by kernel_rfl) (wp_seq (k8 G d9 [] fun G => b6 (wp_ret (l6 ?_))))))))); exact K8 G (rg 4)
theorem bg3 (vs ars : List Int) (b : List c5) (d : Nat) (hd : d ≤ 5) (ih : ∀ (e : c6) (n : Int), n = d → j9.ok Tryz.prog ⟨252, [.agg [.ref 0, .ref 1, .ref 2], .agg [.v (.int .i64 e.kind), .v (.int .i64 e.value), .ref 3], .v (.int .i64 n)], [.dat (.ints vs), .dat (.ints ars), .dat (.stmts b), .dat (.exprs e.kids)], [.dat (.ints vs), .dat (.ints ars), .dat (.stmts b), .dat (.exprs e.kids)], .v (.bool (i5 vs.length ars.length d e))⟩)
    (e : c6) (n : Int) (hn : n = (d + 1 : Nat)) : j9.ok Tryz.prog ⟨252, [.agg [.ref 0, .ref 1, .ref 2], .agg [.v (.int .i64 e.kind), .v (.int .i64 e.value), .ref 3], .v (.int .i64 n)], [.dat (.ints vs), .dat (.ints ars), .dat (.stmts b), .dat (.exprs e.kids)], [.dat (.ints vs), .dat (.ints ars), .dat (.stmts b), .dat (.exprs e.kids)], .v (.bool (i5 vs.length ars.length (d + 1) e))⟩ := by
  have h100 : decide (n < 1) = false := by simp; omega
  refine E9 60 Tryz.func252 [dI vs, dI ars, dT b, dE e.kids] [(0, pA 0), (1, eA e 3), (2, iA n)] fun G => ?_; refine wp_seq (j8 G d9 [0, 1, 2, 3, 4, 12] [dI vs, dI ars, dT b, dE e.kids, .box (pL 0), .box (eL e 3)] [(2, iA n), (3, .ptr 4 0), (4, .ptr 5 0), (6, bA false)] fun G => b6 (wp_seq (wp_seq ?_))); cases h0 : ((e.kids.length : Int) != t2 e.kind)
  ·
   have q0 := bne_eq_false_iff_eq.1 h0; cases h1 : (decide (e.value < 0))
   ·
    have q1 := dFf h1; refine bq7 G (F9 (t4 8 [] (an6 e.kind) (t4 22 [0, 1, 2] (bt3 vs ars b e.kind) F8)) (fc (a := decide (n < 1)) (b := false) (by assumption) (fc h0 (fc h1 fz))) (us [(3, 9, 0), (1010, 1010, 0), (12, 14, 1), (1015, 1015, 1), (17, 23, 2), (1024, 1024, 2)])) [0, 1, 3, 7, 15, 31, 7, 71, 199, 511, 1023, 2047, 4095, 8191, 16383, 32767, 65535, 131071, 262143, 131071, 131071, 1179647, 3801087, 8388607, 16777215] [(32, bA (decide (e.value ≥ V4 vs.length ars.length e.kind)))] fun G => b6 (rcD G (fun h2 q2 => ?_) fun h2 q2 => ?_)
    ·
     refine wp_skip (b6 (wp_seq (wp_seq (D2 G d9 [(2, iA n), (3, .ptr 4 0), (4, .ptr 5 0), (6, bA false), (7, iA 0)] fun G => b6 (wp_block ?_))))); refine t0 (κ := Nat) (fun k => k ≤ e.kids.length ∧ (e.kids.take k).all (i5 vs.length ars.length d) = true) (fun k => e.kids.length - k) (fun k => [dI vs, dI ars, dT b, dE e.kids, .box (pL 0), .box (eL e 3)]) (fun k => [(2, iA n), (3, .ptr 4 0), (4, .ptr 5 0), (6, bA false), (7, iA k)]) 0 (by simp [h100, h0, h1, h2]) (t7.at G _ _) ?_; clear G; intro k ρ a w hp G; have hlen : e.kids.length ≤ 9223372036854775807 := G.len 3 (d := .exprs e.kids) (by kernel_rfl); have hnode := bb1 (nv := vs.length) (na := ars.length) q0 q1 q2; refine wp_seq (wp_seq (D2 G d9 [(2, iA n), (3, .ptr 4 0), (4, .ptr 5 0), (6, bA false), (7, iA k), (37, bA (decide ((k : Int) < e.kids.length)))] fun G => b6 (rcD G (fun h3 q3 => ?_) fun h3 q3 => ?_)))
     ·
      refine wp_exit (s7 (s7 (r8 (b6 (wp_seq ?_))))); cases h4 : (e.kind != 3)
      · have q4 := bne_eq_false_iff_eq.1 h4; refine N7 G (F9 (t4 8 [62] (aL8 (e.kids.getD 0 ch2)) F8) (fc h4 fz) (us [(4, 8, 0), (1009, 1009, 0)])) (rg 4) [dI vs, dI ars, dT b, dE e.kids] [(6, bA (atomB (e.kids.getD 0 ch2)))] (iX 0 0 e.kids.length []) (iK (by have := aR9 q0 (by omega); omega) ci7) fun G => b6 (wp_ret ?_); exact J6 (atomB (e.kids.getD 0 ch2)) G (rg 4) (bI5 hnode (aM5 hp.2 (by omega)) (by omega) (aR9 q0 (by omega)))
      · have q4 := bne_iff_ne.1 h4; refine j8 G (J1 (fc h4 fz) (us [(4, 8, 0), (1009, 1009, 0)])) (rg 4) [dI vs, dI ars, dT b, dE e.kids] [(6, bA true)] fun G => b6 (wp_ret ?_); exact J6 true G (rg 4) (bI6 hnode (aM5 hp.2 (by omega)) (by omega))
     ·
      refine wp_skip (b6 (wp_seq (wp_block (wp_seq (ac8 G (s8 8 [0, 1, 2, 46] (ih (e.kids.getD k ch2) (n - 1) (by omega))) [0, 0, 2, 0, 14, 30, 0, 64, 255, 511] [(49, .v (.bool !i5 vs.length ars.length d (e.kids.getD k ch2)))] (iX k k e.kids.length ((wO (n - 1)) :: [])) (iK (by omega) (o1 (by omega))) fun G => b6 ?_))))); cases h5 : (!i5 vs.length ars.length d (e.kids.getD k ch2))
      · have q5 : (i5 vs.length ars.length d (e.kids.getD k ch2)) = true := (Eq.mp (ck2 _) h5); refine rF G _ h5 (wp_skip (l0 (b6 (E0 G d9 [(7, iA ((k : Int) + 1))] [wO ((k : Int) + 1)] (o1 (by omega)) fun G => b6 ?_)))); exact I9 G (k + 1) (⟨by omega, a91 hp.2 (by omega) (by assumption)⟩) (by omega) (rg 6)
      · have q5 : (i5 vs.length ars.length d (e.kids.getD k ch2)) = false := (Eq.mp (cj4 _) h5); refine rT G _ h5 (wp_seq (k8 G d9 [] fun G => b6 (wp_ret (z5 (l6 (l6 (z5 (l6 ?_)))))))); exact J6 false G (rg 4) (bI7 (k := k) (by omega) (by assumption))
    · refine wp_seq (k8 G d9 [] fun G => b6 (wp_ret (l6 ?_))); exact J6 false G (rg 4) (bI8 (by omega))
   · have q1 := dTt h1; refine bq7 G (F9 (t4 8 [] (an6 e.kind) F8) (fc (a := decide (n < 1)) (b := false) (by assumption) (fc h0 (fc h1 fz))) (us [(3, 9, 0), (1010, 1010, 0), (12, 14, 1), (1015, 1015, 1), (17, 23, 2), (1024, 1024, 2)])) [0, 1, 3, 7, 15, 31, 7, 71, 199, 511, 1023, 2047, 4095, 8191, 16383, 32767, 65535, 131071, 262143, 131071, 131071, 1179647, 3801087, 8388607, 16777215] [(32, bA true)] fun G => b6 (rT G true (by kernel_rfl) (wp_seq (k8 G d9 [] fun G => b6 (wp_ret (l6 ?_))))); exact J6 false G (rg 4) (bI9 (by omega))
  · have q0 := bne_iff_ne.1 h0; refine bq7 G (F9 (t4 8 [] (an6 e.kind) F8) (fc (a := decide (n < 1)) (b := false) (by assumption) (fc h0 (fc (b := true) rfl fz))) (us [(3, 9, 0), (1010, 1010, 0), (12, 14, 1), (1015, 1015, 1), (17, 23, 2), (1024, 1024, 2)])) [0, 1, 3, 7, 15, 31, 7, 71, 199, 511, 1023, 2047, 4095, 8191, 16383, 32767, 65535, 131071, 262143, 131071, 131071, 1179647, 3801087, 8388607, 16777215] [(32, bA true)] fun G => b6 (rT G true (by kernel_rfl) (wp_seq (k8 G d9 [] fun G => b6 (wp_ret (l6 ?_))))); exact J6 false G (rg 4) (bJ0 (by omega))
theorem a42 (vs ars : List Int) (b : List c5) : ∀ (d : Nat), d ≤ 5 → ∀ (e : c6) (n : Int), n = d → j9.ok Tryz.prog ⟨252, [.agg [.ref 0, .ref 1, .ref 2], .agg [.v (.int .i64 e.kind), .v (.int .i64 e.value), .ref 3], .v (.int .i64 n)], [.dat (.ints vs), .dat (.ints ars), .dat (.stmts b), .dat (.exprs e.kids)], [.dat (.ints vs), .dat (.ints ars), .dat (.stmts b), .dat (.exprs e.kids)], .v (.bool (i5 vs.length ars.length d e))⟩
 | 0, _, e, n, hn => bg4 vs ars b e n (by omega)
 | d + 1, hd, e, n, hn => bg3 vs ars b d (by omega) (a42 vs ars b d (by omega)) e n hn
theorem aL7 (vs ars : List Int) (b : List c5) (ky vy : Int) (ks : List c6) (n : Int) (hn : n = 5) : j9.ok Tryz.prog (T5 252 [pA 0, .agg [iA ky, iA vy, .ref 3], iA n] [dI vs, dI ars, dT b, dE ks] (bA (i5 vs.length ars.length 5 ⟨ky, vy, ks⟩))) := a42 vs ars b 5 (by omega) ⟨ky, vy, ks⟩ n hn
def cnP (d : Nat) (ks : List c6) (k : Nat) : Nat := 1 + ((ks.take k).map (ah3 d)).sum
theorem b97 (d : Nat) (ks : List c6) : cnP d ks 0 = 1 := rfl
theorem a72 {d : Nat} {ks : List c6} {k : Nat} (hk : k < ks.length) : cnP d ks (k + 1) = cnP d ks k + ah3 d (ks.getD k ch2) := by
 unfold cnP
 rw [H5 ks k hk, List.map_append, List.sum_append, m6 hk]
 simp; omega
theorem bO1 {d : Nat} {e : c6} {k : Nat} (hk : e.kids.length ≤ k) : cnP d e.kids k = ah3 (d + 1) e := by
 unfold cnP; rw [ci8 hk, ah3]
section
variable {nv na d : Nat} {e : c6}
theorem be9 (he : i5 nv na (d + 1) e = true) {k : Nat} (hk : k < e.kids.length) : i5 nv na d (e.kids.getD k ch2) = true := by
 rw [m6 hk]; exact (ar2 he).2 _ (cj1 hk)
theorem b96 (hd : d ≤ 5) (he : i5 nv na d e = true) : ah3 d e ≤ 1024 := by
 rw [a71 nv na d e he]
 refine cj7 (bx1 nv na d e he) ?_
 exact cj7 (Nat.pow_le_pow_right (by decide) hd) (by decide)
theorem bS4 (hd : d ≤ 4) (he : i5 nv na (d + 1) e = true) : ∀ k : Nat, k ≤ e.kids.length → cnP d e.kids k ≤ 1 + 1024 * k
 | 0, _ => by rw [b97]; omega
 | k + 1, hk => by
  have h := bS4 hd he k (by omega)
  have h2 := b96 (by omega) (be9 he (show k < e.kids.length by omega))
  rw [a72 (by omega)]
  omega
end
abbrev cnC (d : Nat) (e : c6) (n : Int) : j9 := T5 253 [eA e 0, iA n] (eS e) (iA (ah3 d e : Nat))
theorem bp9 (nv na d : Nat) (hd : d ≤ 4) (ih : ∀ (e : c6), i5 nv na d e = true → ∀ n : Int, n = d → j9.ok Tryz.prog (cnC d e n)) (e : c6) (he : i5 nv na (d + 1) e = true) (n : Int) (hn : n = (d + 1 : Nat)) : j9.ok Tryz.prog (cnC (d + 1) e n) := by
  have hk3 := (ar2 he).1; refine E9 29 Tryz.func253 [dE e.kids] [(0, eA e 0), (1, iA n)] fun G => ?_; refine wp_seq (j8 G d9 [0, 1] [dE e.kids, .box (eL e 0)] [(1, iA n), (2, .ptr 1 0), (4, iA 0)] fun G => b6 (wp_seq (k8 G d9 [(5, iA 1)] fun G => b6 (wp_seq (wp_seq (D2 G d9 [(1, iA n), (2, .ptr 1 0), (4, iA 0), (5, iA 1), (6, iA 0)] fun G => b6 (wp_block ?_))))))); refine t0 (κ := Nat) (fun k => k ≤ e.kids.length) (fun k => e.kids.length - k) (fun k => [dE e.kids, .box (eL e 0)]) (fun k => [(1, iA n), (2, .ptr 1 0), (4, iA 0), (5, iA (cnP d e.kids k : Nat)), (6, iA k)]) 0 (by omega) (t7.at G _ _) ?_; clear G; intro k ρ a w hp G; replace G := t7.at G [dE e.kids, .box (eL e 0)] [(1, iA n), (2, .ptr 1 0), (4, iA 0), (5, iA (↑(cnP d e.kids k) : Int)), (6, iA k)]; have hcb := bS4 hd he k hp; refine wp_seq (wp_seq ?_); cases h0 : (decide ((k : Int) < e.kids.length))
  · have q0 := dFf h0; refine k8 G (J1 (fc h0 fz) [(6, 0), (7, 0), (1008, 0)]) [(15, bA false)] fun G => b6 (rF G false (by kernel_rfl) (wp_exit (s7 (s7 (r8 (b6 (wp_seq (j8 G d9 [0] [dE e.kids] [(4, iA (↑(cnP d e.kids k) : Int))] fun G => b6 (wp_ret ?_))))))))); exact rxI ((↑(cnP d e.kids k) : Int)) G [0] (by rw [← bO1 (k := k) (by omega)]; done)
  ·
   have q0 := dTt h0; refine D2 G (J1 (fc h0 fz) [(6, 0), (7, 0), (1008, 0)]) [(1, iA n), (2, .ptr 1 0), (4, iA 0), (5, iA (↑(cnP d e.kids k) : Int)), (6, iA k), (15, bA (decide (n > 0)))] fun G => b6 ?_; cases h1 : (decide (n > 0))
   · have q1 := dFf h1; exact False.elim (by omega)
   · have q1 := dTt h1; refine rT G _ h1 (wp_skip (b6 (wp_seq (wp_block (E0 G (s8 8 [42] (ih (e.kids.getD k ch2) (be9 he (by omega)) (n - 1) (by omega))) [(5, iA ((↑(cnP d e.kids k) : Int) + (↑(ah3 d (e.kids.getD k ch2)) : Int)))] (iX k k e.kids.length ((wO (n - 1)) :: ((wO ((↑(cnP d e.kids k) : Int) + (↑(ah3 d (e.kids.getD k ch2)) : Int))) :: []))) (iK (by omega) ⟨oW (by omega), ⟨(by have h9 := b96 (nv := nv) (na := na) (d := d) (by omega) (be9 he (show k < e.kids.length by omega)); exact w64 (by omega) (by omega)), ci7⟩⟩) fun G => l0 (b6 (E0 G d9 [(6, iA ((k : Int) + 1))] [wO ((k : Int) + 1)] (o1 (by omega)) fun G => b6 ?_))))))); exact I9 G (k + 1) (by omega) (by omega) [0, 1] (ht := by have e1 : ((↑(cnP d e.kids (k + 1)) : Int) : Int) = ((↑(cnP d e.kids k) : Int) + (↑(ah3 d (e.kids.getD k ch2)) : Int)) := (by rw [a72 (by omega)]; omega); (first | rw [e1] | simp only [e1]) <;> rfl)
theorem a43 (nv na : Nat) : ∀ (d : Nat), d ≤ 5 → ∀ (e : c6), i5 nv na d e = true → ∀ n : Int, n = d → j9.ok Tryz.prog (cnC d e n)
 | 0, _, e, h, _, _ => by simp [i5] at h
 | d + 1, hd, e, h, n, hn => bp9 nv na d (by omega) (a43 nv na d (by omega)) e h n hn
theorem bg6 (nv na : Nat) (ky vy : Int) (ks : List c6) (n : Int) (hn : n = 5) (h : i5 nv na 5 ⟨ky, vy, ks⟩ = true) : j9.ok Tryz.prog (T5 253 [.agg [iA ky, iA vy, .ref 0], iA n] [dE ks] (iA (ah3 5 ⟨ky, vy, ks⟩ : Nat))) := a43 nv na 5 (by omega) ⟨ky, vy, ks⟩ h n hn
theorem cc8 {nv na : Nat} {e : c6} (h : i5 nv na 5 ⟨e.kind, e.value, e.kids⟩ = false) : s4 nv na e = false := by
 rw [c6.eta] at h
 unfold s4; rw [h]; rfl
theorem cc7 {nv na : Nat} {e : c6} (h : i5 nv na 5 ⟨e.kind, e.value, e.kids⟩ = true) : s4 nv na e = decide ((ah3 5 ⟨e.kind, e.value, e.kids⟩ : Int) ≤ 15) := by
 rw [c6.eta] at h ⊢
 rw [bb7, h, Bool.true_and, ck7]
 simp only [decide_eq_true_eq]; omega
section
variable {s : c5}
theorem cd5 (h : s.kind = 4) (h2 : ¬ (s.els.length : Int) = 0) : n9 s = false := by
 unfold n9; rw [if_pos (.inr h), if_pos h, decide_eq_false (p := s.els.length = 0) (by omega)]; simp
theorem cd8 (h : s.kind = 4) (h1 : s.target = 0) (h2 : (s.els.length : Int) = 0) (h3 : s.count ≥ 1) (h4 : s.count ≤ 3) (h5 : noneB s.index = true) : n9 s = noneB s.value := by
 unfold n9; rw [if_pos (.inr h), if_pos h, decide_eq_true (p := s.els.length = 0) (by omega), decide_eq_true h1, decide_eq_true (p := 1 ≤ s.count) h3, decide_eq_true h4, h5]; simp
theorem cd7 (h3 : ¬ s.kind = 3) (h4 : ¬ s.kind = 4) (b : ¬ (s.body.length : Int) > 0) (e : ¬ (s.els.length : Int) > 0) (c : s.count = 0) (h2 : ¬ s.kind = 2) : n9 s = noneB s.index := by
 unfold n9; rw [if_neg (by omega), decide_eq_true (p := s.body.length = 0) (by omega), decide_eq_true (p := s.els.length = 0) (by omega), decide_eq_true c, decide_eq_false h2]; simp
theorem cd6 (b : ¬ (s.body.length : Int) > 0) (e : ¬ (s.els.length : Int) > 0) (c : s.count = 0) (h2 : s.kind = 2) : n9 s = true := by
 unfold n9; rw [if_neg (by omega), decide_eq_true (p := s.body.length = 0) (by omega), decide_eq_true (p := s.els.length = 0) (by omega), decide_eq_true c, decide_eq_true h2]; simp
theorem cd4 (h3 : ¬ s.kind = 3) (h4 : ¬ s.kind = 4) (e : (s.els.length : Int) > 0) : n9 s = false := by
 unfold n9; rw [if_neg (by omega), decide_eq_false (p := s.els.length = 0) (by omega)]; simp
theorem cd3 (h3 : ¬ s.kind = 3) (h4 : ¬ s.kind = 4) (e : (s.body.length : Int) > 0) : n9 s = false := by
 unfold n9; rw [if_neg (by omega), decide_eq_false (p := s.body.length = 0) (by omega)]; simp
end
theorem J3 (p : i6) (e : c6) : j9.ok Tryz.prog (T5 233 [pA 0, eA e 3] (pS p ++ eS e) (bA (s4 p.vars.length p.arrays.length e))) := by
 have hcn := fun h => bg6 p.vars.length p.arrays.length e.kind e.value e.kids 5 rfl h
 refine E9 13 Tryz.func233 [dI p.vars, dI p.arrays, dT p.body, dE e.kids] [(0, pA 0), (1, eA e 3)] fun G => ?_; refine wp_seq (j8 G d9 [0, 1, 2, 3, 4, 12] [dI p.vars, dI p.arrays, dT p.body, dE e.kids, .box (pL 0), .box (eL e 3)] [(2, .ptr 4 0), (3, .ptr 5 0), (4, bA false)] fun G => b6 (wp_seq ?_)); cases h0 : (i5 p.vars.length p.arrays.length (5 : Nat) (x5 e))
 ·refine j8 G (F9 (t4 2 (rg 4) (aL7 p.vars p.arrays p.body e.kind e.value e.kids 5 (by kernel_rfl)) F8) (fc h0 fz) [(4, 0), (5, 0), (6, 0), (1007, 0)]) (rg 4) [dI p.vars, dI p.arrays, dT p.body, dE e.kids] [(4, bA false)] fun G => b6 (wp_ret ?_); exact J6 false G (rg 4) (cc8 (by with_reducible assumption))
 ·refine j8 G (F9 (t4 2 (rg 4) (aL7 p.vars p.arrays p.body e.kind e.value e.kids 5 (by kernel_rfl)) (t4 5 [3] (hcn (by assumption)) F8)) (fc h0 fz) [(4, 0), (5, 0), (6, 0), (1007, 0)]) (rg 4) [dI p.vars, dI p.arrays, dT p.body, dE e.kids] [(4, bA (decide ((↑(ah3 5 (x5 e)) : Int) ≤ 15)))] fun G => b6 (wp_ret ?_); exact J6 (decide ((↑(ah3 5 (x5 e)) : Int) ≤ 15)) G (rg 4) (cc7 (by with_reducible assumption))
abbrev aE0 (s : c5) (r0 : List It) : List It := dE s.index.kids :: dE s.value.kids :: dT s.body :: dT s.els :: r0
theorem bt2 (s : c5) : j9.ok Tryz.prog (T5 232 [sA s 0] (sS s) (bA (n9 s))) := by
  refine E9 74 Tryz.func232 (aE0 s []) [(0, sA s 0)] fun G => ?_; refine wp_seq (j8 G d9 (rg 5) (aE0 s [.box (sL s 0)]) [(1, .ptr 4 0), (2, bA false)] fun G => b6 (wp_seq ?_)); cases h0 : (s.kind == 3)
  ·
   have q0 := ne_of_beq_false h0; refine D2 G (J1 (fc h0 fz) [(4, 0), (5, 0), (6, 0), (1007, 0)]) [(1, .ptr 4 0), (2, bA false), (3, bA (s.kind == 4))] fun G => b6 (wp_seq (wp_seq ?_)); cases h1 : (!s.kind == 4)
   ·
    have q1 : s.kind = 4 := (fun hq => eq_of_beq hq) (Eq.mp (ck2 _) h1); cases h2 : (s.kind == 4)
    · have q2 := ne_of_beq_false h2; exact False.elim (by omega)
    ·
     have q2 := eq_of_beq h2; refine k8 G (J1 (fc h1 (fc (b := false) rfl (fc h2 fz))) (us [(3, 7, 0), (12, 12, 0), (1013, 1013, 0), (15, 16, 1), (17, 19, 2), (20, 20, 1), (1020, 1020, 2), (1021, 1021, 1)])) [(33, bA (s.target != 0))] fun G => b6 (rcN G (fun h3 q3 => ?_) fun h3 q3 => ?_)
     ·
      refine wp_skip (b6 (wp_seq (wp_seq (k8 G d9 [(36, bA (s.kind == 4))] fun G => b6 (rT G _ h2 (wp_seq ?_)))))); cases h4 : ((s.els.length : Int) == 0)
      · have q4 := ne_of_beq_false h4; refine k8 G (J1 (fc h4 (fc (b := false) rfl fz)) (us [(5, 7, 0), (1008, 1008, 0), (10, 12, 1), (1013, 1013, 1), (15, 17, 1), (1018, 1018, 1), (20, 22, 1), (1023, 1023, 1)])) [] fun G => b6 (wp_ret (l6 ?_)); exact J6 false G (rg 4) (cd5 (by omega) (by omega))
      ·
       have q4 := eq_of_beq h4; cases h5 : (decide (s.count ≥ 1))
       · have q5 := dFf h5; refine k8 G (J1 (fc h4 (fc h5 (fc (b := false) rfl fz))) (us [(5, 7, 0), (1008, 1008, 0), (10, 12, 1), (1013, 1013, 1), (15, 17, 2), (1018, 1018, 2), (20, 22, 2), (1023, 1023, 2)])) [] fun G => b6 (wp_ret (l6 ?_)); exact J6 false G (rg 4) (by rw [ck7]; simp [n9, h0, q0, h1, q1, h2, q2, h3, q3, h4, q4, h5, q5]; done)
       ·
        have q5 := dTt h5; cases h6 : (decide (s.count ≤ 3))
        · have q6 := dFf h6; refine k8 G (J1 (fc h4 (fc h5 (fc h6 (fc (b := false) rfl fz)))) (us [(5, 7, 0), (1008, 1008, 0), (10, 12, 1), (1013, 1013, 1), (15, 17, 2), (1018, 1018, 2), (20, 22, 3), (1023, 1023, 3)])) [] fun G => b6 (wp_ret (l6 ?_)); exact J6 false G (rg 4) (by rw [ck7]; simp [n9, h0, q0, h1, q1, h2, q2, h3, q3, h4, q4, h5, q5, h6, q6]; done)
        ·
         have q6 := dTt h6; cases h7 : (noneB s.index)
         · refine k8 G (F9 (t4 17 [0] (ak9 s.index) F8) (fc h4 (fc h5 (fc h6 (fc h7 fz)))) (us [(5, 7, 0), (1008, 1008, 0), (10, 12, 1), (1013, 1013, 1), (15, 17, 2), (1018, 1018, 2), (20, 22, 3), (1023, 1023, 3)])) [] fun G => b6 (wp_ret (l6 ?_)); exact J6 false G (rg 4) (by rw [ck7]; simp [n9, h0, q0, h1, q1, h2, q2, h3, q3, h4, q4, h5, q5, h6, q6, h7]; done)
         · refine k8 G (F9 (t4 17 [0] (ak9 s.index) (t4 22 [1] (ak9 s.value) F8)) (fc h4 (fc h5 (fc h6 (fc h7 fz)))) (us [(5, 7, 0), (1008, 1008, 0), (10, 12, 1), (1013, 1013, 1), (15, 17, 2), (1018, 1018, 2), (20, 22, 3), (1023, 1023, 3)])) [(2, bA (noneB s.value))] fun G => b6 (wp_ret (l6 ?_)); exact J6 (noneB s.value) G (rg 4) (cd8 (by omega) (by omega) (by omega) (by omega) (by omega) (by with_reducible assumption))
     · refine wp_seq (k8 G d9 [] fun G => b6 (wp_ret (l6 ?_))); exact J6 false G (rg 4) (by rw [ck7]; simp [n9, h0, q0, h1, q1, h2, q2, h3, q3]; done)
   ·
    have q1 : ¬ (s.kind = 4) := (fun hq => ne_of_beq_false hq) (Eq.mp (cj4 _) h1); cases h8 : (decide ((s.body.length : Int) > 0))
    ·
     have q8 := dFf h8; cases h9 : (decide ((s.els.length : Int) > 0))
     ·
      have q9 := dFf h9; cases h10 : (s.kind == 4)
      ·
       have q10 := ne_of_beq_false h10; refine k8 G (J1 (fc h1 (fc h8 (fc h9 (fc h10 fz)))) (us [(3, 7, 0), (8, 11, 1), (12, 12, 0), (1012, 1012, 1), (1013, 1013, 0), (15, 16, 2), (17, 19, 3), (20, 20, 2), (1020, 1020, 3), (1021, 1021, 2)])) [(33, bA false)] fun G => b6 (rF G false (by kernel_rfl) (wp_skip (b6 (wp_seq (wp_seq (k8 G d9 [(36, bA (s.kind == 4))] fun G => b6 (rF G _ h10 (wp_skip (b6 (wp_seq ?_)))))))))); cases h11 : (s.count == 0)
       · have q11 := ne_of_beq_false h11; refine j8 G (J1 (fc h11 fz) (us [(4, 7, 0), (11, 11, 0), (1012, 1012, 0)])) (rg 4) (aE0 s []) [(2, bA false)] fun G => b6 (wp_ret ?_); exact J6 false G (rg 4) (by rw [ck7]; simp [n9, h0, q0, h1, q1, h8, q8, h9, q9, h10, q10, h11, q11]; done)
       ·
        have q11 := eq_of_beq h11; cases h12 : (s.kind == 2)
        · have q12 := ne_of_beq_false h12; refine j8 G (F9 (t4 10 [0] (ak9 s.index) F8) (fc h11 (fc h12 fz)) (us [(4, 7, 0), (8, 10, 1), (11, 11, 0), (1011, 1011, 1), (1012, 1012, 0)])) (rg 4) (aE0 s []) [(2, bA (noneB s.index))] fun G => b6 (wp_ret ?_); exact J6 (noneB s.index) G (rg 4) (cd7 (by omega) (by omega) (by omega) (by omega) (by omega) (by omega))
        · have q12 := eq_of_beq h12; refine j8 G (J1 (fc h11 (fc h12 fz)) (us [(4, 7, 0), (8, 10, 1), (11, 11, 0), (1011, 1011, 1), (1012, 1012, 0)])) (rg 4) (aE0 s []) [(2, bA true)] fun G => b6 (wp_ret ?_); exact J6 true G (rg 4) (cd6 (by omega) (by omega) (by omega) (by omega))
      · have q10 := eq_of_beq h10; exact False.elim (by omega)
     · have q9 := dTt h9; refine k8 G (J1 (fc h1 (fc h8 (fc h9 fz))) (us [(3, 7, 0), (8, 11, 1), (12, 12, 0), (1012, 1012, 1), (1013, 1013, 0), (15, 16, 2), (20, 20, 2), (1021, 1021, 2)])) [(33, bA true)] fun G => b6 (rT G true (by kernel_rfl) (wp_seq (k8 G d9 [] fun G => b6 (wp_ret (l6 ?_))))); exact J6 false G (rg 4) (cd4 (by omega) (by omega) (by omega))
    · have q8 := dTt h8; refine k8 G (J1 (fc h1 (fc h8 (fc (b := true) rfl fz))) (us [(3, 7, 0), (8, 11, 1), (12, 12, 0), (1012, 1012, 1), (1013, 1013, 0), (15, 16, 2), (20, 20, 2), (1021, 1021, 2)])) [(33, bA true)] fun G => b6 (rT G true (by kernel_rfl) (wp_seq (k8 G d9 [] fun G => b6 (wp_ret (l6 ?_))))); exact J6 false G (rg 4) (cd3 (by omega) (by omega) (by omega))
  ·
   have q0 := eq_of_beq h0; refine k8 G (J1 (fc h0 fz) [(4, 0), (5, 0), (6, 0), (1007, 0)]) [(3, bA true)] fun G => b6 (wp_seq (wp_seq (k8 G (J1 (fc (b := false) rfl (fc (b := true) rfl fz)) (us [(3, 7, 0), (12, 12, 0), (1013, 1013, 0), (15, 16, 0), (17, 19, 1), (20, 20, 0), (1020, 1020, 1), (1021, 1021, 0)])) [(33, bA (s.target != 0))] fun G => b6 (rcN G (fun h13 q13 => ?_) fun h13 q13 => ?_))))
   ·
    refine wp_skip (b6 (wp_seq (wp_seq (D2 G d9 [(1, .ptr 4 0), (2, bA false), (36, bA (s.kind == 4))] fun G => b6 ?_)))); cases h14 : (s.kind == 4)
    ·
     have q14 := ne_of_beq_false h14; refine rF G _ h14 (wp_skip (b6 (wp_seq ?_))); cases h15 : (s.count == 0)
     · have q15 := ne_of_beq_false h15; refine j8 G (J1 (fc h15 fz) (us [(4, 7, 0), (11, 11, 0), (1012, 1012, 0)])) (rg 4) (aE0 s []) [(2, bA false)] fun G => b6 (wp_ret ?_); exact J6 false G (rg 4) (by rw [ck7]; simp [n9, h0, q0, h13, q13, h14, q14, h15, q15]; done)
     ·
      have q15 := eq_of_beq h15; cases h16 : (s.kind == 2)
      · have q16 := ne_of_beq_false h16; refine j8 G (F9 (t4 10 [0] (ak9 s.index) F8) (fc h15 (fc h16 fz)) (us [(4, 7, 0), (8, 10, 1), (11, 11, 0), (1011, 1011, 1), (1012, 1012, 0)])) (rg 4) (aE0 s []) [(2, bA (noneB s.index))] fun G => b6 (wp_ret ?_); exact J6 (noneB s.index) G (rg 4) (by rw [ck7]; simp [n9, h0, q0, h13, q13, h14, q14, h15, q15, h16, q16]; done)
      · have q16 := eq_of_beq h16; exact False.elim (by omega)
    · have q14 := eq_of_beq h14; exact False.elim (by omega)
   · refine wp_seq (k8 G d9 [] fun G => b6 (wp_ret (l6 ?_))); exact J6 false G (rg 4) (by rw [ck7]; simp [n9, h0, q0, h13, q13]; done)
abbrev vbC (p : i6) (d : Nat) (ss : List c5) (n : Int) : j9 := T5 130 [pA 0, .ref 3, iA n] (pS p ++ [dT ss]) (bA (ss.all (j7 p.vars.length p.arrays.length d)))
abbrev vsC (p : i6) (d : Nat) (s : c5) (n : Int) : j9 := T5 193 [pA 0, sA s 3, iA n] (pS p ++ sS s) (bA (j7 p.vars.length p.arrays.length d s))
theorem bp8 (p : i6) (s : c5) (n : Int) (hn : n = 0) : j9.ok Tryz.prog (vsC p 0 s n) := by
 refine E9 96 Tryz.func193 [dI p.vars, dI p.arrays, dT p.body, dE s.index.kids, dE s.value.kids, dT s.body, dT s.els] [(0, pA 0), (1, sA s 3), (2, iA n)] fun G => ?_; refine wp_seq (j8 G d9 [0, 1, 2, 3, 4, 5, 6, 7, 15] [dI p.vars, dI p.arrays, dT p.body, dE s.index.kids, dE s.value.kids, dT s.body, dT s.els, .box (pL 0), .box (sL s 3)] [(2, iA n), (3, .ptr 7 0), (4, .ptr 8 0), (6, bA false)] fun G => b6 (wp_seq (wp_seq ?_))); cases h0 : (decide (n < 1))
 ·have q0 := dFf h0; exact False.elim (by omega)
 ·have q0 := dTt h0; refine k8 G (J1 (fc h0 fz) [(3, 0), (4, 0), (5, 0), (1006, 0)]) [(13, bA true)] fun G => b6 (rT G true (by kernel_rfl) (wp_seq (k8 G d9 [] fun G => b6 (wp_ret (l6 ?_))))); exact K8 G (rg 7)
section
variable {nv na d : Nat} {s : c5}
theorem cc3 (h : n9 s = false) : j7 nv na (d + 1) s = false := by rw [j7, h]; rfl
theorem bT8 (hp : n9 s = true) (h : s.kind = 1 ∨ s.kind = 5) : j7 nv na (d + 1) s = (decide (0 ≤ s.target) && decide (s.target < nv) && s4 nv na s.value) := by rw [j7, hp, if_pos h]; rfl
theorem bw8 (hp : n9 s = true) (h : s.kind = 2) : j7 nv na (d + 1) s = (decide (0 ≤ s.target) && decide (s.target < na) && s4 nv na s.index && atomB s.index && s4 nv na s.value) := by rw [j7, hp, if_neg (by omega), if_pos h]; rfl
theorem bT7 (hp : n9 s = true) (h : s.kind = 3) : j7 nv na (d + 1) s = (s4 nv na s.value && s.body.all (j7 nv na d) && s.els.all (j7 nv na d)) := by rw [j7, hp, if_neg (by omega), if_neg (by omega), if_pos h]; rfl
theorem cc4 (hp : n9 s = true) (h : s.kind = 4) : j7 nv na (d + 1) s = s.body.all (j7 nv na d) := by rw [j7, hp, if_neg (by omega), if_neg (by omega), if_neg (by omega), if_pos h]; rfl
theorem bQ7 (hp : n9 s = true) (h : s.kind = 1 ∨ s.kind = 5) (q : ¬ s.target ≥ 0) : j7 nv na (d + 1) s = false := by rw [bT8 hp h, decide_eq_false (p := 0 ≤ s.target) q]; rfl
theorem bQ6 (hp : n9 s = true) (h : s.kind = 1 ∨ s.kind = 5) (q : ¬ s.target < (nv : Int)) : j7 nv na (d + 1) s = false := by rw [bT8 hp h, decide_eq_false q, Bool.and_false]; rfl
theorem bQ5 (hp : n9 s = true) (h : s.kind = 1 ∨ s.kind = 5) (q : s.target ≥ 0) (r : s.target < (nv : Int)) : j7 nv na (d + 1) s = s4 nv na s.value := by rw [bT8 hp h, decide_eq_true (p := 0 ≤ s.target) q, decide_eq_true r]; rfl
theorem b41 (hp : n9 s = true) (h : s.kind = 2) (q : ¬ s.target ≥ 0) : j7 nv na (d + 1) s = false := by rw [bw8 hp h, decide_eq_false (p := 0 ≤ s.target) q]; rfl
theorem b40 (hp : n9 s = true) (h : s.kind = 2) (q : ¬ s.target < (na : Int)) : j7 nv na (d + 1) s = false := by rw [bw8 hp h, decide_eq_false q, Bool.and_false]; rfl
theorem b39 (hp : n9 s = true) (h : s.kind = 2) (q : s4 nv na s.index = false) : j7 nv na (d + 1) s = false := by rw [bw8 hp h, q, Bool.and_false]; rfl
theorem b38 (hp : n9 s = true) (h : s.kind = 2) (q : atomB s.index = false) : j7 nv na (d + 1) s = false := by rw [bw8 hp h, q, Bool.and_false]; rfl
theorem b37 (hp : n9 s = true) (h : s.kind = 2) (q : s.target ≥ 0) (r : s.target < (na : Int)) (u : s4 nv na s.index = true) (v : atomB s.index = true) : j7 nv na (d + 1) s = s4 nv na s.value := by rw [bw8 hp h, decide_eq_true (p := 0 ≤ s.target) q, decide_eq_true r, u, v]; rfl
theorem b36 (hp : n9 s = true) (h : s.kind = 3) (q : s4 nv na s.value = false) : j7 nv na (d + 1) s = false := by rw [bT7 hp h, q]; rfl
theorem b35 (hp : n9 s = true) (h : s.kind = 3) (q : s.body.all (j7 nv na d) = false) : j7 nv na (d + 1) s = false := by rw [bT7 hp h, q, Bool.and_false]; rfl
theorem b34 (hp : n9 s = true) (h : s.kind = 3) (q : s4 nv na s.value = true) (r : s.body.all (j7 nv na d) = true) : j7 nv na (d + 1) s = s.els.all (j7 nv na d) := by rw [bT7 hp h, q, r]; rfl
theorem cc5 (h1 : ¬ s.kind = 1) (h2 : ¬ s.kind = 2) (h3 : ¬ s.kind = 3) (h4 : ¬ s.kind = 4) (h5 : ¬ s.kind = 5) : j7 nv na (d + 1) s = false := by rw [j7, if_neg (by omega), if_neg h2, if_neg h3, if_neg h4]; simp
end
abbrev R8 (p : i6) (s : c5) (r0 : List It) : List It := dI p.vars :: dI p.arrays :: dT p.body :: dE s.index.kids :: dE s.value.kids :: dT s.body :: dT s.els :: r0
theorem bx6 (p : i6) (d : Nat) (hB : ∀ (ss : List c5) (n : Int), n = d → j9.ok Tryz.prog (vbC p d ss n)) (s : c5) (n : Int) (hn : n = (d + 1 : Nat)) (hd : d ≤ 5) : j9.ok Tryz.prog (vsC p (d + 1) s n) := by
  refine E9 96 Tryz.func193 (R8 p s []) [(0, pA 0), (1, sA s 3), (2, iA n)] fun G => ?_; refine wp_seq (j8 G d9 [0, 1, 2, 3, 4, 5, 6, 7, 15] (R8 p s [.box (pL 0), .box (sL s 3)]) [(2, iA n), (3, .ptr 7 0), (4, .ptr 8 0), (6, bA false)] fun G => b6 (wp_seq (wp_seq ?_))); cases h0 : (decide (n < 1))
  ·
   have q0 := dFf h0; refine k8 G (F9 (t4 4 [3, 4, 5, 6] (bt2 s) F8) (fc h0 fz) [(3, 0), (4, 0), (5, 0), (1006, 0)]) [(13, .v (.bool !n9 s))] fun G => b6 ?_; cases h1 : (!n9 s)
   ·
    have q1 : (n9 s) = true := (Eq.mp (ck2 _) h1); refine rF G _ h1 (wp_skip (b6 (wp_seq (wp_seq (k8 G d9 [(15, iA s.kind)] fun G => b6 (wp_block (wp_seq (wp_seq (k8 G d9 [(16, bA (s.kind == 1))] fun G => b6 (J7 G (fun h2 q2 => ?_) fun h2 q2 => ?_))))))))))
    ·
     refine k8 G d9 [(16, bA (s.kind == 5))] fun G => b6 (J7 G (fun h3 q3 => ?_) fun h3 q3 => ?_)
     ·
      refine wp_seq (k8 G d9 [(36, bA (s.kind == 2))] fun G => b6 (J7 G (fun h4 q4 => ?_) fun h4 q4 => ?_))
      ·
       refine wp_seq (k8 G d9 [(66, bA (s.kind == 3))] fun G => b6 (J7 G (fun h5 q5 => ?_) fun h5 q5 => ?_))
       ·
        refine wp_seq (k8 G d9 [(88, bA (s.kind == 4))] fun G => b6 (J7 G (fun h6 q6 => ?_) fun h6 q6 => ?_))
        · refine wp_skip (l0 (b6 (wp_seq (j8 G d9 (rg 7) (R8 p s []) [(6, bA false)] fun G => b6 (wp_ret ?_))))); exact J6 false G (rg 7) (cc5 (by omega) (by omega) (by omega) (by omega) (by omega))
        · refine wp_seq (N7 G (s8 5 [0, 1, 2, 5] (hB s.body (n - 1) (by omega))) (rg 7) (R8 p s []) [(6, bA (s.body.all (j7 p.vars.length p.arrays.length d)))] [wO (n - 1)] (o1 (by omega)) fun G => b6 (wp_ret (z5 (l6 ?_)))); exact J6 (s.body.all (j7 p.vars.length p.arrays.length d)) G (rg 7) (cc4 (by with_reducible assumption) (by omega))
       ·
        refine wp_seq ?_; cases h7 : (s4 p.vars.length p.arrays.length s.value)
        · refine j8 G (F9 (t4 3 [0, 1, 2, 4] (J3 p s.value) F8) (fc h7 (fc (b := false) rfl fz)) (us [(5, 10, 0), (1011, 1011, 0), (13, 18, 1), (1019, 1019, 1)])) (rg 7) (R8 p s []) [(6, bA false)] fun G => b6 (wp_ret (z5 (l6 ?_))); exact J6 false G (rg 7) (b36 (by with_reducible assumption) (by omega) (by with_reducible assumption))
        ·
         cases h8 : (s.body.all (j7 p.vars.length p.arrays.length d))
         · refine N7 G (F9 (t4 3 [0, 1, 2, 4] (J3 p s.value) (t4 10 [0, 1, 2, 5] (hB s.body (n - 1) (by omega)) F8)) (fc h7 (fc h8 fz)) (us [(5, 10, 0), (1011, 1011, 0), (13, 18, 1), (1019, 1019, 1)])) (rg 7) (R8 p s []) [(6, bA false)] [wO (n - 1)] (o1 (by omega)) fun G => b6 (wp_ret (z5 (l6 ?_))); exact J6 false G (rg 7) (b35 (by with_reducible assumption) (by omega) (by with_reducible assumption))
         · refine N7 G (F9 (t4 3 [0, 1, 2, 4] (J3 p s.value) (t4 10 [0, 1, 2, 5] (hB s.body (n - 1) (by omega)) (t4 18 [0, 1, 2, 6] (hB s.els (n - 1) (by omega)) F8))) (fc h7 (fc h8 fz)) (us [(5, 10, 0), (1011, 1011, 0), (13, 18, 1), (1019, 1019, 1)])) (rg 7) (R8 p s []) [(6, bA (s.els.all (j7 p.vars.length p.arrays.length d)))] [wO (n - 1), wO (n - 1)] (o2 (by omega)) fun G => b6 (wp_ret (z5 (l6 ?_))); exact J6 (s.els.all (j7 p.vars.length p.arrays.length d)) G (rg 7) (b34 (by with_reducible assumption) (by omega) (by with_reducible assumption) (by with_reducible assumption))
      ·
       refine wp_seq ?_; cases h9 : (decide (s.target ≥ 0))
       · have q9 := dFf h9; refine j8 G (J1 (fc h9 (fc (b := false) rfl fz)) (us [(4, 9, 0), (1010, 1010, 0), (12, 15, 1), (1016, 1016, 1), (18, 20, 1), (1021, 1021, 1), (23, 26, 1), (1027, 1027, 1)])) (rg 7) (R8 p s []) [(6, bA false)] fun G => b6 (wp_ret (z5 (l6 ?_))); exact J6 false G (rg 7) (b41 (by with_reducible assumption) (by omega) (by omega))
       ·
        have q9 := dTt h9; cases h10 : (decide (s.target < (p.arrays.length : Int)))
        · have q10 := dFf h10; refine j8 G (J1 (fc h9 (fc h10 (fc (b := false) rfl fz))) (us [(4, 9, 0), (1010, 1010, 0), (12, 15, 1), (1016, 1016, 1), (18, 20, 2), (1021, 1021, 2), (23, 26, 2), (1027, 1027, 2)])) (rg 7) (R8 p s []) [(6, bA false)] fun G => b6 (wp_ret (z5 (l6 ?_))); exact J6 false G (rg 7) (b40 (by with_reducible assumption) (by omega) (by omega))
        ·
         have q10 := dTt h10; cases h11 : (s4 p.vars.length p.arrays.length s.index)
         · refine j8 G (F9 (t4 15 (rg 4) (J3 p s.index) F8) (fc h9 (fc h10 (fc h11 (fc (b := false) rfl fz)))) (us [(4, 9, 0), (1010, 1010, 0), (12, 15, 1), (1016, 1016, 1), (18, 20, 2), (1021, 1021, 2), (23, 26, 3), (1027, 1027, 3)])) (rg 7) (R8 p s []) [(6, bA false)] fun G => b6 (wp_ret (z5 (l6 ?_))); exact J6 false G (rg 7) (b39 (by with_reducible assumption) (by omega) (by with_reducible assumption))
         ·
          cases h12 : (atomB s.index)
          · refine j8 G (F9 (t4 15 (rg 4) (J3 p s.index) (t4 20 [3] (aL8 s.index) F8)) (fc h9 (fc h10 (fc h11 (fc h12 fz)))) (us [(4, 9, 0), (1010, 1010, 0), (12, 15, 1), (1016, 1016, 1), (18, 20, 2), (1021, 1021, 2), (23, 26, 3), (1027, 1027, 3)])) (rg 7) (R8 p s []) [(6, bA false)] fun G => b6 (wp_ret (z5 (l6 ?_))); exact J6 false G (rg 7) (b38 (by with_reducible assumption) (by omega) (by with_reducible assumption))
          · refine j8 G (F9 (t4 15 (rg 4) (J3 p s.index) (t4 20 [3] (aL8 s.index) (t4 26 [0, 1, 2, 4] (J3 p s.value) F8))) (fc h9 (fc h10 (fc h11 (fc h12 fz)))) (us [(4, 9, 0), (1010, 1010, 0), (12, 15, 1), (1016, 1016, 1), (18, 20, 2), (1021, 1021, 2), (23, 26, 3), (1027, 1027, 3)])) (rg 7) (R8 p s []) [(6, bA (s4 p.vars.length p.arrays.length s.value))] fun G => b6 (wp_ret (z5 (l6 ?_))); exact J6 (s4 p.vars.length p.arrays.length s.value) G (rg 7) (b37 (by with_reducible assumption) (by omega) (by omega) (by omega) (by with_reducible assumption) (by with_reducible assumption))
     ·
      refine wp_seq ?_; cases h13 : (decide (s.target ≥ 0))
      · have q13 := dFf h13; refine j8 G (J1 (fc h13 (fc (b := false) rfl fz)) (us [(4, 9, 0), (1010, 1010, 0), (12, 15, 1), (1016, 1016, 1)])) (rg 7) (R8 p s []) [(6, bA false)] fun G => b6 (wp_ret (z5 (l6 ?_))); exact J6 false G (rg 7) (bQ7 (by with_reducible assumption) (by omega) (by omega))
      ·
       have q13 := dTt h13; cases h14 : (decide (s.target < (p.vars.length : Int)))
       · have q14 := dFf h14; refine j8 G (J1 (fc h13 (fc h14 fz)) (us [(4, 9, 0), (1010, 1010, 0), (12, 15, 1), (1016, 1016, 1)])) (rg 7) (R8 p s []) [(6, bA false)] fun G => b6 (wp_ret (z5 (l6 ?_))); exact J6 false G (rg 7) (bQ6 (by with_reducible assumption) (by omega) (by omega))
       · have q14 := dTt h14; refine j8 G (F9 (t4 15 [0, 1, 2, 4] (J3 p s.value) F8) (fc h13 (fc h14 fz)) (us [(4, 9, 0), (1010, 1010, 0), (12, 15, 1), (1016, 1016, 1)])) (rg 7) (R8 p s []) [(6, bA (s4 p.vars.length p.arrays.length s.value))] fun G => b6 (wp_ret (z5 (l6 ?_))); exact J6 (s4 p.vars.length p.arrays.length s.value) G (rg 7) (bQ5 (by with_reducible assumption) (by omega) (by omega) (by omega))
    ·
     refine wp_skip (b6 (rT G _ h2 (wp_seq ?_))); cases h15 : (decide (s.target ≥ 0))
     · have q15 := dFf h15; refine j8 G (J1 (fc h15 (fc (b := false) rfl fz)) (us [(4, 9, 0), (1010, 1010, 0), (12, 15, 1), (1016, 1016, 1)])) (rg 7) (R8 p s []) [(6, bA false)] fun G => b6 (wp_ret (z5 (l6 ?_))); exact J6 false G (rg 7) (bQ7 (by with_reducible assumption) (by omega) (by omega))
     ·
      have q15 := dTt h15; cases h16 : (decide (s.target < (p.vars.length : Int)))
      · have q16 := dFf h16; refine j8 G (J1 (fc h15 (fc h16 fz)) (us [(4, 9, 0), (1010, 1010, 0), (12, 15, 1), (1016, 1016, 1)])) (rg 7) (R8 p s []) [(6, bA false)] fun G => b6 (wp_ret (z5 (l6 ?_))); exact J6 false G (rg 7) (bQ6 (by with_reducible assumption) (by omega) (by omega))
      · have q16 := dTt h16; refine j8 G (F9 (t4 15 [0, 1, 2, 4] (J3 p s.value) F8) (fc h15 (fc h16 fz)) (us [(4, 9, 0), (1010, 1010, 0), (12, 15, 1), (1016, 1016, 1)])) (rg 7) (R8 p s []) [(6, bA (s4 p.vars.length p.arrays.length s.value))] fun G => b6 (wp_ret (z5 (l6 ?_))); exact J6 (s4 p.vars.length p.arrays.length s.value) G (rg 7) (bQ5 (by with_reducible assumption) (by omega) (by omega) (by omega))
   · have q1 : (n9 s) = false := (Eq.mp (cj4 _) h1); refine rT G _ h1 (wp_seq (k8 G d9 [] fun G => b6 (wp_ret (l6 ?_)))); exact J6 false G (rg 7) (cc3 (by with_reducible assumption))
  · have q0 := dTt h0; exact False.elim (by omega)
theorem ca8 {nv na d : Nat} {ss : List c5} {k : Nat} (hk : k < ss.length) (h : j7 nv na d (ss.getD k ch2) = false) : ss.all (j7 nv na d) = false := by
 rw [m6 hk] at h
 exact al9 hk h
theorem aQ0 (p : i6) (d : Nat) (hd : d ≤ 5) (hS : ∀ (s : c5) (n : Int), n = d → j9.ok Tryz.prog (vsC p d s n)) (ss : List c5) (n : Int) (hn : n = d) : j9.ok Tryz.prog (vbC p d ss n) := by
  refine E9 22 Tryz.func130 [dI p.vars, dI p.arrays, dT p.body, dT ss] [(0, pA 0), (1, .ref 3), (2, iA n)] fun G => ?_; refine wp_seq (j8 G d9 (rg 5) [dI p.vars, dI p.arrays, dT p.body, dT ss, .box (pL 0)] [(1, .ref 3), (2, iA n), (3, .ptr 4 0), (6, bA false)] fun G => b6 (wp_seq (wp_seq (D2 G d9 [(1, .ref 3), (2, iA n), (3, .ptr 4 0), (6, bA false), (7, iA 0)] fun G => b6 (wp_block ?_))))); refine t0 (κ := Nat) (fun k => k ≤ ss.length ∧ (ss.take k).all (j7 p.vars.length p.arrays.length d) = true) (fun k => ss.length - k) (fun k => [dI p.vars, dI p.arrays, dT p.body, dT ss, .box (pL 0)]) (fun k => [(1, .ref 3), (2, iA n), (3, .ptr 4 0), (6, bA false), (7, iA k)]) 0 (by simp) (t7.at G _ _) ?_; clear G; intro k ρ a w hp G; have hlen : ss.length ≤ 9223372036854775807 := G.len 3 (d := .stmts ss) (by kernel_rfl); refine wp_seq (wp_seq (D2 G d9 [(1, .ref 3), (2, iA n), (3, .ptr 4 0), (6, bA false), (7, iA k), (11, bA (decide ((k : Int) < ss.length)))] fun G => b6 (rcD G (fun h0 q0 => ?_) fun h0 q0 => ?_)))
  · refine wp_exit (s7 (s7 (r8 (b6 (wp_seq (j8 G d9 (rg 4) [dI p.vars, dI p.arrays, dT p.body, dT ss] [(6, bA true)] fun G => b6 (wp_ret ?_))))))); exact J6 true G (rg 4) (aM5 hp.2 (by omega))
  ·
   refine wp_skip (b6 (wp_seq (wp_block (wp_seq (ac8 G (s8 6 [0, 1, 2, 37, 38, 39, 40] (hS (ss.getD k ch2) n (by assumption))) [0, 0, 0, 6, 14, 0, 63, 127] [(21, .v (.bool !j7 p.vars.length p.arrays.length d (ss.getD k ch2)))] (iX k k ss.length []) (iK (by omega) ci7) fun G => b6 ?_))))); cases h1 : (!j7 p.vars.length p.arrays.length d (ss.getD k ch2))
   · have q1 : (j7 p.vars.length p.arrays.length d (ss.getD k ch2)) = true := (Eq.mp (ck2 _) h1); refine rF G _ h1 (wp_skip (l0 (b6 (E0 G d9 [(7, iA ((k : Int) + 1))] [wO ((k : Int) + 1)] (o1 (by omega)) fun G => b6 ?_)))); exact I9 G (k + 1) (⟨by omega, a91 hp.2 (by omega) (by assumption)⟩) (by omega) (rg 5)
   · have q1 : (j7 p.vars.length p.arrays.length d (ss.getD k ch2)) = false := (Eq.mp (cj4 _) h1); refine rT G _ h1 (wp_seq (k8 G d9 [] fun G => b6 (wp_ret (z5 (l6 (l6 (z5 (l6 ?_)))))))); exact J6 false G (rg 4) (ca8 (k := k) (by omega) (by with_reducible assumption))
theorem bm2 (p : i6) : ∀ (d : Nat), d ≤ 5 → ∀ (s : c5) (n : Int), n = d → j9.ok Tryz.prog (vsC p d s n)
 | 0, _, s, n, hn => bp8 p s n hn
 | d + 1, hd, s, n, hn => bx6 p d (fun ss n hn => aQ0 p d (by omega) (bm2 p d (by omega)) ss n hn) s n hn (by omega)
theorem bt4 (p : i6) (ss : List c5) (n : Int) (hn : n = 5) : j9.ok Tryz.prog (T5 130 [pA 0, .ref 3, iA n] (pS p ++ [.dat (.stmts ss)]) (bA (af9 p.vars.length p.arrays.length 5 ss))) :=
 aQ0 p 5 (by omega) (bm2 p 5 (by omega)) ss n hn
def D0 : Nat → List c5 → Nat
 | 0, ss => ss.length
 | d + 1, ss => ss.length + (ss.map fun s => D0 d s.body + D0 d s.els).sum
def szP (d : Nat) (ss : List c5) (k : Nat) : Nat := ss.length + ((ss.take k).map fun s => D0 d s.body + D0 d s.els).sum
theorem bI0 (d : Nat) (ss : List c5) {k : Nat} (h : ss.length ≤ k) : szP d ss k = D0 (d + 1) ss := by unfold szP; rw [ci8 h, D0]
theorem aG4 {d : Nat} {ss : List c5} {k : Nat} (h : k < ss.length) : szP d ss (k + 1) = szP d ss k + (D0 d (ss.getD k ch2).body + D0 d (ss.getD k ch2).els) := by
 unfold szP
 rw [H5 ss k h, List.map_append, List.sum_append, m6 h]
 simp; omega
theorem bw9 : ∀ (d : Nat) (ss : List c5), D0 d ss ≤ j6 ss := by
 intro d
 induction d with
 | zero => intro ss; exact L4 ss
 | succ d ih =>
  intro ss
  induction ss with
  | nil => simp [D0]
  | cons s r ihr =>
   have h1 := ih s.body
   have h2 := ih s.els
   have h3 := aP2 s
   simp only [D0, ck9, List.sum_cons, ci1, j6] at ihr ⊢
   have h4 : j6 s.body + j6 s.els ≤ K3 s := by
    rcases s with ⟨_, _, _, _, _, b, e⟩
    simp only [K3, c5.body, c5.els]; omega
   omega
theorem ba2 {d : Nat} {ss : List c5} {k : Nat} : szP d ss k ≤ j6 ss := by
 refine cj7 ?_ (bw9 (d + 1) ss)
 unfold szP
 rw [D0]
 have : ∀ (l : List Nat) (k : Nat), (l.take k).sum ≤ l.sum := fun l k => by
  have := List.sum_append (l₁ := l.take k) (l₂ := l.drop k)
  rw [List.take_append_drop] at this; omega
 have h := this (ss.map fun s => D0 d s.body + D0 d s.els) k
 rw [← List.map_take] at h
 omega
theorem bo2 {ss : List c5} {k B : Nat} (h : j6 ss ≤ B) (hk : k < ss.length) : j6 (ss.getD k ch2).body ≤ B ∧ j6 (ss.getD k ch2).els ≤ B := by
 rw [m6 hk]
 have h1 := ab2 (cj1 hk)
 have h2 := aP2 ss[k]
 omega
theorem bt1 (ss : List c5) (n : Int) (hn : n = 1) (hb : j6 ss ≤ 1048576) : j9.ok Tryz.prog (T5 131 [.ref 0, iA n] [.dat (.stmts ss)] (iA (D0 0 ss : Nat))) := by
 have h100 : decide (n > 1) = false := by simp; omega
 refine E9 39 Tryz.func131 [dT ss] [(0, .ref 0), (1, iA n)] fun G => ?_; refine wp_seq (k8 G d9 [(4, iA 0)] fun G => b6 (wp_seq (k8 G d9 [(5, iA (ss.length : Int))] fun G => b6 (wp_seq (wp_seq (D2 G d9 [(0, .ref 0), (1, iA n), (4, iA 0), (5, iA (ss.length : Int)), (6, iA 0)] fun G => b6 (wp_block ?_))))))); refine t0 (κ := Nat) (fun k => k = 0) (fun k => 0) (fun k => [dT ss]) (fun k => [(0, .ref 0), (1, iA n), (4, iA 0), (5, iA (ss.length : Nat)), (6, iA k)]) 0 (by kernel_rfl) (t7.at G _ _) ?_; clear G; intro k ρ a w hp G; replace G := t7.at G [dT ss] [(0, .ref 0), (1, iA n), (4, iA 0), (5, iA (ss.length : Int)), (6, iA k)]; refine wp_seq (wp_seq ?_); cases h0 : (decide ((k : Int) < ss.length))
 ·have q0 := dFf h0; refine k8 G (J1 (fc h0 fz) [(5, 0), (6, 0), (1007, 0)]) [(16, bA false)] fun G => b6 (rF G false (by kernel_rfl) (wp_exit (s7 (s7 (r8 (b6 (wp_seq (k8 G d9 [(4, iA (ss.length : Int))] fun G => b6 (wp_ret ?_))))))))); exact K8 G [0]
 ·have q0 := dTt h0; refine k8 G (J1 (fc h0 fz) [(5, 0), (6, 0), (1007, 0)]) [(16, bA (decide (n > 1)))] fun G => b6 (rF G (decide (n > 1)) (by assumption) (wp_exit (s7 (s7 (r8 (b6 (wp_seq (k8 G d9 [(4, iA (ss.length : Int))] fun G => b6 (wp_ret ?_))))))))); exact K8 G [0]
theorem bs9 (d : Nat) (hd : d ≤ 5) (ih : ∀ (ss : List c5) (n : Int), n = (d + 1 : Nat) → j6 ss ≤ 1048576 → j9.ok Tryz.prog (T5 131 [.ref 0, iA n] [.dat (.stmts ss)] (iA (D0 d ss : Nat))))
  (ss : List c5) (n : Int) (hn : n = (d + 2 : Nat)) (hb : j6 ss ≤ 1048576) : j9.ok Tryz.prog (T5 131 [.ref 0, iA n] [.dat (.stmts ss)] (iA (D0 (d + 1) ss : Nat))) := by
 have h100 : decide (n > 1) = true := by simp; omega
 refine E9 39 Tryz.func131 [dT ss] [(0, .ref 0), (1, iA n)] fun G => ?_; refine wp_seq (k8 G d9 [(4, iA 0)] fun G => b6 (wp_seq (k8 G d9 [(5, iA (ss.length : Int))] fun G => b6 (wp_seq (wp_seq (D2 G d9 [(0, .ref 0), (1, iA n), (4, iA 0), (5, iA (ss.length : Int)), (6, iA 0)] fun G => b6 (wp_block ?_))))))); refine t0 (κ := Nat) (fun k => k ≤ ss.length) (fun k => ss.length - k) (fun k => [dT ss]) (fun k => [(0, .ref 0), (1, iA n), (4, iA 0), (5, iA (szP d ss k : Nat)), (6, iA k)]) 0 (by omega) (t7.at G _ _) ?_; clear G; intro k ρ a w hp G; replace G := t7.at G [dT ss] [(0, .ref 0), (1, iA n), (4, iA 0), (5, iA (↑(szP d ss k) : Int)), (6, iA k)]; have hlen := L4 ss; refine wp_seq (wp_seq ?_); cases h0 : (decide ((k : Int) < ss.length))
 ·have q0 := dFf h0; refine k8 G (J1 (fc h0 fz) [(5, 0), (6, 0), (1007, 0)]) [(16, bA false)] fun G => b6 (rF G false (by kernel_rfl) (wp_exit (s7 (s7 (r8 (b6 (wp_seq (k8 G d9 [(4, iA (↑(szP d ss k) : Int))] fun G => b6 (wp_ret ?_))))))))); exact rxI ((↑(szP d ss k) : Int)) G [0] (by have h1 := bI0 d ss (k := k) (by omega); omega)
 ·have q0 := dTt h0; refine k8 G (J1 (fc h0 fz) [(5, 0), (6, 0), (1007, 0)]) [(16, bA (decide (n > 1)))] fun G => b6 (rT G (decide (n > 1)) (by assumption) (wp_skip (b6 (wp_seq (wp_block (ac8 G (F9 (t4 8 [41] (ih ((ss.getD k ch2).body) (n - 1) (by omega) ((bo2 hb (by omega)).1)) (t4 17 [113] (ih ((ss.getD k ch2).els) (n - 1) (by omega) ((bo2 hb (by omega)).2)) F8)) fz []) [0, 0, 0, 6, 14, 30, 0, 64, 254, 511, 0, 0, 3072, 7168, 15360, 0, 32768, 130558, 262143, 524287] [(5, iA ((↑(szP d ss k) : Int) + (↑(D0 d (ss.getD k ch2).body) : Int) + (↑(D0 d (ss.getD k ch2).els) : Int)))] (iX k k ss.length ((wO (n - 1)) :: ((wO ((↑(szP d ss k) : Int) + (↑(D0 d (ss.getD k ch2).body) : Int))) :: (iX k k ss.length ((wO (n - 1)) :: ((wO ((↑(szP d ss k) : Int) + (↑(D0 d (ss.getD k ch2).body) : Int) + (↑(D0 d (ss.getD k ch2).els) : Int))) :: [])))))) (iK (by omega) ⟨oW (by omega), ⟨(by have h1 := aG4 (d := d) (ss := ss) (k := k) (by omega); have h2 := ba2 (d := d) (ss := ss) (k := k + 1); exact w64 (by omega) (by omega)), (iK (by omega) ⟨oW (by omega), ⟨(by have h1 := aG4 (d := d) (ss := ss) (k := k) (by omega); have h2 := ba2 (d := d) (ss := ss) (k := k + 1); exact w64 (by omega) (by omega)), ci7⟩⟩)⟩⟩) fun G => l0 (b6 (E0 G d9 [(6, iA ((k : Int) + 1))] [wO ((k : Int) + 1)] (o1 (by omega)) fun G => b6 ?_)))))))); exact I9 G (k + 1) (by omega) (by omega) [0] (ht := by have e1 : ((↑(szP d ss (k + 1)) : Int) : Int) = ((↑(szP d ss k) : Int) + (↑(D0 d (ss.getD k ch2).body) : Int) + (↑(D0 d (ss.getD k ch2).els) : Int)) := (by have h1 := aG4 (d := d) (ss := ss) (k := k) (by omega); have h2 := ba2 (d := d) (ss := ss) (k := k + 1); omega); (first | rw [e1] | simp only [e1]) <;> rfl)
theorem bt0 : ∀ d, d ≤ 5 → ∀ (ss : List c5) (n : Int), n = (d + 1 : Nat) → j6 ss ≤ 1048576 → j9.ok Tryz.prog (T5 131 [.ref 0, iA n] [.dat (.stmts ss)] (iA (D0 d ss : Nat))) := by
 intro d
 induction d with
 | zero => intro _ ss n hn hb; exact bt1 ss n (by omega) hb
 | succ d ih => intro hd ss n hn hb; exact bs9 d (by omega) (fun ss n hn hb => ih (by omega) ss n hn hb) ss n (by omega) hb
theorem bG3 (ss : List c5) (n : Int) (hn : n = 5) (hb : j6 ss ≤ 1048576) : j9.ok Tryz.prog (T5 131 [.ref 0, iA n] [.dat (.stmts ss)] (iA (D0 4 ss : Nat))) :=
 bt0 4 (by omega) ss n (by omega) hb
theorem bx0 {nv na : Nat} : ∀ (d : Nat) (ss : List c5), (∀ s ∈ ss, j7 nv na (d + 1) s = true) → D0 d ss = V6 ss := by
 intro d
 induction d with
 | zero => intro ss h; rw [a59 h]; rfl
 | succ d ih =>
  intro ss
  induction ss with
  | nil => intro _; rfl
  | cons s r ihr =>
   intro h
   have h1 := ad9 (h s cl3)
   have h2 := ih s.body fun x hx => ci2.1 h1.1 x hx
   have h3 := ih s.els fun x hx => ci2.1 h1.2 x hx
   have h4 := ihr fun x hx => h x (cl1 _ hx)
   rw [V6, ax0, ← h2, ← h3, ← h4]
   simp [D0]; omega
theorem a27 {p : i6} (h : F0 p.vars p.arrays = false) : m0 p = false := by simp [m0, h]
theorem a28 {p : i6} (h : af9 p.vars.length p.arrays.length 5 p.body = false) : m0 p = false := by simp [m0, h]
theorem bc3 {p : i6} (h1 : F0 p.vars p.arrays = true) (h2 : af9 p.vars.length p.arrays.length 5 p.body = true) : m0 p = decide ((D0 4 p.body : Int) ≤ 60) := by
 have h3 := bx0 (nv := p.vars.length) (na := p.arrays.length) 4 p.body (fun x hx => ci2.1 h2 x hx)
 rw [m0, h1, h2, h3]
 simp
 exact ⟨fun h => by omega, fun h => by omega⟩
theorem a80 (p : i6) (n : Int) (hn : n = 5) : j9.ok Tryz.prog (T5 130 [pA 0, .ref 2, iA n] (pS p) (bA (af9 p.vars.length p.arrays.length 5 p.body))) :=
 j9.dup (S := pS p) (S' := pS p) (d := .stmts p.body) (i := 2) (bt4 p p.body n hn) rfl rfl rfl (fun ρ h => by simp only [AV.vals, AV.val]; rw [show ρ 3 = ρ 2 from h]) rfl
theorem R2 (p : i6) (hb : j6 p.body ≤ 1048576) : j9.ok Tryz.prog (T5 62 [pA 0] (pS p) (bA (m0 p))) := by
  refine E9 17 Tryz.func62 [dI p.vars, dI p.arrays, dT p.body] [(0, pA 0)] fun G => ?_; refine wp_seq (j8 G d9 (rg 4) [dI p.vars, dI p.arrays, dT p.body, .box (pL 0)] [(1, .ptr 3 0), (2, bA false)] fun G => b6 (wp_seq ?_)); cases h0 : (F0 p.vars p.arrays)
  · refine j8 G (F9 (t4 1 [0, 1, 2] (ay1 p) F8) (fc h0 (fc (b := false) rfl fz)) (us [(3, 6, 0), (1007, 1007, 0), (9, 12, 1), (1013, 1013, 1)])) [0, 1, 2] [dI p.vars, dI p.arrays, dT p.body] [(2, bA false)] fun G => b6 (wp_ret ?_); exact J6 false G [0, 1, 2] (a27 (by assumption))
  ·
   cases h1 : (af9 p.vars.length p.arrays.length (5 : Nat) p.body)
   · refine j8 G (F9 (t4 1 [0, 1, 2] (ay1 p) (t4 6 [0, 1, 2] (a80 p 5 (by kernel_rfl)) F8)) (fc h0 (fc h1 fz)) (us [(3, 6, 0), (1007, 1007, 0), (9, 12, 1), (1013, 1013, 1)])) [0, 1, 2] [dI p.vars, dI p.arrays, dT p.body] [(2, bA false)] fun G => b6 (wp_ret ?_); exact J6 false G [0, 1, 2] (a28 (by assumption))
   · refine j8 G (F9 (t4 1 [0, 1, 2] (ay1 p) (t4 6 [0, 1, 2] (a80 p 5 (by kernel_rfl)) (t4 11 [2] (bG3 p.body 5 (by kernel_rfl) (by assumption)) F8))) (fc h0 (fc h1 fz)) (us [(3, 6, 0), (1007, 1007, 0), (9, 12, 1), (1013, 1013, 1)])) [0, 1, 2] [dI p.vars, dI p.arrays, dT p.body] [(2, bA (decide ((↑(D0 4 p.body) : Int) ≤ 60)))] fun G => b6 (wp_ret ?_); exact J6 (decide ((↑(D0 4 p.body) : Int) ≤ 60)) G [0, 1, 2] (bc3 (by assumption) (by assumption))
def D7 (nv na : Nat) (s : c5) : Bool := n9 s &&
    (if s.kind = 1 ∨ s.kind = 5 then decide (0 ≤ s.target) && decide (s.target < nv) && s4 nv na s.value
     else if s.kind = 2 then decide (0 ≤ s.target) && decide (s.target < na) && s4 nv na s.index && atomB s.index && s4 nv na s.value
     else if s.kind = 3 then s4 nv na s.value
     else decide (s.kind = 4))
theorem T2 {nv na d : Nat} {s : c5} : j7 nv na (d + 1) s = (D7 nv na s && (s.body.all (j7 nv na d) && s.els.all (j7 nv na d))) := by
 rw [ck7]
 constructor
 ·intro h
  have h1 := ad9 h
  rw [h1.1, h1.2, Bool.and_true, Bool.and_true]
  rw [j7, ch4] at h
  rw [D7, h.1, Bool.true_and]
  obtain ⟨-, h⟩ := h
  split at h
  ·rw [if_pos (by assumption)]; exact h
  split at h
  ·rw [if_neg (by assumption), if_pos (by assumption)]; exact h
  split at h
  ·rw [if_neg (by assumption), if_neg (by assumption), if_pos (by assumption)]
   simp only [ch4] at h; exact h.1.1
  split at h
  ·rw [if_neg (by assumption), if_neg (by assumption), if_neg (by assumption)]; simp [*]
  ·simp at h
 ·intro h
  simp only [ch4] at h
  obtain ⟨h, hb, he⟩ := h
  rw [D7, ch4] at h
  obtain ⟨h0, h⟩ := h
  rw [j7, h0, Bool.true_and]
  split at h
  ·rw [if_pos (by assumption)]; exact h
  split at h
  ·rw [if_neg (by assumption), if_pos (by assumption)]; exact h
  split at h
  ·rw [if_neg (by assumption), if_neg (by assumption), if_pos (by assumption), h, hb, he]; rfl
  ·rw [if_neg (by assumption), if_neg (by assumption), if_neg (by assumption), if_pos (by simpa using h), hb]
section
variable {nv na d c : Nat} {s : c5}
end
section
variable {nv na : Nat} {s : c5}
theorem bD2 (k : s.kind = 1 ∨ s.kind = 5) : D7 nv na s = (decide (0 ≤ s.target ∧ s.target < nv ∧ s.body.length = 0 ∧ s.els.length = 0 ∧ s.count = 0) && (noneB s.index && s4 nv na s.value)) := by
 rw [D7, n9, if_pos k, if_neg (by omega), show decide (s.kind = 2) = false from decide_eq_false (by omega), ck7]
 simp only [ch4, decide_eq_true_eq, Bool.false_or]
 constructor
 ·rintro ⟨⟨⟨⟨a, b⟩, c⟩, d⟩, ⟨e, f⟩, g⟩; exact ⟨⟨e, f, a, b, c⟩, d, g⟩
 ·rintro ⟨⟨e, f, a, b, c⟩, d, g⟩; exact ⟨⟨⟨⟨a, b⟩, c⟩, d⟩, ⟨e, f⟩, g⟩
theorem a57 (k : s.kind = 2) : D7 nv na s = (decide (0 ≤ s.target ∧ s.target < na ∧ s.body.length = 0 ∧ s.els.length = 0 ∧ s.count = 0) && (s4 nv na s.index && (atomB s.index && s4 nv na s.value))) := by
 rw [D7, n9, if_neg (by omega), if_pos k, if_neg (by omega), show decide (s.kind = 2) = true from decide_eq_true k, ck7]
 simp only [ch4, decide_eq_true_eq, Bool.true_or]
 constructor
 ·rintro ⟨⟨⟨⟨a, b⟩, c⟩, -⟩, ⟨⟨⟨e, f⟩, i⟩, j⟩, g⟩; exact ⟨⟨e, f, a, b, c⟩, i, j, g⟩
 ·rintro ⟨⟨e, f, a, b, c⟩, i, j, g⟩; exact ⟨⟨⟨⟨a, b⟩, c⟩, ci7⟩, ⟨⟨⟨e, f⟩, i⟩, j⟩, g⟩
theorem bR9 (k : s.kind = 3) : D7 nv na s = (decide (s.target = 0 ∧ s.count = 0) && (noneB s.index && s4 nv na s.value)) := by
 rw [D7, n9, if_pos (show s.kind = 3 ∨ s.kind = 4 from .inl k), if_neg (show ¬ s.kind = 4 by omega), if_neg (by omega), if_neg (by omega), if_pos k, ck7]
 simp only [ch4, decide_eq_true_eq]
 constructor
 ·rintro ⟨⟨a, b, c⟩, d⟩; exact ⟨⟨a, b⟩, c, d⟩
 ·rintro ⟨⟨a, b⟩, c, d⟩; exact ⟨⟨a, b, c⟩, d⟩
theorem b82 (k : s.kind = 4) : D7 nv na s = (decide (s.target = 0 ∧ s.els.length = 0 ∧ 1 ≤ s.count ∧ s.count ≤ 3) && (noneB s.index && noneB s.value)) := by
 rw [D7, n9, if_pos (show s.kind = 3 ∨ s.kind = 4 from .inr k), if_pos k, if_neg (by omega), if_neg (by omega), if_neg (by omega), show decide (s.kind = 4) = true from decide_eq_true k, ck7]
 simp only [ch4, decide_eq_true_eq]
 constructor
 ·rintro ⟨⟨a, ⟨⟨⟨b, c⟩, d⟩, e⟩, f⟩, -⟩; exact ⟨⟨a, b, c, d⟩, e, f⟩
 ·rintro ⟨⟨a, b, c, d⟩, e, f⟩; exact ⟨⟨a, ⟨⟨⟨b, c⟩, d⟩, e⟩, f⟩, ci7⟩
theorem ao9 (k : ¬ s.kind = 1 ∧ ¬ s.kind = 2 ∧ ¬ s.kind = 3 ∧ ¬ s.kind = 4 ∧ ¬ s.kind = 5) : D7 nv na s = false := by
 rw [D7, if_neg (by omega), if_neg (by omega), if_neg (by omega), show decide (s.kind = 4) = false from decide_eq_false (by omega), Bool.and_false]
end
theorem b28 {l : List c6} {k : Nat} (hk : k < l.length) : l.take k ++ [⟨(l.getD k ch2).kind, (l.getD k ch2).value, (l.getD k ch2).kids⟩] = l.take (k + 1) := by
 rw [c6.eta, m8 _ _ hk, m6 hk]
theorem b27 {l : List c5} {k : Nat} (hk : k < l.length) : l.take k ++ [⟨(l.getD k ch2).kind, (l.getD k ch2).target, ⟨(l.getD k ch2).index.kind, (l.getD k ch2).index.value, (l.getD k ch2).index.kids⟩, ⟨(l.getD k ch2).value.kind, (l.getD k ch2).value.value, (l.getD k ch2).value.kids⟩, (l.getD k ch2).count, (l.getD k ch2).body, (l.getD k ch2).els⟩] = l.take (k + 1) := by
 rw [c6.eta, c6.eta, c5.eta, m8 _ _ hk, m6 hk]
theorem bj2 {α : Type} {l : List α} {k : Nat} (h1 : k ≤ l.length) (h2 : ¬ (k : Int) < l.length) : l.take k = l := by rw [ci8 (by omega)]
theorem bB3 {α : Type} {l : List α} {k n : Nat} (h1 : k ≤ l.length) (h : l.length ≤ n) : (l.take k).length ≤ n := by rw [List.length_take]; omega
theorem bC0 {e : c6} (h : z7 e ≤ 1048576) : e.kids.length ≤ 1048576 := by
 have h1 := as1 e.kids
 have h2 : z7 e = D9 e.kids := by cases e; rfl
 omega
theorem bu0 {l : List c5} (h : j6 l ≤ 1048576) : l.length ≤ 1048576 := cj7 (L4 l) h
theorem bL9 {α : Type} {l : List α} {x : α} {k : Nat} (h1 : k ≤ l.length) (h : l.length ≤ 1048576) : (l.take k).length + [x].length ≤ 1048577 := by
 have := bB3 (k := k) h1 h
 simp only [ci1, ci6]; omega
theorem b88 {a b : Nat} (ha : a ≤ 1048577) (hb : Nat.ble b 1000 = true) : a * b ≤ 140737488355328 := by
 have h1 := Nat.le_of_ble_eq_true hb
 have h2 := Nat.mul_le_mul ha h1
 omega
theorem au1 {l : List c6} {k : Nat} (h : (k : Int) < l.length) : l.getD k ch2 ∈ l := by rw [m6 (by omega)]; exact cj1 (by omega)
theorem ad2 {l : List c5} {k : Nat} (h : (k : Int) < l.length) : l.getD k ch2 ∈ l := by rw [m6 (by omega)]; exact cj1 (by omega)
abbrev cpC (e : c6) : j9 := ⟨132, [eA e 0], eS e, eS e ++ [.tree (.exprs e.kids)], .agg [iA e.kind, iA e.value, .tref 1]⟩
abbrev aY8 (e : c6) (r0 : List It) : List It := dE e.kids :: .box (eL e 0) :: .box [iA 0, iA 0, .v (.slice none 0 0)] :: r0
theorem bx7 (e : c6) (hb : z7 e ≤ 1048576) (ih : ∀ (x : c6), x ∈ e.kids → j9.ok Tryz.prog (cpC x)) : j9.ok Tryz.prog (cpC e) := by
 refine E9 29 Tryz.func132 [dE e.kids] [(0, eA e 0)] fun G => ?_; have hl := bC0 hb; refine wp_seq (j8 G d9 [0, 1, 9] (aY8 e []) [(1, .ptr 1 0), (2, .ptr 2 0)] fun G => b6 (wp_seq (j8 G d9 [0, 1, 2, 43] (aY8 e [.box [iA e.kind, iA e.value, .v (.slice none 0 0)]]) [(1, .ptr 1 0), (2, .ptr 2 0), (3, .ptr 3 0)] fun G => b6 (wp_seq (wp_seq (D2 G d9 [(1, .ptr 1 0), (2, .ptr 2 0), (3, .ptr 3 0), (4, iA 0)] fun G => b6 (wp_block ?_))))))); obtain ⟨ρ, G⟩ := G.nilT 4 (.exprs []) (aY8 e [.box [iA e.kind, iA e.value, .tref 4]]) [(1, .ptr 1 0), (2, .ptr 2 0), (3, .ptr 3 0), (4, iA 0)]; refine t0 (κ := Nat) (fun k => k ≤ e.kids.length) (fun k => e.kids.length - k) (fun k => [dE e.kids, .box (eL e 0), .box [iA 0, iA 0, .v (.slice none 0 0)], .box [iA e.kind, iA e.value, .tref 4], .tree (.exprs (e.kids.take k))]) (fun k => [(1, .ptr 1 0), (2, .ptr 2 0), (3, .ptr 3 0), (4, iA k)]) 0 (by omega) (t7.at G _ _) ?_; clear G; intro k ρ a w hp G; replace G := t7.at G (aY8 e [.box [iA e.kind, iA e.value, .tref 4], .tree (D.exprs (ci0 k e.kids))]) [(1, .ptr 1 0), (2, .ptr 2 0), (3, .ptr 3 0), (4, iA k)]; refine wp_seq (wp_seq (k8 G d9 [(14, bA (decide ((k : Int) < e.kids.length)))] fun G => b6 (rcD G (fun h0 q0 => ?_) fun h0 q0 => ?_)))
 ·refine wp_exit (s7 (s7 (r8 (b6 (wp_seq (j8 G d9 [0, 2, 4] [dE e.kids, .box [iA e.kind, iA e.value, .tref 2], .tree (D.exprs (ci0 k e.kids))] [(2, .ptr 1 0)] fun G => b6 (wp_ret ?_))))))); exact K8 G [0, 2] (by show _ = mR [0, 2] [dE e.kids, .tree (D.exprs e.kids)]; have e1 : (ci0 k e.kids : List c6) = (e.kids) := (bj2 hp (by assumption)); (first | rw [e1] | simp only [e1]) <;> rfl)
 ·refine wp_skip (b6 (wp_seq (wp_block (O1 G (s8 7 [53] (ih (e.kids.getD k ch2) (au1 (by assumption)))) [0, 1, 0, 4, 0, 28, 60, 124, 252, 511, 1023, 2047] [0, 1, 2, 3, 77] (aY8 e [.box [iA e.kind, iA e.value, .tref 4], .tree (D.exprs (ci0 k e.kids ++ [x5 (e.kids.getD k ch2)]))]) [(1, .ptr 1 0), (2, .ptr 2 0), (3, .ptr 3 0), (4, iA k)] (iX k k e.kids.length (((ci0 k e.kids).length + [x5 (e.kids.getD k ch2)].length ≤ (9223372036854775807 : Nat)) :: ((((ci0 k e.kids).length + [x5 (e.kids.getD k ch2)].length) * (40 : Nat) ≤ (140737488355328 : Nat)) :: []))) (iK (by omega) ⟨(by have := bL9 (x := (ch2 : c6)) hp hl; simp only [ci1, ci6] at this ⊢; omega), ⟨(b88 (bL9 hp hl) (by kernel_rfl)), ci7⟩⟩) fun G => l0 (b6 (E0 G d9 [(4, iA ((k : Int) + 1))] [wO ((k : Int) + 1)] (o1 (by omega)) fun G => b6 ?_)))))); exact I9 G (k + 1) (by omega) (by omega) (rg 5) (by have e1 : (ci0 (k + 1) e.kids : List c6) = (ci0 k e.kids ++ [x5 (e.kids.getD k ch2)]) := ((b28 (by omega)).symm); (first | rw [e1] | simp only [e1]) <;> rfl)
theorem aY5 (e : c6) : z7 e ≤ 1048576 → j9.ok Tryz.prog (cpC e) :=
 c6.ind (P := fun e => z7 e ≤ 1048576 → j9.ok Tryz.prog (cpC e)) (fun k n ks ih hb => bx7 ⟨k, n, ks⟩ hb fun x hx => ih x hx (by
  have h1 := bI1 (show x ∈ ks from hx)
  have h2 : z7 ⟨k, n, ks⟩ = D9 ks := rfl
  omega)) e
abbrev a67 (l : List c5) : j9 := ⟨151, [.ref 0], [dT l], [dT l, .tree (.stmts l)], .tref 1⟩
theorem bn2 {l : List c5} {k : Nat} (hb : j6 l ≤ 1048576) (h : (k : Int) < l.length) : z7 (l.getD k ch2).index ≤ 1048576 ∧ z7 (l.getD k ch2).value ≤ 1048576 ∧ j6 (l.getD k ch2).body ≤ 1048576 ∧ j6 (l.getD k ch2).els ≤ 1048576 := by
 have h1 := ab2 (ad2 h)
 generalize l.getD k ch2 = s at *
 rcases s with ⟨_, _, i, v, _, b, e⟩
 simp only [K3] at h1
 simp only [c5.index, c5.value, c5.body, c5.els]
 omega
abbrev aE2 (k : Nat) (r0 : List (Nat × AV)) : List (Nat × AV) := (0, .ref 0) :: (2, .v (.slice none 0 0)) :: (3, .tref 1) :: (4, iA (k : Int)) :: r0
theorem aH3 (l : List c5) (hb : j6 l ≤ 1048576) (ih1 : ∀ (s : c5), s ∈ l → j9.ok Tryz.prog (a67 s.body)) (ih2 : ∀ (s : c5), s ∈ l → j9.ok Tryz.prog (a67 s.els)) : j9.ok Tryz.prog (a67 l) := by
  refine E9 38 Tryz.func151 [dT l] [(0, .ref 0)] fun G => ?_; have hl := bu0 hb; refine wp_seq (k8 G d9 [(2, .v (.slice none 0 0))] fun G => b6 (wp_seq (j8 G d9 [0, 1] [dT l, .tree (D.stmts [])] [(0, .ref 0), (2, .v (.slice none 0 0)), (3, .tref 1)] fun G => b6 (wp_seq (wp_seq (D2 G d9 [(0, .ref 0), (2, .v (.slice none 0 0)), (3, .tref 1), (4, iA 0)] fun G => b6 (wp_block ?_))))))); refine t0 (κ := Nat) (fun k => k ≤ l.length) (fun k => l.length - k) (fun k => [dT l, .tree (.stmts (l.take k))]) (fun k => [(0, .ref 0), (2, .v (.slice none 0 0)), (3, .tref 1), (4, iA k)]) 0 (by omega) (t7.at G _ _) ?_; clear G; intro k ρ a w hp G; replace G := t7.at G [dT l, .tree (D.stmts (ci0 k l))] (aE2 k []); refine wp_seq (wp_seq (k8 G d9 [(10, bA (decide ((k : Int) < l.length)))] fun G => b6 (rcD G (fun h0 q0 => ?_) fun h0 q0 => ?_)))
  · refine wp_exit (s7 (s7 (r8 (b6 (wp_seq (k8 G d9 [(2, .tref 1)] fun G => b6 (wp_ret ?_))))))); exact K8 G [0, 1] (by show _ = mR [0, 1] [dT l, .tree (D.stmts l)]; have e1 : (ci0 k l : List c5) = (l) := (bj2 hp (by assumption)); (first | rw [e1] | simp only [e1]) <;> rfl)
  ·
   refine wp_skip (b6 (wp_seq (wp_block (wp_seq (N7 G d9 [0, 1, 26, 27, 28, 29, 34] [dT l, .tree (D.stmts (ci0 k l)), dE (l.getD k ch2).index.kids, dE (l.getD k ch2).value.kids, dT (l.getD k ch2).body, dT (l.getD k ch2).els, .box (sL (l.getD k ch2) 2)] (aE2 k [(5, .ptr 6 0)]) (iX k k l.length []) (iK (by omega) ci7) fun G => b6 (wp_seq (j8 G (s8 2 [2] (aY5 ((l.getD k ch2).index) ((bn2 hb (by assumption)).1))) [0, 1, 3, 4, 5, 6, 23] [dT l, .tree (D.stmts (ci0 k l)), dE (l.getD k ch2).value.kids, dT (l.getD k ch2).body, dT (l.getD k ch2).els, .box [iA (l.getD k ch2).kind, iA (l.getD k ch2).target, iA (l.getD k ch2).index.kind, iA (l.getD k ch2).index.value, .tref 6, iA (l.getD k ch2).value.kind, iA (l.getD k ch2).value.value, .ref 2, iA (l.getD k ch2).count, .ref 3, .ref 4], .tree (D.exprs (l.getD k ch2).index.kids)] (aE2 k [(5, .ptr 5 0)]) fun G => b6 (wp_seq (j8 G (s8 2 [2] (aY5 ((l.getD k ch2).value) ((bn2 hb (by assumption)).2.1))) [0, 1, 3, 4, 5, 6, 23] [dT l, .tree (D.stmts (ci0 k l)), dT (l.getD k ch2).body, dT (l.getD k ch2).els, .box [iA (l.getD k ch2).kind, iA (l.getD k ch2).target, iA (l.getD k ch2).index.kind, iA (l.getD k ch2).index.value, .tref 5, iA (l.getD k ch2).value.kind, iA (l.getD k ch2).value.value, .tref 6, iA (l.getD k ch2).count, .ref 2, .ref 3], .tree (D.exprs (l.getD k ch2).index.kids), .tree (D.exprs (l.getD k ch2).value.kids)] (aE2 k [(5, .ptr 4 0)]) fun G => b6 (wp_seq (j8 G (s8 2 [2] (ih1 (l.getD k ch2) (ad2 (by assumption)))) [0, 1, 3, 4, 5, 6, 23] [dT l, .tree (D.stmts (ci0 k l)), dT (l.getD k ch2).els, .box [iA (l.getD k ch2).kind, iA (l.getD k ch2).target, iA (l.getD k ch2).index.kind, iA (l.getD k ch2).index.value, .tref 4, iA (l.getD k ch2).value.kind, iA (l.getD k ch2).value.value, .tref 5, iA (l.getD k ch2).count, .tref 6, .ref 2], .tree (D.exprs (l.getD k ch2).index.kids), .tree (D.exprs (l.getD k ch2).value.kids), .tree (D.stmts (l.getD k ch2).body)] (aE2 k [(5, .ptr 3 0)]) fun G => b6 (wp_seq (j8 G (s8 2 [2] (ih2 (l.getD k ch2) (ad2 (by assumption)))) [0, 1, 3, 4, 5, 6, 23] [dT l, .tree (D.stmts (ci0 k l)), .box [iA (l.getD k ch2).kind, iA (l.getD k ch2).target, iA (l.getD k ch2).index.kind, iA (l.getD k ch2).index.value, .tref 3, iA (l.getD k ch2).value.kind, iA (l.getD k ch2).value.value, .tref 4, iA (l.getD k ch2).count, .tref 5, .tref 6], .tree (D.exprs (l.getD k ch2).index.kids), .tree (D.exprs (l.getD k ch2).value.kids), .tree (D.stmts (l.getD k ch2).body), .tree (D.stmts (l.getD k ch2).els)] (aE2 k [(5, .ptr 2 0)]) fun G => b6 (N7 G d9 [0, 31] [dT l, .tree (D.stmts (ci0 k l ++ [qzS (l.getD k ch2)]))] (aE2 k []) [(ci0 k l).length + [qzS (l.getD k ch2)].length ≤ (9223372036854775807 : Nat), ((ci0 k l).length + [qzS (l.getD k ch2)].length) * (152 : Nat) ≤ (140737488355328 : Nat)] ⟨(by have := bL9 (x := (ch2 : c5)) hp hl; simp only [ci1, ci6] at this ⊢; omega), (b88 (bL9 hp hl) (by kernel_rfl)), ci7⟩ fun G => ?_))))))))))))))
   refine l0 (b6 (E0 G d9 [(4, iA ((k : Int) + 1))] [wO ((k : Int) + 1)] (o1 (by omega)) fun G => b6 ?_)); exact I9 G (k + 1) (by omega) (by omega) [0, 1] (by have e1 : (ci0 (k + 1) l : List c5) = (ci0 k l ++ [qzS (l.getD k ch2)]) := ((b27 (by omega)).symm); (first | rw [e1] | simp only [e1]) <;> rfl)
theorem bO9 (l : List c5) : j6 l ≤ 1048576 → j9.ok Tryz.prog (a67 l) := fun hb => aH3 l hb
 (fun s hs => (c_copyS2 s).1 (cj7 (Nat.le_of_lt (ab2 hs)) hb)) fun s hs => (c_copyS2 s).2 (cj7 (Nat.le_of_lt (ab2 hs)) hb)
where
 c_copyS2 (s : c5) : (K3 s ≤ 1048576 → j9.ok Tryz.prog (a67 s.body)) ∧ (K3 s ≤ 1048576 → j9.ok Tryz.prog (a67 s.els)) :=
  c5.ind (P := fun s => (K3 s ≤ 1048576 → j9.ok Tryz.prog (a67 s.body)) ∧ (K3 s ≤ 1048576 → j9.ok Tryz.prog (a67 s.els))) (fun k t i v c b e h1 h2 => by
   have hz : K3 ⟨k, t, i, v, c, b, e⟩ = z7 i + z7 v + j6 b + j6 e := rfl
   constructor
   ·intro hb
    refine aH3 b (by omega) (fun s hs => (h1 s hs).1 ?_) fun s hs => (h1 s hs).2 ?_
    ·have := ab2 hs; omega
    ·have := ab2 hs; omega
   ·intro hb
    refine aH3 e (by omega) (fun s hs => (h2 s hs).1 ?_) fun s hs => (h2 s hs).2 ?_
    ·have := ab2 hs; omega
    ·have := ab2 hs; omega) s
theorem bG4 (p : i6) (hb : p.size ≤ 1048576) : j9.ok Tryz.prog ⟨78, [pA 0], pS p, pS p ++ oP p, oA 3⟩ := by
 refine E9 15 Tryz.func78 [dI p.vars, dI p.arrays, dT p.body] [(0, pA 0)] fun G => ?_
 have hb1 : p.vars.length ≤ 1048576 ∧ p.arrays.length ≤ 1048576 ∧ j6 p.body ≤ 1048576 := by unfold i6.size at hb; omega
 refine wp_seq (j8 G d9 [0, 1, 2, 3, 11] [dI p.vars, dI p.arrays, dT p.body, .box (pL 0), .box [.v (.slice none 0 0), .v (.slice none 0 0), .v (.slice none 0 0)]] [(1, .ptr 3 0), (2, .ptr 4 0)] fun G => b6 (wp_seq (O1 G (s8 10 [2] (bO9 p.body (by omega))) [0, 0, 2, 7, 0, 0, 32, 127, 0, 256, 1023, 2047, 4095] [0, 1, 2, 4, 29, 61, 85] [dI p.vars, dI p.arrays, dT p.body, .box [.ref 4, .ref 5, .tref 6], .row 3 (D.ints ([] ++ p.vars)), .row 3 (D.ints ([] ++ p.arrays)), .tree (D.stmts p.body)] [(2, .ptr 3 0)] (aP ((0 : Nat) + p.vars.length) 8 (aP ((0 : Nat) + p.arrays.length) 8 [])) (aK (by omega) (aK (by omega) ci7)) fun G => b6 (wp_ret ?_)))); exact K8 G [0, 1, 2, 4, 5, 6]
def aB5 (vs ars : List Int) (e : c6) : Int := if e.kind = 2 then vs.getD e.value.toNat 0 else if e.kind = 3 then ars.getD e.value.toNat 0 else 0
def j5 (vs ars : List Int) : Nat → c6 → Int
 | 0, _ => 0
 | d + 1, e => e.kids.foldl (fun a k => l4 a (j5 vs ars d k)) (aB5 vs ars e)
def D3 (vs ars : List Int) (d : Nat) (x : Int) (ks : List c6) (k : Nat) : Int := (ks.take k).foldl (fun a k => l4 a (j5 vs ars d k)) x
theorem Y7 {vs ars : List Int} {d k : Nat} {x : Int} {ks : List c6} (h : k < ks.length) : D3 vs ars d x ks (k + 1) = l4 (D3 vs ars d x ks k) (j5 vs ars d (ks.getD k ch2)) := by
 unfold D3; rw [H5 ks k h, List.foldl_append, m6 h]; rfl
theorem ad0 {vs ars : List Int} {d k : Nat} {x : Int} {e : c6} (h : e.kids.length ≤ k) (hx : aB5 vs ars e = x) : j5 vs ars (d + 1) e = D3 vs ars d x e.kids k := by
 unfold D3; rw [ci8 h, j5, hx]
section
variable {nv na d : Nat} {e : c6}
theorem aU9 (h : i5 nv na (d + 1) e = true) : S6 nv na e = true := by simp only [i5, ch4] at h; exact h.1.1
theorem aw4 (h : i5 nv na (d + 1) e = true) (k : e.kind = 2) : 0 ≤ e.value ∧ e.value < nv ∧ e.value.toNat < nv := by
 have := aU9 h
 simp [S6, V4, k] at this; omega
theorem aw5 (h : i5 nv na (d + 1) e = true) (k : e.kind = 3) : 0 ≤ e.value ∧ e.value < na ∧ e.value.toNat < na := by
 have := aU9 h
 simp [S6, V4, k] at this; omega
theorem Z3 {k : Nat} (h : i5 nv na (d + 1) e = true) (hk : k < e.kids.length) : i5 nv na d (e.kids.getD k ch2) = true := by
 simp only [i5, ch4] at h
 rw [m6 hk]; exact ci2.1 h.1.2 _ (cj1 hk)
theorem aH0 (h : i5 nv na (d + 1) e = true) (k : e.kind = 3) : 0 < e.kids.length := by
 have := aU9 h
 simp [S6, t2, k] at this; omega
end
theorem aR2 {x : Int} (h : i8 x = true) : x = 0 ∨ x = 1 ∨ x = 2 ∨ x = 3 := by simp [i8] at h; omega
theorem J4 (l : Int) : j9.ok Tryz.prog (T5 158 [iA l] [] (bA (i8 l && decide (l % 2 = 1)))) := by
 refine E9 10 Tryz.func158 [] [(0, iA l)] fun G => ?_; refine wp_seq (k8 G d9 [(2, bA false)] fun G => b6 (wp_seq ?_)); cases h0 : (i8 l)
 ·refine k8 G (F9 (t4 1 [] (C7 l) F8) (fc h0 fz) [(3, 0), (4, 0), (5, 0), (1006, 0)]) [] fun G => b6 (wp_ret ?_); exact K8 G []
 ·refine k8 G (F9 (t4 1 [] (C7 l) F8) (fc h0 fz) [(3, 0), (4, 0), (5, 0), (1006, 0)]) [(2, bA (bP5 l 1 == 1))] fun G => b6 (wp_ret ?_); exact J6 (bP5 l 1 == 1) G [] (by rcases aR2 h0 with rfl | rfl | rfl | rfl <;> kernel_rfl)
theorem al1 (l : Int) : j9.ok Tryz.prog (T5 256 [iA l] [] (bA (i8 l && decide (l ≤ 1)))) := by
 refine E9 10 Tryz.func256 [] [(0, iA l)] fun G => ?_; refine wp_seq (k8 G d9 [(2, bA false)] fun G => b6 (wp_seq ?_)); cases h0 : (i8 l)
 ·refine k8 G (F9 (t4 1 [] (C7 l) F8) (fc h0 fz) [(3, 0), (4, 0), (5, 0), (1006, 0)]) [] fun G => b6 (wp_ret ?_); exact K8 G []
 ·refine k8 G (F9 (t4 1 [] (C7 l) F8) (fc h0 fz) [(3, 0), (4, 0), (5, 0), (1006, 0)]) [(2, bA (bP5 l 2 == 0))] fun G => b6 (wp_ret ?_); exact J6 (bP5 l 2 == 0) G [] (by rcases aR2 h0 with rfl | rfl | rfl | rfl <;> kernel_rfl)
theorem au7 (x y : Int) : j9.ok Tryz.prog (T5 255 [iA x, iA y] [] (bA (i8 x && i8 y && (l4 x y == y)))) := by
  refine E9 18 Tryz.func255 [] [(0, iA x), (1, iA y)] fun G => ?_; refine wp_seq (k8 G d9 [(4, bA false)] fun G => b6 (wp_seq ?_)); cases h0 : (i8 x)
  · refine k8 G (F9 (t4 1 [] (C7 x) F8) (fc h0 (fc (b := false) rfl fz)) (us [(3, 4, 0), (1005, 1005, 0), (7, 11, 1), (1012, 1012, 1)])) [] fun G => b6 (wp_ret ?_); exact K8 G []
  ·
   cases h1 : (i8 y)
   · refine k8 G (F9 (t4 1 [] (C7 x) (t4 4 [] (C7 y) F8)) (fc h0 (fc h1 fz)) (us [(3, 4, 0), (1005, 1005, 0), (7, 11, 1), (1012, 1012, 1)])) [] fun G => b6 (wp_ret ?_); exact K8 G []
   · refine k8 G (F9 (t4 1 [] (C7 x) (t4 4 [] (C7 y) F8)) (fc h0 (fc h1 fz)) (us [(3, 4, 0), (1005, 1005, 0), (7, 11, 1), (1012, 1012, 1)])) [(4, bA (l4 x y == y))] fun G => b6 (wp_ret ?_); exact K8 G []
theorem Q5 {x : Int} (h : i8 x = true) : ∃ a : Fin 4, x = (a.val : Int) := by
 simp [i8] at h
 exact ⟨⟨x.toNat, by omega⟩, by simp; omega⟩
theorem bf9 (p : i6) (d : Nat) (ih : ∀ (e : c6), i5 p.vars.length p.arrays.length d e = true → j9.ok Tryz.prog (T5 159 [pA 0, eA e 3] (pS p ++ eS e) (iA (j5 p.vars p.arrays d e))))
    (e : c6) (he : i5 p.vars.length p.arrays.length (d + 1) e = true) : j9.ok Tryz.prog (T5 159 [pA 0, eA e 3] (pS p ++ eS e) (iA (j5 p.vars p.arrays (d + 1) e))) := by
  refine E9 42 Tryz.func159 [dI p.vars, dI p.arrays, dT p.body, dE e.kids] [(0, pA 0), (1, eA e 3)] fun G => ?_; refine wp_seq (j8 G d9 [0, 1, 2, 3, 4, 12] [dI p.vars, dI p.arrays, dT p.body, dE e.kids, .box (pL 0), .box (eL e 3)] [(2, .ptr 4 0), (3, .ptr 5 0), (4, iA 0)] fun G => b6 (wp_seq (k8 G d9 [(5, iA 0)] fun G => b6 (wp_seq (wp_seq (k8 G d9 [(8, iA e.kind)] fun G => b6 (wp_block (wp_seq (k8 G d9 [(9, bA (e.kind == 2))] fun G => b6 (J7 G (fun h0 q0 => ?_) fun h0 q0 => ?_))))))))))
  ·
   refine wp_seq (k8 G d9 [(17, bA (e.kind == 3))] fun G => b6 (J7 G (fun h1 q1 => ?_) fun h1 q1 => ?_))
   ·
    refine wp_skip (l0 (b6 (wp_seq (wp_seq (D2 G d9 [(2, .ptr 4 0), (3, .ptr 5 0), (4, iA 0), (5, iA 0), (6, iA 0)] fun G => b6 (wp_block ?_)))))); refine t0 (κ := Nat) (fun k => k ≤ e.kids.length) (fun k => e.kids.length - k) (fun k => [dI p.vars, dI p.arrays, dT p.body, dE e.kids, .box (pL 0), .box (eL e 3)]) (fun k => [(2, .ptr 4 0), (3, .ptr 5 0), (4, iA 0), (5, iA (D3 p.vars p.arrays d 0 e.kids k)), (6, iA k)]) 0 (by omega) (t7.at G _ _) ?_; clear G; intro k ρ a w hp G; have hlen : e.kids.length ≤ 9223372036854775807 := G.len 3 (d := .exprs e.kids) (by kernel_rfl); refine wp_seq (wp_seq (D2 G d9 [(2, .ptr 4 0), (3, .ptr 5 0), (4, iA 0), (5, iA (D3 p.vars p.arrays d 0 e.kids k)), (6, iA k), (29, bA (decide ((k : Int) < e.kids.length)))] fun G => b6 (rcD G (fun h2 q2 => ?_) fun h2 q2 => ?_)))
    · refine wp_exit (s7 (s7 (r8 (b6 (wp_seq (j8 G d9 (rg 4) [dI p.vars, dI p.arrays, dT p.body, dE e.kids] [(4, iA (D3 p.vars p.arrays d 0 e.kids k))] fun G => b6 (wp_ret ?_))))))); exact rxI (D3 p.vars p.arrays d 0 e.kids k) G (rg 4) (ad0 (by omega) (by simp [aB5, h0, q0, h1, q1, h2, q2]; done))
    · refine wp_skip (b6 (wp_seq (wp_block (ac8 G (s8 7 [0, 1, 2, 54] (ih (e.kids.getD k ch2) (Z3 he (by omega)))) [0, 0, 0, 4, 0, 28, 60, 126, 255, 511] [(5, iA (l4 (D3 p.vars p.arrays d 0 e.kids k) (j5 p.vars p.arrays d (e.kids.getD k ch2))))] (iX k k e.kids.length []) (iK (by omega) ci7) fun G => l0 (b6 (E0 G d9 [(6, iA ((k : Int) + 1))] [wO ((k : Int) + 1)] (o1 (by omega)) fun G => b6 ?_)))))); exact I9 G (k + 1) (by omega) (by omega) (rg 6) (ht := by have e1 : (D3 p.vars p.arrays d 0 e.kids (k + 1) : Int) = (l4 (D3 p.vars p.arrays d 0 e.kids k) (j5 p.vars p.arrays d (e.kids.getD k ch2))) := (Y7 (by omega)); (first | rw [e1] | simp only [e1]) <;> rfl)
   ·
    refine E0 G d9 [(5, iA (p.arrays.getD e.value.toNat 0))] [(0 : Int) ≤ e.value, e.value < (p.arrays.length : Int), e.value.toNat < p.arrays.length] ⟨((aw5 he (by assumption)).1), ((aw5 he (by assumption)).2.1), ((aw5 he (by assumption)).2.2), ci7⟩ fun G => l0 (b6 (wp_seq (wp_seq (D2 G d9 [(2, .ptr 4 0), (3, .ptr 5 0), (4, iA 0), (5, iA (p.arrays.getD e.value.toNat 0)), (6, iA 0)] fun G => b6 (wp_block ?_))))); refine t0 (κ := Nat) (fun k => k ≤ e.kids.length) (fun k => e.kids.length - k) (fun k => [dI p.vars, dI p.arrays, dT p.body, dE e.kids, .box (pL 0), .box (eL e 3)]) (fun k => [(2, .ptr 4 0), (3, .ptr 5 0), (4, iA 0), (5, iA (D3 p.vars p.arrays d (p.arrays.getD e.value.toNat 0) e.kids k)), (6, iA k)]) 0 (by omega) (t7.at G _ _) ?_; clear G; intro k ρ a w hp G; have hlen : e.kids.length ≤ 9223372036854775807 := G.len 3 (d := .exprs e.kids) (by kernel_rfl); refine wp_seq (wp_seq (D2 G d9 [(2, .ptr 4 0), (3, .ptr 5 0), (4, iA 0), (5, iA (D3 p.vars p.arrays d (p.arrays.getD e.value.toNat 0) e.kids k)), (6, iA k), (29, bA (decide ((k : Int) < e.kids.length)))] fun G => b6 (rcD G (fun h3 q3 => ?_) fun h3 q3 => ?_)))
    · refine wp_exit (s7 (s7 (r8 (b6 (wp_seq (j8 G d9 (rg 4) [dI p.vars, dI p.arrays, dT p.body, dE e.kids] [(4, iA (D3 p.vars p.arrays d (p.arrays.getD e.value.toNat 0) e.kids k))] fun G => b6 (wp_ret ?_))))))); exact rxI (D3 p.vars p.arrays d (p.arrays.getD e.value.toNat 0) e.kids k) G (rg 4) (ad0 (by omega) (by simp [aB5, h0, q0, h1, q1, h3, q3]; done))
    · refine wp_skip (b6 (wp_seq (wp_block (ac8 G (s8 7 [0, 1, 2, 54] (ih (e.kids.getD k ch2) (Z3 he (by omega)))) [0, 0, 0, 4, 0, 28, 60, 126, 255, 511] [(5, iA (l4 (D3 p.vars p.arrays d (p.arrays.getD e.value.toNat 0) e.kids k) (j5 p.vars p.arrays d (e.kids.getD k ch2))))] (iX k k e.kids.length []) (iK (by omega) ci7) fun G => l0 (b6 (E0 G d9 [(6, iA ((k : Int) + 1))] [wO ((k : Int) + 1)] (o1 (by omega)) fun G => b6 ?_)))))); exact I9 G (k + 1) (by omega) (by omega) (rg 6) (ht := by have e1 : (D3 p.vars p.arrays d (p.arrays.getD e.value.toNat 0) e.kids (k + 1) : Int) = (l4 (D3 p.vars p.arrays d (p.arrays.getD e.value.toNat 0) e.kids k) (j5 p.vars p.arrays d (e.kids.getD k ch2))) := (Y7 (by omega)); (first | rw [e1] | simp only [e1]) <;> rfl)
  ·
   refine E0 G d9 [(5, iA (p.vars.getD e.value.toNat 0))] [(0 : Int) ≤ e.value, e.value < (p.vars.length : Int), e.value.toNat < p.vars.length] ⟨((aw4 he (by assumption)).1), ((aw4 he (by assumption)).2.1), ((aw4 he (by assumption)).2.2), ci7⟩ fun G => l0 (b6 (wp_seq (wp_seq (D2 G d9 [(2, .ptr 4 0), (3, .ptr 5 0), (4, iA 0), (5, iA (p.vars.getD e.value.toNat 0)), (6, iA 0)] fun G => b6 (wp_block ?_))))); refine t0 (κ := Nat) (fun k => k ≤ e.kids.length) (fun k => e.kids.length - k) (fun k => [dI p.vars, dI p.arrays, dT p.body, dE e.kids, .box (pL 0), .box (eL e 3)]) (fun k => [(2, .ptr 4 0), (3, .ptr 5 0), (4, iA 0), (5, iA (D3 p.vars p.arrays d (p.vars.getD e.value.toNat 0) e.kids k)), (6, iA k)]) 0 (by omega) (t7.at G _ _) ?_; clear G; intro k ρ a w hp G; have hlen : e.kids.length ≤ 9223372036854775807 := G.len 3 (d := .exprs e.kids) (by kernel_rfl); refine wp_seq (wp_seq (D2 G d9 [(2, .ptr 4 0), (3, .ptr 5 0), (4, iA 0), (5, iA (D3 p.vars p.arrays d (p.vars.getD e.value.toNat 0) e.kids k)), (6, iA k), (29, bA (decide ((k : Int) < e.kids.length)))] fun G => b6 (rcD G (fun h4 q4 => ?_) fun h4 q4 => ?_)))
   · refine wp_exit (s7 (s7 (r8 (b6 (wp_seq (j8 G d9 (rg 4) [dI p.vars, dI p.arrays, dT p.body, dE e.kids] [(4, iA (D3 p.vars p.arrays d (p.vars.getD e.value.toNat 0) e.kids k))] fun G => b6 (wp_ret ?_))))))); exact rxI (D3 p.vars p.arrays d (p.vars.getD e.value.toNat 0) e.kids k) G (rg 4) (ad0 (by omega) (by simp [aB5, h0, q0, h4, q4]; done))
   · refine wp_skip (b6 (wp_seq (wp_block (ac8 G (s8 7 [0, 1, 2, 54] (ih (e.kids.getD k ch2) (Z3 he (by omega)))) [0, 0, 0, 4, 0, 28, 60, 126, 255, 511] [(5, iA (l4 (D3 p.vars p.arrays d (p.vars.getD e.value.toNat 0) e.kids k) (j5 p.vars p.arrays d (e.kids.getD k ch2))))] (iX k k e.kids.length []) (iK (by omega) ci7) fun G => l0 (b6 (E0 G d9 [(6, iA ((k : Int) + 1))] [wO ((k : Int) + 1)] (o1 (by omega)) fun G => b6 ?_)))))); exact I9 G (k + 1) (by omega) (by omega) (rg 6) (ht := by have e1 : (D3 p.vars p.arrays d (p.vars.getD e.value.toNat 0) e.kids (k + 1) : Int) = (l4 (D3 p.vars p.arrays d (p.vars.getD e.value.toNat 0) e.kids k) (j5 p.vars p.arrays d (e.kids.getD k ch2))) := (Y7 (by omega)); (first | rw [e1] | simp only [e1]) <;> rfl)
theorem aL6 (p : i6) : ∀ (d : Nat) (e : c6), i5 p.vars.length p.arrays.length d e = true → j9.ok Tryz.prog (T5 159 [pA 0, eA e 3] (pS p ++ eS e) (iA (j5 p.vars p.arrays d e))) := by
 intro d
 induction d with
 | zero => intro e h; simp [i5] at h
 | succ d ih => intro e h; exact bf9 p d ih e h
def T3 (vs ars : List Int) : Nat → c6 → Bool
 | 0, _ => false
 | d + 1, e => (decide (e.kind = 3) && (i8 (j5 vs ars d (e.kids.getD 0 ch2)) && decide (j5 vs ars d (e.kids.getD 0 ch2) % 2 = 1))) || e.kids.any (T3 vs ars d)
section
variable {vs ars : List Int} {d : Nat} {e : c6}
theorem bU0 (k : e.kind = 3) (h : (i8 (j5 vs ars d (e.kids.getD 0 ch2)) && decide (j5 vs ars d (e.kids.getD 0 ch2) % 2 = 1)) = true) : T3 vs ars (d + 1) e = true := by rw [T3, h]; simp [k]
theorem bU1 (h : e.kids.any (T3 vs ars d) = false) (k : ¬ e.kind = 3) : T3 vs ars (d + 1) e = false := by rw [T3, h]; simp [k]
theorem bJ1 (h : e.kids.any (T3 vs ars d) = false) (k : (i8 (j5 vs ars d (e.kids.getD 0 ch2)) && decide (j5 vs ars d (e.kids.getD 0 ch2) % 2 = 1)) = false) : T3 vs ars (d + 1) e = false := by rw [T3, h, k]; simp
end
theorem a89 {α : Type} {l : List α} {k : Nat} {p : α → Bool} {z : α} (h : (l.take k).any p = false) (hk : k < l.length) (hp : p (l.getD k z) = false) : (l.take (k + 1)).any p = false := by
 rw [H5 l k hk, List.any_append, h, ← m6 (d := z) hk, List.any_cons, hp]; rfl
theorem a90 {α : Type} {l : List α} {k : Nat} {p : α → Bool} (h : (l.take k).any p = false) (hk : l.length ≤ k) : l.any p = false := by
 rw [ci8 hk] at h; exact h
theorem bo4 {α : Type} {l : List α} {k : Nat} {p : α → Bool} {z : α} (hk : k < l.length) (hp : p (l.getD k z) = true) : l.any p = true := by
 rw [m6 hk] at hp
 exact List.any_eq_true.2 ⟨_, cj1 hk, hp⟩
theorem a78 (p : i6) (d : Nat) (ih : ∀ (e : c6), i5 p.vars.length p.arrays.length d e = true → j9.ok Tryz.prog (T5 257 [pA 0, eA e 3] (pS p ++ eS e) (bA (T3 p.vars p.arrays d e))))
    (ihl : ∀ (e : c6), i5 p.vars.length p.arrays.length d e = true → j9.ok Tryz.prog (T5 159 [pA 0, eA e 3] (pS p ++ eS e) (iA (j5 p.vars p.arrays d e))))
    (e : c6) (he : i5 p.vars.length p.arrays.length (d + 1) e = true) : j9.ok Tryz.prog (T5 257 [pA 0, eA e 3] (pS p ++ eS e) (bA (T3 p.vars p.arrays (d + 1) e))) := by
  refine E9 32 Tryz.func257 [dI p.vars, dI p.arrays, dT p.body, dE e.kids] [(0, pA 0), (1, eA e 3)] fun G => ?_; have hlen : e.kids.length ≤ 9223372036854775807 := G.len 3 (d := .exprs e.kids) (by kernel_rfl); refine wp_seq (j8 G d9 [0, 1, 2, 3, 4, 12] [dI p.vars, dI p.arrays, dT p.body, dE e.kids, .box (pL 0), .box (eL e 3)] [(2, .ptr 4 0), (3, .ptr 5 0), (4, bA false)] fun G => b6 (wp_seq (wp_seq ?_))); cases h0 : (e.kind == 3)
  ·
   have q0 := ne_of_beq_false h0; refine bq7 G (J1 (fc h0 fz) (us [(4, 10, 0), (1011, 1011, 0)])) [0, 1, 3, 7, 15, 15, 47, 111, 239, 511, 1023, 2047] [(17, bA false)] fun G => b6 (rF G false (by kernel_rfl) (wp_skip (b6 (wp_seq (wp_seq (D2 G d9 [(2, .ptr 4 0), (3, .ptr 5 0), (4, bA false), (5, iA 0)] fun G => b6 (wp_block ?_))))))); refine t0 (κ := Nat) (fun k => k ≤ e.kids.length ∧ (e.kids.take k).any (T3 p.vars p.arrays d) = false) (fun k => e.kids.length - k) (fun k => [dI p.vars, dI p.arrays, dT p.body, dE e.kids, .box (pL 0), .box (eL e 3)]) (fun k => [(2, .ptr 4 0), (3, .ptr 5 0), (4, bA false), (5, iA k)]) 0 (by simp [he, h0]) (t7.at G _ _) ?_; clear G; intro k ρ a w hp G; refine wp_seq (wp_seq (k8 G d9 [(22, bA (decide ((k : Int) < e.kids.length)))] fun G => b6 (rcD G (fun h2 q2 => ?_) fun h2 q2 => ?_)))
   · refine wp_exit (s7 (s7 (r8 (b6 (wp_seq (j8 G d9 (rg 4) [dI p.vars, dI p.arrays, dT p.body, dE e.kids] [(4, bA false)] fun G => b6 (wp_ret ?_))))))); exact J6 false G (rg 4) (bU1 (a90 hp.2 (by omega)) (by assumption))
   ·
    refine wp_skip (b6 (wp_seq (wp_block (wp_seq (ac8 G (s8 6 [0, 1, 2, 46] (ih (e.kids.getD k ch2) (Z3 he (by omega)))) [0, 0, 2, 0, 14, 30, 63] [(31, bA (T3 p.vars p.arrays d (e.kids.getD k ch2)))] (iX k k e.kids.length []) (iK (by omega) ci7) fun G => b6 (rcB G (fun h3 => ?_) fun h3 => ?_))))))
    · refine wp_skip (l0 (b6 (E0 G d9 [(5, iA ((k : Int) + 1))] [wO ((k : Int) + 1)] (o1 (by omega)) fun G => b6 ?_))); exact I9 G (k + 1) (⟨by omega, a89 hp.2 (by omega) (by assumption)⟩) (by omega) (rg 6)
    · refine wp_seq (k8 G d9 [(4, bA true)] fun G => b6 (wp_ret (z5 (l6 (l6 (z5 (l6 ?_))))))); exact J6 true G (rg 4) (by rw [T3, bo4 (k := k) (by omega) (by assumption), Bool.or_true])
  ·
   have q0 := eq_of_beq h0; refine ac8 G (F9 (t4 9 [0, 1, 2, 70] (ihl (e.kids.getD 0 ch2) (Z3 he (aH0 he (by assumption)))) (t4 10 [] (J4 (j5 p.vars p.arrays d (e.kids.getD 0 ch2))) F8)) (fc h0 fz) (us [(4, 10, 0), (1011, 1011, 0)])) [0, 1, 3, 7, 15, 15, 47, 111, 239, 511, 1023, 2047] [(17, bA (i8 (j5 p.vars p.arrays d (e.kids.getD 0 ch2)) && decide (j5 p.vars p.arrays d (e.kids.getD 0 ch2) % 2 = 1)))] (iX 0 0 e.kids.length []) (iK (by have := aH0 he (by assumption); omega) ci7) fun G => b6 ?_; cases h1 : (i8 (j5 p.vars p.arrays d (e.kids.getD (0 : Nat) ch2)) && decide (j5 p.vars p.arrays d (e.kids.getD (0 : Nat) ch2) % (2 : Int) = 1))
   ·
    have q1 : ((i8 (j5 p.vars p.arrays d (e.kids.getD 0 ch2))) = false) ∨ (¬ (j5 p.vars p.arrays d (e.kids.getD 0 ch2) % 2 = 1)) := Or.imp (fun hq => (hq)) (fun hq => of_decide_eq_false hq) (Bool.and_eq_false_iff.1 h1); refine rF G _ h1 (wp_skip (b6 (wp_seq (wp_seq (D2 G d9 [(2, .ptr 4 0), (3, .ptr 5 0), (4, bA false), (5, iA 0)] fun G => b6 (wp_block ?_)))))); refine t0 (κ := Nat) (fun k => k ≤ e.kids.length ∧ (e.kids.take k).any (T3 p.vars p.arrays d) = false) (fun k => e.kids.length - k) (fun k => [dI p.vars, dI p.arrays, dT p.body, dE e.kids, .box (pL 0), .box (eL e 3)]) (fun k => [(2, .ptr 4 0), (3, .ptr 5 0), (4, bA false), (5, iA k)]) 0 (by simp [he, h0, h1]) (t7.at G _ _) ?_; clear G; intro k ρ a w hp G; refine wp_seq (wp_seq (k8 G d9 [(22, bA (decide ((k : Int) < e.kids.length)))] fun G => b6 (rcD G (fun h4 q4 => ?_) fun h4 q4 => ?_)))
    · refine wp_exit (s7 (s7 (r8 (b6 (wp_seq (j8 G d9 (rg 4) [dI p.vars, dI p.arrays, dT p.body, dE e.kids] [(4, bA false)] fun G => b6 (wp_ret ?_))))))); exact J6 false G (rg 4) (bJ1 (a90 hp.2 (by omega)) (by assumption))
    ·
     refine wp_skip (b6 (wp_seq (wp_block (wp_seq (ac8 G (s8 6 [0, 1, 2, 46] (ih (e.kids.getD k ch2) (Z3 he (by omega)))) [0, 0, 2, 0, 14, 30, 63] [(31, bA (T3 p.vars p.arrays d (e.kids.getD k ch2)))] (iX k k e.kids.length []) (iK (by omega) ci7) fun G => b6 (rcB G (fun h5 => ?_) fun h5 => ?_))))))
     · refine wp_skip (l0 (b6 (E0 G d9 [(5, iA ((k : Int) + 1))] [wO ((k : Int) + 1)] (o1 (by omega)) fun G => b6 ?_))); exact I9 G (k + 1) (⟨by omega, a89 hp.2 (by omega) (by assumption)⟩) (by omega) (rg 6)
     · refine wp_seq (k8 G d9 [(4, bA true)] fun G => b6 (wp_ret (z5 (l6 (l6 (z5 (l6 ?_))))))); exact J6 true G (rg 4) (by rw [T3, bo4 (k := k) (by omega) (by assumption), Bool.or_true])
   · have q1 : ((i8 (j5 p.vars p.arrays d (e.kids.getD 0 ch2))) = true) ∧ (j5 p.vars p.arrays d (e.kids.getD 0 ch2) % 2 = 1) := And.imp (fun hq => (hq)) (fun hq => of_decide_eq_true hq) (Bool.and_eq_true_iff.1 h1); refine rT G _ h1 (wp_seq (k8 G d9 [(4, bA true)] fun G => b6 (wp_ret (l6 ?_)))); exact J6 true G (rg 4) (bU0 (by assumption) (by assumption))
def flB (x y : Int) : Bool := i8 x && i8 y && (l4 x y == y)
abbrev m7 (p : i6) (e : c6) : Int := j5 p.vars p.arrays 5 e
def ac0 (x : Int) : Bool := i8 x && decide (x % 2 = 1)
def Q6 (p : i6) (s : c5) (pc : Int) : Int :=
 if s.kind = 1 then if flB (l4 (m7 p s.value) pc) (p.vars.getD s.target.toNat 0) then 0 else 1
 else if s.kind = 2 then if flB (l4 (l4 (m7 p s.value) (m7 p s.index)) pc) (p.arrays.getD s.target.toNat 0) then 0 else 1
 else if s.kind = 5 then if (i8 (m7 p s.value) && decide (m7 p s.value ≤ 1)) && decide (pc = 0) then 0 else 2
 else 0
def ao8 (p : i6) (s : c5) : Int :=
 if s.kind = 3 ∧ ac0 (m7 p s.value) = true then 3
 else if (s.kind ≠ 4 ∧ T3 p.vars p.arrays 5 s.value = true) ∨ (s.kind = 2 ∧ ac0 (m7 p s.index) = true) then 4 else 0
def aa6 (p : i6) (s : c5) (pc : Int) (strict : Bool) : Int := if Q6 p s pc = 0 then (if strict then ao8 p s else 0) else Q6 p s pc
theorem N1 (p : i6) (e : c6) (he : i5 p.vars.length p.arrays.length 5 e = true) : j9.ok Tryz.prog (T5 159 [pA 0, eA e 3] (pS p ++ eS e) (iA (m7 p e))) := aL6 p 5 e he
theorem a79 (p : i6) : ∀ (d : Nat) (e : c6), i5 p.vars.length p.arrays.length d e = true → j9.ok Tryz.prog (T5 257 [pA 0, eA e 3] (pS p ++ eS e) (bA (T3 p.vars p.arrays d e))) := by
 intro d
 induction d with
 | zero => intro e h; simp [i5] at h
 | succ d ih => intro e h; exact a78 p d ih (aL6 p d) e h
theorem F3 (p : i6) (e : c6) (he : i5 p.vars.length p.arrays.length 5 e = true) : j9.ok Tryz.prog (T5 257 [pA 0, eA e 3] (pS p ++ eS e) (bA (T3 p.vars p.arrays 5 e))) := a79 p 5 e he
section
variable {nv na : Nat} {s : c5}
theorem aj0 {e : c6} (h : s4 nv na e = true) : i5 nv na 5 e = true := by unfold s4 at h; simp only [ch4] at h; exact h.1
variable (h : D7 nv na s = true)
include h
theorem A0 (k : ¬ s.kind = 4) : i5 nv na 5 s.value = true := by
 apply aj0
 by_cases k1 : s.kind = 1 ∨ s.kind = 5
 ·rw [bD2 k1] at h; simp only [ch4] at h; exact h.2.2
 by_cases k2 : s.kind = 2
 ·rw [a57 k2] at h; simp only [ch4] at h; exact h.2.2.2
 by_cases k3 : s.kind = 3
 ·rw [bR9 k3] at h; simp only [ch4] at h; exact h.2.2
 ·rw [ao9 (by omega)] at h; cases h
theorem aK2 (k : s.kind = 2) : i5 nv na 5 s.index = true := by
 rw [a57 k] at h; simp only [ch4] at h; exact aj0 h.2.1
theorem aK1 (k : s.kind = 1 ∨ s.kind = 5) : 0 ≤ s.target ∧ s.target < nv ∧ s.target.toNat < nv := by
 rw [bD2 k] at h; simp only [ch4, decide_eq_true_eq] at h; omega
theorem aK3 (k : s.kind = 2) : 0 ≤ s.target ∧ s.target < na ∧ s.target.toNat < na := by
 rw [a57 k] at h; simp only [ch4, decide_eq_true_eq] at h; omega
end
section
variable {p : i6} {s : c5} {pc : Int} {strict : Bool} {x : Int}
theorem at2 (h : Q6 p s pc = x) (hx : x ≠ 0) : aa6 p s pc strict = x := by rw [aa6, h, if_neg hx]
theorem aj6 (h : Q6 p s pc = 0) : aa6 p s pc false = 0 := by rw [aa6, h]; rfl
theorem z9 (h : Q6 p s pc = 0) (hl : ao8 p s = x) : aa6 p s pc true = x := by rw [aa6, h, hl]; rfl
theorem bY3 (k : s.kind = 1) (h : (!(i8 (l4 (m7 p s.value) pc) && i8 (p.vars.getD s.target.toNat 0) && (l4 (l4 (m7 p s.value) pc) (p.vars.getD s.target.toNat 0) == (p.vars.getD s.target.toNat 0)))) = false) : Q6 p s pc = 0 := by rw [Q6, if_pos k, if_pos (by unfold flB; first | (rw [ck2] at h; exact h) | (rw [cj4] at h; rw [h]; simp))]
theorem cg5 (k : s.kind = 1) (h : (!(i8 (l4 (m7 p s.value) pc) && i8 (p.vars.getD s.target.toNat 0) && (l4 (l4 (m7 p s.value) pc) (p.vars.getD s.target.toNat 0) == (p.vars.getD s.target.toNat 0)))) = true) : Q6 p s pc = 1 := by rw [Q6, if_pos k, if_neg (by unfold flB; first | (rw [ck2] at h; exact h) | (rw [cj4] at h; rw [h]; simp))]
theorem bN0 (k : s.kind = 2) (h : (!(i8 (l4 (l4 (m7 p s.value) (m7 p s.index)) pc) && i8 (p.arrays.getD s.target.toNat 0) && (l4 (l4 (l4 (m7 p s.value) (m7 p s.index)) pc) (p.arrays.getD s.target.toNat 0) == (p.arrays.getD s.target.toNat 0)))) = false) : Q6 p s pc = 0 := by rw [Q6, if_neg (by omega), if_pos k, if_pos (by unfold flB; first | (rw [ck2] at h; exact h) | (rw [cj4] at h; rw [h]; simp))]
theorem cg4 (k : s.kind = 2) (h : (!(i8 (l4 (l4 (m7 p s.value) (m7 p s.index)) pc) && i8 (p.arrays.getD s.target.toNat 0) && (l4 (l4 (l4 (m7 p s.value) (m7 p s.index)) pc) (p.arrays.getD s.target.toNat 0) == (p.arrays.getD s.target.toNat 0)))) = true) : Q6 p s pc = 1 := by rw [Q6, if_neg (by omega), if_pos k, if_neg (by unfold flB; first | (rw [ck2] at h; exact h) | (rw [cj4] at h; rw [h]; simp))]
theorem bY2 (k : s.kind = 5) (h : (!(i8 (m7 p s.value) && decide (m7 p s.value ≤ 1))) = false) (h2 : pc = 0) : Q6 p s pc = 0 := by
 rw [ck2] at h
 rw [Q6, if_neg (by omega), if_neg (by omega), if_pos k, h, decide_eq_true h2]; rfl
theorem b85 (k : s.kind = 5) (h : (!(i8 (m7 p s.value) && decide (m7 p s.value ≤ 1))) = true ∨ ¬ pc = 0) : Q6 p s pc = 2 := by
 rw [Q6, if_neg (by omega), if_neg (by omega), if_pos k]
 rcases h with h | h
 ·rw [cj4] at h
  rw [h]; rfl
 ·rw [decide_eq_false h, Bool.and_false]; rfl
theorem fl0 (k : ¬ s.kind = 1 ∧ ¬ s.kind = 2 ∧ ¬ s.kind = 5) : Q6 p s pc = 0 := by rw [Q6, if_neg k.1, if_neg k.2.1, if_neg k.2.2]
theorem lk3 (k : s.kind = 3) (h : (i8 (m7 p s.value) && decide (m7 p s.value % 2 = 1)) = true) : ao8 p s = 3 := by rw [ao8, if_pos ⟨k, (show ac0 _ = true from h)⟩]
theorem lkv (h3 : ¬ s.kind = 3 ∨ (i8 (m7 p s.value) && decide (m7 p s.value % 2 = 1)) = false) (k : ¬ s.kind = 4) (h : T3 p.vars p.arrays 5 s.value = true) : ao8 p s = 4 := by
 rw [ao8, if_neg (by rintro ⟨a, b⟩; exact h3.elim (fun h => h a) (fun h => Bool.false_ne_true (h.symm.trans b))), if_pos (.inl ⟨k, h⟩)]
theorem lki (k : s.kind = 2) (h : (i8 (m7 p s.index) && decide (m7 p s.index % 2 = 1)) = true) : ao8 p s = 4 := by
 rw [ao8, if_neg (by omega), if_pos (.inr ⟨k, (show ac0 _ = true from h)⟩)]
theorem lk0 (h3 : ¬ s.kind = 3 ∨ (i8 (m7 p s.value) && decide (m7 p s.value % 2 = 1)) = false) (h4 : s.kind = 4 ∨ T3 p.vars p.arrays 5 s.value = false) (h2 : ¬ s.kind = 2 ∨ (i8 (m7 p s.index) && decide (m7 p s.index % 2 = 1)) = false) : ao8 p s = 0 := by
 rw [ao8, if_neg (by rintro ⟨a, b⟩; exact h3.elim (fun h => h a) (fun h => Bool.false_ne_true (h.symm.trans b))), if_neg]
 rintro (⟨a, b⟩ | ⟨a, b⟩)
 ·rcases h4 with h | h
  ·exact a h
  ·rw [h] at b; cases b
 ·rcases h2 with h | h
  ·exact h a
  ·exact Bool.false_ne_true (h.symm.trans b)
end
abbrev R9 (p : i6) (s : c5) (r0 : List It) : List It := dI p.vars :: dI p.arrays :: dT p.body :: dE s.index.kids :: dE s.value.kids :: dT s.body :: dT s.els :: r0
theorem bO8 (p : i6) (s : c5) (pc : Int) (strict : Bool) (h : D7 p.vars.length p.arrays.length s = true) : j9.ok Tryz.prog (T5 241 [pA 0, sA s 3, iA pc, bA strict] (pS p ++ sS s) (iA (aa6 p s pc strict))) := by
  refine E9 94 Tryz.func241 (R9 p s []) [(0, pA 0), (1, sA s 3), (2, iA pc), (3, bA strict)] fun G => ?_; refine wp_seq (j8 G d9 [0, 1, 2, 3, 4, 5, 6, 7, 15] (R9 p s [.box (pL 0), .box (sL s 3)]) [(2, iA pc), (3, bA strict), (4, .ptr 7 0), (5, .ptr 8 0), (8, iA 0)] fun G => b6 (wp_seq (wp_seq (k8 G d9 [(10, iA s.kind)] fun G => b6 (wp_block (wp_seq (k8 G d9 [(11, bA (s.kind == 1))] fun G => b6 (J7 G (fun h0 q0 => ?_) fun h0 q0 => ?_))))))))
  ·
   refine wp_seq (k8 G d9 [(27, bA (s.kind == 2))] fun G => b6 (J7 G (fun h1 q1 => ?_) fun h1 q1 => ?_))
   ·
    refine wp_seq (k8 G d9 [(48, bA (s.kind == 5))] fun G => b6 (J7 G (fun h2 q2 => ?_) fun h2 q2 => ?_))
    ·
     refine wp_seq (k8 G d9 [(60, bA (s.kind == 3))] fun G => b6 (J7 G (fun h3 q3 => ?_) fun h3 q3 => ?_))
     ·
      refine wp_skip (l0 (b6 (wp_seq (wp_seq ?_)))); cases h4 : (strict)
      · refine j8 G (J1 (fc h4 fz) (us [(2, 5, 0), (10, 11, 0), (22, 22, 0), (1023, 1023, 0)])) (rg 7) (R9 p s []) [(8, iA 0), (93, bA false)] fun G => b6 (rF G false (by kernel_rfl) (wp_skip (b6 (wp_seq (k8 G d9 [] fun G => b6 (wp_ret ?_)))))); exact rxI 0 G (rg 7) (aj6 (fl0 (by omega)))
      ·
       cases h5 : (s.kind != 4)
       · have q5 := bne_eq_false_iff_eq.1 h5; refine j8 G (J1 (fc h4 (fc h5 (fc (b := false) rfl (fc h1 fz)))) (us [(2, 5, 0), (6, 9, 1), (10, 10, 0), (1010, 1010, 1), (11, 11, 0), (12, 15, 2), (16, 20, 3), (21, 21, 2), (1021, 1021, 3), (22, 22, 0), (1022, 1022, 2), (1023, 1023, 0)])) (rg 7) (R9 p s []) [(8, iA 0), (93, bA false)] fun G => b6 (rF G false (by kernel_rfl) (wp_skip (b6 (wp_seq (k8 G d9 [] fun G => b6 (wp_ret ?_)))))); exact rxI 0 G (rg 7) (z9 (fl0 (by omega)) (lk0 (by exact .inl (by omega)) (by exact .inl (by omega)) (by exact .inl (by omega))))
       ·
        have q5 := bne_iff_ne.1 h5; cases h6 : (T3 p.vars p.arrays (5 : Nat) s.value)
        · refine j8 G (F9 (t4 9 [0, 1, 2, 4] (F3 p s.value (A0 h (by omega))) F8) (fc h4 (fc h5 (fc h6 (fc h1 fz)))) (us [(2, 5, 0), (6, 9, 1), (10, 10, 0), (1010, 1010, 1), (11, 11, 0), (12, 15, 2), (16, 20, 3), (21, 21, 2), (1021, 1021, 3), (22, 22, 0), (1022, 1022, 2), (1023, 1023, 0)])) (rg 7) (R9 p s []) [(8, iA 0), (93, bA false)] fun G => b6 (rF G false (by kernel_rfl) (wp_skip (b6 (wp_seq (k8 G d9 [] fun G => b6 (wp_ret ?_)))))); exact rxI 0 G (rg 7) (z9 (fl0 (by omega)) (lk0 (by exact .inl (by omega)) (by exact .inr (by with_reducible assumption)) (by exact .inl (by omega))))
        · refine j8 G (F9 (t4 9 [0, 1, 2, 4] (F3 p s.value (A0 h (by omega))) F8) (fc h4 (fc h5 (fc h6 fz))) (us [(2, 5, 0), (6, 9, 1), (10, 10, 0), (1010, 1010, 1), (11, 11, 0), (12, 15, 2), (21, 21, 2), (22, 22, 0), (1022, 1022, 2), (1023, 1023, 0)])) (rg 7) (R9 p s []) [(8, iA 0), (93, bA true)] fun G => b6 (rT G true (by kernel_rfl) (wp_seq (k8 G d9 [(8, iA 4)] fun G => b6 (wp_ret (l6 ?_))))); exact rxI 4 G (rg 7) (z9 (fl0 (by omega)) (lkv (by exact .inl (by omega)) (by omega) (by with_reducible assumption)))
     ·
      refine wp_seq ?_; cases h7 : (strict)
      · refine k8 G (J1 (fc h7 fz) (us [(2, 6, 0), (1007, 1007, 0)])) [(69, bA false)] fun G => b6 (rF G false (by kernel_rfl) (wp_skip (l0 (b6 (wp_seq (wp_seq (j8 G (J1 (fc h7 fz) (us [(2, 5, 0), (10, 11, 0), (22, 22, 0), (1023, 1023, 0)])) (rg 7) (R9 p s []) [(8, iA 0), (93, bA false)] fun G => b6 (rF G false (by kernel_rfl) (wp_skip (b6 (wp_seq (k8 G d9 [] fun G => b6 (wp_ret ?_))))))))))))); exact rxI 0 G (rg 7) (aj6 (fl0 (by omega)))
      ·
       refine D2 G (F9 (t4 5 [0, 1, 2, 4] (N1 p s.value (A0 h (by omega))) (t4 6 [] (J4 (m7 p s.value)) F8)) (fc h7 fz) (us [(2, 6, 0), (1007, 1007, 0)])) [(3, bA strict), (4, .ptr 7 0), (5, .ptr 8 0), (8, iA 0), (69, bA (i8 (m7 p s.value) && decide (m7 p s.value % 2 = 1)))] fun G => b6 ?_; cases h8 : (i8 (m7 p s.value) && decide (m7 p s.value % (2 : Int) = 1))
       ·
        have q8 : ((i8 (m7 p s.value)) = false) ∨ (¬ (m7 p s.value % 2 = 1)) := Or.imp (fun hq => (hq)) (fun hq => of_decide_eq_false hq) (Bool.and_eq_false_iff.1 h8); refine rF G _ h8 (wp_skip (l0 (b6 (wp_seq (wp_seq ?_))))); cases h9 : (s.kind != 4)
        · have q9 := bne_eq_false_iff_eq.1 h9; exact False.elim (by omega)
        ·
         have q9 := bne_iff_ne.1 h9; cases h10 : (T3 p.vars p.arrays (5 : Nat) s.value)
         · refine j8 G (F9 (t4 9 [0, 1, 2, 4] (F3 p s.value (A0 h (by omega))) F8) (fc h7 (fc h9 (fc h10 (fc h1 fz)))) (us [(2, 5, 0), (6, 9, 1), (10, 10, 0), (1010, 1010, 1), (11, 11, 0), (12, 15, 2), (16, 20, 3), (21, 21, 2), (1021, 1021, 3), (22, 22, 0), (1022, 1022, 2), (1023, 1023, 0)])) (rg 7) (R9 p s []) [(8, iA 0), (93, bA false)] fun G => b6 (rF G false (by kernel_rfl) (wp_skip (b6 (wp_seq (k8 G d9 [] fun G => b6 (wp_ret ?_)))))); exact rxI 0 G (rg 7) (z9 (fl0 (by omega)) (lk0 (by exact .inr (by with_reducible assumption)) (by exact .inr (by with_reducible assumption)) (by exact .inl (by omega))))
         · refine j8 G (F9 (t4 9 [0, 1, 2, 4] (F3 p s.value (A0 h (by omega))) F8) (fc h7 (fc h9 (fc h10 fz))) (us [(2, 5, 0), (6, 9, 1), (10, 10, 0), (1010, 1010, 1), (11, 11, 0), (12, 15, 2), (21, 21, 2), (22, 22, 0), (1022, 1022, 2), (1023, 1023, 0)])) (rg 7) (R9 p s []) [(8, iA 0), (93, bA true)] fun G => b6 (rT G true (by kernel_rfl) (wp_seq (k8 G d9 [(8, iA 4)] fun G => b6 (wp_ret (l6 ?_))))); exact rxI 4 G (rg 7) (z9 (fl0 (by omega)) (lkv (by exact .inr (by with_reducible assumption)) (by omega) (by with_reducible assumption)))
       · have q8 : ((i8 (m7 p s.value)) = true) ∧ (m7 p s.value % 2 = 1) := And.imp (fun hq => (hq)) (fun hq => of_decide_eq_true hq) (Bool.and_eq_true_iff.1 h8); refine rT G _ h8 (wp_seq (k8 G d9 [(8, iA 3)] fun G => b6 (wp_ret (z5 (l6 ?_))))); exact rxI 3 G (rg 7) (z9 (fl0 (by omega)) (lk3 (by with_reducible assumption) (by with_reducible assumption)))
    ·
     refine wp_seq ?_; cases h11 : (!(i8 (m7 p s.value) && decide (m7 p s.value ≤ 1)))
     ·
      have q11 : ((i8 (m7 p s.value)) = true) ∧ (m7 p s.value ≤ 1) := (fun hq => And.imp (fun hq => (hq)) (fun hq => of_decide_eq_true hq) (Bool.and_eq_true_iff.1 hq)) (Eq.mp (ck2 _) h11); refine D2 G (F9 (t4 3 [0, 1, 2, 4] (N1 p s.value (A0 h (by omega))) (t4 4 [] (al1 (m7 p s.value)) F8)) (fc h11 fz) [(7, 0), (8, 0), (1009, 0)]) [(3, bA strict), (4, .ptr 7 0), (5, .ptr 8 0), (8, iA 0), (59, bA (pc != 0))] fun G => b6 (rcN G (fun h12 q12 => ?_) fun h12 q12 => ?_)
      ·
       refine wp_skip (l0 (b6 (wp_seq (wp_seq ?_)))); cases h13 : (strict)
       · refine j8 G (J1 (fc h13 fz) (us [(2, 5, 0), (10, 11, 0), (22, 22, 0), (1023, 1023, 0)])) (rg 7) (R9 p s []) [(8, iA 0), (93, bA false)] fun G => b6 (rF G false (by kernel_rfl) (wp_skip (b6 (wp_seq (k8 G d9 [] fun G => b6 (wp_ret ?_)))))); exact rxI 0 G (rg 7) (aj6 (bY2 (by with_reducible assumption) (by with_reducible assumption) (by with_reducible assumption)))
       ·
        cases h14 : (s.kind != 4)
        · have q14 := bne_eq_false_iff_eq.1 h14; exact False.elim (by omega)
        ·
         have q14 := bne_iff_ne.1 h14; cases h15 : (T3 p.vars p.arrays (5 : Nat) s.value)
         · refine j8 G (F9 (t4 9 [0, 1, 2, 4] (F3 p s.value (A0 h (by omega))) F8) (fc h13 (fc h14 (fc h15 (fc h1 fz)))) (us [(2, 5, 0), (6, 9, 1), (10, 10, 0), (1010, 1010, 1), (11, 11, 0), (12, 15, 2), (16, 20, 3), (21, 21, 2), (1021, 1021, 3), (22, 22, 0), (1022, 1022, 2), (1023, 1023, 0)])) (rg 7) (R9 p s []) [(8, iA 0), (93, bA false)] fun G => b6 (rF G false (by kernel_rfl) (wp_skip (b6 (wp_seq (k8 G d9 [] fun G => b6 (wp_ret ?_)))))); exact rxI 0 G (rg 7) (z9 (bY2 (by with_reducible assumption) (by with_reducible assumption) (by with_reducible assumption)) (lk0 (by exact .inl (by omega)) (by exact .inr (by with_reducible assumption)) (by exact .inl (by omega))))
         · refine j8 G (F9 (t4 9 [0, 1, 2, 4] (F3 p s.value (A0 h (by omega))) F8) (fc h13 (fc h14 (fc h15 fz))) (us [(2, 5, 0), (6, 9, 1), (10, 10, 0), (1010, 1010, 1), (11, 11, 0), (12, 15, 2), (21, 21, 2), (22, 22, 0), (1022, 1022, 2), (1023, 1023, 0)])) (rg 7) (R9 p s []) [(8, iA 0), (93, bA true)] fun G => b6 (rT G true (by kernel_rfl) (wp_seq (k8 G d9 [(8, iA 4)] fun G => b6 (wp_ret (l6 ?_))))); exact rxI 4 G (rg 7) (z9 (bY2 (by with_reducible assumption) (by with_reducible assumption) (by with_reducible assumption)) (lkv (by exact .inl (by omega)) (by omega) (by with_reducible assumption)))
      · refine wp_seq (k8 G d9 [(8, iA 2)] fun G => b6 (wp_ret (z5 (l6 ?_)))); exact rxI 2 G (rg 7) (at2 (b85 (by with_reducible assumption) (.inr (by with_reducible assumption))) (by decide))
     · have q11 : ((i8 (m7 p s.value)) = false) ∨ (¬ (m7 p s.value ≤ 1)) := (fun hq => Or.imp (fun hq => (hq)) (fun hq => of_decide_eq_false hq) (Bool.and_eq_false_iff.1 hq)) (Eq.mp (cj4 _) h11); refine k8 G (F9 (t4 3 [0, 1, 2, 4] (N1 p s.value (A0 h (by omega))) (t4 4 [] (al1 (m7 p s.value)) F8)) (fc h11 fz) [(7, 0), (8, 0), (1009, 0)]) [(59, bA true)] fun G => b6 (rT G true (by kernel_rfl) (wp_seq (k8 G d9 [(8, iA 2)] fun G => b6 (wp_ret (z5 (l6 ?_)))))); exact rxI 2 G (rg 7) (at2 (b85 (by with_reducible assumption) (.inl (by with_reducible assumption))) (by decide))
   ·
    refine wp_seq (b46 G (F9 (t4 3 [0, 1, 2, 4] (N1 p s.value (A0 h (by omega))) (t4 7 (rg 4) (N1 p s.index (aK2 h (by with_reducible assumption))) (t4 17 [] (au7 (l4 (l4 (m7 p s.value) (m7 p s.index)) pc) (p.arrays.getD s.target.toNat 0)) F8))) fz []) [0, 0, 2, 7, 0, 0, 32, 127, 255, 0, 1023, 0, 2048, 0, 8192, 30720, 63488, 131071, 262143] [(3, bA strict), (4, .ptr 7 0), (5, .ptr 8 0), (8, iA 0), (47, .v (.bool !(i8 (l4 (l4 (m7 p s.value) (m7 p s.index)) pc) && i8 (p.arrays.getD s.target.toNat 0) && l4 (l4 (l4 (m7 p s.value) (m7 p s.index)) pc) (p.arrays.getD s.target.toNat 0) == p.arrays.getD s.target.toNat 0)))] [(0 : Int) ≤ s.target, s.target < (p.arrays.length : Int), s.target.toNat < p.arrays.length] ⟨((aK3 h (by omega)).1), ((aK3 h (by omega)).2.1), ((aK3 h (by omega)).2.2), ci7⟩ fun G => b6 ?_); cases h16 : (!(i8 (l4 (l4 (m7 p s.value) (m7 p s.index)) pc) && i8 (p.arrays.getD s.target.toNat (0 : Int)) && l4 (l4 (l4 (m7 p s.value) (m7 p s.index)) pc) (p.arrays.getD s.target.toNat (0 : Int)) == p.arrays.getD s.target.toNat (0 : Int)))
    ·
     have q16 : (((i8 (l4 (l4 (m7 p s.value) (m7 p s.index)) pc)) = true) ∧ ((i8 (p.arrays.getD s.target.toNat 0)) = true)) ∧ (l4 (l4 (l4 (m7 p s.value) (m7 p s.index)) pc) (p.arrays.getD s.target.toNat 0) = p.arrays.getD s.target.toNat 0) := (fun hq => And.imp (fun hq => And.imp (fun hq => (hq)) (fun hq => (hq)) (Bool.and_eq_true_iff.1 hq)) (fun hq => eq_of_beq hq) (Bool.and_eq_true_iff.1 hq)) (Eq.mp (ck2 _) h16); refine rF G _ h16 (wp_skip (l0 (b6 (wp_seq (wp_seq ?_))))); cases h17 : (strict)
     · refine j8 G (J1 (fc h17 fz) (us [(2, 5, 0), (10, 11, 0), (22, 22, 0), (1023, 1023, 0)])) (rg 7) (R9 p s []) [(8, iA 0), (93, bA false)] fun G => b6 (rF G false (by kernel_rfl) (wp_skip (b6 (wp_seq (k8 G d9 [] fun G => b6 (wp_ret ?_)))))); exact rxI 0 G (rg 7) (aj6 (bN0 (by with_reducible assumption) (by with_reducible assumption)))
     ·
      cases h18 : (s.kind != 4)
      · have q18 := bne_eq_false_iff_eq.1 h18; exact False.elim (by omega)
      ·
       have q18 := bne_iff_ne.1 h18; cases h19 : (T3 p.vars p.arrays (5 : Nat) s.value)
       ·
        refine j8 G (F9 (t4 9 [0, 1, 2, 4] (F3 p s.value (A0 h (by omega))) (t4 19 (rg 4) (N1 p s.index (aK2 h (by with_reducible assumption))) (t4 20 [] (J4 (m7 p s.index)) F8))) (fc h17 (fc h18 (fc h19 (fc h1 fz)))) (us [(2, 5, 0), (6, 9, 1), (10, 10, 0), (1010, 1010, 1), (11, 11, 0), (12, 15, 2), (16, 20, 3), (21, 21, 2), (1021, 1021, 3), (22, 22, 0), (1022, 1022, 2), (1023, 1023, 0)])) (rg 7) (R9 p s []) [(8, iA 0), (93, bA (i8 (m7 p s.index) && decide (m7 p s.index % 2 = 1)))] fun G => b6 ?_; cases h20 : (i8 (m7 p s.index) && decide (m7 p s.index % (2 : Int) = 1))
        · have q20 : ((i8 (m7 p s.index)) = false) ∨ (¬ (m7 p s.index % 2 = 1)) := Or.imp (fun hq => (hq)) (fun hq => of_decide_eq_false hq) (Bool.and_eq_false_iff.1 h20); refine rF G _ h20 (wp_skip (b6 (wp_seq (k8 G d9 [] fun G => b6 (wp_ret ?_))))); exact rxI 0 G (rg 7) (z9 (bN0 (by with_reducible assumption) (by with_reducible assumption)) (lk0 (by exact .inl (by omega)) (by exact .inr (by with_reducible assumption)) (by exact .inr (by with_reducible assumption))))
        · have q20 : ((i8 (m7 p s.index)) = true) ∧ (m7 p s.index % 2 = 1) := And.imp (fun hq => (hq)) (fun hq => of_decide_eq_true hq) (Bool.and_eq_true_iff.1 h20); refine rT G _ h20 (wp_seq (k8 G d9 [(8, iA 4)] fun G => b6 (wp_ret (l6 ?_)))); exact rxI 4 G (rg 7) (z9 (bN0 (by with_reducible assumption) (by with_reducible assumption)) (lki (by with_reducible assumption) (by with_reducible assumption)))
       · refine j8 G (F9 (t4 9 [0, 1, 2, 4] (F3 p s.value (A0 h (by omega))) F8) (fc h17 (fc h18 (fc h19 fz))) (us [(2, 5, 0), (6, 9, 1), (10, 10, 0), (1010, 1010, 1), (11, 11, 0), (12, 15, 2), (21, 21, 2), (22, 22, 0), (1022, 1022, 2), (1023, 1023, 0)])) (rg 7) (R9 p s []) [(8, iA 0), (93, bA true)] fun G => b6 (rT G true (by kernel_rfl) (wp_seq (k8 G d9 [(8, iA 4)] fun G => b6 (wp_ret (l6 ?_))))); exact rxI 4 G (rg 7) (z9 (bN0 (by with_reducible assumption) (by with_reducible assumption)) (lkv (by exact .inl (by omega)) (by omega) (by with_reducible assumption)))
    · have q16 : (((i8 (l4 (l4 (m7 p s.value) (m7 p s.index)) pc)) = false) ∨ ((i8 (p.arrays.getD s.target.toNat 0)) = false)) ∨ (¬ (l4 (l4 (l4 (m7 p s.value) (m7 p s.index)) pc) (p.arrays.getD s.target.toNat 0) = p.arrays.getD s.target.toNat 0)) := (fun hq => Or.imp (fun hq => Or.imp (fun hq => (hq)) (fun hq => (hq)) (Bool.and_eq_false_iff.1 hq)) (fun hq => ne_of_beq_false hq) (Bool.and_eq_false_iff.1 hq)) (Eq.mp (cj4 _) h16); refine rT G _ h16 (wp_seq (k8 G d9 [(8, iA 1)] fun G => b6 (wp_ret (z5 (l6 ?_))))); exact rxI 1 G (rg 7) (at2 (cg4 (by with_reducible assumption) (by with_reducible assumption)) (by decide))
  ·
   refine wp_seq (b46 G (F9 (t4 3 [0, 1, 2, 4] (N1 p s.value (A0 h (by omega))) (t4 12 [] (au7 (l4 (m7 p s.value) pc) (p.vars.getD s.target.toNat 0)) F8)) fz []) [0, 0, 2, 7, 0, 31, 0, 64, 0, 256, 960, 1984, 4095, 8191] [(3, bA strict), (4, .ptr 7 0), (5, .ptr 8 0), (8, iA 0), (26, .v (.bool !(i8 (l4 (m7 p s.value) pc) && i8 (p.vars.getD s.target.toNat 0) && l4 (l4 (m7 p s.value) pc) (p.vars.getD s.target.toNat 0) == p.vars.getD s.target.toNat 0)))] [(0 : Int) ≤ s.target, s.target < (p.vars.length : Int), s.target.toNat < p.vars.length] ⟨((aK1 h (by omega)).1), ((aK1 h (by omega)).2.1), ((aK1 h (by omega)).2.2), ci7⟩ fun G => b6 ?_); cases h21 : (!(i8 (l4 (m7 p s.value) pc) && i8 (p.vars.getD s.target.toNat (0 : Int)) && l4 (l4 (m7 p s.value) pc) (p.vars.getD s.target.toNat (0 : Int)) == p.vars.getD s.target.toNat (0 : Int)))
   ·
    have q21 : (((i8 (l4 (m7 p s.value) pc)) = true) ∧ ((i8 (p.vars.getD s.target.toNat 0)) = true)) ∧ (l4 (l4 (m7 p s.value) pc) (p.vars.getD s.target.toNat 0) = p.vars.getD s.target.toNat 0) := (fun hq => And.imp (fun hq => And.imp (fun hq => (hq)) (fun hq => (hq)) (Bool.and_eq_true_iff.1 hq)) (fun hq => eq_of_beq hq) (Bool.and_eq_true_iff.1 hq)) (Eq.mp (ck2 _) h21); refine rF G _ h21 (wp_skip (l0 (b6 (wp_seq (wp_seq ?_))))); cases h22 : (strict)
    · refine j8 G (J1 (fc h22 fz) (us [(2, 5, 0), (10, 11, 0), (22, 22, 0), (1023, 1023, 0)])) (rg 7) (R9 p s []) [(8, iA 0), (93, bA false)] fun G => b6 (rF G false (by kernel_rfl) (wp_skip (b6 (wp_seq (k8 G d9 [] fun G => b6 (wp_ret ?_)))))); exact rxI 0 G (rg 7) (aj6 (bY3 (by with_reducible assumption) (by with_reducible assumption)))
    ·
     cases h23 : (s.kind != 4)
     · have q23 := bne_eq_false_iff_eq.1 h23; exact False.elim (by omega)
     ·
      have q23 := bne_iff_ne.1 h23; cases h24 : (T3 p.vars p.arrays (5 : Nat) s.value)
      ·
       cases h25 : (s.kind == 2)
       · have q25 := ne_of_beq_false h25; refine j8 G (F9 (t4 9 [0, 1, 2, 4] (F3 p s.value (A0 h (by omega))) F8) (fc h22 (fc h23 (fc h24 (fc h25 fz)))) (us [(2, 5, 0), (6, 9, 1), (10, 10, 0), (1010, 1010, 1), (11, 11, 0), (12, 15, 2), (16, 20, 3), (21, 21, 2), (1021, 1021, 3), (22, 22, 0), (1022, 1022, 2), (1023, 1023, 0)])) (rg 7) (R9 p s []) [(8, iA 0), (93, bA false)] fun G => b6 (rF G false (by kernel_rfl) (wp_skip (b6 (wp_seq (k8 G d9 [] fun G => b6 (wp_ret ?_)))))); exact rxI 0 G (rg 7) (z9 (bY3 (by with_reducible assumption) (by with_reducible assumption)) (lk0 (by exact .inl (by omega)) (by exact .inr (by with_reducible assumption)) (by exact .inl (by omega))))
       · have q25 := eq_of_beq h25; exact False.elim (by omega)
      · refine j8 G (F9 (t4 9 [0, 1, 2, 4] (F3 p s.value (A0 h (by omega))) F8) (fc h22 (fc h23 (fc h24 fz))) (us [(2, 5, 0), (6, 9, 1), (10, 10, 0), (1010, 1010, 1), (11, 11, 0), (12, 15, 2), (21, 21, 2), (22, 22, 0), (1022, 1022, 2), (1023, 1023, 0)])) (rg 7) (R9 p s []) [(8, iA 0), (93, bA true)] fun G => b6 (rT G true (by kernel_rfl) (wp_seq (k8 G d9 [(8, iA 4)] fun G => b6 (wp_ret (l6 ?_))))); exact rxI 4 G (rg 7) (z9 (bY3 (by with_reducible assumption) (by with_reducible assumption)) (lkv (by exact .inl (by omega)) (by omega) (by with_reducible assumption)))
   · have q21 : (((i8 (l4 (m7 p s.value) pc)) = false) ∨ ((i8 (p.vars.getD s.target.toNat 0)) = false)) ∨ (¬ (l4 (l4 (m7 p s.value) pc) (p.vars.getD s.target.toNat 0) = p.vars.getD s.target.toNat 0)) := (fun hq => Or.imp (fun hq => Or.imp (fun hq => (hq)) (fun hq => (hq)) (Bool.and_eq_false_iff.1 hq)) (fun hq => ne_of_beq_false hq) (Bool.and_eq_false_iff.1 hq)) (Eq.mp (cj4 _) h21); refine rT G _ h21 (wp_seq (k8 G d9 [(8, iA 1)] fun G => b6 (wp_ret (z5 (l6 ?_))))); exact rxI 1 G (rg 7) (at2 (cg5 (by with_reducible assumption) (by with_reducible assumption)) (by decide))
def E6 (F : Nat → c5 → Int × Nat) : Nat → List c5 → Int × Nat
 | c, [] => (0, c)
 | c, s :: r => if (F c s).1 = 0 then E6 F (F c s).2 r else F c s
def ak2 (p : i6) (s : c5) (pc : Int) : Int := if s.kind = 3 then l4 pc (m7 p s.value) else pc
def stC (p : i6) (strict : Bool) : Nat → Int → Nat → c5 → Int × Nat
  | 0, _, c, _ => (0, c)
  | d + 1, pc, c, s => if aa6 p s pc strict = 0 then
      (if (E6 (stC p strict d (ak2 p s pc)) (c + 1) s.body).1 = 0 then E6 (stC p strict d (ak2 p s pc)) (E6 (stC p strict d (ak2 p s pc)) (c + 1) s.body).2 s.els
       else E6 (stC p strict d (ak2 p s pc)) (c + 1) s.body)
    else (aa6 p s pc strict, c)
abbrev v6 (p : i6) (strict : Bool) (d : Nat) (pc : Int) (c : Nat) (ss : List c5) : Int × Nat := E6 (stC p strict d pc) c ss
theorem af0 (F : Nat → c5 → Int × Nat) : ∀ (a b : List c5) (c : Nat), E6 F c (a ++ b) = if (E6 F c a).1 = 0 then E6 F (E6 F c a).2 b else E6 F c a
 | [], b, c => by simp [E6]
 | x :: r, b, c => by
  simp only [List.cons_append, E6]
  by_cases h : (F c x).1 = 0
  ·simp only [h, if_true]; exact af0 F r b _
  ·simp [h]
theorem aa3 {F : Nat → c5 → Int × Nat} {c k : Nat} {ss : List c5} (h : (E6 F c (ss.take k)).1 = 0) (hk : k < ss.length) : E6 F c (ss.take (k + 1)) = F (E6 F c (ss.take k)).2 (ss.getD k ch2) := by
 rw [m8 _ _ hk, af0, if_pos h, m6 hk]
 simp only [E6]
 split
 ·rename_i h; exact Prod.ext h.symm rfl
 ·rfl
theorem F2 {F : Nat → c5 → Int × Nat} {c k : Nat} {ss : List c5} (h : (E6 F c (ss.take k)).1 = 0) (hk : k < ss.length) (hf : ¬ (F (E6 F c (ss.take k)).2 (ss.getD k ch2)).1 = 0) : E6 F c ss = F (E6 F c (ss.take k)).2 (ss.getD k ch2) := by
 conv => lhs; rw [← List.take_append_drop (k + 1) ss]
 rw [af0, aa3 h hk, if_neg hf]
theorem aK5 {F : Nat → c5 → Int × Nat} {c k : Nat} {ss : List c5} (hk : ss.length ≤ k) : E6 F c ss = E6 F c (ss.take k) := by rw [ci8 hk]
theorem au2 {F : Nat → c5 → Int × Nat} (hF : ∀ c s, (F c s).2 ≤ c + nS s) : ∀ (ss : List c5) (c : Nat), (E6 F c ss).2 ≤ c + V6 ss
 | [], c => by simp [E6]
 | s :: r, c => by
  simp only [E6, V6]
  have h1 := hF c s
  have h2 := au2 hF r (F c s).2
  split <;> omega
theorem ba7 {p : i6} {strict : Bool} : ∀ (d : Nat) (pc : Int) (c : Nat) (s : c5), (stC p strict d pc c s).2 ≤ c + nS s
 | 0, _, c, s => by simp [stC]
 | d + 1, pc, c, s => by
  have hs := ax0 s
  have h1 := au2 (ba7 (p := p) (strict := strict) d (ak2 p s pc)) s.body (c + 1)
  have h2 := au2 (ba7 (p := p) (strict := strict) d (ak2 p s pc)) s.els (E6 (stC p strict d (ak2 p s pc)) (c + 1) s.body).2
  rw [stC]
  split
  ·split <;> omega
  ·simp only; omega
theorem bg9 {p : i6} {strict : Bool} {d : Nat} {pc : Int} {c : Nat} {ss : List c5} : (v6 p strict d pc c ss).2 ≤ c + V6 ss := au2 (ba7 d pc) ss c
theorem S9 {nv na d k : Nat} {ss : List c5} (hs : ss.all (j7 nv na (d + 1)) = true) (hk : k < ss.length) : D7 nv na (ss.getD k ch2) = true ∧ (ss.getD k ch2).body.all (j7 nv na d) = true ∧ (ss.getD k ch2).els.all (j7 nv na d) = true := by
 have h := ci2.1 hs _ (cj1 hk)
 rw [T2, ch4, ch4] at h
 rw [m6 hk]; exact h
theorem bS7 {k : Nat} {ss : List c5} (hk : k < ss.length) : V6 (ss.take k) + (1 + V6 (ss.getD k ch2).body + V6 (ss.getD k ch2).els) ≤ V6 ss := by
 have h1 := br1 hk
 have h2 := a36 ss (k + 1)
 rw [ax0] at h1
 rw [m6 hk]; omega
section
variable {p : i6} {strict : Bool} {d c : Nat} {pc : Int} {s : c5}
theorem aC9 (h : ¬ aa6 p s pc strict = 0) : stC p strict (d + 1) pc c s = (aa6 p s pc strict, c) := by rw [stC, if_neg h]
theorem V0 {x : Int} (h : aa6 p s pc strict = 0) (hx : ak2 p s pc = x) (h2 : ¬ (v6 p strict d x (c + 1) s.body).1 = 0) : stC p strict (d + 1) pc c s = v6 p strict d x (c + 1) s.body := by
 subst hx; rw [stC, if_pos h, if_neg h2]
theorem O7 {x : Int} (h : aa6 p s pc strict = 0) (hx : ak2 p s pc = x) (h2 : (v6 p strict d x (c + 1) s.body).1 = 0) : stC p strict (d + 1) pc c s = v6 p strict d x (v6 p strict d x (c + 1) s.body).2 s.els := by
 subst hx; rw [stC, if_pos h, if_pos h2]
theorem ac3 (k : s.kind = 3) : ak2 p s pc = l4 pc (m7 p s.value) := if_pos k
theorem ac2 (k : ¬ s.kind = 3) : ak2 p s pc = pc := if_neg k
end
theorem aM0 {p : i6} {strict : Bool} {d k c : Nat} {pc : Int} {ss : List c5} (hc : c + V6 ss ≤ 4000000) (hk : k < ss.length) : (v6 p strict (d + 1) pc c (ss.take k)).2 + 1 + V6 (ss.getD k ch2).body ≤ 4000000 := by
 have h1 := bS7 (k := k) (ss := ss) hk
 have h2 := bg9 (p := p) (strict := strict) (d := d + 1) (pc := pc) (c := c) (ss := ss.take k)
 omega
theorem aR8 {p : i6} {strict : Bool} {d k c : Nat} {pc x : Int} {ss : List c5} (hc : c + V6 ss ≤ 4000000) (hk : k < ss.length) : (v6 p strict d x ((v6 p strict (d + 1) pc c (ss.take k)).2 + 1) (ss.getD k ch2).body).2 + V6 (ss.getD k ch2).els ≤ 4000000 := by
 have h1 := bS7 (k := k) (ss := ss) hk
 have h2 := bg9 (p := p) (strict := strict) (d := d + 1) (pc := pc) (c := c) (ss := ss.take k)
 have h3 := bg9 (p := p) (strict := strict) (d := d) (pc := x) (c := (v6 p strict (d + 1) pc c (ss.take k)).2 + 1) (ss := (ss.getD k ch2).body)
 omega
theorem bP2 {p : i6} {strict : Bool} {d k c : Nat} {pc : Int} {ss : List c5} (hc : c + V6 ss ≤ 4000000) (hk : k < ss.length) : IntKind.i64.wrap (((v6 p strict (d + 1) pc c (ss.take k)).2 : Int) + 1) = ((v6 p strict (d + 1) pc c (ss.take k)).2 : Int) + 1 := by
 have h1 := aM0 (p := p) (strict := strict) (d := d) (pc := pc) hc hk
 exact w64 (by omega) (by omega)
abbrev bP1 (p : i6) (d : Nat) (ss : List c5) (pc : Int) (c : Nat) (strict : Bool) : j9 := T5 201 [pA 0, .ref 3, iA pc, iA c, bA strict] (pS p ++ [.dat (.stmts ss)]) (.tup [iA (v6 p strict d pc c ss).1, iA (v6 p strict d pc c ss).2])
theorem bg2 (p : i6) (pc : Int) (c : Nat) (strict : Bool) : j9.ok Tryz.prog (bP1 p 0 [] pc c strict) := by
 refine E9 74 Tryz.func201 [dI p.vars, dI p.arrays, dT p.body, dT []] [(0, pA 0), (1, .ref 3), (2, iA pc), (3, iA c), (4, bA strict)] fun G => ?_; refine wp_seq (j8 G d9 (rg 5) [dI p.vars, dI p.arrays, dT p.body, dT [], .box (pL 0)] [(1, .ref 3), (2, iA pc), (3, iA c), (4, bA strict), (5, .ptr 4 0), (10, iA 0), (11, iA 0)] fun G => b6 (wp_seq (wp_seq (D2 G d9 [(1, .ref 3), (2, iA pc), (3, iA c), (4, bA strict), (5, .ptr 4 0), (10, iA 0), (11, iA 0), (12, iA 0)] fun G => b6 (wp_block ?_))))); refine t0 (κ := Nat) (fun k => k = 0) (fun k => 0) (fun k => [dI p.vars, dI p.arrays, dT p.body, dT [], .box (pL 0)]) (fun k => [(1, .ref 3), (2, iA pc), (3, iA c), (4, bA strict), (5, .ptr 4 0), (10, iA 0), (11, iA 0), (12, iA 0)]) 0 (by kernel_rfl) (t7.at G _ _) ?_; clear G; intro k ρ a w hp G; refine wp_seq (wp_seq (k8 G d9 [(19, bA false)] fun G => b6 (rF G false (by kernel_rfl) (wp_exit (s7 (s7 (r8 (b6 (wp_seq (j8 G d9 (rg 4) [dI p.vars, dI p.arrays, dT p.body, dT []] [(10, iA 0), (11, iA c)] fun G => b6 (wp_ret ?_))))))))))); exact K8 G (rg 4)
abbrev ao1 (p : i6) (d : Nat) (strict : Bool) (ss : List c5) (pc : Int) (c : Nat) (k : Nat) := v6 p strict d (l4 pc (m7 p (ss.getD k ch2).value)) ((v6 p strict (d + 1) pc c (ci0 k ss)).snd + 1) (ss.getD k ch2).body
abbrev ab0 (p : i6) (d : Nat) (strict : Bool) (ss : List c5) (pc : Int) (c : Nat) (k : Nat) := v6 p strict d pc ((v6 p strict (d + 1) pc c (ci0 k ss)).snd + 1) (ss.getD k ch2).body
abbrev aZ3 (p : i6) (d : Nat) (strict : Bool) (ss : List c5) (pc : Int) (c : Nat) (k : Nat) := v6 p strict d (l4 pc (m7 p (ss.getD k ch2).value)) (ao1 p d strict ss pc c k).snd (ss.getD k ch2).els
abbrev aO2 (strict : Bool) (k : Nat) (r0 : List (Nat × AV)) : List (Nat × AV) := (4, bA strict) :: (5, .ptr 4 0) :: (10, iA 0) :: (11, iA 0) :: (12, iA (k : Int)) :: r0
abbrev aE5 (p : i6) (ss : List c5) (r0 : List It) : List It := dI p.vars :: dI p.arrays :: dT p.body :: dT ss :: .box (pL 0) :: r0
theorem bg0 (p : i6) (d : Nat) (strict : Bool) (ih : ∀ (ss : List c5) (pc : Int) (c : Nat), ss.all (j7 p.vars.length p.arrays.length d) = true → c + V6 ss ≤ 4000000 → j9.ok Tryz.prog (bP1 p d ss pc c strict))
    (ss : List c5) (pc : Int) (c : Nat) (hs : ss.all (j7 p.vars.length p.arrays.length (d + 1)) = true) (hc : c + V6 ss ≤ 4000000) : j9.ok Tryz.prog (bP1 p (d + 1) ss pc c strict) := by
  refine E9 74 Tryz.func201 [dI p.vars, dI p.arrays, dT p.body, dT ss] [(0, pA 0), (1, .ref 3), (2, iA pc), (3, iA c), (4, bA strict)] fun G => ?_; have hlen : ss.length ≤ 9223372036854775807 := G.len 3 (d := .stmts ss) (by kernel_rfl); refine wp_seq (j8 G d9 (rg 5) (aE5 p ss []) [(1, .ref 3), (2, iA pc), (3, iA c), (4, bA strict), (5, .ptr 4 0), (10, iA 0), (11, iA 0)] fun G => b6 (wp_seq (wp_seq (D2 G d9 [(1, .ref 3), (2, iA pc), (3, iA c), (4, bA strict), (5, .ptr 4 0), (10, iA 0), (11, iA 0), (12, iA 0)] fun G => b6 (wp_block ?_))))); refine t0 (κ := Nat) (fun k => k ≤ ss.length ∧ (v6 p strict (d + 1) pc c (ss.take k)).1 = 0) (fun k => ss.length - k) (fun k => [dI p.vars, dI p.arrays, dT p.body, dT ss, .box (pL 0)]) (fun k => [(1, .ref 3), (2, iA pc), (3, iA (v6 p strict (d + 1) pc c (ss.take k)).2), (4, bA strict), (5, .ptr 4 0), (10, iA 0), (11, iA 0), (12, iA k)]) 0 (⟨ck8 _, rfl⟩) (t7.at G _ _) ?_; clear G; intro k ρ a w hp G; replace G := t7.at G (aE5 p ss []) ((1, .ref 3) :: (2, iA pc) :: (3, iA ((v6 p strict (d + 1) pc c (ci0 k ss)).snd : Int)) :: (aO2 strict k [])); refine wp_seq (wp_seq (k8 G d9 [(19, bA (decide ((k : Int) < ss.length)))] fun G => b6 (rcD G (fun h0 q0 => ?_) fun h0 q0 => ?_)))
  · refine wp_exit (s7 (s7 (r8 (b6 (wp_seq (j8 G d9 (rg 4) [dI p.vars, dI p.arrays, dT p.body, dT ss] [(10, iA 0), (11, iA ((v6 p strict (d + 1) pc c (ci0 k ss)).snd : Int))] fun G => b6 (wp_ret ?_))))))); exact U2 (.tup [iA 0, iA ((v6 p strict (d + 1) pc c (ci0 k ss)).snd : Int)]) G (rg 4) (by have e1 : ((v6 p strict (d + 1) pc c ss).fst : Int) = (0) := (by rw [v6, aK5 (k := k) (by omega)]; exact hp.2); have e2 : (((v6 p strict (d + 1) pc c ss).snd : Int) : Int) = (((v6 p strict (d + 1) pc c (ci0 k ss)).snd : Int)) := (by rw [v6, aK5 (k := k) (by omega)]); (first | rw [e1, e2] | simp only [e1, e2]) <;> rfl)
  ·
   refine wp_skip (b6 (wp_seq (wp_block (wp_seq (N7 G d9 [0, 1, 2, 3, 4, 29, 30, 31, 32, 37] (aE5 p ss [dE (ss.getD k ch2).index.kids, dE (ss.getD k ch2).value.kids, dT (ss.getD k ch2).body, dT (ss.getD k ch2).els, .box (sL (ss.getD k ch2) 5)]) ((1, .ref 3) :: (2, iA pc) :: (3, iA ((v6 p strict (d + 1) pc c (ci0 k ss)).snd : Int)) :: (aO2 strict k [(13, .ptr 9 0)])) (iX k k ss.length []) (iK (by omega) ci7) fun G => b6 (wp_seq (k8 G (s8 4 [0, 1, 2, 5, 6, 7, 8] (bO8 p (ss.getD k ch2) pc strict ((S9 hs (by omega)).1))) [(14, iA (aa6 p (ss.getD k ch2) pc strict))] fun G => b6 (wp_seq (wp_seq (k8 G d9 [(32, bA (aa6 p (ss.getD k ch2) pc strict != 0))] fun G => b6 (rcN G (fun h1 q1 => ?_) fun h1 q1 => ?_)))))))))))
   ·
    refine wp_skip (b6 (wp_seq (E0 G d9 [(3, iA (((v6 p strict (d + 1) pc c (ci0 k ss)).snd : Int) + 1))] [wO (((v6 p strict (d + (1 : Nat)) pc c (ci0 k ss)).snd : Int) + 1)] ⟨(bP2 hc (by omega)), ci7⟩ fun G => b6 (wp_seq (k8 G d9 [(15, iA pc)] fun G => b6 (wp_seq (wp_seq (k8 G d9 [(40, bA ((ss.getD k ch2).kind == 3))] fun G => b6 (J7 G (fun h2 q2 => ?_) fun h2 q2 => ?_)))))))))
    ·
     refine wp_skip (b6 (wp_seq (k8 G (s8 6 [0, 1, 2, 7] (ih ((ss.getD k ch2).body) pc ((v6 p strict (d + 1) pc c (ci0 k ss)).snd + 1) ((S9 hs (by omega)).2.1) (aM0 hc (by omega)))) [(3, iA ((ab0 p d strict ss pc c k).snd : Int)), (14, iA (ab0 p d strict ss pc c k).fst)] fun G => b6 (wp_seq (wp_seq (k8 G d9 [(58, bA ((ab0 p d strict ss pc c k).fst == 0))] fun G => b6 (J7 (u := ((v6 p strict d pc ((v6 p strict (d + (1 : Nat)) pc c (ci0 k ss)).snd + (1 : Nat)) (ss.getD k ch2).body).fst)) (v := (0 : Int)) G (fun h3 q3 => ?_) fun h3 q3 => ?_)))))))
     ·
      refine wp_skip (b6 (wp_seq (j8 G d9 (rg 5) (aE5 p ss []) ((1, .ref 3) :: (2, iA pc) :: (3, iA ((ab0 p d strict ss pc c k).snd : Int)) :: (aO2 strict k [(14, iA (ab0 p d strict ss pc c k).fst), (70, bA ((ab0 p d strict ss pc c k).fst != 0))])) fun G => b6 ?_))); cases h4 : ((v6 p strict d pc ((v6 p strict (d + (1 : Nat)) pc c (ci0 k ss)).snd + (1 : Nat)) (ss.getD k ch2).body).fst != 0)
      · have q4 := bne_eq_false_iff_eq.1 h4; exact False.elim (by omega)
      · have q4 := bne_iff_ne.1 h4; refine rT G _ h4 (wp_seq (k8 G d9 [(10, iA (ab0 p d strict ss pc c k).fst), (11, iA ((ab0 p d strict ss pc c k).snd : Int))] fun G => b6 (wp_ret (z5 (l6 (l6 (z5 (l6 ?_)))))))); exact U2 (.tup [iA (v6 p strict d pc ((v6 p strict (d + 1) pc c (ci0 k ss)).snd + 1) (ss.getD k ch2).body).fst, iA ((v6 p strict d pc ((v6 p strict (d + 1) pc c (ci0 k ss)).snd + 1) (ss.getD k ch2).body).snd : Int)]) G (rg 4) (by have e1 : ((v6 p strict (d + 1) pc c ss).fst : Int) = ((v6 p strict d pc ((v6 p strict (d + 1) pc c (ci0 k ss)).snd + 1) (ss.getD k ch2).body).fst) := (by rw [v6, F2 hp.2 (by omega) (by rw [V0 (by with_reducible assumption) (ac2 (by with_reducible assumption)) (by with_reducible assumption)]; with_reducible assumption), V0 (by with_reducible assumption) (ac2 (by with_reducible assumption)) (by with_reducible assumption)]); have e2 : (((v6 p strict (d + 1) pc c ss).snd : Int) : Int) = (((v6 p strict d pc ((v6 p strict (d + 1) pc c (ci0 k ss)).snd + 1) (ss.getD k ch2).body).snd : Int)) := (by rw [v6, F2 hp.2 (by omega) (by rw [V0 (by with_reducible assumption) (ac2 (by with_reducible assumption)) (by with_reducible assumption)]; with_reducible assumption), V0 (by with_reducible assumption) (ac2 (by with_reducible assumption)) (by with_reducible assumption)]); (first | rw [e1, e2] | simp only [e1, e2]) <;> rfl)
     ·
      refine j8 G (s8 6 [0, 1, 2, 8] (ih ((ss.getD k ch2).els) pc ((ab0 p d strict ss pc c k).snd) ((S9 hs (by omega)).2.2) (aR8 hc (by omega)))) (rg 5) (aE5 p ss []) ((1, .ref 3) :: (2, iA pc) :: (3, iA ((v6 p strict d pc (ab0 p d strict ss pc c k).snd (ss.getD k ch2).els).snd : Int)) :: (aO2 strict k [(14, iA (v6 p strict d pc (ab0 p d strict ss pc c k).snd (ss.getD k ch2).els).fst)])) fun G => b6 (wp_seq (k8 G d9 [(70, bA ((v6 p strict d pc (ab0 p d strict ss pc c k).snd (ss.getD k ch2).els).fst != 0))] fun G => b6 (rcN (u := ((v6 p strict d pc (v6 p strict d pc ((v6 p strict (d + (1 : Nat)) pc c (ci0 k ss)).snd + (1 : Nat)) (ss.getD k ch2).body).snd (ss.getD k ch2).els).fst)) (v := (0 : Int)) G (fun h5 q5 => ?_) fun h5 q5 => ?_)))
      · refine wp_skip (l0 (b6 (E0 G d9 [(12, iA ((k : Int) + 1))] [wO ((k : Int) + 1)] (o1 (by omega)) fun G => b6 ?_))); exact I9 G (k + 1) (⟨by omega, by rw [v6, aa3 hp.2 (by omega), O7 (by with_reducible assumption) (ac2 (by with_reducible assumption)) (by with_reducible assumption)]; with_reducible assumption⟩) (by omega) (rg 5) (ht := by have e1 : (((v6 p strict (d + 1) pc c (ci0 (k + 1) ss)).snd : Int) : Int) = (((v6 p strict d pc (v6 p strict d pc ((v6 p strict (d + 1) pc c (ci0 k ss)).snd + 1) (ss.getD k ch2).body).snd (ss.getD k ch2).els).snd : Int)) := (by rw [v6, aa3 hp.2 (by omega), O7 (by with_reducible assumption) (ac2 (by with_reducible assumption)) (by with_reducible assumption)]); (first | rw [e1] | simp only [e1]) <;> rfl)
      · refine wp_seq (k8 G d9 [(10, iA (v6 p strict d pc (ab0 p d strict ss pc c k).snd (ss.getD k ch2).els).fst), (11, iA ((v6 p strict d pc (ab0 p d strict ss pc c k).snd (ss.getD k ch2).els).snd : Int))] fun G => b6 (wp_ret (z5 (l6 (l6 (z5 (l6 ?_))))))); exact U2 (.tup [iA (v6 p strict d pc (v6 p strict d pc ((v6 p strict (d + 1) pc c (ci0 k ss)).snd + 1) (ss.getD k ch2).body).snd (ss.getD k ch2).els).fst, iA ((v6 p strict d pc (v6 p strict d pc ((v6 p strict (d + 1) pc c (ci0 k ss)).snd + 1) (ss.getD k ch2).body).snd (ss.getD k ch2).els).snd : Int)]) G (rg 4) (by have e1 : ((v6 p strict (d + 1) pc c ss).fst : Int) = ((v6 p strict d pc (v6 p strict d pc ((v6 p strict (d + 1) pc c (ci0 k ss)).snd + 1) (ss.getD k ch2).body).snd (ss.getD k ch2).els).fst) := (by rw [v6, F2 hp.2 (by omega) (by rw [O7 (by with_reducible assumption) (ac2 (by with_reducible assumption)) (by with_reducible assumption)]; with_reducible assumption), O7 (by with_reducible assumption) (ac2 (by with_reducible assumption)) (by with_reducible assumption)]); have e2 : (((v6 p strict (d + 1) pc c ss).snd : Int) : Int) = (((v6 p strict d pc (v6 p strict d pc ((v6 p strict (d + 1) pc c (ci0 k ss)).snd + 1) (ss.getD k ch2).body).snd (ss.getD k ch2).els).snd : Int)) := (by rw [v6, F2 hp.2 (by omega) (by rw [O7 (by with_reducible assumption) (ac2 (by with_reducible assumption)) (by with_reducible assumption)]; with_reducible assumption), O7 (by with_reducible assumption) (ac2 (by with_reducible assumption)) (by with_reducible assumption)]); (first | rw [e1, e2] | simp only [e1, e2]) <;> rfl)
    ·
     refine k8 G (s8 4 [0, 1, 2, 6] (N1 p ((ss.getD k ch2).value) (A0 (S9 hs (by omega)).1 (by omega)))) [(15, iA (l4 pc (m7 p (ss.getD k ch2).value)))] fun G => b6 (wp_seq (k8 G (s8 6 [0, 1, 2, 7] (ih ((ss.getD k ch2).body) (l4 pc (m7 p (ss.getD k ch2).value)) ((v6 p strict (d + 1) pc c (ci0 k ss)).snd + 1) ((S9 hs (by omega)).2.1) (aM0 hc (by omega)))) [(3, iA ((ao1 p d strict ss pc c k).snd : Int)), (14, iA (ao1 p d strict ss pc c k).fst)] fun G => b6 (wp_seq (wp_seq (k8 G d9 [(58, bA ((ao1 p d strict ss pc c k).fst == 0))] fun G => b6 (J7 (u := ((v6 p strict d (l4 pc (m7 p (ss.getD k ch2).value)) ((v6 p strict (d + (1 : Nat)) pc c (ci0 k ss)).snd + (1 : Nat)) (ss.getD k ch2).body).fst)) (v := (0 : Int)) G (fun h6 q6 => ?_) fun h6 q6 => ?_))))))
     ·
      refine wp_skip (b6 (wp_seq (j8 G d9 (rg 5) (aE5 p ss []) ((1, .ref 3) :: (2, iA pc) :: (3, iA ((ao1 p d strict ss pc c k).snd : Int)) :: (aO2 strict k [(14, iA (ao1 p d strict ss pc c k).fst), (70, bA ((ao1 p d strict ss pc c k).fst != 0))])) fun G => b6 ?_))); cases h7 : ((v6 p strict d (l4 pc (m7 p (ss.getD k ch2).value)) ((v6 p strict (d + (1 : Nat)) pc c (ci0 k ss)).snd + (1 : Nat)) (ss.getD k ch2).body).fst != 0)
      · have q7 := bne_eq_false_iff_eq.1 h7; exact False.elim (by omega)
      · have q7 := bne_iff_ne.1 h7; refine rT G _ h7 (wp_seq (k8 G d9 [(10, iA (ao1 p d strict ss pc c k).fst), (11, iA ((ao1 p d strict ss pc c k).snd : Int))] fun G => b6 (wp_ret (z5 (l6 (l6 (z5 (l6 ?_)))))))); exact U2 (.tup [iA (v6 p strict d (l4 pc (m7 p (ss.getD k ch2).value)) ((v6 p strict (d + 1) pc c (ci0 k ss)).snd + 1) (ss.getD k ch2).body).fst, iA ((v6 p strict d (l4 pc (m7 p (ss.getD k ch2).value)) ((v6 p strict (d + 1) pc c (ci0 k ss)).snd + 1) (ss.getD k ch2).body).snd : Int)]) G (rg 4) (by have e1 : ((v6 p strict (d + 1) pc c ss).fst : Int) = ((v6 p strict d (l4 pc (m7 p (ss.getD k ch2).value)) ((v6 p strict (d + 1) pc c (ci0 k ss)).snd + 1) (ss.getD k ch2).body).fst) := (by rw [v6, F2 hp.2 (by omega) (by rw [V0 (by with_reducible assumption) (ac3 (by with_reducible assumption)) (by with_reducible assumption)]; with_reducible assumption), V0 (by with_reducible assumption) (ac3 (by with_reducible assumption)) (by with_reducible assumption)]); have e2 : (((v6 p strict (d + 1) pc c ss).snd : Int) : Int) = (((v6 p strict d (l4 pc (m7 p (ss.getD k ch2).value)) ((v6 p strict (d + 1) pc c (ci0 k ss)).snd + 1) (ss.getD k ch2).body).snd : Int)) := (by rw [v6, F2 hp.2 (by omega) (by rw [V0 (by with_reducible assumption) (ac3 (by with_reducible assumption)) (by with_reducible assumption)]; with_reducible assumption), V0 (by with_reducible assumption) (ac3 (by with_reducible assumption)) (by with_reducible assumption)]); (first | rw [e1, e2] | simp only [e1, e2]) <;> rfl)
     ·
      refine j8 G (s8 6 [0, 1, 2, 8] (ih ((ss.getD k ch2).els) (l4 pc (m7 p (ss.getD k ch2).value)) ((ao1 p d strict ss pc c k).snd) ((S9 hs (by omega)).2.2) (aR8 hc (by omega)))) (rg 5) (aE5 p ss []) ((1, .ref 3) :: (2, iA pc) :: (3, iA ((aZ3 p d strict ss pc c k).snd : Int)) :: (aO2 strict k [(14, iA (aZ3 p d strict ss pc c k).fst)])) fun G => b6 (wp_seq (k8 G d9 [(70, bA ((aZ3 p d strict ss pc c k).fst != 0))] fun G => b6 (rcN (u := ((v6 p strict d (l4 pc (m7 p (ss.getD k ch2).value)) (v6 p strict d (l4 pc (m7 p (ss.getD k ch2).value)) ((v6 p strict (d + (1 : Nat)) pc c (ci0 k ss)).snd + (1 : Nat)) (ss.getD k ch2).body).snd (ss.getD k ch2).els).fst)) (v := (0 : Int)) G (fun h8 q8 => ?_) fun h8 q8 => ?_)))
      · refine wp_skip (l0 (b6 (E0 G d9 [(12, iA ((k : Int) + 1))] [wO ((k : Int) + 1)] (o1 (by omega)) fun G => b6 ?_))); exact I9 G (k + 1) (⟨by omega, by rw [v6, aa3 hp.2 (by omega), O7 (by with_reducible assumption) (ac3 (by with_reducible assumption)) (by with_reducible assumption)]; with_reducible assumption⟩) (by omega) (rg 5) (ht := by have e1 : (((v6 p strict (d + 1) pc c (ci0 (k + 1) ss)).snd : Int) : Int) = (((v6 p strict d (l4 pc (m7 p (ss.getD k ch2).value)) (v6 p strict d (l4 pc (m7 p (ss.getD k ch2).value)) ((v6 p strict (d + 1) pc c (ci0 k ss)).snd + 1) (ss.getD k ch2).body).snd (ss.getD k ch2).els).snd : Int)) := (by rw [v6, aa3 hp.2 (by omega), O7 (by with_reducible assumption) (ac3 (by with_reducible assumption)) (by with_reducible assumption)]); (first | rw [e1] | simp only [e1]) <;> rfl)
      · refine wp_seq (k8 G d9 [(10, iA (aZ3 p d strict ss pc c k).fst), (11, iA ((aZ3 p d strict ss pc c k).snd : Int))] fun G => b6 (wp_ret (z5 (l6 (l6 (z5 (l6 ?_))))))); exact U2 (.tup [iA (v6 p strict d (l4 pc (m7 p (ss.getD k ch2).value)) (v6 p strict d (l4 pc (m7 p (ss.getD k ch2).value)) ((v6 p strict (d + 1) pc c (ci0 k ss)).snd + 1) (ss.getD k ch2).body).snd (ss.getD k ch2).els).fst, iA ((v6 p strict d (l4 pc (m7 p (ss.getD k ch2).value)) (v6 p strict d (l4 pc (m7 p (ss.getD k ch2).value)) ((v6 p strict (d + 1) pc c (ci0 k ss)).snd + 1) (ss.getD k ch2).body).snd (ss.getD k ch2).els).snd : Int)]) G (rg 4) (by have e1 : ((v6 p strict (d + 1) pc c ss).fst : Int) = ((v6 p strict d (l4 pc (m7 p (ss.getD k ch2).value)) (v6 p strict d (l4 pc (m7 p (ss.getD k ch2).value)) ((v6 p strict (d + 1) pc c (ci0 k ss)).snd + 1) (ss.getD k ch2).body).snd (ss.getD k ch2).els).fst) := (by rw [v6, F2 hp.2 (by omega) (by rw [O7 (by with_reducible assumption) (ac3 (by with_reducible assumption)) (by with_reducible assumption)]; with_reducible assumption), O7 (by with_reducible assumption) (ac3 (by with_reducible assumption)) (by with_reducible assumption)]); have e2 : (((v6 p strict (d + 1) pc c ss).snd : Int) : Int) = (((v6 p strict d (l4 pc (m7 p (ss.getD k ch2).value)) (v6 p strict d (l4 pc (m7 p (ss.getD k ch2).value)) ((v6 p strict (d + 1) pc c (ci0 k ss)).snd + 1) (ss.getD k ch2).body).snd (ss.getD k ch2).els).snd : Int)) := (by rw [v6, F2 hp.2 (by omega) (by rw [O7 (by with_reducible assumption) (ac3 (by with_reducible assumption)) (by with_reducible assumption)]; with_reducible assumption), O7 (by with_reducible assumption) (ac3 (by with_reducible assumption)) (by with_reducible assumption)]); (first | rw [e1, e2] | simp only [e1, e2]) <;> rfl)
   · refine wp_seq (k8 G d9 [(10, iA (aa6 p (ss.getD k ch2) pc strict)), (11, iA ((v6 p strict (d + 1) pc c (ci0 k ss)).snd : Int))] fun G => b6 (wp_ret (l6 (z5 (l6 (l6 (z5 (l6 ?_)))))))); exact U2 (.tup [iA (aa6 p (ss.getD k ch2) pc strict), iA ((v6 p strict (d + 1) pc c (ci0 k ss)).snd : Int)]) G (rg 4) (by have e1 : ((v6 p strict (d + 1) pc c ss).fst : Int) = (aa6 p (ss.getD k ch2) pc strict) := (by rw [v6, F2 hp.2 (by omega) (by rw [aC9 (by with_reducible assumption)]; with_reducible assumption), aC9 (by with_reducible assumption)]); have e2 : (((v6 p strict (d + 1) pc c ss).snd : Int) : Int) = (((v6 p strict (d + 1) pc c (ci0 k ss)).snd : Int)) := (by rw [v6, F2 hp.2 (by omega) (by rw [aC9 (by with_reducible assumption)]; with_reducible assumption), aC9 (by with_reducible assumption)]); (first | rw [e1, e2] | simp only [e1, e2]) <;> rfl)
theorem bg1 (p : i6) (strict : Bool) : ∀ (d : Nat) (ss : List c5) (pc : Int) (c : Nat), ss.all (j7 p.vars.length p.arrays.length d) = true → c + V6 ss ≤ 4000000 → j9.ok Tryz.prog (bP1 p d ss pc c strict) := by
 intro d
 induction d with
 | zero =>
  intro ss pc c h hc
  cases ss with
  | nil => exact bg2 p pc c strict
  | cons s r => simp [j7] at h
 | succ d ih => intro ss pc c h hc; exact bg0 p d strict ih ss pc c h hc
theorem aw8 {p : i6} (h : m0 p = true) : p.body.all (j7 p.vars.length p.arrays.length 5) = true ∧ V6 p.body ≤ 60 := by
 simp only [m0, af9, ch4, decide_eq_true_eq] at h
 exact ⟨h.1.2, h.2⟩
theorem bG2 (p : i6) (strict : Bool) (h : m0 p = true) : j9.ok Tryz.prog (T5 201 [pA 0, .ref 2, iA 0, iA 0, bA strict] (pS p) (.tup [iA (v6 p strict 5 0 0 p.body).1, iA (v6 p strict 5 0 0 p.body).2])) :=
 j9.dup (S := pS p) (S' := pS p) (d := .stmts p.body) (i := 2) (bg1 p strict 5 p.body 0 0 (aw8 h).1 (by have := (aw8 h).2; omega)) rfl rfl rfl (fun ρ h => by simp only [AV.vals, AV.val]; rw [show ρ 3 = ρ 2 from h]; rfl) rfl
def W6 (p : i6) (strict : Bool) : Int × Int := if m0 p then (if (v6 p strict 5 0 0 p.body).1 = 0 then (0, -1) else ((v6 p strict 5 0 0 p.body).1, ((v6 p strict 5 0 0 p.body).2 : Int))) else (5, -1)
section
variable {p : i6} {strict : Bool}
theorem bS5 (h : m0 p = false) : W6 p strict = (5, -1) := by rw [W6, h]; rfl
theorem bn7 (h : m0 p = true) (h1 : (v6 p strict 5 0 0 p.body).1 = 0) : W6 p strict = (0, -1) := by rw [W6, h, h1]; rfl
theorem bF4 (h : m0 p = true) (h1 : ¬ (v6 p strict 5 0 0 p.body).1 = 0) : W6 p strict = ((v6 p strict 5 0 0 p.body).1, ((v6 p strict 5 0 0 p.body).2 : Int)) := by rw [W6, h, if_neg h1]; rfl
end
theorem bs8 (p : i6) (strict : Bool) (hb : j6 p.body ≤ 1048576) : j9.ok Tryz.prog (T5 150 [pA 0, bA strict] (pS p) (.tup [iA (W6 p strict).1, iA (W6 p strict).2])) := by
  refine E9 24 Tryz.func150 [dI p.vars, dI p.arrays, dT p.body] [(0, pA 0), (1, bA strict)] fun G => ?_; refine wp_seq (j8 G d9 (rg 4) [dI p.vars, dI p.arrays, dT p.body, .box (pL 0)] [(1, bA strict), (2, .ptr 3 0), (4, iA 0), (5, iA 0)] fun G => b6 (wp_seq (wp_seq (k8 G (s8 1 [0, 1, 2] (R2 p (by assumption))) [(10, .v (.bool !m0 p))] fun G => b6 ?_)))); cases h0 : (!m0 p)
  ·
   have q0 : (m0 p) = true := (Eq.mp (ck2 _) h0); refine rF G _ h0 (wp_skip (b6 (wp_seq (j8 G (s8 4 [0, 1, 2] (bG2 p strict (by assumption))) [0, 1, 2] [dI p.vars, dI p.arrays, dT p.body] [(4, iA 0), (5, iA 0), (6, iA (v6 p strict 5 0 0 p.body).fst), (7, iA ((v6 p strict 5 0 0 p.body).snd : Int))] fun G => b6 (wp_seq (wp_seq (k8 G d9 [(20, bA ((v6 p strict 5 0 0 p.body).fst == 0))] fun G => b6 (J7 G (fun h1 q1 => ?_) fun h1 q1 => ?_))))))))
   · refine wp_skip (b6 (wp_seq (k8 G d9 [(4, iA (v6 p strict 5 0 0 p.body).fst), (5, iA ((v6 p strict 5 0 0 p.body).snd : Int))] fun G => b6 (wp_ret ?_)))); exact U2 (.tup [iA (v6 p strict 5 0 0 p.body).fst, iA ((v6 p strict 5 0 0 p.body).snd : Int)]) G [0, 1, 2] (by have e1 : ((W6 p strict).fst : Int) = ((v6 p strict 5 0 0 p.body).fst) := (by rw [bF4 (by assumption) (by assumption)]; done); have e2 : ((W6 p strict).snd : Int) = (((v6 p strict 5 0 0 p.body).snd : Int)) := (by rw [bF4 (by assumption) (by assumption)]; done); (first | rw [e1, e2] | simp only [e1, e2]) <;> rfl)
   · refine wp_seq (k8 G d9 [(4, iA (v6 p strict 5 0 0 p.body).fst), (5, iA (-1))] fun G => b6 (wp_ret (l6 ?_))); exact U2 (.tup [iA (v6 p strict 5 0 0 p.body).fst, iA (-1)]) G [0, 1, 2] (by have e1 : ((W6 p strict).fst : Int) = ((v6 p strict 5 0 0 p.body).fst) := ((congrArg Prod.fst (bn7 (by assumption) (by assumption))).trans (Eq.symm (by assumption))); have e2 : ((W6 p strict).snd : Int) = (-1) := (by rw [bn7 (by assumption) (by assumption)]; done); (first | rw [e1, e2] | simp only [e1, e2]) <;> rfl)
  · have q0 : (m0 p) = false := (Eq.mp (cj4 _) h0); refine rT G _ h0 (wp_seq (k8 G d9 [(4, iA 5), (5, iA (-1))] fun G => b6 (wp_ret (l6 ?_)))); exact U2 (.tup [iA 5, iA (-1)]) G [0, 1, 2] (by have e1 : ((W6 p strict).fst : Int) = (5) := (by rw [bS5 (by assumption)]; done); have e2 : ((W6 p strict).snd : Int) = (-1) := (by rw [bS5 (by assumption)]; done); (first | rw [e1, e2] | simp only [e1, e2]) <;> rfl)
theorem a84 (p : i6) (hb : j6 p.body ≤ 1048576) : j9.ok Tryz.prog (T5 77 [pA 0] (pS p) (.tup [iA (W6 p false).1, iA (W6 p false).2])) := by
 refine E9 8 Tryz.func77 [dI p.vars, dI p.arrays, dT p.body] [(0, pA 0)] fun G => ?_; refine wp_seq (j8 G d9 (rg 4) [dI p.vars, dI p.arrays, dT p.body, .box (pL 0)] [(1, .ptr 3 0), (2, iA 0), (3, iA 0)] fun G => b6 (wp_seq (j8 G (s8 1 [0, 1, 2] (bs8 p false (by assumption))) [0, 1, 2] [dI p.vars, dI p.arrays, dT p.body] [(2, iA (W6 p false).fst), (3, iA (W6 p false).snd)] fun G => b6 (wp_ret ?_)))); exact K8 G [0, 1, 2]
end Go.Proofs.YthikdkjjdeehoaaGreat
