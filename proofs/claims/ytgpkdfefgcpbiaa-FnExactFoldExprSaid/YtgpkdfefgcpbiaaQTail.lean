/-
  Regions that draw their order: a quiet head, calls and guards let in, and one last operation that waits for all of them. Conditions: as the Bools say.
-/
import Derived.Deep.Quiet
import Derived.StillTail
import Derived.Test.YtgpkdfefgcpbiaaExt
import Derived.Test.YtgpkdfefgcpbiaaPure2
namespace Go.Proofs.Ytgpkdfefgcpbiaa
set_option linter.unusedVariables false
set_option linter.unusedSimpArgs false
open Go Go.RowKit

section
variable {P : Program} {md : Region.Mode} {C : World → Prop}

/-- The last operation, made a no-op that waits for the same. -/
def idle (o : Oper) : Oper := { o with op := .move (.const (.bool false)), guard := none }

theorem ready_same {ops ops' : Array Oper} (hs : ops'.size = ops.size) (h : ∀ i : Nat, (ops'[i]?).map (·.after) = (ops[i]?).map (·.after)) (listed : Array Bool) : Region.ready md ops' listed = Region.ready md ops listed := by
  unfold Region.ready
  rw [hs]
  refine List.filter_congr fun i _ => ?_
  have := h i
  cases h1 : ops'[i]? <;> cases h2 : ops[i]? <;> simp [h1, h2] at this ⊢
  rw [this]

/-- Edges go back. -/
def backB (ops : Array Oper) : Bool := (List.range ops.size).all fun j => (ops[j]?).any fun o => o.after.all fun e => decide (e.on < j)

theorem some_ready {ops : Array Oper} (hb : backB ops = true) {listed : Array Bool} (hsz : listed.size = ops.size) : ∀ k, k < ops.size → listed.getD k true = false → Region.ready md ops listed ≠ [] := by
  intro k
  induction k using Nat.strongRecOn with
  | _ k ih =>
    intro hk hl hn
    by_cases hall : ∃ j, j < k ∧ listed.getD j true = false
    · obtain ⟨j, hj, hlj⟩ := hall
      exact ih j hj (by omega) hlj hn
    · have hok : ops[k]? = some ops[k] := Array.getElem?_eq_getElem hk
      have : k ∈ Region.ready md ops listed := by
        refine mem_ready.2 ⟨hl, ops[k], hok, fun e he _ => ?_⟩
        have h1 := List.all_eq_true.1 hb k (List.mem_range.2 hk)
        rw [hok] at h1
        simp only [Option.any_some] at h1
        have h2 := Array.all_eq_true'.1 h1 e he
        simp only [decide_eq_true_eq] at h2
        cases h3 : listed.getD e.on true
        · exact absurd ⟨e.on, h2, h3⟩ hall
        · have : e.on < listed.size := by omega
          simp [this] at h3 ⊢
          exact h3
      rw [hn] at this
      cases this

theorem wpOp_same {ops ops' : Array Oper} {i : Nat} {Q : Exit → Act → World → Prop} {K : Act → World → Prop} {a : Act} {w : World} (h : ops'[i]? = ops[i]?) (hy : yielded ops' a.tmps = yielded ops a.tmps)
    (hh : wpOp P ops' Q i K a w) : wpOp P ops Q i K a w := by
  unfold wpOp at *
  rw [h, hy] at hh
  exact hh

theorem count_listed {listed : Array Bool} {i : Nat} (h : listed.getD i true = false) : (listed.setIfInBounds i true).toList.count false + 1 = listed.toList.count false := by
  rw [Array.toList_setIfInBounds]
  refine count_set ?_
  rcases Nat.lt_or_ge i listed.size with h' | h'
  · simp [h'] at h ⊢; exact h
  · simp [Array.getElem?_eq_none h'] at h

theorem wpAny_qtail {ops : Array Oper} {n : Nat} {o : Oper} (hn : ops.size = n + 1) (ho : ops[n]? = some o) (hdst : o.dst = none) (hs : Region.sinkB md ops n = true) (hc : Region.chainB md ops n = true) (hb : backB ops = true)
    {Q : Act → Prop} {Q' : Exit → Act → World → Prop} (hlast : ∀ a w, C w → Q a → wpOp P ops Q' n (Q' .normal) a w) :
    ∀ (fuel : Nat) (listed : Array Bool) (a : Act) (w : World), C w → HeadInv md ops n listed → listed.toList.count false = fuel → wpAnyQ P md (ops.setIfInBounds n (idle o)) C Q fuel listed a → wpAny P md ops Q' fuel listed a w := by
  have hsame : ∀ i : Nat, i ≠ n → (ops.setIfInBounds n (idle o))[i]? = ops[i]? := fun i hi => Array.getElem?_setIfInBounds_ne (fun e => hi e.symm)
  have hat : (ops.setIfInBounds n (idle o))[n]? = some (idle o) := by simp [hn]
  have hafter : ∀ i : Nat, ((ops.setIfInBounds n (idle o))[i]?).map (·.after) = (ops[i]?).map (·.after) := fun i => by
    by_cases hi : i = n
    · subst hi; rw [hat, ho]; rfl
    · rw [hsame i hi]
  have hready : ∀ listed, Region.ready md (ops.setIfInBounds n (idle o)) listed = Region.ready md ops listed := ready_same (by simp) hafter
  have hyield : ∀ tmps, yielded (ops.setIfInBounds n (idle o)) tmps = yielded ops tmps := fun tmps => by
    funext j
    unfold yielded
    by_cases hj : j = n
    · subst hj; rw [hat, ho]; rfl
    · rw [hsame j hj]
  intro fuel
  induction fuel with
  | zero =>
    intro listed a w _ inv hcnt _
    have := count_listed (inv.tail n (Nat.le_refl _) (by omega))
    omega
  | succ f ih =>
    intro listed a w hC inv hcnt h
    obtain ⟨_, h2⟩ := h
    refine ⟨fun h0 => absurd h0 (some_ready hb inv.size n (by omega) (inv.tail n (Nat.le_refl _) (by omega))), fun i hi => ?_⟩
    have h3 := h2 i (by rw [hready]; exact hi)
    have hun := (mem_ready.1 hi).1
    have hcl := count_listed hun
    rcases Nat.lt_or_ge i n with hin | hin
    · refine wpOp_same (hsame i (by omega)) (hyield _) (wpOp_of_qOp hC (fun a' w' hC' hK => ih _ a' w' hC' (inv.set hi hin) (by omega) hK) h3)
    · obtain ⟨_, o', ho', _⟩ := mem_ready.1 hi
      have hisz := (Array.getElem?_eq_some_iff.1 ho').1
      obtain rfl : i = n := by omega
      have hall : ∀ j, j < i → listed.getD j true = true := fun j hj => by
        cases hl : listed.getD j true
        · exact absurd hi (tail_waits hs hc (by omega) inv _ j rfl hj hl i (Nat.le_refl _))
        · rfl
      have hnone : Region.ready md ops (listed.setIfInBounds i true) = [] := by
        rw [List.eq_nil_iff_forall_not_mem]
        intro j hj
        obtain ⟨hj1, oj, hoj, _⟩ := mem_ready.1 hj
        have hjs := (Array.getElem?_eq_some_iff.1 hoj).1
        by_cases hji : j = i
        · subst hji; simp [inv.size, hn] at hj1
        · rw [getD_set_ne true (fun e => hji e.symm), hall j (by omega)] at hj1; cases hj1
      have hQ : Q a := by
        have hK : wpAnyQ P md (ops.setIfInBounds i (idle o)) C Q f (listed.setIfInBounds i true) a := by
          unfold qOp at h3
          rw [hat] at h3
          simp only at h3
          split at h3
          · obtain ⟨v, _, h4⟩ := h3
            rwa [show (idle o).dst = none from hdst] at h4
          · rwa [show (idle o).dst = none from hdst] at h3
        cases f with
        | zero => exact hK.2
        | succ f => exact hK.1 (by rw [hready]; exact hnone)
      refine wpOp_mono (fun a' w' hq => ?_) (hlast a w hC hQ)
      cases f with
      | zero => exact ⟨hnone, hq⟩
      | succ f => exact ⟨fun _ => hq, fun j hj => by rw [hnone] at hj; cases hj⟩

def qtailB (l : List Oper) (n : Nat) : Bool :=
  match l[n]? with
  | none => false
  | some o => decide (l.length = n + 1) && o.dst.isNone && Region.sinkB .any l.toArray n && Region.chainB .any l.toArray n && backB l.toArray && Region.lexB .any (l.set n (idle o)).toArray

theorem wp_region_qtail {id : Nat} {Q : Exit → Act → World → Prop} {a : Act} {w : World} {l : List Oper} (n : Nat) (o : Oper) (ho : l[n]? = some o) (hm : P.follows .mixedOrders = true) (hB : qtailB l n = true) (hC : C { w with drawn := w.drawn + 1 })
    (h : wpQuiet P (l.set n (idle o)).toArray C (fun a' => ∀ w', C w' → wpList P l.toArray Q [o] a' w') (l.set n (idle o)) a) : (Code.region id l.toArray true).wp P Q a w := by
  unfold qtailB at hB
  rw [ho] at hB
  simp only [Bool.and_eq_true, decide_eq_true_eq, Option.isNone_iff_eq_none] at hB
  obtain ⟨⟨⟨⟨⟨hn, hd⟩, hs⟩, hc⟩, hb⟩, hlex⟩ := hB
  simp only [Region.lexB, Bool.and_eq_true] at hlex
  have hn' : l.toArray.size = n + 1 := by simpa using hn
  have ho' : l.toArray[n]? = some o := by simpa using ho
  have inv0 : HeadInv .any l.toArray n (Array.replicate l.toArray.size false) :=
    ⟨by simp, fun j oj _ hl => (by rw [getD_replicate_false] at hl; cases hl), fun t _ ht => getD_in (by simpa using ht) (getD_replicate_false _ _)⟩
  have H := wpAnyQ_lex (P := P) (C := C) (md := .any) hlex.1 (l.set n (idle o)) 0 (Array.replicate (l.set n (idle o)).toArray.size false) a (by simp) (by simpa using hlex.2) h
  refine wp_region_any hm (wpAny_qtail hn' ho' hd hs hc hb (Q := fun a' => ∀ w', C w' → wpList P l.toArray Q [o] a' w') (fun a' w' hC' hq => ?_) _ _ _ _ hC inv0 (by simp) ?_)
  · have := hq w' hC'
    unfold wpOp
    simp only [ho']
    exact this
  · simpa using H

/-- The class of worlds with further blocks and draws. -/
theorem wp_region_qext {id : Nat} {Q : Exit → Act → World → Prop} {a : Act} {w : World} {l : List Oper} (n : Nat) (o : Oper) (ho : l[n]? = some o) (hm : P.follows .mixedOrders = true) (hB : qtailB l n = true)
    (h : wpQuiet P (l.set n (idle o)).toArray (fun w' => ∃ X, w' = w.ext X) (fun a' => ∀ w', (∃ X, w' = w.ext X) → wpList P l.toArray Q [o] a' w') (l.set n (idle o)) a) : (Code.region id l.toArray true).wp P Q a w :=
  wp_region_qtail (C := fun w' => ∃ X, w' = w.ext X) n o ho hm hB (below_ext (w' := w.drew) (Below.refl _ _).drew) h

theorem ext_frozen {w : World} {b o : Nat} {v : Bool} (hb : b < w.heap.size) (h : w.frozen? ⟨b, o, none⟩ = v) (X : World) : (w.ext X).frozen? ⟨b, o, none⟩ = v := by
  rw [(bcell (ext_below w X)).2 b o hb]; exact h

end
end Go.Proofs.Ytgpkdfefgcpbiaa
