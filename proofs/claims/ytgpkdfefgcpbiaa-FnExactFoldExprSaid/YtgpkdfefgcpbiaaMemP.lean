/-
  Resources in another order. Conditions: none.
-/
import Derived.Test.YtgpkdfefgcpbiaaMem
namespace Go.Proofs.Ytgpkdfefgcpbiaa
set_option linter.unusedVariables false
set_option linter.unusedSimpArgs false
open Go Go.RowKit

theorem Mem.perm {φ ψ : Nat → Prop} {w0 w : World} {L L' : List Res} (M : Mem φ ψ w0 w L) (h : L.Perm L') : Mem φ ψ w0 w L' := by
  have hp : L.Pairwise fun a b => ∀ g, a.blk g → ¬ b.blk g := List.pairwise_iff_getElem.2 fun i j hi hj hij g ha hb => M.dis i j _ _ g (List.getElem?_eq_getElem hi) (List.getElem?_eq_getElem hj) (by omega) ha hb
  have hp' : L'.Pairwise fun a b => ∀ g, a.blk g → ¬ b.blk g := (h.pairwise_iff fun {_ _} h g ha hb => h g hb ha).1 hp
  have hg := List.pairwise_iff_getElem.1 hp'
  refine ⟨M.kept, M.fresh, fun r hr => Res.keep (M.holds r (h.mem_iff.2 hr)) (Agr.mono fun _ _ hf => ⟨hf.1, fun x hx => hf.2 x (h.mem_iff.2 hx)⟩) fun _ _ => rfl, fun i j a b g hi hj hij ha hb => ?_, fun r b hr => M.ge r b (h.mem_iff.2 hr)⟩
  obtain ⟨hi1, rfl⟩ := List.getElem?_eq_some_iff.1 hi
  obtain ⟨hj1, rfl⟩ := List.getElem?_eq_some_iff.1 hj
  rcases Nat.lt_or_ge i j with hlt | hlt
  · exact hg i j hi1 hj1 hlt g ha hb
  · exact hg j i hj1 hi1 (by omega) g hb ha
theorem Mem.mid {φ ψ : Nat → Prop} {w0 w : World} {B LC : List Res} {x : Res} (M : Mem φ ψ w0 w (B ++ ([] ++ LC) ++ [x])) : Mem φ ψ w0 w (B ++ ([x] ++ LC)) :=
  M.perm (by rw [List.nil_append, List.append_assoc]; exact List.Perm.append_left _ List.perm_append_comm)
theorem Mem.assoc3 {φ ψ : Nat → Prop} {w0 w : World} {B LB LC : List Res} {x : Res} (M : Mem φ ψ w0 w (B ++ (LB ++ LC) ++ [x])) : Mem φ ψ w0 w (B ++ (LB ++ (LC ++ [x]))) := by
  simpa [List.append_assoc] using M
theorem Mem.own' {φ ψ : Nat → Prop} {w0 w : World} {L : List Res} (M : Mem φ ψ w0 w L) {S : Nat → Prop} {R : World → Prop} (h : Res.own S R ∈ L) : R w := (M.holds _ h).2.1
/-- Some of the resources. -/
theorem Mem.sub {φ ψ : Nat → Prop} {w0 w : World} {L L' : List Res} (M : Mem φ ψ w0 w L) (h : L'.Sublist L) : Mem φ ψ w0 w L' := by
  have hp : L.Pairwise fun a b => ∀ g, a.blk g → ¬ b.blk g := List.pairwise_iff_getElem.2 fun i j hi hj hij g ha hb => M.dis i j _ _ g (List.getElem?_eq_getElem hi) (List.getElem?_eq_getElem hj) (by omega) ha hb
  have hg := List.pairwise_iff_getElem.1 (hp.sublist h)
  refine ⟨M.kept, M.fresh, fun r hr => Res.keep (M.holds r (h.subset hr)) (Agr.mono fun _ _ hf => ⟨hf.1, fun x hx => hf.2 x (h.subset hx)⟩) fun _ _ => rfl, fun i j a b g hi hj hij ha hb => ?_, fun r b hr => M.ge r b (h.subset hr)⟩
  obtain ⟨hi1, rfl⟩ := List.getElem?_eq_some_iff.1 hi
  obtain ⟨hj1, rfl⟩ := List.getElem?_eq_some_iff.1 hj
  rcases Nat.lt_or_ge i j with hlt | hlt
  · exact hg i j hi1 hj1 hlt g ha hb
  · exact hg j i hj1 hi1 (by omega) g hb ha

end Go.Proofs.Ytgpkdfefgcpbiaa
