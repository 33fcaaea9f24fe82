/-
  A struct of three cells that is laid in a new block field by field. Conditions: none.
-/
import Derived.Test.YtjlnaiifegjneaaLawCode
import Derived.Deep.RegionHeld3
namespace Go.Proofs.Ytjlnaiifegjneaa
open Go Go.RowKit

/-- The world behind a new variable of three cells and the three stores into it. -/
theorem box3 (w : World) (T : TypeId) (i0 i1 i2 a b c : Value) :
    Below w.heap.size w ((((w.alloc (.cells #[i0, i1, i2] T)).setCell ⟨w.heap.size, 0, none⟩ a).setCell ⟨w.heap.size, 1, none⟩ b).setCell ⟨w.heap.size, 2, none⟩ c) ∧
    Blk ((((w.alloc (.cells #[i0, i1, i2] T)).setCell ⟨w.heap.size, 0, none⟩ a).setCell ⟨w.heap.size, 1, none⟩ b).setCell ⟨w.heap.size, 2, none⟩ c) w.heap.size [a, b, c] ∧
    ((((w.alloc (.cells #[i0, i1, i2] T)).setCell ⟨w.heap.size, 0, none⟩ a).setCell ⟨w.heap.size, 1, none⟩ b).setCell ⟨w.heap.size, 2, none⟩ c).heap.size = w.heap.size + 1 := by
  refine ⟨by go_grown, ?_, by simp⟩
  exact (((Blk.new w [i0, i1, i2] T).set (j := 0) a).set (j := 1) b).set (j := 2) c

/-- Where a walk stands behind such stores: a world of which this alone is asked. -/
theorem Code.rowOf {w : World} {lo hi : Nat} {v1 v2 v3 : Value} {c : LCode} (h : CodeOwn w lo hi (.agg #[v1, v2, v3]) c) : ∃ a1 k1 a2 k2 a3 k3, v1 = .slice a1 c.vars.length k1 ∧ v2 = .slice a2 c.arrays.length k2 ∧ v3 = .slice a3 c.list.length k3 := by
  obtain ⟨u1, u2, u3, he, h1, h2, h3, -⟩ := h
  simp only [Value.agg.injEq, Array.mk.injEq, List.cons.injEq, and_true] at he
  obtain ⟨rfl, rfl, rfl⟩ := he
  obtain ⟨a1, k1, e1⟩ := h1.form
  obtain ⟨a2, k2, e2⟩ := h2.form
  obtain ⟨a3, k3, e3⟩ := h3.form
  exact ⟨a1, k1, a2, k2, a3, k3, e1, e2, e3⟩

theorem below_step {B : Nat} {w w1 w2 : World} (k : Below w1.heap.size w1 w2) (h : Below B w w1) (hB : B ≤ w.heap.size) : Below B w w2 :=
  h.trans (k.mono (Nat.le_trans hB h.size))
theorem cells3 {w : World} {b : Nat} {x y z : Value} (L : Blk w b [x, y, z]) : ∀ W', Below w.heap.size w W' → W'.cell? ⟨b, 0, none⟩ = some x ∧ W'.cell? ⟨b, 1, none⟩ = some y ∧ W'.cell? ⟨b, 2, none⟩ = some z := by
  intro W' hb
  have L' := L.below hb L.lt
  exact ⟨by simpa using L'.cell 0, by simpa using L'.cell 1, by simpa using L'.cell 2⟩

end Go.Proofs.Ytjlnaiifegjneaa
