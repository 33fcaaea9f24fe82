/-
  The laws' helpers on slices of instructions, a contract each. Conditions: the arguments are slices of instructions.
-/
import Derived.Test.YtooifghhgnlcoaaDoorLawInt
import Derived.Test.YtooifghhgnlcoaaDoorPure0
import Derived.StillTailTactics
namespace Go.Proofs.YtooifghhgnlcoaaDoor
set_option linter.unusedVariables false
set_option linter.unusedSimpArgs false
open Go Go.RowKit

theorem insTake (l : List LIns) (k : Nat) (h : k < l.length) : (ints (insF l)).take (k * 5 + 5) = (ints (insF l)).take (k * 5) ++ [.int .i64 l[k].op, .int .i64 l[k].a, .int .i64 l[k].b, .int .i64 l[k].c, .int .i64 l[k].d] := by
  have e := insF_take l (k + 1)
  rw [take_succ_get l k h, insF_append, insF_take, Nat.succ_mul] at e
  have e2 := congrArg (List.map (Value.int .i64)) e
  simp only [ints, List.map_take, List.map_append] at e2 ⊢
  rw [← e2]
  rfl
abbrev InsRow (w : World) (v : Value) (l : List LIns) : Prop := Row w v l.length 5 (ints (insF l))

theorem Row.ins {w : World} {v : Value} {l : List LIns} (h : InsRow w v l) : ∃ a cap, v = .slice a l.length cap ∧ l.length ≤ cap ∧ l.length ≤ 9223372036854775807 ∧ cap ≤ 9223372036854775807 ∧
    ∀ i (hi : i < l.length), ∃ b off, a = some ⟨b, off, none⟩ ∧ b < w.heap.size ∧ w.cell? ⟨b, off + i * 5, none⟩ = some (.int .i64 l[i].op) ∧ w.cell? ⟨b, off + i * 5 + 1, none⟩ = some (.int .i64 l[i].a) ∧
      w.cell? ⟨b, off + i * 5 + 2, none⟩ = some (.int .i64 l[i].b) ∧ w.cell? ⟨b, off + i * 5 + 3, none⟩ = some (.int .i64 l[i].c) ∧ w.cell? ⟨b, off + i * 5 + 4, none⟩ = some (.int .i64 l[i].d) := by
  obtain ⟨a, cap, h0, h1, h2, h3, h4⟩ := h.open
  refine ⟨a, cap, h0, h1, h2, h3, fun i hi => ?_⟩
  obtain ⟨b, off, e, hb, hc⟩ := h4 i hi
  obtain ⟨g0, g1, g2, g3, g4⟩ := insF_get l i hi
  have c0 := hc 0 (by omega)
  have c1 := hc 1 (by omega)
  have c2 := hc 2 (by omega)
  have c3 := hc 3 (by omega)
  have c4 := hc 4 (by omega)
  simp only [Nat.add_zero, List.getElem?_map, g0, g1, g2, g3, g4, Option.map_some] at c0 c1 c2 c3 c4
  exact ⟨b, off, e, hb, c0, c1, c2, c3, c4⟩

abbrev LIns.v (x : LIns) : Value := .agg #[.int .i64 x.op, .int .i64 x.a, .int .i64 x.b, .int .i64 x.c, .int .i64 x.d]







theorem ints_take5 (l : List Int) (p : Nat) (h : p + 5 ≤ l.length) : (ints l).take (p + 5) = (ints l).take p ++ [.int .i64 (l[p]'(by omega)), .int .i64 (l[p + 1]'(by omega)), .int .i64 (l[p + 2]'(by omega)), .int .i64 (l[p + 3]'(by omega)), .int .i64 (l[p + 4]'(by omega))] := by
  have hl : (ints l).length = l.length := by simp
  rw [take_succ_get (ints l) (p + 4) (by omega), take_succ_get (ints l) (p + 3) (by omega), take_succ_get (ints l) (p + 2) (by omega), take_succ_get (ints l) (p + 1) (by omega), take_succ_get (ints l) p (by omega)]
  simp



end Go.Proofs.YtooifghhgnlcoaaDoor
