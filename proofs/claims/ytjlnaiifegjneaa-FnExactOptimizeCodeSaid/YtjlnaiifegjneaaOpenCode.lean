/-
  Code that came in. Conditions: it can be read as data.
-/
import Derived.Test.YtjlnaiifegjneaaOpen
import Derived.Test.YtjlnaiifegjneaaLawCode
namespace Go.Proofs.Ytjlnaiifegjneaa
open Go Go.RowKit Go.ChangeShapes Go.WideShapes Go.Deep
section
variable {H : Type} {enc : TypeId × Value → H} {W : World}

theorem flat_ins (n : Nat) (C : Nat → List Value) (g : Nat → LIns) (h : ∀ i, i < n → C i = ints (g i).l) : (List.range n).flatMap C = ints (insF ((List.range n).map g)) := by
  have key : ∀ l : List Nat, (∀ i ∈ l, C i = ints (g i).l) → l.flatMap C = ints (insF (l.map g)) := by
    intro l
    induction l with
    | nil => intro _; rfl
    | cons x r ih =>
      intro hl
      rw [List.flatMap_cons, List.map_cons, ih (fun i hi => hl i (List.mem_cons_of_mem _ hi)), hl x List.mem_cons_self]
      simp [ints, insF, LIns.l]
  exact key _ fun i hi => h i (by simpa using hi)

instance : Inhabited LIns := ⟨⟨0, 0, 0, 0, 0⟩⟩

theorem ins_of_trod {fuel : Nat} {t : TypeId} {v : Value} {x : DataW H × List MemPlace} (ht : Try.prog.underlying t = some (.slice 95))
    (h : DataW.trod enc Try.prog W 0 (fun _ => true) true fuel t [v] = some x) : ∃ l : List LIns, InsRow W v l := by
  obtain ⟨n, m, C, hr, hC, hx⟩ := row_of_trod ht (sz := 5) (by kernel_rfl) (by omega) h
  obtain ⟨g, hg⟩ := choose_lt (α := LIns) (n := n) (p := fun i b => C i = ints b.l) (fun i hi => by
    obtain ⟨y, hy⟩ := hx i hi
    obtain ⟨ys, k, _, _, _, hys, hf⟩ := DataW.trod_struct Try.underlying95 hy
    have hl := hC i
    match hci : C i, hl with
    | [c0, c1, c2, c3, c4], _ =>
      rw [hci] at hf
      have key : ∀ (j : Nat) (f : Field) (c : Value), j < 5 → (#[⟨ "Op", 3, 0, false, "", "", 0⟩, ⟨ "A", 3, 1, false, "", "", 8⟩, ⟨ "B", 3, 2, false, "", "", 16⟩, ⟨ "C", 3, 3, false, "", "", 24⟩, ⟨ "D", 3, 4, false, "", "", 32⟩] : Array Field)[j]? = some f → f.type = 3 → ([c0, c1, c2, c3, c4].drop f.offset).take 1 = [c] → ∃ b : Int, c = .int .i64 b := by
        intro j f c hj hfj hft hcc
        have h1 := hf j f hfj
        rw [hft, show Try.prog.cellsOf 3 = 1 from by kernel_rfl, hcc] at h1
        rw [List.getElem?_eq_getElem (by rw [hys]; exact hj)] at h1
        obtain ⟨b, hb, _⟩ := DataW.trod_int Try.underlying3 h1
        simp at hb
        exact ⟨b, hb⟩
      obtain ⟨b0, rfl⟩ := key 0 _ c0 (by omega) rfl rfl rfl
      obtain ⟨b1, rfl⟩ := key 1 _ c1 (by omega) rfl rfl rfl
      obtain ⟨b2, rfl⟩ := key 2 _ c2 (by omega) rfl rfl rfl
      obtain ⟨b3, rfl⟩ := key 3 _ c3 (by omega) rfl rfl rfl
      obtain ⟨b4, rfl⟩ := key 4 _ c4 (by omega) rfl rfl rfl
      exact ⟨⟨b0, b1, b2, b3, b4⟩, rfl⟩)
  refine ⟨(List.range n).map g, ?_⟩
  unfold InsRow
  rw [List.length_map, List.length_range, ← flat_ins n C g hg]
  exact hr

set_option maxRecDepth 100000 in
theorem code_of_trod {r : Reach} {b0 : Nat} {v : Value} {d : DataW H} {p : List MemPlace} (hv : Value.okWide Try.prog W r b0 31 v)
    (h : DataW.Trod enc Try.prog W 0 (fun _ => true) true 31 v d p) : ∃ c : LCode, CodeRow W v c := by
  obtain ⟨v0, v1, v2, y0, y1, y2, n, rfl, -, -, h0, h1, h2⟩ := Joins.open_agg3 Try.underlying31 (by kernel_rfl) (by kernel_rfl) hv h
  obtain ⟨l0, r0⟩ := ints_of_trod Try.underlying28 h0
  obtain ⟨l1, r1⟩ := ints_of_trod Try.underlying28 h1
  obtain ⟨l2, r2⟩ := ins_of_trod Try.underlying29 h2
  exact ⟨⟨l0, l1, l2⟩, _, _, _, rfl, r0, r1, r2⟩
end
end Go.Proofs.Ytjlnaiifegjneaa
