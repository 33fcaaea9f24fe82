/-
  Expressions, statements and programs that came in. Conditions: they can be read as data.
-/
import Derived.Test.YtgpkdfefgcpbiaaOpen
import Derived.Test.YtgpkdfefgcpbiaaTree1
namespace Go.Proofs.Ytgpkdfefgcpbiaa
set_option linter.unusedVariables false
set_option linter.unusedSimpArgs false
open Go Go.RowKit Go.ChangeShapes Go.WideShapes Go.Deep
section
variable {H : Type} {enc : TypeId × Value → H} {W : World}

/-- A slice that reads as data: its row of cells; each element reads, with less fuel. -/
theorem row_of_trod_lt {t e : TypeId} {fuel : Nat} {v : Value} {x : DataW H × List MemPlace} {sz : Nat} (ht : Try.prog.underlying t = some (.slice e)) (hc : Try.prog.cellsOf e = sz) (hsz : 0 < sz)
    (h : DataW.trod enc Try.prog W 0 (fun _ => true) true fuel t [v] = some x) :
    ∃ (n m : Nat) (C : Nat → List Value), Row W v n sz ((List.range n).flatMap C) ∧ (∀ i, (C i).length = sz) ∧ ∀ i, i < n → m < fuel ∧ ∃ y, DataW.trod enc Try.prog W 0 (fun _ => true) true m e (C i) = some y := by
  rcases DataW.trod_slice ht h with ⟨hcs, _⟩ | ⟨a, len, cap, elems, rest, k, hfu, hcs, _, hb, hl, hm, hlen, hel, _, _⟩
  · cases hcs
    exact ⟨0, 0, fun _ => List.replicate sz undef, Row.nil _ _, by simp, fun i hi => by omega⟩
  · cases hcs
    rw [hc] at hel
    obtain ⟨C, hC⟩ := choose_lt (α := List Value) (n := len) (p := fun i cs => cs.length = sz ∧ (∀ j, j < sz → W.cell? (a.add (i * sz + j)) = cs[j]?) ∧ ∃ y, DataW.trod enc Try.prog W 0 (fun _ => true) true k e cs = some y) (fun i hi => by
      have h0 := hel i hi
      rw [List.getElem?_eq_getElem (by omega)] at h0
      obtain ⟨cs', h1, h2⟩ := Option.bind_eq_some_iff.1 h0
      obtain ⟨_, hlen, hcell⟩ := World.cells?_some h1
      exact ⟨cs', hlen, fun j hj => by rw [← add_add]; exact hcell j hj, _, h2⟩)
    let C' : Nat → List Value := fun i => if i < len then C i else List.replicate sz undef
    have hC' : ∀ i, (C' i).length = sz := fun i => by
      by_cases hi : i < len
      · simp only [C', if_pos hi]; exact (hC i hi).1
      · simp [C', if_neg hi]
    refine ⟨len, k, C', ⟨flat_len hC' len, some a, cap, rfl, hl, hm, fun hn => ?_⟩, hC', fun i hi => ?_⟩
    · obtain ⟨b, off, spot⟩ := a
      have h00 := (hC 0 hn).2.1 0 hsz
      have hlen0 := (hC 0 hn).1
      rw [List.getElem?_eq_getElem (by omega)] at h00
      have hs : spot = none := by
        simpa [Addr.add] using World.cell?_spot h00
      subst hs
      have hb : b < W.heap.size := by simpa [Addr.add] using World.block_lt_of_cell? W _ h00
      refine ⟨b, off, rfl, hb, fun j u hj => ?_⟩
      have hjl : j < len * sz := by have := (List.getElem?_eq_some_iff.1 hj).1; rw [flat_len hC'] at this; exact this
      have hi : j / sz < len := Nat.div_lt_of_lt_mul (by rw [Nat.mul_comm]; exact hjl)
      have hr : j % sz < sz := Nat.mod_lt _ hsz
      have hjj : j / sz * sz + j % sz = j := Nat.div_add_mod' j sz
      have hg := flat_get hC' len (j / sz) (j % sz) hi hr
      rw [hjj, hj] at hg
      have hcc := (hC _ hi).2.1 _ hr
      simp only [C', if_pos hi] at hg
      rw [hjj, ← hg] at hcc
      have hadd : (⟨b, off, none⟩ : Addr).add j = ⟨b, off + j, none⟩ := by unfold Addr.add; split <;> simp_all
      rw [hadd] at hcc
      exact hcc
    · obtain ⟨y, hy⟩ := (hC i hi).2.2
      exact ⟨by omega, y, by simp only [C', if_pos hi]; exact hy⟩

instance : Inhabited LExpr := ⟨⟨0, 0, []⟩⟩
instance : Inhabited LStmt := ⟨⟨0, 0, ⟨0, 0, []⟩, ⟨0, 0, []⟩, 0, [], []⟩⟩
theorem exprsC_range {w : World} {φ : Nat → Prop} (C : Nat → List Value) (g : Nat → LExpr) : ∀ l : List Nat, (∀ i ∈ l, ExprC w φ (g i) (C i)) → ExprsC w φ (l.map g) (l.flatMap C)
  | [], _ => rfl
  | a :: r, h => ⟨C a, r.flatMap C, rfl, h a List.mem_cons_self, exprsC_range C g r fun i hi => h i (List.mem_cons_of_mem _ hi)⟩
theorem stmtsC_range {w : World} {φ : Nat → Prop} (C : Nat → List Value) (g : Nat → LStmt) : ∀ l : List Nat, (∀ i ∈ l, StmtC w φ (g i) (C i)) → StmtsC w φ (l.map g) (l.flatMap C)
  | [], _ => rfl
  | a :: r, h => ⟨C a, r.flatMap C, rfl, h a List.mem_cons_self, stmtsC_range C g r fun i hi => h i (List.mem_cons_of_mem _ hi)⟩

set_option maxRecDepth 100000 in
theorem expr_of_trod : ∀ (fuel : Nat) (cs : List Value) (x : DataW H × List MemPlace), DataW.trod enc Try.prog W 0 (fun _ => true) true fuel 37 cs = some x → ∃ e, ExprC W (fun _ => True) e cs := by
  intro fuel
  induction fuel using Nat.strongRecOn with
  | ind fuel ih =>
    intro cs x h
    obtain ⟨ys, k, hfu, _, hl, hys, hf⟩ := DataW.trod_struct Try.underlying37 h
    rw [show Try.prog.cellsOf 37 = 3 from by kernel_rfl] at hl
    match cs, hl with
    | [c0, c1, c2], _ =>
      have h0 := hf 0 _ rfl
      have h1 := hf 1 _ rfl
      have h2 := hf 2 _ rfl
      rw [List.getElem?_eq_getElem (by rw [hys]; decide)] at h0 h1 h2
      have e0 := DataW.trod_int Try.underlying3 ((show Try.prog.cellsOf 3 = 1 from by kernel_rfl) ▸ h0)
      have e1 := DataW.trod_int Try.underlying3 ((show Try.prog.cellsOf 3 = 1 from by kernel_rfl) ▸ h1)
      have e2 := row_of_trod_lt (v := c2) Try.underlying35 (sz := 3) (by kernel_rfl) (by omega) ((show Try.prog.cellsOf 35 = 1 from by kernel_rfl) ▸ h2)
      obtain ⟨b0, hb0, _⟩ := e0
      obtain ⟨b1, hb1, _⟩ := e1
      obtain ⟨n, m, C, hr, hC, hx⟩ := e2
      simp at hb0 hb1
      obtain ⟨g, hg⟩ := choose_lt (α := LExpr) (n := n) (p := fun i e => ExprC W (fun _ => True) e (C i)) (fun i hi => by
        obtain ⟨hm, y, hy⟩ := hx i hi
        exact ih m (by omega) _ _ hy)
      refine ⟨⟨b0, b1, (List.range n).map g⟩, c2, _, by rw [hb0, hb1], ?_, exprsC_range C g (List.range n) fun i hi => hg i (by simpa using hi)⟩
      rw [List.length_map, List.length_range]
      exact hr.rowF fun _ _ => trivial

theorem kids_of_trod {fuel : Nat} {v : Value} {x : DataW H × List MemPlace} (h : DataW.trod enc Try.prog W 0 (fun _ => true) true fuel 35 [v] = some x) : ∃ ks, KidsV W (fun _ => True) v ks := by
  obtain ⟨n, m, C, hr, hC, hx⟩ := row_of_trod_lt Try.underlying35 (sz := 3) (by kernel_rfl) (by omega) h
  obtain ⟨g, hg⟩ := choose_lt (α := LExpr) (n := n) (p := fun i e => ExprC W (fun _ => True) e (C i)) (fun i hi => by
    obtain ⟨hm, y, hy⟩ := hx i hi
    exact expr_of_trod m _ _ hy)
  refine ⟨(List.range n).map g, _, ?_, exprsC_range C g (List.range n) fun i hi => hg i (by simpa using hi)⟩
  rw [List.length_map, List.length_range]
  exact hr.rowF fun _ _ => trivial
set_option maxRecDepth 100000 in
theorem stmt_of_trod : ∀ (fuel : Nat) (cs : List Value) (x : DataW H × List MemPlace), DataW.trod enc Try.prog W 0 (fun _ => true) true fuel 139 cs = some x → ∃ s, StmtC W (fun _ => True) s cs := by
  intro fuel
  induction fuel using Nat.strongRecOn with
  | ind fuel ih =>
    intro cs x h
    obtain ⟨ys, k, hfu, _, hl, hys, hf⟩ := DataW.trod_struct Try.underlying139 h
    rw [show Try.prog.cellsOf 139 = 11 from by kernel_rfl] at hl
    match cs, hl with
    | [c0, c1, c2, c3, c4, c5, c6, c7, c8, c9, c10], _ =>
      have h0 := hf 0 _ rfl
      have h1 := hf 1 _ rfl
      have h2 := hf 2 _ rfl
      have h3 := hf 3 _ rfl
      have h4 := hf 4 _ rfl
      have h5 := hf 5 _ rfl
      have h6 := hf 6 _ rfl
      rw [List.getElem?_eq_getElem (by rw [hys]; decide)] at h0 h1 h2 h3 h4 h5 h6
      obtain ⟨b0, hb0, _⟩ := DataW.trod_int Try.underlying3 ((show Try.prog.cellsOf 3 = 1 from by kernel_rfl) ▸ h0)
      obtain ⟨b1, hb1, _⟩ := DataW.trod_int Try.underlying3 ((show Try.prog.cellsOf 3 = 1 from by kernel_rfl) ▸ h1)
      obtain ⟨b4, hb4, _⟩ := DataW.trod_int Try.underlying3 ((show Try.prog.cellsOf 3 = 1 from by kernel_rfl) ▸ h4)
      obtain ⟨ie, hie⟩ := expr_of_trod k [c2, c3, c4] _ ((show Try.prog.cellsOf 37 = 3 from by kernel_rfl) ▸ h2)
      obtain ⟨ve, hve⟩ := expr_of_trod k [c5, c6, c7] _ ((show Try.prog.cellsOf 37 = 3 from by kernel_rfl) ▸ h3)
      obtain ⟨n, m, C, hr, hC, hx⟩ := row_of_trod_lt (v := c9) Try.underlying23 (sz := 11) (by kernel_rfl) (by omega) ((show Try.prog.cellsOf 23 = 1 from by kernel_rfl) ▸ h5)
      obtain ⟨n', m', C', hr', hC', hx'⟩ := row_of_trod_lt (v := c10) Try.underlying23 (sz := 11) (by kernel_rfl) (by omega) ((show Try.prog.cellsOf 23 = 1 from by kernel_rfl) ▸ h6)
      simp at hb0 hb1 hb4
      obtain ⟨g, hg⟩ := choose_lt (α := LStmt) (n := n) (p := fun i e => StmtC W (fun _ => True) e (C i)) (fun i hi => by
        obtain ⟨hm, y, hy⟩ := hx i hi
        exact ih m (by omega) _ _ hy)
      obtain ⟨g', hg'⟩ := choose_lt (α := LStmt) (n := n') (p := fun i e => StmtC W (fun _ => True) e (C' i)) (fun i hi => by
        obtain ⟨hm, y, hy⟩ := hx' i hi
        exact ih m' (by omega) _ _ hy)
      obtain ⟨iv, hi1, hi2⟩ := (ExprC.iff _ _).1 hie
      obtain ⟨vv, hv1, hv2⟩ := (ExprC.iff _ _).1 hve
      simp at hi1 hv1
      obtain ⟨i1, i2, i3⟩ := hi1
      obtain ⟨v1, v2, v3⟩ := hv1
      refine ⟨⟨b0, b1, ie, ve, b4, (List.range n).map g, (List.range n').map g'⟩, iv, vv, c9, c10, _, _, by rw [hb0, hb1, hb4, i1, i2, i3, v1, v2, v3], hi2, hv2, ?_, stmtsC_range C g (List.range n) fun i hi => hg i (by simpa using hi), ?_, stmtsC_range C' g' (List.range n') fun i hi => hg' i (by simpa using hi)⟩
      · rw [List.length_map, List.length_range]
        exact hr.rowF fun _ _ => trivial
      · rw [List.length_map, List.length_range]
        exact hr'.rowF fun _ _ => trivial

theorem block_of_trod {fuel : Nat} {v : Value} {x : DataW H × List MemPlace} (h : DataW.trod enc Try.prog W 0 (fun _ => true) true fuel 23 [v] = some x) : ∃ ss, BlockV W (fun _ => True) v ss := by
  obtain ⟨n, m, C, hr, hC, hx⟩ := row_of_trod_lt Try.underlying23 (sz := 11) (by kernel_rfl) (by omega) h
  obtain ⟨g, hg⟩ := choose_lt (α := LStmt) (n := n) (p := fun i e => StmtC W (fun _ => True) e (C i)) (fun i hi => by
    obtain ⟨hm, y, hy⟩ := hx i hi
    exact stmt_of_trod m _ _ hy)
  refine ⟨(List.range n).map g, _, ?_, stmtsC_range C g (List.range n) fun i hi => hg i (by simpa using hi)⟩
  rw [List.length_map, List.length_range]
  exact hr.rowF fun _ _ => trivial

set_option maxRecDepth 100000 in
theorem prog_of_trod {r : Reach} {b0 : Nat} {v : Value} {d : DataW H} {p : List MemPlace} (hv : Value.okWide Try.prog W r b0 25 v)
    (h : DataW.Trod enc Try.prog W 0 (fun _ => true) true 25 v d p) : ∃ c : LProg, ProgV W (fun _ => True) v c := by
  obtain ⟨v0, v1, v2, y0, y1, y2, n, rfl, -, -, h0, h1, h2⟩ := Joins.open_agg3 Try.underlying25 (by kernel_rfl) (by kernel_rfl) hv h
  obtain ⟨l0, r0⟩ := ints_of_trod Try.underlying22 h0
  obtain ⟨l1, r1⟩ := ints_of_trod Try.underlying22 h1
  obtain ⟨l2, r2⟩ := block_of_trod h2
  exact ⟨⟨l0, l1, l2⟩, _, _, _, rfl, r0.rowF fun _ _ => trivial, r1.rowF fun _ _ => trivial, r2⟩

set_option maxRecDepth 100000 in
theorem exprV_of_trod {r : Reach} {b0 : Nat} {v : Value} {d : DataW H} {p : List MemPlace} (hv : Value.okWide Try.prog W r b0 37 v)
    (h : DataW.Trod enc Try.prog W 0 (fun _ => true) true 37 v d p) : ∃ c : LExpr, ExprV W (fun _ => True) v c := by
  obtain ⟨v0, v1, v2, y0, y1, y2, n, rfl, -, -, h0, h1, h2⟩ := Joins.open_agg3 Try.underlying37 (by kernel_rfl) (by kernel_rfl) hv h
  obtain ⟨n0, e0, _⟩ := DataW.trod_int Try.underlying3 h0
  obtain ⟨n1, e1, _⟩ := DataW.trod_int Try.underlying3 h1
  obtain ⟨ks, r2⟩ := kids_of_trod h2
  simp at e0 e1
  exact ⟨⟨n0, n1, ks⟩, v2, by rw [e0, e1]; rfl, r2⟩
end
end Go.Proofs.Ytgpkdfefgcpbiaa
