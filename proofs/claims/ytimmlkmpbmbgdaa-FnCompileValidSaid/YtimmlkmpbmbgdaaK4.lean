/-
  Texts of this claim, part 4: what the functions on the way do, and plain laws. Conditions: as each statement says.
-/
import Derived.Laws.StructEq
import Derived.Test.YtimmlkmpbmbgdaaK3

namespace Go.Proofs.Ytimmlkmpbmbgdaa
set_option linter.unusedVariables false
set_option linter.unusedSimpArgs false
open Go Go.RowKit

section
variable {P : Program} {ι κ : Type} {φ ψ : Nat → Prop} {w0 w : World} {F : ι → Rs} {ρ ρ0 : Nat → Value} {N m n : Nat} {S : List It} {tm : List (Nat × AV)} {a : Act}

theorem It.res_ren' {σ : Nat → Nat} {i j : Nat} {ρ : Nat → Value} (x : It) (h : σ i = j) : (x.ren σ).res ρ j = x.res (fun i => ρ (σ i)) i := by
  subst h; exact It.res_ren x

def mv (i n j : Nat) : Nat := if natEq j i then n else j
theorem look_map {f : AV → AV} {t : Nat} {y : AV} : ∀ {tm : List (Nat × AV)}, look (tm.map fun p => (p.1, f p.2)) t = some y → ∃ x, look tm t = some x ∧ y = f x
  | [], h => by cases h
  | (k, z) :: r, h => by
    simp only [look, List.map_cons] at h ⊢
    split at h
    · rename_i hk; cases h; exact ⟨z, by rw [if_pos hk], rfl⟩
    · rename_i hk
      obtain ⟨x, h1, h2⟩ := look_map h
      exact ⟨x, by rw [if_neg hk]; exact h1, h2⟩
theorem ids_mv {i n : Nat} {x : AV} : ∀ j ∈ (x.ren (mv i n)).ids, (∃ k ∈ x.ids, mv i n k = j) := by
  have key : (∀ x : AV, ∀ j ∈ (x.ren (mv i n)).ids, ∃ k ∈ x.ids, mv i n k = j) ∧ (∀ l : List AV, ∀ j ∈ AV.idsL (AV.renL (mv i n) l), ∃ k ∈ AV.idsL l, mv i n k = j) := by
    have hL : ∀ (l : List AV), (∀ x ∈ l, ∀ j ∈ (x.ren (mv i n)).ids, ∃ k ∈ x.ids, mv i n k = j) → ∀ j ∈ AV.idsL (AV.renL (mv i n) l), ∃ k ∈ AV.idsL l, mv i n k = j := by
      intro l
      induction l with
      | nil => intro _ j hj; cases hj
      | cons y r ih =>
        intro h j hj
        simp only [AV.renL, AV.idsL, List.mem_append] at hj ⊢
        rcases hj with hj | hj
        · obtain ⟨k, h1, h2⟩ := h y List.mem_cons_self j hj
          exact ⟨k, .inl h1, h2⟩
        · obtain ⟨k, h1, h2⟩ := ih (fun x hx => h x (List.mem_cons_of_mem _ hx)) j hj
          exact ⟨k, .inr h1, h2⟩
    have hx : ∀ x : AV, ∀ j ∈ (x.ren (mv i n)).ids, ∃ k ∈ x.ids, mv i n k = j := fun x => goX hL x
    exact ⟨hx, fun l => hL l fun x _ => hx x⟩
  exact key.1 x
where
  goX {i n : Nat} (hL : ∀ (l : List AV), (∀ x ∈ l, ∀ j ∈ (x.ren (mv i n)).ids, ∃ k ∈ x.ids, mv i n k = j) → ∀ j ∈ AV.idsL (AV.renL (mv i n) l), ∃ k ∈ AV.idsL l, mv i n k = j) : ∀ x : AV, ∀ j ∈ (x.ren (mv i n)).ids, ∃ k ∈ x.ids, mv i n k = j
    | .v _, j, hj => by cases hj
    | .ptr a b, j, hj => ⟨a, List.mem_singleton.2 rfl, (List.mem_singleton.1 hj).symm⟩
    | .ea a b c d, j, hj => ⟨a, List.mem_singleton.2 rfl, (List.mem_singleton.1 hj).symm⟩
    | .ref a, j, hj => ⟨a, List.mem_singleton.2 rfl, (List.mem_singleton.1 hj).symm⟩
    | .tref a, j, hj => ⟨a, List.mem_singleton.2 rfl, (List.mem_singleton.1 hj).symm⟩
    | .agg l, j, hj => hL l (fun x _ => goX hL x) j hj
    | .tup l, j, hj => hL l (fun x _ => goX hL x) j hj
    | .fn _ l, j, hj => hL l (fun x _ => goX hL x) j hj
    | .bm _ l, j, hj => hL l (fun x _ => goX hL x) j hj
theorem Gam.shift (G : Gam φ ψ w0 F N m ρ0 ρ S tm a w) (i n : Nat) (S1 : List It) (tm1 : List (Nat × AV)) (hn : (natEq S.length n && decide (i < n)) = true := by kernel_rfl) (hS : S1 = (S.map (It.ren (mv i n))).set i .dead ++ [(lst S i).ren (mv i n)] := by kernel_rfl) (ht : tm1 = tm.map (fun p => (p.1, p.2.ren (mv i n))) := by kernel_rfl) :
    ∃ ρ', Gam φ ψ w0 F N m ρ0 ρ' S1 tm1 a w := by
  subst hS
  subst ht
  simp only [Bool.and_eq_true, natEq, beq_iff_eq, decide_eq_true_eq] at hn
  obtain ⟨hn, hin⟩ := hn
  have hlen : ((S.map (It.ren (mv i n))).set i .dead ++ [(lst S i).ren (mv i n)]).length = n + 1 := by simp [hn]
  have hat : ∀ j, lst ((S.map (It.ren (mv i n))).set i .dead ++ [(lst S i).ren (mv i n)]) j = if j = n then (lst S i).ren (mv i n) else if j = i then .dead else (lst S j).ren (mv i n) := fun j => by
    by_cases e : j = n
    · subst e
      rw [if_pos rfl]
      simp only [lst, List.getD_eq_getElem?_getD]
      rw [List.getElem?_append_right (by simp [hn])]
      simp [hn]
    · rw [if_neg e]
      by_cases e2 : j = i
      · subst e2
        rw [if_pos rfl]
        simp only [lst, List.getD_eq_getElem?_getD]
        rw [List.getElem?_append_left (by simp; omega)]
        simp [show j < S.length by omega]
      · rw [if_neg e2]
        simp only [lst, List.getD_eq_getElem?_getD]
        rcases Nat.lt_or_ge j n with h | h
        · rw [List.getElem?_append_left (by simp; omega), List.getElem?_set_ne (fun h => e2 h.symm), List.getElem?_map, List.getElem?_eq_getElem (by omega)]
          rfl
        · rw [List.getElem?_eq_none (by simp; omega), List.getElem?_eq_none (by omega)]; rfl
  have hbd : ∀ x : AV, (∀ j ∈ x.ids, j < n) → ∀ j ∈ (x.ren (mv i n)).ids, j < n + 1 := fun x h j hj => by
    obtain ⟨k, h1, h2⟩ := ids_mv j hj
    have := h k h1
    rw [← h2]; unfold mv
    split <;> omega
  let ρ1 : Nat → Value := fun j => if j = n then ρ i else ρ j
  have hmv : ∀ j, j < n → ρ1 (mv i n j) = ρ j := fun j hj => by
    show (if mv i n j = n then ρ i else ρ (mv i n j)) = ρ j
    by_cases e : j = i
    · subst e; simp [mv, natEq]
    · have h : mv i n j = j := by simp [mv, natEq, e]
      rw [h, if_neg (by omega)]
  have hval : ∀ x : AV, (∀ j ∈ x.ids, j < n) → (x.ren (mv i n)).val ρ1 = x.val ρ := fun x h => by
    rw [AV.val_ren]
    exact AV.val_congr x fun j hj => hmv j (h j hj)
  have hids : ∀ j, ∀ q ∈ (lst S j).ids, q < n := fun j q hq => by have := (G.bd j).1 q hq; omega
  have hitem : ∀ j, ∀ q ∈ ((lst S j).ren (mv i n)).ids, q < n + 1 := fun j q hq => by
    cases hx : lst S j with
    | box cs =>
      rw [hx] at hq
      have h1 := hids j
      rw [hx] at h1
      exact hbd (.agg cs) h1 q hq
    | _ => rw [hx] at hq; cases hq
  refine ⟨ρ1, G.size, G.defs, fun t y hy => ?_, fun t y hy j hj => ?_, fun j => ⟨fun q hq => ?_, fun hj => lst_out hj⟩, ?_, ?_, fun j hj => ?_⟩
  · obtain ⟨x, h1, rfl⟩ := look_map hy
    rw [G.tmv t x h1, hval x fun j hj => by have := G.tmi t x h1 j hj; omega]
  · obtain ⟨x, h1, rfl⟩ := look_map hy
    rw [hlen]
    exact hbd x (fun j hj => by have := G.tmi t x h1 j hj; omega) j hj
  · rw [hlen]
    rw [hat] at hq
    split at hq
    · exact hitem i q hq
    · split at hq
      · cases hq
      · exact hitem j q hq
  · refine G.mem.map (fun k : ι ⊕ Nat => (match k with | .inl q => some (.inl q) | .inr j => if j = n then some (.inr i) else if j = i then none else some (.inr j) : Option (ι ⊕ Nat))) ?_ ?_
    · intro k k' x h1 h2
      match k, k' with
      | .inl q, .inl q' => simp at h1 h2; rw [← h1] at h2; simpa using h2.symm
      | .inl q, .inr j => simp at h1; subst h1; simp at h2; split at h2 <;> simp at h2
      | .inr j, .inl q => simp at h2; subst h2; simp at h1; split at h1 <;> simp at h1
      | .inr j, .inr j' =>
        simp only at h1 h2
        by_cases e1 : j = n <;> by_cases e2 : j' = n
        · rw [e1, e2]
        · rw [if_pos e1] at h1
          rw [if_neg e2] at h2
          by_cases e3 : j' = i
          · rw [if_pos e3] at h2; cases h2
          · rw [if_neg e3] at h2
            simp at h1 h2
            rw [← h1] at h2
            exact absurd (Sum.inr.inj h2) e3
        · rw [if_pos e2] at h2
          rw [if_neg e1] at h1
          by_cases e3 : j = i
          · rw [if_pos e3] at h1; cases h1
          · rw [if_neg e3] at h1
            simp at h1 h2
            rw [← h2] at h1
            exact absurd (Sum.inr.inj h1) e3
        · rw [if_neg e1] at h1
          rw [if_neg e2] at h2
          by_cases e3 : j = i
          · rw [if_pos e3] at h1; cases h1
          · by_cases e4 : j' = i
            · rw [if_pos e4] at h2; cases h2
            · rw [if_neg e3] at h1
              rw [if_neg e4] at h2
              simp at h1 h2
              rw [← h1] at h2
              rw [Sum.inr.inj h2]
    · intro k
      match k with
      | .inl q => exact .inl ⟨_, rfl, rfl⟩
      | .inr j =>
        by_cases e : j = n
        · refine .inl ⟨.inr i, by simp [e], ?_⟩
          simp only [lay]
          rw [hat, if_pos e]
          subst e
          have h1 : mv i j i = j := by simp [mv, natEq]
          rw [It.res_ren' (lst S i) h1]
          exact It.res_congr _ (fun q hq => hmv q (hids i q hq)) (.inr (.inr (hmv i hin)))
        · by_cases e2 : j = i
          · refine .inr ?_
            simp only [lay]
            rw [hat, if_neg e, if_pos e2]
            rfl
          · refine .inl ⟨.inr j, by simp [e, e2], ?_⟩
            simp only [lay]
            rw [hat, if_neg e, if_neg e2]
            rcases Nat.lt_or_ge j n with hj | hj
            · have h1 : mv i n j = j := by simp [mv, natEq, e2]
              rw [It.res_ren' (lst S j) h1]
              exact It.res_congr _ (fun q hq => hmv q (hids j q hq)) (.inr (.inr (hmv j hj)))
            · rw [lst_out (by omega)]; rfl
  · have := G.le; rw [hlen]; omega
  · have := G.le
    show (if j = n then ρ i else ρ j) = ρ0 j
    rw [if_neg (by omega)]; exact G.old j hj
end

abbrev rN (l : List LIns) : It := .row 50 (.instrs l)
abbrev rI (l : List Int) : It := .row 3 (.ints l)
set_option maxRecDepth 100000 in
theorem c_l7Add (l : List LIns) (fr : List Int) (at0 n o x y z u : Int) (h1 : l.length ≤ 8000000) (h2 : fr.length ≤ 8000000) : Ctr.ok Try.prog ⟨100, [.agg [.ref 0, .ref 1, iA at0], iA n, .agg [iA o, iA x, iA y, iA z, iA u]], [rN l, rI fr], [.dead, .dead, rN (l ++ [⟨o, x, y, z, u⟩]), rI (fr ++ [n])], .agg [.ref 2, .ref 3, iA at0]⟩ := by
  refine rx_enter 20 Try.func100 (by rfl) (by kernel_rfl) (by kernel_rfl) ?_; intro ι φ ψ w0 w F ρ0 ρ a G; replace G := Gam.at G [.row 50 (D.instrs l), .row 3 (D.ints fr)] [(0, .agg [.ref 0, .ref 1, iA at0]), (1, iA n), (2, .agg [iA o, iA x, iA y, iA z, iA u])]; refine wp_seq ?_; refine rs0 G [0, 1, 2, 10, 18] [.row 50 (D.instrs l), .row 3 (D.ints fr), .box [.ref 0, .ref 1, iA at0], .box [iA o, iA x, iA y, iA z, iA u], .box [.v (.slice none 0 0), .v (.slice none 0 0), iA 0]] [(1, iA n), (3, .ptr 2 0), (5, .ptr 3 0), (6, .ptr 4 0)] fun ρ a w G => th_n (wp_seq ?_); refine rs1 (dk := dkP) G ⟨[], [], []⟩ calls_nil trivial [0, 1, 2, 4, 37] [.dead, .row 3 (D.ints fr), .box [.ref 4, .ref 1, iA at0], .box [.v (.slice none 0 0), .v (.slice none 0 0), iA 0], .row 50 (D.instrs (l ++ ([LIns.mk o x y z u] ++ [])))] [(1, iA n), (3, .ptr 2 0), (6, .ptr 3 0)] [l.length + ([LIns.mk o x y z u] ++ []).length ≤ (9223372036854775807 : Nat), (l.length + ([LIns.mk o x y z u] ++ []).length) * (40 : Nat) ≤ (140737488355328 : Nat)] ⟨(by simp only [List.length_append, List.length_cons, List.length_nil]; omega), (by simp only [List.length_append, List.length_cons, List.length_nil]; omega), trivial⟩ fun ρ a w G => th_n (wp_seq ?_); refine rs1 (dk := dkP) G ⟨[], [], []⟩ calls_nil trivial [0, 1, 2, 3, 4, 37] [.dead, .dead, .box [.ref 4, .ref 5, iA at0], .box [.v (.slice none 0 0), .v (.slice none 0 0), iA 0], .row 50 (D.instrs (l ++ ([LIns.mk o x y z u] ++ []))), .row 3 (D.ints (fr ++ ([n] ++ [])))] [(3, .ptr 2 0), (6, .ptr 3 0)] [fr.length + ([n] ++ []).length ≤ (9223372036854775807 : Nat), (fr.length + ([n] ++ []).length) * (8 : Nat) ≤ (140737488355328 : Nat)] ⟨(by simp only [List.length_append, List.length_cons, List.length_nil]; omega), (by simp only [List.length_append, List.length_cons, List.length_nil]; omega), trivial⟩ fun ρ a w G => th_n (wp_seq ?_); refine rs0 G [0, 1, 3, 4, 5] [.dead, .dead, .box [.ref 3, .ref 4, iA at0], .row 50 (D.instrs (l ++ ([LIns.mk o x y z u] ++ []))), .row 3 (D.ints (fr ++ ([n] ++ [])))] [(6, .ptr 2 0)] fun ρ a w G => th_n (wp_ret ?_); exact rx_ret (v := .agg [.ref 3, .ref 4, iA at0]) G [0, 1, 3, 4] (by kernel_rfl) (by kernel_rfl) (by kernel_rfl) (by kernel_rfl)

abbrev l7C (l : List LIns) (fr : List Int) (at0 n : Int) (e : LExpr) (reg : Int) : Ctr := ⟨153, [.agg [.ref 0, .ref 1, iA at0], iA n, eA e 2, iA reg], [rN l, rI fr, dE e.kids], [.dead, .dead, dE e.kids, rN (l ++ codeE e reg), rI (fr ++ List.replicate (codeE e reg).length n)], .agg [.ref 3, .ref 4, iA at0]⟩
theorem ce1 {e : LExpr} {r : Int} (k : e.kind = 1) : codeE e r = [⟨1, r, e.value, 0, 0⟩] := by rw [codeE_def, if_pos k]
theorem ce2 {e : LExpr} {r : Int} (k : e.kind = 2) : codeE e r = [⟨2, r, e.value, 0, 0⟩] := by rw [codeE_def, if_neg (by omega), if_pos k]
theorem szEs_tk (ks : List LExpr) (k : Nat) : szEs (ks.take k) ≤ szEs ks ∧ (k < ks.length → szEs (ks.take k) + 1 + szE (ks.getD k default) ≤ szEs ks) ∧ (ks.take k).length ≤ szEs (ks.take k) := by
  refine ⟨?_, fun h => ?_, szEs_len _⟩
  · have := szEs_append (ks.take k) (ks.drop k)
    rw [List.take_append_drop] at this
    omega
  · have h1 := szEs_append (ks.take (k + 1)) (ks.drop (k + 1))
    rw [List.take_append_drop, take_succ_get _ _ h, szEs_append, ← getD_lt (d := default) h] at h1
    simp only [szEs] at h1
    omega
section
variable {e : LExpr} {l : List LIns} {fr : List Int} {n reg : Int} {k : Nat}
theorem sz_kids (e : LExpr) : szE e = szEs e.kids := by cases e; rfl
theorem ck_reg (h0 : 0 ≤ reg) (h1 : reg + szE e ≤ 2000000) (hk : k < e.kids.length) : 0 ≤ reg + (k : Int) ∧ reg + (k : Int) + szE (e.kids.getD k default) ≤ 2000000 := by
  have h2 := (szEs_tk e.kids k).2.1 hk
  have h3 := (szEs_tk e.kids k).2.2
  rw [List.length_take] at h3
  rw [sz_kids] at h1
  omega
theorem ck_len (h2 : l.length + szE e ≤ 5000000) (hk : k < e.kids.length) : (l ++ codeEs (e.kids.take k) reg).length + szE (e.kids.getD k default) ≤ 5000000 := by
  have h3 := (szEs_tk e.kids k).2.1 hk
  have h4 := codeEs_len (e.kids.take k) reg
  rw [sz_kids] at h2
  rw [List.length_append]
  omega
theorem ck_all (h2 : l.length + szE e ≤ 5000000) : (l ++ codeEs (e.kids.take k) reg).length ≤ 5000000 := by
  have h3 := (szEs_tk e.kids k).1
  have h4 := codeEs_len (e.kids.take k) reg
  rw [sz_kids] at h2
  rw [List.length_append]
  omega
theorem ck_fr (h3 : fr.length = l.length) : (fr ++ List.replicate (codeEs (e.kids.take k) reg).length n).length = (l ++ codeEs (e.kids.take k) reg).length := by simp [h3]
theorem ck_next (hk : k < e.kids.length) : l ++ codeEs (e.kids.take (k + 1)) reg = l ++ codeEs (e.kids.take k) reg ++ codeE (e.kids.getD k default) (reg + (k : Int)) := by rw [codeEs_next hk, List.append_assoc]
theorem ck_next2 (hk : k < e.kids.length) : fr ++ List.replicate (codeEs (e.kids.take (k + 1)) reg).length n = fr ++ List.replicate (codeEs (e.kids.take k) reg).length n ++ List.replicate (codeE (e.kids.getD k default) (reg + (k : Int))).length n := by
  rw [codeEs_next hk, List.length_append, List.append_assoc, List.replicate_append_replicate]
theorem ck_start : l = l ++ codeEs (e.kids.take 0) reg := by simp [codeEs]
theorem ck_start2 : fr = fr ++ List.replicate (codeEs (e.kids.take 0) reg).length n := by simp [codeEs]
theorem ck_end (k1 : ¬ e.kind = 1) (k2 : ¬ e.kind = 2) (hk : e.kids.length ≤ k) {x : LIns} (hx : lastI e.kind e.value reg = x) : l ++ codeE e reg = l ++ codeEs (e.kids.take k) reg ++ [x] := by
  rw [codeE_def, if_neg k1, if_neg k2, List.take_of_length_le hk, hx, List.append_assoc]
theorem ck_end2 (k1 : ¬ e.kind = 1) (k2 : ¬ e.kind = 2) (hk : e.kids.length ≤ k) : fr ++ List.replicate (codeE e reg).length n = fr ++ List.replicate (codeEs (e.kids.take k) reg).length n ++ [n] := by
  rw [codeE_def, if_neg k1, if_neg k2, List.take_of_length_le hk, List.append_assoc, List.length_append, List.length_cons, List.length_nil, List.replicate_succ']
theorem la3 (k : e.kind = 3) : lastI e.kind e.value reg = ⟨4, reg, e.value, reg, 0⟩ := by rw [lastI, if_pos k]
theorem la11 (k : e.kind = 11) : lastI e.kind e.value reg = ⟨7, reg, reg, reg + 1, reg + 2⟩ := by rw [lastI, if_neg (by omega), if_pos k]
theorem la0 (k3 : ¬ e.kind = 3) (k : ¬ e.kind = 11) : lastI e.kind e.value reg = ⟨6, reg, e.kind, reg, reg + 1⟩ := by rw [lastI, if_neg k3, if_neg k]
end
abbrev yRvCa0 (e : LExpr) (l : List LIns) (fr : List Int) (n : Int) (reg : Int) : List It := [.dead, .dead, dE e.kids, .row 50 (D.instrs (l ++ codeE e reg)), .row 3 (D.ints (fr ++ List.replicate (codeE e reg).length n))]
abbrev yRvCa1 : It := .box [.v (.slice none 0 0), .v (.slice none 0 0), iA 0]
set_option maxHeartbeats 4000000 in
set_option maxRecDepth 100000 in
theorem s_l7Expr (e : LExpr) (ih : ∀ (u : LExpr), u ∈ e.kids → ∀ (l : List LIns) (fr : List Int) (at0 n reg : Int), 0 ≤ reg → reg + szE u ≤ 2000000 → l.length + szE u ≤ 5000000 → fr.length = l.length → Ctr.ok Try.prog (l7C l fr at0 n u reg)) (l : List LIns) (fr : List Int) (at0 n reg : Int) (r0 : 0 ≤ reg) (r1 : reg + szE e ≤ 2000000) (r2 : l.length + szE e ≤ 5000000) (r3 : fr.length = l.length) : Ctr.ok Try.prog (l7C l fr at0 n e reg) := by
  refine rx_enter 82 Try.func153 (by rfl) (by kernel_rfl) (by kernel_rfl) ?_; intro ι φ ψ w0 w F ρ0 ρ a G; replace G := Gam.at G [.row 50 (D.instrs l), .row 3 (D.ints fr), dE e.kids] [(0, .agg [.ref 0, .ref 1, iA at0]), (1, iA n), (2, eA e 2), (3, iA reg)]
  have hlen : e.kids.length ≤ szE e := by cases e; exact szEs_len _
  refine wp_seq ?_; refine rs0 G [0, 1, 2, 3, 11, 19] [.row 50 (D.instrs l), .row 3 (D.ints fr), dE e.kids, .box [.ref 0, .ref 1, iA at0], .box (eL e 2), yRvCa1] [(1, iA n), (3, iA reg), (4, .ptr 3 0), (6, .ptr 4 0), (8, .ptr 5 0)] fun ρ a w G => th_n (wp_seq (wp_seq ?_)); refine rs0s G [(1, iA n), (3, iA reg), (4, .ptr 3 0), (6, .ptr 4 0), (8, .ptr 5 0), (11, iA e.kind)] fun ρ a w G => th_n (wp_block (wp_seq ?_)); refine rs0s G [(1, iA n), (3, iA reg), (4, .ptr 3 0), (6, .ptr 4 0), (8, .ptr 5 0), (11, iA e.kind), (12, bA (e.kind == 1))] fun ρ a w G => th_n ?_; cases h0 : (e.kind == (1 : Int))
  ·
   have q0 : ¬ (e.kind = 1) := ne_of_beq_false h0; refine rF G (e.kind == (1 : Int)) (by assumption) ?_; refine wp_seq ?_; refine rs0s G [(1, iA n), (3, iA reg), (4, .ptr 3 0), (6, .ptr 4 0), (8, .ptr 5 0), (21, bA (e.kind == 2))] fun ρ a w G => th_n ?_; cases h1 : (e.kind == (2 : Int))
   ·
    have q1 : ¬ (e.kind = 2) := ne_of_beq_false h1; refine rF G (e.kind == (2 : Int)) (by assumption) ?_; refine wp_skip ?_; refine bl_n ?_; refine th_n (wp_seq (wp_seq ?_)); refine rs0s G [(1, iA n), (3, iA reg), (4, .ptr 3 0), (6, .ptr 4 0), (8, .ptr 5 0), (9, iA 0)] fun ρ a w G => th_n (wp_block ?_); have Gx := G.shift 0 6 [.dead, .row 3 (D.ints fr), dE e.kids, .box [.ref 6, .ref 1, iA at0], .box (eL e 2), yRvCa1, .row 50 (D.instrs l)] [(1, iA n), (3, iA reg), (4, .ptr 3 0), (6, .ptr 4 0), (8, .ptr 5 0), (9, iA 0)]; clear G; obtain ⟨ρ, G⟩ := Gx; have Gx := G.shift 1 7 [.dead, .dead, dE e.kids, .box [.ref 6, .ref 7, iA at0], .box (eL e 2), yRvCa1, .row 50 (D.instrs l), .row 3 (D.ints fr)] [(1, iA n), (3, iA reg), (4, .ptr 3 0), (6, .ptr 4 0), (8, .ptr 5 0), (9, iA 0)]; clear G; obtain ⟨ρ, G⟩ := Gx; replace G := G.as [.dead, .dead, dE e.kids, .box [.ref 6, .ref 7, iA at0], .box (eL e 2), .box [.v (.slice none 0 0), .v (.slice none 0 0), iA 0], .row 50 (D.instrs (l ++ codeEs (List.take 0 e.kids) reg)), .row 3 (D.ints (fr ++ List.replicate (codeEs (List.take 0 e.kids) reg).length n))] [(1, iA n), (3, iA reg), (4, .ptr 3 0), (6, .ptr 4 0), (8, .ptr 5 0), (9, iA 0)] (by have e1 : (l ++ codeEs (List.take 0 e.kids) reg : List LIns) = (l) := (by exact ck_start.symm); have e2 : (fr ++ List.replicate (codeEs (List.take 0 e.kids) reg).length n : List Int) = (fr) := (by exact ck_start2.symm); (first | rw [e1, e2] | simp only [e1, e2]) <;> rfl) (by kernel_rfl); refine rx_for (κ := Nat) (fun k => k ≤ e.kids.length) (fun k => e.kids.length - k) (fun k => [.dead, .dead, dE e.kids, .box [.ref 6, .ref 7, iA at0], .box (eL e 2), yRvCa1, .row 50 (.instrs (l ++ codeEs (e.kids.take k) reg)), .row 3 (.ints (fr ++ List.replicate (codeEs (e.kids.take k) reg).length n))]) (fun k => [(1, iA n), (3, iA reg), (4, .ptr 3 0), (6, .ptr 4 0), (8, .ptr 5 0), (9, iA k)]) (0) (by simp [h0, h1]) (Gam.at G _ _) ?_; clear G; intro k ρ a w hp G; replace G := Gam.at G [.dead, .dead, dE e.kids, .box [.ref 6, .ref 7, iA at0], .box (eL e 2), yRvCa1, .row 50 (D.instrs (l ++ codeEs (List.take k e.kids) reg)), .row 3 (D.ints (fr ++ List.replicate (codeEs (List.take k e.kids) reg).length n))] [(1, iA n), (3, iA reg), (4, .ptr 3 0), (6, .ptr 4 0), (8, .ptr 5 0), (9, iA (↑k : Int))]; refine wp_seq (wp_seq ?_); refine rs0s G [(1, iA n), (3, iA reg), (4, .ptr 3 0), (6, .ptr 4 0), (8, .ptr 5 0), (9, iA (↑k : Int)), (34, bA (decide ((↑k : Int) < (↑e.kids.length : Int))))] fun ρ a w G => th_n ?_; cases h2 : (decide ((↑k : Int) < (↑e.kids.length : Int)))
    ·
     have q2 : ¬ ((↑k : Int) < (↑e.kids.length : Int)) := dFf h2; refine rF G (decide ((↑k : Int) < (↑e.kids.length : Int))) (by assumption) ?_; refine wp_exit (th_e (th_e (bl_hit (th_n (wp_seq (wp_seq ?_)))))); refine rs0s G [(1, iA n), (3, iA reg), (4, .ptr 3 0), (6, .ptr 4 0), (8, .ptr 5 0), (49, iA e.kind)] fun ρ a w G => th_n (wp_block (wp_seq ?_)); refine rs0s G [(1, iA n), (3, iA reg), (4, .ptr 3 0), (6, .ptr 4 0), (8, .ptr 5 0), (49, iA e.kind), (50, bA (e.kind == 3))] fun ρ a w G => th_n ?_; cases h3 : (e.kind == (3 : Int))
     ·
      have q3 : ¬ (e.kind = 3) := ne_of_beq_false h3; refine rF G (e.kind == (3 : Int)) (by assumption) ?_; refine wp_seq ?_; refine rs0s G [(1, iA n), (3, iA reg), (4, .ptr 3 0), (6, .ptr 4 0), (8, .ptr 5 0), (60, bA (e.kind == 11))] fun ρ a w G => th_n ?_; cases h4 : (e.kind == (11 : Int))
      · have q4 : ¬ (e.kind = 11) := ne_of_beq_false h4; refine rF G (e.kind == (11 : Int)) (by assumption) ?_; refine wp_skip ?_; refine bl_n ?_; refine th_n (wp_seq ?_); refine rs1 (dk := dkP) G ⟨[(9, _, [6, 7])], [], []⟩ (calls_cons (c_l7Add (l ++ codeEs (List.take k e.kids) reg) (fr ++ List.replicate (codeEs (List.take k e.kids) reg).length n) (at0) (n) (6) (reg) (e.kind) (reg) (reg + 1) (by have := ck_all (k := k) (reg := reg) r2; have := ck_fr (e := e) (n := n) (k := k) (reg := reg) r3; omega) (by have := ck_all (k := k) (reg := reg) r2; have := ck_fr (e := e) (n := n) (k := k) (reg := reg) r3; omega)) calls_nil) trivial [0, 1, 2, 5, 80, 81] [.dead, .dead, dE e.kids, .box [.ref 4, .ref 5, iA at0], .row 50 (D.instrs (l ++ codeEs (List.take k e.kids) reg ++ [LIns.mk 6 reg e.kind reg (reg + 1)])), .row 3 (D.ints (fr ++ List.replicate (codeEs (List.take k e.kids) reg).length n ++ [n]))] [(8, .ptr 3 0)] [IntKind.i64.wrap (reg + (1 : Int)) = reg + (1 : Int)] ⟨(by exact w64 (by omega) (by omega)), trivial⟩ fun ρ a w G => th_n (wp_ret ?_); exact rx_ret (v := .agg [.ref 4, .ref 5, iA at0]) G [0, 1, 2, 4, 5] (by kernel_rfl) (by kernel_rfl) (by show _ = List.map (It.ren (nth [0, 1, 2, 4, 5])) (yRvCa0 e l fr n reg); unfold yRvCa0; have e1 : (l ++ codeE e reg : List LIns) = (l ++ codeEs (List.take k e.kids) reg ++ [LIns.mk 6 reg e.kind reg (reg + 1)]) := (by exact ck_end (by omega) (by omega) (by omega) (la0 (by omega) (by omega))); have e2 : (fr ++ List.replicate (codeE e reg).length n : List Int) = (fr ++ List.replicate (codeEs (List.take k e.kids) reg).length n ++ [n]) := (by exact ck_end2 (by omega) (by omega) (by omega)); (first | rw [e1, e2] | simp only [e1, e2]) <;> rfl) (by kernel_rfl)
      · have q4 : e.kind = 11 := eq_of_beq h4; refine rT G (e.kind == (11 : Int)) (by assumption) ?_; refine wp_seq ?_; refine rs1 (dk := dkP) G ⟨[(9, _, [6, 7])], [], []⟩ (calls_cons (c_l7Add (l ++ codeEs (List.take k e.kids) reg) (fr ++ List.replicate (codeEs (List.take k e.kids) reg).length n) (at0) (n) (7) (reg) (reg) (reg + 1) (reg + 2) (by have := ck_all (k := k) (reg := reg) r2; have := ck_fr (e := e) (n := n) (k := k) (reg := reg) r3; omega) (by have := ck_all (k := k) (reg := reg) r2; have := ck_fr (e := e) (n := n) (k := k) (reg := reg) r3; omega)) calls_nil) trivial [0, 1, 2, 3, 4, 5, 6, 7, 80, 81] [.dead, .dead, dE e.kids, .box [.ref 6, .ref 7, iA at0], .box (eL e 2), .box [.ref 8, .ref 9, iA at0], .dead, .dead, .row 50 (D.instrs (l ++ codeEs (List.take k e.kids) reg ++ [LIns.mk 7 reg reg (reg + 1) (reg + 2)])), .row 3 (D.ints (fr ++ List.replicate (codeEs (List.take k e.kids) reg).length n ++ [n]))] [(1, iA n), (3, iA reg), (4, .ptr 3 0), (6, .ptr 4 0), (8, .ptr 5 0)] [IntKind.i64.wrap (reg + (1 : Int)) = reg + (1 : Int), IntKind.i64.wrap (reg + (2 : Int)) = reg + (2 : Int)] ⟨(by exact w64 (by omega) (by omega)), (by exact w64 (by omega) (by omega)), trivial⟩ fun ρ a w G => th_n (wp_ret (bl_r (th_r ?_))); exact rx_ret (v := .agg [.ref 8, .ref 9, iA at0]) G [0, 1, 2, 8, 9] (by kernel_rfl) (by kernel_rfl) (by show _ = List.map (It.ren (nth [0, 1, 2, 8, 9])) (yRvCa0 e l fr n reg); unfold yRvCa0; have e1 : (l ++ codeE e reg : List LIns) = (l ++ codeEs (List.take k e.kids) reg ++ [LIns.mk 7 reg reg (reg + 1) (reg + 2)]) := (by exact ck_end (by omega) (by omega) (by omega) (la11 (by omega))); have e2 : (fr ++ List.replicate (codeE e reg).length n : List Int) = (fr ++ List.replicate (codeEs (List.take k e.kids) reg).length n ++ [n]) := (by exact ck_end2 (by omega) (by omega) (by omega)); (first | rw [e1, e2] | simp only [e1, e2]) <;> rfl) (by kernel_rfl)
     · have q3 : e.kind = 3 := eq_of_beq h3; refine rT G (e.kind == (3 : Int)) (by assumption) ?_; refine wp_seq ?_; refine rs1 (dk := dkP) G ⟨[(7, _, [6, 7])], [], []⟩ (calls_cons (c_l7Add (l ++ codeEs (List.take k e.kids) reg) (fr ++ List.replicate (codeEs (List.take k e.kids) reg).length n) (at0) (n) (4) (reg) (e.value) (reg) (0) (by have := ck_all (k := k) (reg := reg) r2; have := ck_fr (e := e) (n := n) (k := k) (reg := reg) r3; omega) (by have := ck_all (k := k) (reg := reg) r2; have := ck_fr (e := e) (n := n) (k := k) (reg := reg) r3; omega)) calls_nil) trivial [0, 1, 2, 3, 4, 5, 6, 7, 64, 65] [.dead, .dead, dE e.kids, .box [.ref 6, .ref 7, iA at0], .box (eL e 2), .box [.ref 8, .ref 9, iA at0], .dead, .dead, .row 50 (D.instrs (l ++ codeEs (List.take k e.kids) reg ++ [LIns.mk 4 reg e.value reg 0])), .row 3 (D.ints (fr ++ List.replicate (codeEs (List.take k e.kids) reg).length n ++ [n]))] [(1, iA n), (3, iA reg), (4, .ptr 3 0), (6, .ptr 4 0), (8, .ptr 5 0)] [] trivial fun ρ a w G => th_n (wp_ret (bl_r (th_r ?_))); exact rx_ret (v := .agg [.ref 8, .ref 9, iA at0]) G [0, 1, 2, 8, 9] (by kernel_rfl) (by kernel_rfl) (by show _ = List.map (It.ren (nth [0, 1, 2, 8, 9])) (yRvCa0 e l fr n reg); unfold yRvCa0; have e1 : (l ++ codeE e reg : List LIns) = (l ++ codeEs (List.take k e.kids) reg ++ [LIns.mk 4 reg e.value reg 0]) := (by exact ck_end (by omega) (by omega) (by omega) (la3 (by omega))); have e2 : (fr ++ List.replicate (codeE e reg).length n : List Int) = (fr ++ List.replicate (codeEs (List.take k e.kids) reg).length n ++ [n]) := (by exact ck_end2 (by omega) (by omega) (by omega)); (first | rw [e1, e2] | simp only [e1, e2]) <;> rfl) (by kernel_rfl)
    · have q2 : (↑k : Int) < (↑e.kids.length : Int) := dTt h2; refine rT G (decide ((↑k : Int) < (↑e.kids.length : Int))) (by assumption) ?_; refine wp_skip (th_n (wp_seq (wp_block ?_))); refine rd1 (dk := dkP) G ⟨[(10, _, [6, 7, 56])], [], []⟩ (calls_cons (ih (e.kids.getD k default) (by exact getE_mem (by omega)) (l ++ codeEs (List.take k e.kids) reg) (fr ++ List.replicate (codeEs (List.take k e.kids) reg).length n) (at0) (n) (reg + (↑k : Int)) (by have := ck_all (k := k) (reg := reg) r2; have := ck_fr (e := e) (n := n) (k := k) (reg := reg) r3; omega) (by exact (ck_reg r0 r1 (by omega)).2) (by exact ck_len r2 (by omega)) (by exact ck_fr r3)) calls_nil) trivial [0, 0, 0, 4, 0, 28, 60, 0, 0, 384, 1023, 2047] [0, 1, 2, 3, 4, 5, 88, 89] [.dead, .dead, dE e.kids, .box [.ref 6, .ref 7, iA at0], .box (eL e 2), yRvCa1, .row 50 (D.instrs (l ++ codeEs (List.take k e.kids) reg ++ codeE (e.kids.getD k default) (reg + (↑k : Int)))), .row 3 (D.ints (fr ++ List.replicate (codeEs (List.take k e.kids) reg).length n ++ List.replicate (codeE (e.kids.getD k default) (reg + (↑k : Int))).length n))] [(1, iA n), (3, iA reg), (4, .ptr 3 0), (6, .ptr 4 0), (8, .ptr 5 0), (9, iA (↑k : Int))] [(0 : Int) ≤ (↑k : Int), (↑k : Int) < (↑e.kids.length : Int), k < e.kids.length, IntKind.i64.wrap (reg + (↑k : Int)) = reg + (↑k : Int)] ⟨(by simp [h0, h1, h2]), (by assumption), (by have := ck_all (k := k) (reg := reg) r2; have := ck_fr (e := e) (n := n) (k := k) (reg := reg) r3; omega), (by exact w64 (by omega) (by omega)), trivial⟩ ?_; intro ρ a w G; refine bl_n ?_; refine th_n ?_; refine rs1s G ⟨[], [], []⟩ calls_nil trivial [(1, iA n), (3, iA reg), (4, .ptr 3 0), (6, .ptr 4 0), (8, .ptr 5 0), (9, iA ((↑k : Int) + 1))] [IntKind.i64.wrap ((↑k : Int) + (1 : Int)) = (↑k : Int) + (1 : Int)] ⟨(by exact w64 (by omega) (by omega)), trivial⟩ fun ρ a w G => th_n ?_; exact rx_next G (k + 1) (by have := ck_all (k := k) (reg := reg) r2; have := ck_fr (e := e) (n := n) (k := k) (reg := reg) r3; omega) (by have := ck_all (k := k) (reg := reg) r2; have := ck_fr (e := e) (n := n) (k := k) (reg := reg) r3; omega) (rg 8) [.dead, .dead, dE e.kids, .box [.ref 6, .ref 7, iA at0], .box (eL e 2), .box [.v (.slice none 0 0), .v (.slice none 0 0), iA 0], .row 50 (D.instrs (l ++ codeEs (List.take (k + 1) e.kids) reg)), .row 3 (D.ints (fr ++ List.replicate (codeEs (List.take (k + 1) e.kids) reg).length n))] [(1, iA n), (3, iA reg), (4, .ptr 3 0), (6, .ptr 4 0), (8, .ptr 5 0), (9, iA (↑(k + 1) : Int))] (by kernel_rfl) (by kernel_rfl) (by kernel_rfl) (by have e1 : (l ++ codeEs (List.take (k + 1) e.kids) reg : List LIns) = (l ++ codeEs (List.take k e.kids) reg ++ codeE (e.kids.getD k default) (reg + (↑k : Int))) := (by exact ck_next (by omega)); have e2 : (fr ++ List.replicate (codeEs (List.take (k + 1) e.kids) reg).length n : List Int) = (fr ++ List.replicate (codeEs (List.take k e.kids) reg).length n ++ List.replicate (codeE (e.kids.getD k default) (reg + (↑k : Int))).length n) := (by exact ck_next2 (by omega)); (first | rw [e1, e2] | simp only [e1, e2]) <;> rfl) (by kernel_rfl)
   · have q1 : e.kind = 2 := eq_of_beq h1; refine rT G (e.kind == (2 : Int)) (by assumption) ?_; refine wp_seq ?_; refine rs1 (dk := dkP) G ⟨[(6, _, [0, 1])], [], []⟩ (calls_cons (c_l7Add (l) (fr) (at0) (n) (2) (reg) (e.value) (0) (0) (by omega) (by omega)) calls_nil) trivial [0, 1, 2, 3, 4, 5, 54, 55] [.dead, .dead, dE e.kids, .box [.ref 0, .ref 1, iA at0], .box (eL e 2), .box [.ref 6, .ref 7, iA at0], .row 50 (D.instrs (l ++ [LIns.mk 2 reg e.value 0 0])), .row 3 (D.ints (fr ++ [n]))] [(1, iA n), (3, iA reg), (4, .ptr 3 0), (6, .ptr 4 0), (8, .ptr 5 0)] [] trivial fun ρ a w G => th_n (wp_ret (bl_r (th_r ?_))); exact rx_ret (v := .agg [.ref 6, .ref 7, iA at0]) G [0, 1, 2, 6, 7] (by kernel_rfl) (by kernel_rfl) (by show _ = List.map (It.ren (nth [0, 1, 2, 6, 7])) (yRvCa0 e l fr n reg); unfold yRvCa0; rw [ce2 (by omega)] <;> rfl) (by kernel_rfl)
  · have q0 : e.kind = 1 := eq_of_beq h0; refine rT G (e.kind == (1 : Int)) (by assumption) ?_; refine wp_seq ?_; refine rs1 (dk := dkP) G ⟨[(6, _, [0, 1])], [], []⟩ (calls_cons (c_l7Add (l) (fr) (at0) (n) (1) (reg) (e.value) (0) (0) (by omega) (by omega)) calls_nil) trivial [0, 1, 2, 3, 4, 5, 54, 55] [.dead, .dead, dE e.kids, .box [.ref 0, .ref 1, iA at0], .box (eL e 2), .box [.ref 6, .ref 7, iA at0], .row 50 (D.instrs (l ++ [LIns.mk 1 reg e.value 0 0])), .row 3 (D.ints (fr ++ [n]))] [(1, iA n), (3, iA reg), (4, .ptr 3 0), (6, .ptr 4 0), (8, .ptr 5 0)] [] trivial fun ρ a w G => th_n (wp_ret (bl_r (th_r ?_))); exact rx_ret (v := .agg [.ref 6, .ref 7, iA at0]) G [0, 1, 2, 6, 7] (by kernel_rfl) (by kernel_rfl) (by show _ = List.map (It.ren (nth [0, 1, 2, 6, 7])) (yRvCa0 e l fr n reg); unfold yRvCa0; rw [ce1 (by omega)] <;> rfl) (by kernel_rfl)

theorem c_l7Expr (e : LExpr) : ∀ (l : List LIns) (fr : List Int) (at0 n reg : Int), 0 ≤ reg → reg + szE e ≤ 2000000 → l.length + szE e ≤ 5000000 → fr.length = l.length → Ctr.ok Try.prog (l7C l fr at0 n e reg) :=
  LExpr.ind (P := fun e => ∀ (l : List LIns) (fr : List Int) (at0 n reg : Int), 0 ≤ reg → reg + szE e ≤ 2000000 → l.length + szE e ≤ 5000000 → fr.length = l.length → Ctr.ok Try.prog (l7C l fr at0 n e reg)) (fun k v ks ih l fr at0 n reg r0 r1 r2 r3 => s_l7Expr ⟨k, v, ks⟩ (fun u hu => ih u hu) l fr at0 n reg r0 r1 r2 r3) e


theorem fo_at {nv na d k : Nat} {ss : List LStmt} (hs : ss.all (stmtB nv na (d + 1)) = true) (hk : k < ss.length) : headB nv na (ss.getD k default) = true ∧ (ss.getD k default).body.all (stmtB nv na d) = true ∧ (ss.getD k default).els.all (stmtB nv na d) = true := by
  have h := List.all_eq_true.1 hs _ (List.getElem_mem hk)
  rw [stmtB_head, Bool.and_eq_true, Bool.and_eq_true] at h
  rw [getD_lt hk]; exact h

abbrev lqC (l : List LIns) (fr : List Int) (at0 : Int) (s : LStmt) (d : Int) : Ctr := ⟨134, [.agg [.ref 0, .ref 1, iA at0], sA s 2, iA d], [rN l, rI fr] ++ sS s, [.dead, .dead] ++ sS s ++ [rN (cmS s d (l, fr, at0)).1, rI (cmS s d (l, fr, at0)).2.1], .agg [.ref 6, .ref 7, iA (cmS s d (l, fr, at0)).2.2]⟩
abbrev lrC (l : List LIns) (fr : List Int) (at0 : Int) (ss : List LStmt) (d : Int) : Ctr := ⟨99, [.agg [.ref 0, .ref 1, iA at0], .ref 2, iA d], [rN l, rI fr, dT ss], [.dead, .dead, dT ss, rN (cmB ss d (l, fr, at0)).1, rI (cmB ss d (l, fr, at0)).2.1], .agg [.ref 3, .ref 4, iA (cmB ss d (l, fr, at0)).2.2]⟩
mutual
theorem cmS_at : ∀ (s : LStmt) (d : Int) (x : ComS), x.2.2 ≤ (cmS s d x).2.2 ∧ (cmS s d x).2.2 ≤ x.2.2 + nS s
  | ⟨k, t, i, v, c, b, e⟩, d, x => by
    rw [cmS, nS]
    split
    · have h := cmB_at b (d + 1) (addC (x.1, x.2.1, x.2.2 + 1) x.2.2 [⟨1, 9 + d, c, 0, 0⟩])
      simp only [addC] at h ⊢
      omega
    · split
      · simp only [addC]; omega
      · split
        · simp only [addC]; omega
        · split
          · simp only [addC]; omega
          · simp only
            generalize hy : addC (x.1, x.2.1, x.2.2 + 1) x.2.2 (codeE v 0) = y
            have hy1 : y.2.2 = x.2.2 + 1 := by rw [← hy]; rfl
            have h1 := cmB_at b (d + 1) (addC y x.2.2 [⟨9, 0, 0, 0, 0⟩])
            generalize cmB b (d + 1) (addC y x.2.2 [⟨9, 0, 0, 0, 0⟩]) = z at h1 ⊢
            have h2 := cmB_at e (d + 1) (putB (addC z x.2.2 [⟨8, 0, 0, 0, 0⟩]).1 y.1.length ((addC z x.2.2 [⟨8, 0, 0, 0, 0⟩]).1.length : Int), (addC z x.2.2 [⟨8, 0, 0, 0, 0⟩]).2)
            simp only [addC] at h1 h2 ⊢
            omega
theorem cmB_at : ∀ (ss : List LStmt) (d : Int) (x : ComS), x.2.2 ≤ (cmB ss d x).2.2 ∧ (cmB ss d x).2.2 ≤ x.2.2 + nSs ss
  | [], _, x => by simp [cmB, nSs]
  | s :: r, d, x => by
    have h1 := cmS_at s d x
    have h2 := cmB_at r d (cmS s d x)
    rw [cmB, nSs]
    omega
end
section
variable {l : List LIns} {fr : List Int} {at0 d : Int} {s : LStmt}
theorem cm1 (k : s.kind = 1) : cmS s d (l, fr, at0) = (l ++ codeE s.value 0 ++ [⟨3, s.target, 0, 0, 0⟩], fr ++ List.replicate (codeE s.value 0).length at0 ++ [at0], at0 + 1) := by
  obtain ⟨kd, tg, ix, vl, ct, bd, el⟩ := s
  have k : kd = 1 := k
  rw [cmS]
  simp only [k, Int.reduceEq, if_true, if_false]
  rfl
theorem cm5 (k : s.kind = 5) : cmS s d (l, fr, at0) = (l ++ codeE s.value 0 ++ [⟨11, 0, 0, 0, 0⟩] ++ [⟨3, s.target, 0, 0, 0⟩], fr ++ List.replicate (codeE s.value 0).length at0 ++ [at0] ++ [at0], at0 + 1) := by
  obtain ⟨kd, tg, ix, vl, ct, bd, el⟩ := s
  have k : kd = 5 := k
  rw [cmS]
  simp only [k, Int.reduceEq, if_true, if_false]
  rfl
theorem cm2 (k : s.kind = 2) : cmS s d (l, fr, at0) = (l ++ codeE s.value 0 ++ codeE s.index 1 ++ [⟨5, s.target, 1, 0, 0⟩], fr ++ List.replicate (codeE s.value 0).length at0 ++ List.replicate (codeE s.index 1).length at0 ++ [at0], at0 + 1) := by
  obtain ⟨kd, tg, ix, vl, ct, bd, el⟩ := s
  have k : kd = 2 := k
  rw [cmS]
  simp only [k, Int.reduceEq, if_true, if_false]
  rfl
theorem cm4 (k : s.kind = 4) : cmS s d (l, fr, at0) = ((cmB s.body (d + 1) (l ++ [⟨1, 9 + d, s.count, 0, 0⟩], fr ++ [at0], at0 + 1)).1 ++ [⟨10, 9 + d, (((l ++ [(⟨1, 9 + d, s.count, 0, 0⟩ : LIns)]).length : Nat) : Int), 0, 0⟩], (cmB s.body (d + 1) (l ++ [⟨1, 9 + d, s.count, 0, 0⟩], fr ++ [at0], at0 + 1)).2.1 ++ [at0], (cmB s.body (d + 1) (l ++ [⟨1, 9 + d, s.count, 0, 0⟩], fr ++ [at0], at0 + 1)).2.2) := by
  obtain ⟨kd, tg, ix, vl, ct, bd, el⟩ := s
  have k : kd = 4 := k
  rw [cmS]
  simp only [k, if_true, List.length_append, List.length_cons, List.length_nil]
  rfl
abbrev w3C (l : List LIns) (fr : List Int) (at0 d : Int) (s : LStmt) : ComS := cmB s.body (d + 1) (l ++ codeE s.value 0 ++ [⟨9, 0, 0, 0, 0⟩], fr ++ List.replicate (codeE s.value 0).length at0 ++ [at0], at0 + 1)
abbrev w6C (l : List LIns) (fr : List Int) (at0 d : Int) (s : LStmt) : ComS := cmB s.els (d + 1) (putB ((w3C l fr at0 d s).1 ++ [⟨8, 0, 0, 0, 0⟩]) (l ++ codeE s.value 0).length ((((w3C l fr at0 d s).1 ++ [(⟨8, 0, 0, 0, 0⟩ : LIns)]).length : Nat) : Int), (w3C l fr at0 d s).2.1 ++ [at0], (w3C l fr at0 d s).2.2)
theorem cm3 (k : s.kind = 3) : cmS s d (l, fr, at0) = (putA (w6C l fr at0 d s).1 (w3C l fr at0 d s).1.length (((w6C l fr at0 d s).1.length : Nat) : Int), (w6C l fr at0 d s).2.1, (w6C l fr at0 d s).2.2) := by
  obtain ⟨kd, tg, ix, vl, ct, bd, el⟩ := s
  have k : kd = 3 := k
  rw [cmS]
  simp only [k, Int.reduceEq, if_false, addC, List.length_append, List.length_cons, List.length_nil, Nat.add_sub_cancel, Nat.zero_add, List.replicate_one, w6C, w3C]
  rfl
theorem cmB_len1 (ss : List LStmt) (d : Int) (x : ComS) : (cmB ss d x).1.length = x.1.length + cntB ss := (cmB_len ss d x).1
theorem fit_i (h : l.length + (4 + 4 * szS s) ≤ 5000000) : l.length + szE s.value ≤ 5000000 ∧ (0 : Int) + szE s.value ≤ 2000000 ∧ (l ++ codeE s.value 0).length + szE s.index ≤ 5000000 ∧ (1 : Int) + szE s.index ≤ 2000000 ∧ (l ++ codeE s.value 0 ++ codeE s.index 1).length + 4 ≤ 5000010 := by
  have h1 := codeE_len s.value 0
  have h2 := codeE_len s.index 1
  have h3 : szS s = szE s.index + szE s.value + szSs s.body + szSs s.els := by cases s; rfl
  simp only [List.length_append]
  omega
end
abbrev yRvCb0 (s : LStmt) (l : List LIns) (fr : List Int) (at0 : Int) (d : Int) := cmB s.els (d + 1) (((cmB s.body (d + 1) (l ++ codeE s.value 0 ++ [LIns.mk 9 0 0 0 0], fr ++ List.replicate (codeE s.value 0).length at0 ++ [at0], at0 + 1)).fst ++ [LIns.mk 8 0 0 0 0]).set (l ++ codeE s.value 0).length (LIns.mk (((cmB s.body (d + 1) (l ++ codeE s.value 0 ++ [LIns.mk 9 0 0 0 0], fr ++ List.replicate (codeE s.value 0).length at0 ++ [at0], at0 + 1)).fst ++ [LIns.mk 8 0 0 0 0]).getD (l ++ codeE s.value 0).length default).op (((cmB s.body (d + 1) (l ++ codeE s.value 0 ++ [LIns.mk 9 0 0 0 0], fr ++ List.replicate (codeE s.value 0).length at0 ++ [at0], at0 + 1)).fst ++ [LIns.mk 8 0 0 0 0]).getD (l ++ codeE s.value 0).length default).a (↑((cmB s.body (d + 1) (l ++ codeE s.value 0 ++ [LIns.mk 9 0 0 0 0], fr ++ List.replicate (codeE s.value 0).length at0 ++ [at0], at0 + 1)).fst ++ [LIns.mk 8 0 0 0 0]).length : Int) (((cmB s.body (d + 1) (l ++ codeE s.value 0 ++ [LIns.mk 9 0 0 0 0], fr ++ List.replicate (codeE s.value 0).length at0 ++ [at0], at0 + 1)).fst ++ [LIns.mk 8 0 0 0 0]).getD (l ++ codeE s.value 0).length default).c (((cmB s.body (d + 1) (l ++ codeE s.value 0 ++ [LIns.mk 9 0 0 0 0], fr ++ List.replicate (codeE s.value 0).length at0 ++ [at0], at0 + 1)).fst ++ [LIns.mk 8 0 0 0 0]).getD (l ++ codeE s.value 0).length default).d), (cmB s.body (d + 1) (l ++ codeE s.value 0 ++ [LIns.mk 9 0 0 0 0], fr ++ List.replicate (codeE s.value 0).length at0 ++ [at0], at0 + 1)).snd.fst ++ [at0], (cmB s.body (d + 1) (l ++ codeE s.value 0 ++ [LIns.mk 9 0 0 0 0], fr ++ List.replicate (codeE s.value 0).length at0 ++ [at0], at0 + 1)).snd.snd)
abbrev yRvCb1 (s : LStmt) (l : List LIns) (fr : List Int) (at0 : Int) (d : Int) := cmB s.els (d + 1) (((cmB s.body (d + 1) (l ++ [LIns.mk 9 0 0 0 0], fr ++ [at0], at0 + 1)).fst ++ [LIns.mk 8 0 0 0 0]).set l.length (LIns.mk (((cmB s.body (d + 1) (l ++ [LIns.mk 9 0 0 0 0], fr ++ [at0], at0 + 1)).fst ++ [LIns.mk 8 0 0 0 0]).getD l.length default).op (((cmB s.body (d + 1) (l ++ [LIns.mk 9 0 0 0 0], fr ++ [at0], at0 + 1)).fst ++ [LIns.mk 8 0 0 0 0]).getD l.length default).a (↑((cmB s.body (d + 1) (l ++ [LIns.mk 9 0 0 0 0], fr ++ [at0], at0 + 1)).fst ++ [LIns.mk 8 0 0 0 0]).length : Int) (((cmB s.body (d + 1) (l ++ [LIns.mk 9 0 0 0 0], fr ++ [at0], at0 + 1)).fst ++ [LIns.mk 8 0 0 0 0]).getD l.length default).c (((cmB s.body (d + 1) (l ++ [LIns.mk 9 0 0 0 0], fr ++ [at0], at0 + 1)).fst ++ [LIns.mk 8 0 0 0 0]).getD l.length default).d), (cmB s.body (d + 1) (l ++ [LIns.mk 9 0 0 0 0], fr ++ [at0], at0 + 1)).snd.fst ++ [at0], (cmB s.body (d + 1) (l ++ [LIns.mk 9 0 0 0 0], fr ++ [at0], at0 + 1)).snd.snd)
abbrev yRvCb2 (s : LStmt) (l : List LIns) (fr : List Int) (at0 : Int) (d : Int) := cmB s.body (d + 1) (l ++ codeE s.value 0 ++ [LIns.mk 9 0 0 0 0], fr ++ List.replicate (codeE s.value 0).length at0 ++ [at0], at0 + 1)
abbrev yRvCb3 (s : LStmt) (l : List LIns) (fr : List Int) (at0 : Int) (d : Int) := cmB s.body (d + 1) (l ++ [LIns.mk 9 0 0 0 0], fr ++ [at0], at0 + 1)
abbrev yRvCb4 (s : LStmt) (l : List LIns) (fr : List Int) (at0 : Int) (d : Int) := cmB s.body (d + 1) (l ++ codeE s.value 0 ++ [LIns.mk 1 (9 + d) s.count 0 0], fr ++ List.replicate (codeE s.value 0).length at0 ++ [at0], at0 + 1)
abbrev yRvCb5 (s : LStmt) (l : List LIns) (fr : List Int) (at0 : Int) (d : Int) := cmB s.body (d + 1) (l ++ [LIns.mk 1 (9 + d) s.count 0 0], fr ++ [at0], at0 + 1)
abbrev yRvCb6 (s : LStmt) (l : List LIns) (fr : List Int) (at0 : Int) (d : Int) : List It := [.dead, .dead, dE s.index.kids, dE s.value.kids, dT s.body, dT s.els, .row 50 (D.instrs (cmS s d (l, fr, at0)).fst), .row 3 (D.ints (cmS s d (l, fr, at0)).snd.fst)]
abbrev yRvCb7 : It := .box [.v (.slice none 0 0), .v (.slice none 0 0), iA 0]
abbrev yRvCb8 (s : LStmt) (l : List LIns) (fr : List Int) (at0 : Int) (d : Int) : It := .row 50 (D.instrs ((yRvCb1 s l fr at0 d).fst.set (yRvCb3 s l fr at0 d).fst.length (LIns.mk ((yRvCb1 s l fr at0 d).fst.getD (yRvCb3 s l fr at0 d).fst.length default).op (↑(yRvCb1 s l fr at0 d).fst.length : Int) ((yRvCb1 s l fr at0 d).fst.getD (yRvCb3 s l fr at0 d).fst.length default).b ((yRvCb1 s l fr at0 d).fst.getD (yRvCb3 s l fr at0 d).fst.length default).c ((yRvCb1 s l fr at0 d).fst.getD (yRvCb3 s l fr at0 d).fst.length default).d)))
abbrev yRvCb9 (s : LStmt) (l : List LIns) (fr : List Int) (at0 : Int) (d : Int) : It := .row 50 (D.instrs ((yRvCb0 s l fr at0 d).fst.set (yRvCb2 s l fr at0 d).fst.length (LIns.mk ((yRvCb0 s l fr at0 d).fst.getD (yRvCb2 s l fr at0 d).fst.length default).op (↑(yRvCb0 s l fr at0 d).fst.length : Int) ((yRvCb0 s l fr at0 d).fst.getD (yRvCb2 s l fr at0 d).fst.length default).b ((yRvCb0 s l fr at0 d).fst.getD (yRvCb2 s l fr at0 d).fst.length default).c ((yRvCb0 s l fr at0 d).fst.getD (yRvCb2 s l fr at0 d).fst.length default).d)))
abbrev yRvCb10 (at0 : Int) : It := .box [.ref 9, .ref 10, iA (at0 + 1)]
abbrev yRvCb11 (s : LStmt) (fr : List Int) (at0 : Int) : It := .row 3 (D.ints (fr ++ List.replicate (codeE s.value 0).length at0 ++ [at0]))
set_option maxHeartbeats 8000000 in
set_option maxRecDepth 100000 in
theorem s_l7Stmt (nv na dd : Nat) (s : LStmt) (hh : headB nv na s = true) (hbb : s.body.all (stmtB nv na dd) = true) (hbe : s.els.all (stmtB nv na dd) = true)
    (ih : ∀ (tt : List LStmt) (l : List LIns) (fr : List Int) (at0 d : Int), tt.all (stmtB nv na dd) = true → l.length + 4 * szSs tt ≤ 5000000 → fr.length = l.length → 0 ≤ d → d + dd ≤ 100 → 0 ≤ at0 → at0 + nSs tt ≤ 5000000 → Ctr.ok Try.prog (lrC l fr at0 tt d))
    (l : List LIns) (fr : List Int) (at0 d : Int) (r1 : l.length + (4 + 4 * szS s) ≤ 5000000) (r2 : fr.length = l.length) (r3 : 0 ≤ d) (r4 : d + (dd + 1) ≤ 100) (r5 : 0 ≤ at0) (r6 : at0 + nS s ≤ 5000000) : Ctr.ok Try.prog (lqC l fr at0 s d) := by
  refine rx_enter 130 Try.func134 (by rfl) (by kernel_rfl) (by kernel_rfl) ?_; intro ι φ ψ w0 w F ρ0 ρ a G; replace G := Gam.at G [.row 50 (D.instrs l), .row 3 (D.ints fr), dE s.index.kids, dE s.value.kids, dT s.body, dT s.els] [(0, .agg [.ref 0, .ref 1, iA at0]), (1, sA s 2), (2, iA d)]; have hn := nS_def s; have hft := fit_i r1
  have hsz : szS s = szE s.index + szE s.value + szSs s.body + szSs s.els := by cases s; rfl
  have hv := codeE_len s.value 0; refine wp_seq ?_; refine rs0 G [0, 1, 2, 3, 4, 5, 6, 14, 22] [.row 50 (D.instrs l), .row 3 (D.ints fr), dE s.index.kids, dE s.value.kids, dT s.body, dT s.els, .box [.ref 0, .ref 1, iA at0], .box (sL s 2), yRvCb7] [(2, iA d), (3, .ptr 6 0), (4, .ptr 7 0), (6, .ptr 8 0)] fun ρ a w G => th_n (wp_seq ?_); refine rs0s G [(2, iA d), (3, .ptr 6 0), (4, .ptr 7 0), (6, .ptr 8 0), (7, iA at0)] fun ρ a w G => th_n (wp_seq ?_); refine rs1 (dk := dkP) G ⟨[], [], []⟩ calls_nil trivial (rg 9) [.row 50 (D.instrs l), .row 3 (D.ints fr), dE s.index.kids, dE s.value.kids, dT s.body, dT s.els, .box [.ref 0, .ref 1, iA (at0 + 1)], .box (sL s 2), yRvCb7] [(2, iA d), (3, .ptr 6 0), (4, .ptr 7 0), (6, .ptr 8 0), (7, iA at0)] [IntKind.i64.wrap (at0 + (1 : Int)) = at0 + (1 : Int)] ⟨(by exact w64 (by omega) (by omega)), trivial⟩ fun ρ a w G => th_n (wp_seq (wp_seq ?_)); refine rs0s G [(2, iA d), (3, .ptr 6 0), (4, .ptr 7 0), (6, .ptr 8 0), (7, iA at0), (20, bA (s.kind != 4))] fun ρ a w G => th_n ?_; cases h0 : (s.kind != (4 : Int))
  ·
   have q0 : s.kind = 4 := (by simpa using h0); refine rF G (s.kind != (4 : Int)) (by assumption) ?_; refine wp_skip (th_n (wp_seq (wp_seq ?_))); refine rs0s G [(2, iA d), (3, .ptr 6 0), (4, .ptr 7 0), (6, .ptr 8 0), (7, iA at0), (27, iA s.kind)] fun ρ a w G => th_n (wp_block (wp_seq ?_)); refine rs0s G [(2, iA d), (3, .ptr 6 0), (4, .ptr 7 0), (6, .ptr 8 0), (7, iA at0), (27, iA s.kind), (28, bA (s.kind == 1))] fun ρ a w G => th_n ?_; cases h1 : (s.kind == (1 : Int))
   ·
    have q1 : ¬ (s.kind = 1) := ne_of_beq_false h1; refine rF G (s.kind == (1 : Int)) (by assumption) ?_; refine wp_seq ?_; refine rs0s G [(2, iA d), (3, .ptr 6 0), (4, .ptr 7 0), (6, .ptr 8 0), (7, iA at0), (27, iA s.kind), (36, bA (s.kind == 5))] fun ρ a w G => th_n ?_; cases h2 : (s.kind == (5 : Int))
    ·
     have q2 : ¬ (s.kind = 5) := ne_of_beq_false h2; refine rF G (s.kind == (5 : Int)) (by assumption) ?_; refine wp_seq ?_; refine rs0s G [(2, iA d), (3, .ptr 6 0), (4, .ptr 7 0), (6, .ptr 8 0), (7, iA at0), (27, iA s.kind), (48, bA (s.kind == 2))] fun ρ a w G => th_n ?_; cases h3 : (s.kind == (2 : Int))
     ·
      have q3 : ¬ (s.kind = 2) := ne_of_beq_false h3; refine rF G (s.kind == (2 : Int)) (by assumption) ?_; refine wp_seq ?_; refine rs0s G [(2, iA d), (3, .ptr 6 0), (4, .ptr 7 0), (6, .ptr 8 0), (7, iA at0), (61, bA (s.kind == 3))] fun ρ a w G => th_n ?_; cases h4 : (s.kind == (3 : Int))
      ·
       have q4 : ¬ (s.kind = 3) := ne_of_beq_false h4; refine rF G (s.kind == (3 : Int)) (by assumption) ?_; refine wp_skip ?_; refine bl_n ?_; refine th_n (wp_seq ?_); refine rs1s G ⟨[], [], []⟩ calls_nil trivial [(2, iA d), (3, .ptr 6 0), (4, .ptr 7 0), (6, .ptr 8 0), (7, iA at0), (10, iA (9 + d))] [IntKind.i64.wrap ((9 : Int) + d) = (9 : Int) + d] ⟨(by exact w64 (by omega) (by omega)), trivial⟩ fun ρ a w G => th_n (wp_seq ?_); refine rs1 (dk := dkP) G ⟨[(6, _, [0, 1])], [], []⟩ (calls_cons (c_l7Add (l) (fr) (at0 + 1) (at0) (1) (9 + d) (s.count) (0) (0) (by have := hft.2.2.2.2; simp only [List.length_append, List.length_cons, List.length_nil] at this ⊢; omega) (by simp only [List.length_append, List.length_replicate, List.length_cons, List.length_nil, r2]; have := hft.2.2.2.2; simp only [List.length_append] at this; omega)) calls_nil) trivial [0, 1, 2, 3, 4, 5, 6, 7, 8, 57, 58] [.dead, .dead, dE s.index.kids, dE s.value.kids, dT s.body, dT s.els, yRvCb10 at0, .box (sL s 2), yRvCb7, .row 50 (D.instrs (l ++ [LIns.mk 1 (9 + d) s.count 0 0])), .row 3 (D.ints (fr ++ [at0]))] [(2, iA d), (3, .ptr 6 0), (4, .ptr 7 0), (6, .ptr 8 0), (7, iA at0), (10, iA (9 + d))] [] trivial fun ρ a w G => th_n (wp_seq ?_); refine rs0s G [(2, iA d), (3, .ptr 6 0), (4, .ptr 7 0), (6, .ptr 8 0), (7, iA at0), (10, iA (9 + d)), (11, iA (↑(l ++ [LIns.mk 1 (9 + d) s.count 0 0]).length : Int))] fun ρ a w G => th_n (wp_seq ?_); refine rs1 (dk := dkP) G ⟨[(5, _, [9, 10, 4])], [], []⟩ (calls_cons (ih (s.body) (l ++ [LIns.mk 1 (9 + d) s.count 0 0]) (fr ++ [at0]) (at0 + 1) (d + 1) (by assumption) (by simp only [List.length_append, List.length_replicate, List.length_cons, List.length_nil, r2]; have := hft.2.2.2.2; simp only [List.length_append] at this; omega) (by have := hft.2.2.2.2; simp only [List.length_append, List.length_cons, List.length_nil] at this ⊢; omega) (by have := hft.2.2.2.2; simp only [List.length_append, List.length_cons, List.length_nil] at this ⊢; omega) (by have := hft.2.2.2.2; simp only [List.length_append, List.length_cons, List.length_nil] at this ⊢; omega) (by have := hft.2.2.2.2; simp only [List.length_append, List.length_cons, List.length_nil] at this ⊢; omega) (by have := hft.2.2.2.2; simp only [List.length_append, List.length_cons, List.length_nil] at this ⊢; omega)) calls_nil) trivial [0, 1, 2, 3, 4, 5, 6, 8, 51, 52] [.dead, .dead, dE s.index.kids, dE s.value.kids, dT s.body, dT s.els, .box [.ref 8, .ref 9, iA (yRvCb5 s l fr at0 d).snd.snd], yRvCb7, .row 50 (D.instrs (yRvCb5 s l fr at0 d).fst), .row 3 (D.ints (yRvCb5 s l fr at0 d).snd.fst)] [(3, .ptr 6 0), (6, .ptr 7 0), (7, iA at0), (10, iA (9 + d)), (11, iA (↑(l ++ [LIns.mk 1 (9 + d) s.count 0 0]).length : Int))] [IntKind.i64.wrap (d + (1 : Int)) = d + (1 : Int)] ⟨(by exact w64 (by omega) (by omega)), trivial⟩ fun ρ a w G => th_n (wp_seq ?_); refine rs1 (dk := dkP) G ⟨[(5, _, [8, 9])], [], []⟩ (calls_cons (c_l7Add ((cmB s.body (d + 1) (l ++ [LIns.mk 1 (9 + d) s.count 0 0], fr ++ [at0], at0 + 1)).fst) ((cmB s.body (d + 1) (l ++ [LIns.mk 1 (9 + d) s.count 0 0], fr ++ [at0], at0 + 1)).snd.fst) ((cmB s.body (d + 1) (l ++ [LIns.mk 1 (9 + d) s.count 0 0], fr ++ [at0], at0 + 1)).snd.snd) (at0) (10) (9 + d) ((↑(l ++ [LIns.mk 1 (9 + d) s.count 0 0]).length : Int)) (0) (0) (by have := (cmB_len s.body (d + 1) (l ++ [⟨1, 9 + d, s.count, 0, 0⟩], fr ++ [at0], at0 + 1)); have := cntB_le s.body; simp only [List.length_append, List.length_cons, List.length_nil] at *; omega) (by have := (cmB_len s.body (d + 1) (l ++ [⟨1, 9 + d, s.count, 0, 0⟩], fr ++ [at0], at0 + 1)); have := cntB_le s.body; simp only [List.length_append, List.length_cons, List.length_nil] at *; omega)) calls_nil) trivial [0, 1, 2, 3, 4, 5, 7, 50, 51] [.dead, .dead, dE s.index.kids, dE s.value.kids, dT s.body, dT s.els, .box [.ref 7, .ref 8, iA (yRvCb5 s l fr at0 d).snd.snd], .row 50 (D.instrs ((yRvCb5 s l fr at0 d).fst ++ [LIns.mk 10 (9 + d) (↑(l ++ [LIns.mk 1 (9 + d) s.count 0 0]).length : Int) 0 0])), .row 3 (D.ints ((yRvCb5 s l fr at0 d).snd.fst ++ [at0]))] [(6, .ptr 6 0)] [] trivial ?_
       clear G; intro ρ a w G; refine th_n (wp_ret ?_); exact rx_ret (v := .agg [.ref 7, .ref 8, iA (cmB s.body (d + 1) (l ++ [LIns.mk 1 (9 + d) s.count 0 0], fr ++ [at0], at0 + 1)).snd.snd]) G [0, 1, 2, 3, 4, 5, 7, 8] (by kernel_rfl) (by kernel_rfl) (by show _ = List.map (It.ren (nth [0, 1, 2, 3, 4, 5, 7, 8])) (yRvCb6 s l fr at0 d); unfold yRvCb6; have e1 : ((cmS s d (l, fr, at0)).fst : List LIns) = ((yRvCb5 s l fr at0 d).fst ++ [LIns.mk 10 (9 + d) (↑(l ++ [LIns.mk 1 (9 + d) s.count 0 0]).length : Int) 0 0]) := (by exact congrArg Prod.fst (cm4 (by omega))); have e2 : ((cmS s d (l, fr, at0)).snd.fst : List Int) = ((yRvCb5 s l fr at0 d).snd.fst ++ [at0]) := (by exact congrArg (fun x : ComS => x.2.1) (cm4 (by omega))); (first | rw [e1, e2] | simp only [e1, e2]) <;> rfl) (by have e1 : ((cmS s d (l, fr, at0)).snd.snd : Int) = ((cmB s.body (d + 1) (l ++ [LIns.mk 1 (9 + d) s.count 0 0], fr ++ [at0], at0 + 1)).snd.snd) := (by have h9 := congrArg (fun x : ComS => x.2.2) (cm4 (l := l) (fr := fr) (at0 := at0) (d := d) (s := s) (by omega)); exact h9); (first | rw [e1] | simp only [e1]) <;> rfl)
      ·
       have q4 : s.kind = 3 := eq_of_beq h4; refine rT G (s.kind == (3 : Int)) (by assumption) ?_; refine wp_seq ?_; refine rs0s G [(2, iA d), (3, .ptr 6 0), (4, .ptr 7 0), (6, .ptr 8 0), (7, iA at0), (8, iA (↑l.length : Int))] fun ρ a w G => th_n (wp_seq ?_); refine rs1 (dk := dkP) G ⟨[(3, _, [0, 1])], [], []⟩ (calls_cons (c_l7Add (l) (fr) (at0 + 1) (at0) (9) (0) (0) (0) (0) (by have := hft.2.2.2.2; simp only [List.length_append, List.length_cons, List.length_nil] at this ⊢; omega) (by simp only [List.length_append, List.length_replicate, List.length_cons, List.length_nil, r2]; have := hft.2.2.2.2; simp only [List.length_append] at this; omega)) calls_nil) trivial [0, 1, 2, 3, 4, 5, 6, 7, 8, 33, 34] [.dead, .dead, dE s.index.kids, dE s.value.kids, dT s.body, dT s.els, yRvCb10 at0, .box (sL s 2), yRvCb7, .row 50 (D.instrs (l ++ [LIns.mk 9 0 0 0 0])), .row 3 (D.ints (fr ++ [at0]))] [(2, iA d), (3, .ptr 6 0), (4, .ptr 7 0), (6, .ptr 8 0), (7, iA at0), (8, iA (↑l.length : Int))] [] trivial fun ρ a w G => th_n (wp_seq ?_); refine rs1 (dk := dkP) G ⟨[(5, _, [9, 10, 4])], [], []⟩ (calls_cons (ih (s.body) (l ++ [LIns.mk 9 0 0 0 0]) (fr ++ [at0]) (at0 + 1) (d + 1) (by assumption) (by simp only [List.length_append, List.length_replicate, List.length_cons, List.length_nil, r2]; have := hft.2.2.2.2; simp only [List.length_append] at this; omega) (by have := hft.2.2.2.2; simp only [List.length_append, List.length_cons, List.length_nil] at this ⊢; omega) (by have := hft.2.2.2.2; simp only [List.length_append, List.length_cons, List.length_nil] at this ⊢; omega) (by have := hft.2.2.2.2; simp only [List.length_append, List.length_cons, List.length_nil] at this ⊢; omega) (by have := hft.2.2.2.2; simp only [List.length_append, List.length_cons, List.length_nil] at this ⊢; omega) (by have := hft.2.2.2.2; simp only [List.length_append, List.length_cons, List.length_nil] at this ⊢; omega)) calls_nil) trivial [0, 1, 2, 3, 4, 5, 6, 7, 8, 51, 52] [.dead, .dead, dE s.index.kids, dE s.value.kids, dT s.body, dT s.els, .box [.ref 9, .ref 10, iA (yRvCb3 s l fr at0 d).snd.snd], .box (sL s 2), yRvCb7, .row 50 (D.instrs (yRvCb3 s l fr at0 d).fst), .row 3 (D.ints (yRvCb3 s l fr at0 d).snd.fst)] [(2, iA d), (3, .ptr 6 0), (4, .ptr 7 0), (6, .ptr 8 0), (7, iA at0), (8, iA (↑l.length : Int))] [IntKind.i64.wrap (d + (1 : Int)) = d + (1 : Int)] ⟨(by have := hft.2.2.2.2; simp only [List.length_append, List.length_cons, List.length_nil] at this ⊢; omega), trivial⟩ fun ρ a w G => th_n (wp_seq ?_); refine rs0s G [(2, iA d), (3, .ptr 6 0), (4, .ptr 7 0), (6, .ptr 8 0), (7, iA at0), (8, iA (↑l.length : Int)), (9, iA (↑(yRvCb3 s l fr at0 d).fst.length : Int))] fun ρ a w G => th_n (wp_seq ?_); refine rs1 (dk := dkP) G ⟨[(3, _, [9, 10])], [], []⟩ (calls_cons (c_l7Add ((cmB s.body (d + 1) (l ++ [LIns.mk 9 0 0 0 0], fr ++ [at0], at0 + 1)).fst) ((cmB s.body (d + 1) (l ++ [LIns.mk 9 0 0 0 0], fr ++ [at0], at0 + 1)).snd.fst) ((cmB s.body (d + 1) (l ++ [LIns.mk 9 0 0 0 0], fr ++ [at0], at0 + 1)).snd.snd) (at0) (8) (0) (0) (0) (0) (by have := hft.2.2.2.2; simp only [List.length_append, List.length_cons, List.length_nil] at this ⊢; omega) (by have := hft.2.2.2.2; simp only [List.length_append, List.length_cons, List.length_nil] at this ⊢; omega)) calls_nil) trivial [0, 1, 2, 3, 4, 5, 6, 7, 8, 35, 36] [.dead, .dead, dE s.index.kids, dE s.value.kids, dT s.body, dT s.els, .box [.ref 9, .ref 10, iA (yRvCb3 s l fr at0 d).snd.snd], .box (sL s 2), yRvCb7, .row 50 (D.instrs ((yRvCb3 s l fr at0 d).fst ++ [LIns.mk 8 0 0 0 0])), .row 3 (D.ints ((yRvCb3 s l fr at0 d).snd.fst ++ [at0]))] [(2, iA d), (3, .ptr 6 0), (4, .ptr 7 0), (6, .ptr 8 0), (7, iA at0), (8, iA (↑l.length : Int)), (9, iA (↑(yRvCb3 s l fr at0 d).fst.length : Int))] [] trivial fun ρ a w G => th_n (wp_seq ?_); refine rs1 (dk := dkP) G ⟨[], [], []⟩ calls_nil trivial (rg 11) [.dead, .dead, dE s.index.kids, dE s.value.kids, dT s.body, dT s.els, .box [.ref 9, .ref 10, iA (yRvCb3 s l fr at0 d).snd.snd], .box (sL s 2), yRvCb7, .row 50 (D.instrs (((yRvCb3 s l fr at0 d).fst ++ [LIns.mk 8 0 0 0 0]).set l.length (LIns.mk (((yRvCb3 s l fr at0 d).fst ++ [LIns.mk 8 0 0 0 0]).getD l.length default).op (((yRvCb3 s l fr at0 d).fst ++ [LIns.mk 8 0 0 0 0]).getD l.length default).a (↑((yRvCb3 s l fr at0 d).fst ++ [LIns.mk 8 0 0 0 0]).length : Int) (((yRvCb3 s l fr at0 d).fst ++ [LIns.mk 8 0 0 0 0]).getD l.length default).c (((yRvCb3 s l fr at0 d).fst ++ [LIns.mk 8 0 0 0 0]).getD l.length default).d))), .row 3 (D.ints ((yRvCb3 s l fr at0 d).snd.fst ++ [at0]))] [(2, iA d), (3, .ptr 6 0), (4, .ptr 7 0), (6, .ptr 8 0), (7, iA at0), (9, iA (↑(yRvCb3 s l fr at0 d).fst.length : Int))] [(0 : Int) ≤ (↑l.length : Int), (↑l.length : Int) < (↑((cmB s.body (d + (1 : Int)) (l ++ [LIns.mk (9 : Int) (0 : Int) (0 : Int) (0 : Int) (0 : Int)], fr ++ [at0], at0 + (1 : Int))).fst ++ [LIns.mk (8 : Int) (0 : Int) (0 : Int) (0 : Int) (0 : Int)]).length : Int), l.length < ((cmB s.body (d + (1 : Int)) (l ++ [LIns.mk (9 : Int) (0 : Int) (0 : Int) (0 : Int) (0 : Int)], fr ++ [at0], at0 + (1 : Int))).fst ++ [LIns.mk (8 : Int) (0 : Int) (0 : Int) (0 : Int) (0 : Int)]).length] ⟨(by simp [hh, hbb, hbe, h0, h1, h2, h3, h4]), (by simp only [List.length_append, List.length_replicate, List.length_cons, List.length_nil, r2]; have := hft.2.2.2.2; simp only [List.length_append] at this; omega), (by simp only [List.length_append, List.length_replicate, List.length_cons, List.length_nil, r2]; have := hft.2.2.2.2; simp only [List.length_append] at this; omega), trivial⟩ ?_
       clear G; intro ρ a w G; refine th_n (wp_seq ?_); refine rs1 (dk := dkP) G ⟨[(5, _, [9, 10, 5])], [], []⟩ (calls_cons (ih (s.els) (((cmB s.body (d + 1) (l ++ [LIns.mk 9 0 0 0 0], fr ++ [at0], at0 + 1)).fst ++ [LIns.mk 8 0 0 0 0]).set l.length (LIns.mk (((cmB s.body (d + 1) (l ++ [LIns.mk 9 0 0 0 0], fr ++ [at0], at0 + 1)).fst ++ [LIns.mk 8 0 0 0 0]).getD l.length default).op (((cmB s.body (d + 1) (l ++ [LIns.mk 9 0 0 0 0], fr ++ [at0], at0 + 1)).fst ++ [LIns.mk 8 0 0 0 0]).getD l.length default).a (↑((cmB s.body (d + 1) (l ++ [LIns.mk 9 0 0 0 0], fr ++ [at0], at0 + 1)).fst ++ [LIns.mk 8 0 0 0 0]).length : Int) (((cmB s.body (d + 1) (l ++ [LIns.mk 9 0 0 0 0], fr ++ [at0], at0 + 1)).fst ++ [LIns.mk 8 0 0 0 0]).getD l.length default).c (((cmB s.body (d + 1) (l ++ [LIns.mk 9 0 0 0 0], fr ++ [at0], at0 + 1)).fst ++ [LIns.mk 8 0 0 0 0]).getD l.length default).d)) ((cmB s.body (d + 1) (l ++ [LIns.mk 9 0 0 0 0], fr ++ [at0], at0 + 1)).snd.fst ++ [at0]) ((cmB s.body (d + 1) (l ++ [LIns.mk 9 0 0 0 0], fr ++ [at0], at0 + 1)).snd.snd) (d + 1) (by assumption) (by simp only [List.length_append, List.length_replicate, List.length_cons, List.length_nil, r2]; have := hft.2.2.2.2; simp only [List.length_append] at this; omega) (by simp only [List.length_append, List.length_replicate, List.length_cons, List.length_nil, r2]; have := hft.2.2.2.2; simp only [List.length_append] at this; omega) (by have := hft.2.2.2.2; simp only [List.length_append, List.length_cons, List.length_nil] at this ⊢; omega) (by have := hft.2.2.2.2; simp only [List.length_append, List.length_cons, List.length_nil] at this ⊢; omega) (by have := hft.2.2.2.2; simp only [List.length_append, List.length_cons, List.length_nil] at this ⊢; omega) (by have := hft.2.2.2.2; simp only [List.length_append, List.length_cons, List.length_nil] at this ⊢; omega)) calls_nil) trivial [0, 1, 2, 3, 4, 5, 6, 7, 8, 51, 52] [.dead, .dead, dE s.index.kids, dE s.value.kids, dT s.body, dT s.els, .box [.ref 9, .ref 10, iA (yRvCb1 s l fr at0 d).snd.snd], .box (sL s 2), yRvCb7, .row 50 (D.instrs (yRvCb1 s l fr at0 d).fst), .row 3 (D.ints (yRvCb1 s l fr at0 d).snd.fst)] [(2, iA d), (3, .ptr 6 0), (4, .ptr 7 0), (6, .ptr 8 0), (7, iA at0), (9, iA (↑(yRvCb3 s l fr at0 d).fst.length : Int))] [IntKind.i64.wrap (d + (1 : Int)) = d + (1 : Int)] ⟨(by have := hft.2.2.2.2; simp only [List.length_append, List.length_cons, List.length_nil] at this ⊢; omega), trivial⟩ fun ρ a w G => th_n (wp_seq ?_); refine rs1 (dk := dkP) G ⟨[], [], []⟩ calls_nil trivial (rg 11) [.dead, .dead, dE s.index.kids, dE s.value.kids, dT s.body, dT s.els, .box [.ref 9, .ref 10, iA (yRvCb1 s l fr at0 d).snd.snd], .box (sL s 2), yRvCb7, yRvCb8 s l fr at0 d, .row 3 (D.ints (yRvCb1 s l fr at0 d).snd.fst)] [(2, iA d), (3, .ptr 6 0), (4, .ptr 7 0), (6, .ptr 8 0), (7, iA at0)] [(0 : Int) ≤ (↑(cmB s.body (d + (1 : Int)) (l ++ [LIns.mk (9 : Int) (0 : Int) (0 : Int) (0 : Int) (0 : Int)], fr ++ [at0], at0 + (1 : Int))).fst.length : Int), (↑(cmB s.body (d + (1 : Int)) (l ++ [LIns.mk (9 : Int) (0 : Int) (0 : Int) (0 : Int) (0 : Int)], fr ++ [at0], at0 + (1 : Int))).fst.length : Int) < (↑(cmB s.els (d + (1 : Int)) (((cmB s.body (d + (1 : Int)) (l ++ [LIns.mk (9 : Int) (0 : Int) (0 : Int) (0 : Int) (0 : Int)], fr ++ [at0], at0 + (1 : Int))).fst ++ [LIns.mk (8 : Int) (0 : Int) (0 : Int) (0 : Int) (0 : Int)]).set l.length (LIns.mk (((cmB s.body (d + (1 : Int)) (l ++ [LIns.mk (9 : Int) (0 : Int) (0 : Int) (0 : Int) (0 : Int)], fr ++ [at0], at0 + (1 : Int))).fst ++ [LIns.mk (8 : Int) (0 : Int) (0 : Int) (0 : Int) (0 : Int)]).getD l.length default).op (((cmB s.body (d + (1 : Int)) (l ++ [LIns.mk (9 : Int) (0 : Int) (0 : Int) (0 : Int) (0 : Int)], fr ++ [at0], at0 + (1 : Int))).fst ++ [LIns.mk (8 : Int) (0 : Int) (0 : Int) (0 : Int) (0 : Int)]).getD l.length default).a (↑((cmB s.body (d + (1 : Int)) (l ++ [LIns.mk (9 : Int) (0 : Int) (0 : Int) (0 : Int) (0 : Int)], fr ++ [at0], at0 + (1 : Int))).fst ++ [LIns.mk (8 : Int) (0 : Int) (0 : Int) (0 : Int) (0 : Int)]).length : Int) (((cmB s.body (d + (1 : Int)) (l ++ [LIns.mk (9 : Int) (0 : Int) (0 : Int) (0 : Int) (0 : Int)], fr ++ [at0], at0 + (1 : Int))).fst ++ [LIns.mk (8 : Int) (0 : Int) (0 : Int) (0 : Int) (0 : Int)]).getD l.length default).c (((cmB s.body (d + (1 : Int)) (l ++ [LIns.mk (9 : Int) (0 : Int) (0 : Int) (0 : Int) (0 : Int)], fr ++ [at0], at0 + (1 : Int))).fst ++ [LIns.mk (8 : Int) (0 : Int) (0 : Int) (0 : Int) (0 : Int)]).getD l.length default).d), (cmB s.body (d + (1 : Int)) (l ++ [LIns.mk (9 : Int) (0 : Int) (0 : Int) (0 : Int) (0 : Int)], fr ++ [at0], at0 + (1 : Int))).snd.fst ++ [at0], (cmB s.body (d + (1 : Int)) (l ++ [LIns.mk (9 : Int) (0 : Int) (0 : Int) (0 : Int) (0 : Int)], fr ++ [at0], at0 + (1 : Int))).snd.snd)).fst.length : Int), (cmB s.body (d + (1 : Int)) (l ++ [LIns.mk (9 : Int) (0 : Int) (0 : Int) (0 : Int) (0 : Int)], fr ++ [at0], at0 + (1 : Int))).fst.length < (cmB s.els (d + (1 : Int)) (((cmB s.body (d + (1 : Int)) (l ++ [LIns.mk (9 : Int) (0 : Int) (0 : Int) (0 : Int) (0 : Int)], fr ++ [at0], at0 + (1 : Int))).fst ++ [LIns.mk (8 : Int) (0 : Int) (0 : Int) (0 : Int) (0 : Int)]).set l.length (LIns.mk (((cmB s.body (d + (1 : Int)) (l ++ [LIns.mk (9 : Int) (0 : Int) (0 : Int) (0 : Int) (0 : Int)], fr ++ [at0], at0 + (1 : Int))).fst ++ [LIns.mk (8 : Int) (0 : Int) (0 : Int) (0 : Int) (0 : Int)]).getD l.length default).op (((cmB s.body (d + (1 : Int)) (l ++ [LIns.mk (9 : Int) (0 : Int) (0 : Int) (0 : Int) (0 : Int)], fr ++ [at0], at0 + (1 : Int))).fst ++ [LIns.mk (8 : Int) (0 : Int) (0 : Int) (0 : Int) (0 : Int)]).getD l.length default).a (↑((cmB s.body (d + (1 : Int)) (l ++ [LIns.mk (9 : Int) (0 : Int) (0 : Int) (0 : Int) (0 : Int)], fr ++ [at0], at0 + (1 : Int))).fst ++ [LIns.mk (8 : Int) (0 : Int) (0 : Int) (0 : Int) (0 : Int)]).length : Int) (((cmB s.body (d + (1 : Int)) (l ++ [LIns.mk (9 : Int) (0 : Int) (0 : Int) (0 : Int) (0 : Int)], fr ++ [at0], at0 + (1 : Int))).fst ++ [LIns.mk (8 : Int) (0 : Int) (0 : Int) (0 : Int) (0 : Int)]).getD l.length default).c (((cmB s.body (d + (1 : Int)) (l ++ [LIns.mk (9 : Int) (0 : Int) (0 : Int) (0 : Int) (0 : Int)], fr ++ [at0], at0 + (1 : Int))).fst ++ [LIns.mk (8 : Int) (0 : Int) (0 : Int) (0 : Int) (0 : Int)]).getD l.length default).d), (cmB s.body (d + (1 : Int)) (l ++ [LIns.mk (9 : Int) (0 : Int) (0 : Int) (0 : Int) (0 : Int)], fr ++ [at0], at0 + (1 : Int))).snd.fst ++ [at0], (cmB s.body (d + (1 : Int)) (l ++ [LIns.mk (9 : Int) (0 : Int) (0 : Int) (0 : Int) (0 : Int)], fr ++ [at0], at0 + (1 : Int))).snd.snd)).fst.length] ⟨(by simp [hh, hbb, hbe, h0, h1, h2, h3, h4]), (by simp only [List.length_append, List.length_replicate, List.length_cons, List.length_nil, r2]; have := hft.2.2.2.2; simp only [List.length_append] at this; omega), (by simp only [List.length_append, List.length_replicate, List.length_cons, List.length_nil, r2]; have := hft.2.2.2.2; simp only [List.length_append] at this; omega), trivial⟩ ?_
       clear G; intro ρ a w G; refine th_n (wp_seq ?_); refine rs0 G (rg 11) [.dead, .dead, dE s.index.kids, dE s.value.kids, dT s.body, dT s.els, .box [.ref 9, .ref 10, iA (yRvCb1 s l fr at0 d).snd.snd], .box (sL s 2), .box [.ref 9, .ref 10, iA (yRvCb1 s l fr at0 d).snd.snd], yRvCb8 s l fr at0 d, .row 3 (D.ints (yRvCb1 s l fr at0 d).snd.fst)] [(2, iA d), (3, .ptr 6 0), (4, .ptr 7 0), (6, .ptr 8 0), (7, iA at0)] fun ρ a w G => th_n (wp_ret (bl_r (th_r ?_))); exact rx_ret (v := .agg [.ref 9, .ref 10, iA (cmB s.els (d + 1) (((cmB s.body (d + 1) (l ++ [LIns.mk 9 0 0 0 0], fr ++ [at0], at0 + 1)).fst ++ [LIns.mk 8 0 0 0 0]).set l.length (LIns.mk (((cmB s.body (d + 1) (l ++ [LIns.mk 9 0 0 0 0], fr ++ [at0], at0 + 1)).fst ++ [LIns.mk 8 0 0 0 0]).getD l.length default).op (((cmB s.body (d + 1) (l ++ [LIns.mk 9 0 0 0 0], fr ++ [at0], at0 + 1)).fst ++ [LIns.mk 8 0 0 0 0]).getD l.length default).a (↑((cmB s.body (d + 1) (l ++ [LIns.mk 9 0 0 0 0], fr ++ [at0], at0 + 1)).fst ++ [LIns.mk 8 0 0 0 0]).length : Int) (((cmB s.body (d + 1) (l ++ [LIns.mk 9 0 0 0 0], fr ++ [at0], at0 + 1)).fst ++ [LIns.mk 8 0 0 0 0]).getD l.length default).c (((cmB s.body (d + 1) (l ++ [LIns.mk 9 0 0 0 0], fr ++ [at0], at0 + 1)).fst ++ [LIns.mk 8 0 0 0 0]).getD l.length default).d), (cmB s.body (d + 1) (l ++ [LIns.mk 9 0 0 0 0], fr ++ [at0], at0 + 1)).snd.fst ++ [at0], (cmB s.body (d + 1) (l ++ [LIns.mk 9 0 0 0 0], fr ++ [at0], at0 + 1)).snd.snd)).snd.snd]) G [0, 1, 2, 3, 4, 5, 9, 10] (by kernel_rfl) (by kernel_rfl) (by show _ = List.map (It.ren (nth [0, 1, 2, 3, 4, 5, 9, 10])) (yRvCb6 s l fr at0 d); unfold yRvCb6; have e1 : ((cmS s d (l, fr, at0)).fst : List LIns) = ((cmB s.els (d + 1) (((cmB s.body (d + 1) (l ++ [LIns.mk 9 0 0 0 0], fr ++ [at0], at0 + 1)).fst ++ [LIns.mk 8 0 0 0 0]).set l.length (LIns.mk (((cmB s.body (d + 1) (l ++ [LIns.mk 9 0 0 0 0], fr ++ [at0], at0 + 1)).fst ++ [LIns.mk 8 0 0 0 0]).getD l.length default).op (((cmB s.body (d + 1) (l ++ [LIns.mk 9 0 0 0 0], fr ++ [at0], at0 + 1)).fst ++ [LIns.mk 8 0 0 0 0]).getD l.length default).a (↑((cmB s.body (d + 1) (l ++ [LIns.mk 9 0 0 0 0], fr ++ [at0], at0 + 1)).fst ++ [LIns.mk 8 0 0 0 0]).length : Int) (((cmB s.body (d + 1) (l ++ [LIns.mk 9 0 0 0 0], fr ++ [at0], at0 + 1)).fst ++ [LIns.mk 8 0 0 0 0]).getD l.length default).c (((cmB s.body (d + 1) (l ++ [LIns.mk 9 0 0 0 0], fr ++ [at0], at0 + 1)).fst ++ [LIns.mk 8 0 0 0 0]).getD l.length default).d), (cmB s.body (d + 1) (l ++ [LIns.mk 9 0 0 0 0], fr ++ [at0], at0 + 1)).snd.fst ++ [at0], (cmB s.body (d + 1) (l ++ [LIns.mk 9 0 0 0 0], fr ++ [at0], at0 + 1)).snd.snd)).fst.set (cmB s.body (d + 1) (l ++ [LIns.mk 9 0 0 0 0], fr ++ [at0], at0 + 1)).fst.length (LIns.mk ((cmB s.els (d + 1) (((cmB s.body (d + 1) (l ++ [LIns.mk 9 0 0 0 0], fr ++ [at0], at0 + 1)).fst ++ [LIns.mk 8 0 0 0 0]).set l.length (LIns.mk (((cmB s.body (d + 1) (l ++ [LIns.mk 9 0 0 0 0], fr ++ [at0], at0 + 1)).fst ++ [LIns.mk 8 0 0 0 0]).getD l.length default).op (((cmB s.body (d + 1) (l ++ [LIns.mk 9 0 0 0 0], fr ++ [at0], at0 + 1)).fst ++ [LIns.mk 8 0 0 0 0]).getD l.length default).a (↑((cmB s.body (d + 1) (l ++ [LIns.mk 9 0 0 0 0], fr ++ [at0], at0 + 1)).fst ++ [LIns.mk 8 0 0 0 0]).length : Int) (((cmB s.body (d + 1) (l ++ [LIns.mk 9 0 0 0 0], fr ++ [at0], at0 + 1)).fst ++ [LIns.mk 8 0 0 0 0]).getD l.length default).c (((cmB s.body (d + 1) (l ++ [LIns.mk 9 0 0 0 0], fr ++ [at0], at0 + 1)).fst ++ [LIns.mk 8 0 0 0 0]).getD l.length default).d), (cmB s.body (d + 1) (l ++ [LIns.mk 9 0 0 0 0], fr ++ [at0], at0 + 1)).snd.fst ++ [at0], (cmB s.body (d + 1) (l ++ [LIns.mk 9 0 0 0 0], fr ++ [at0], at0 + 1)).snd.snd)).fst.getD (cmB s.body (d + 1) (l ++ [LIns.mk 9 0 0 0 0], fr ++ [at0], at0 + 1)).fst.length default).op (↑(cmB s.els (d + 1) (((cmB s.body (d + 1) (l ++ [LIns.mk 9 0 0 0 0], fr ++ [at0], at0 + 1)).fst ++ [LIns.mk 8 0 0 0 0]).set l.length (LIns.mk (((cmB s.body (d + 1) (l ++ [LIns.mk 9 0 0 0 0], fr ++ [at0], at0 + 1)).fst ++ [LIns.mk 8 0 0 0 0]).getD l.length default).op (((cmB s.body (d + 1) (l ++ [LIns.mk 9 0 0 0 0], fr ++ [at0], at0 + 1)).fst ++ [LIns.mk 8 0 0 0 0]).getD l.length default).a (↑((cmB s.body (d + 1) (l ++ [LIns.mk 9 0 0 0 0], fr ++ [at0], at0 + 1)).fst ++ [LIns.mk 8 0 0 0 0]).length : Int) (((cmB s.body (d + 1) (l ++ [LIns.mk 9 0 0 0 0], fr ++ [at0], at0 + 1)).fst ++ [LIns.mk 8 0 0 0 0]).getD l.length default).c (((cmB s.body (d + 1) (l ++ [LIns.mk 9 0 0 0 0], fr ++ [at0], at0 + 1)).fst ++ [LIns.mk 8 0 0 0 0]).getD l.length default).d), (cmB s.body (d + 1) (l ++ [LIns.mk 9 0 0 0 0], fr ++ [at0], at0 + 1)).snd.fst ++ [at0], (cmB s.body (d + 1) (l ++ [LIns.mk 9 0 0 0 0], fr ++ [at0], at0 + 1)).snd.snd)).fst.length : Int) ((cmB s.els (d + 1) (((cmB s.body (d + 1) (l ++ [LIns.mk 9 0 0 0 0], fr ++ [at0], at0 + 1)).fst ++ [LIns.mk 8 0 0 0 0]).set l.length (LIns.mk (((cmB s.body (d + 1) (l ++ [LIns.mk 9 0 0 0 0], fr ++ [at0], at0 + 1)).fst ++ [LIns.mk 8 0 0 0 0]).getD l.length default).op (((cmB s.body (d + 1) (l ++ [LIns.mk 9 0 0 0 0], fr ++ [at0], at0 + 1)).fst ++ [LIns.mk 8 0 0 0 0]).getD l.length default).a (↑((cmB s.body (d + 1) (l ++ [LIns.mk 9 0 0 0 0], fr ++ [at0], at0 + 1)).fst ++ [LIns.mk 8 0 0 0 0]).length : Int) (((cmB s.body (d + 1) (l ++ [LIns.mk 9 0 0 0 0], fr ++ [at0], at0 + 1)).fst ++ [LIns.mk 8 0 0 0 0]).getD l.length default).c (((cmB s.body (d + 1) (l ++ [LIns.mk 9 0 0 0 0], fr ++ [at0], at0 + 1)).fst ++ [LIns.mk 8 0 0 0 0]).getD l.length default).d), (cmB s.body (d + 1) (l ++ [LIns.mk 9 0 0 0 0], fr ++ [at0], at0 + 1)).snd.fst ++ [at0], (cmB s.body (d + 1) (l ++ [LIns.mk 9 0 0 0 0], fr ++ [at0], at0 + 1)).snd.snd)).fst.getD (cmB s.body (d + 1) (l ++ [LIns.mk 9 0 0 0 0], fr ++ [at0], at0 + 1)).fst.length default).b ((cmB s.els (d + 1) (((cmB s.body (d + 1) (l ++ [LIns.mk 9 0 0 0 0], fr ++ [at0], at0 + 1)).fst ++ [LIns.mk 8 0 0 0 0]).set l.length (LIns.mk (((cmB s.body (d + 1) (l ++ [LIns.mk 9 0 0 0 0], fr ++ [at0], at0 + 1)).fst ++ [LIns.mk 8 0 0 0 0]).getD l.length default).op (((cmB s.body (d + 1) (l ++ [LIns.mk 9 0 0 0 0], fr ++ [at0], at0 + 1)).fst ++ [LIns.mk 8 0 0 0 0]).getD l.length default).a (↑((cmB s.body (d + 1) (l ++ [LIns.mk 9 0 0 0 0], fr ++ [at0], at0 + 1)).fst ++ [LIns.mk 8 0 0 0 0]).length : Int) (((cmB s.body (d + 1) (l ++ [LIns.mk 9 0 0 0 0], fr ++ [at0], at0 + 1)).fst ++ [LIns.mk 8 0 0 0 0]).getD l.length default).c (((cmB s.body (d + 1) (l ++ [LIns.mk 9 0 0 0 0], fr ++ [at0], at0 + 1)).fst ++ [LIns.mk 8 0 0 0 0]).getD l.length default).d), (cmB s.body (d + 1) (l ++ [LIns.mk 9 0 0 0 0], fr ++ [at0], at0 + 1)).snd.fst ++ [at0], (cmB s.body (d + 1) (l ++ [LIns.mk 9 0 0 0 0], fr ++ [at0], at0 + 1)).snd.snd)).fst.getD (cmB s.body (d + 1) (l ++ [LIns.mk 9 0 0 0 0], fr ++ [at0], at0 + 1)).fst.length default).c ((cmB s.els (d + 1) (((cmB s.body (d + 1) (l ++ [LIns.mk 9 0 0 0 0], fr ++ [at0], at0 + 1)).fst ++ [LIns.mk 8 0 0 0 0]).set l.length (LIns.mk (((cmB s.body (d + 1) (l ++ [LIns.mk 9 0 0 0 0], fr ++ [at0], at0 + 1)).fst ++ [LIns.mk 8 0 0 0 0]).getD l.length default).op (((cmB s.body (d + 1) (l ++ [LIns.mk 9 0 0 0 0], fr ++ [at0], at0 + 1)).fst ++ [LIns.mk 8 0 0 0 0]).getD l.length default).a (↑((cmB s.body (d + 1) (l ++ [LIns.mk 9 0 0 0 0], fr ++ [at0], at0 + 1)).fst ++ [LIns.mk 8 0 0 0 0]).length : Int) (((cmB s.body (d + 1) (l ++ [LIns.mk 9 0 0 0 0], fr ++ [at0], at0 + 1)).fst ++ [LIns.mk 8 0 0 0 0]).getD l.length default).c (((cmB s.body (d + 1) (l ++ [LIns.mk 9 0 0 0 0], fr ++ [at0], at0 + 1)).fst ++ [LIns.mk 8 0 0 0 0]).getD l.length default).d), (cmB s.body (d + 1) (l ++ [LIns.mk 9 0 0 0 0], fr ++ [at0], at0 + 1)).snd.fst ++ [at0], (cmB s.body (d + 1) (l ++ [LIns.mk 9 0 0 0 0], fr ++ [at0], at0 + 1)).snd.snd)).fst.getD (cmB s.body (d + 1) (l ++ [LIns.mk 9 0 0 0 0], fr ++ [at0], at0 + 1)).fst.length default).d)) := (by simp only [List.length_append, List.length_replicate, List.length_cons, List.length_nil, r2]; have := hft.2.2.2.2; simp only [List.length_append] at this; omega); have e2 : ((cmS s d (l, fr, at0)).snd.fst : List Int) = ((cmB s.els (d + 1) (((cmB s.body (d + 1) (l ++ [LIns.mk 9 0 0 0 0], fr ++ [at0], at0 + 1)).fst ++ [LIns.mk 8 0 0 0 0]).set l.length (LIns.mk (((cmB s.body (d + 1) (l ++ [LIns.mk 9 0 0 0 0], fr ++ [at0], at0 + 1)).fst ++ [LIns.mk 8 0 0 0 0]).getD l.length default).op (((cmB s.body (d + 1) (l ++ [LIns.mk 9 0 0 0 0], fr ++ [at0], at0 + 1)).fst ++ [LIns.mk 8 0 0 0 0]).getD l.length default).a (↑((cmB s.body (d + 1) (l ++ [LIns.mk 9 0 0 0 0], fr ++ [at0], at0 + 1)).fst ++ [LIns.mk 8 0 0 0 0]).length : Int) (((cmB s.body (d + 1) (l ++ [LIns.mk 9 0 0 0 0], fr ++ [at0], at0 + 1)).fst ++ [LIns.mk 8 0 0 0 0]).getD l.length default).c (((cmB s.body (d + 1) (l ++ [LIns.mk 9 0 0 0 0], fr ++ [at0], at0 + 1)).fst ++ [LIns.mk 8 0 0 0 0]).getD l.length default).d), (cmB s.body (d + 1) (l ++ [LIns.mk 9 0 0 0 0], fr ++ [at0], at0 + 1)).snd.fst ++ [at0], (cmB s.body (d + 1) (l ++ [LIns.mk 9 0 0 0 0], fr ++ [at0], at0 + 1)).snd.snd)).snd.fst) := (by simp only [List.length_append, List.length_replicate, List.length_cons, List.length_nil, r2]; have := hft.2.2.2.2; simp only [List.length_append] at this; omega); (first | rw [e1, e2] | simp only [e1, e2]) <;> rfl) (by have e1 : ((cmS s d (l, fr, at0)).snd.snd : Int) = ((cmB s.els (d + 1) (((cmB s.body (d + 1) (l ++ [LIns.mk 9 0 0 0 0], fr ++ [at0], at0 + 1)).fst ++ [LIns.mk 8 0 0 0 0]).set l.length (LIns.mk (((cmB s.body (d + 1) (l ++ [LIns.mk 9 0 0 0 0], fr ++ [at0], at0 + 1)).fst ++ [LIns.mk 8 0 0 0 0]).getD l.length default).op (((cmB s.body (d + 1) (l ++ [LIns.mk 9 0 0 0 0], fr ++ [at0], at0 + 1)).fst ++ [LIns.mk 8 0 0 0 0]).getD l.length default).a (↑((cmB s.body (d + 1) (l ++ [LIns.mk 9 0 0 0 0], fr ++ [at0], at0 + 1)).fst ++ [LIns.mk 8 0 0 0 0]).length : Int) (((cmB s.body (d + 1) (l ++ [LIns.mk 9 0 0 0 0], fr ++ [at0], at0 + 1)).fst ++ [LIns.mk 8 0 0 0 0]).getD l.length default).c (((cmB s.body (d + 1) (l ++ [LIns.mk 9 0 0 0 0], fr ++ [at0], at0 + 1)).fst ++ [LIns.mk 8 0 0 0 0]).getD l.length default).d), (cmB s.body (d + 1) (l ++ [LIns.mk 9 0 0 0 0], fr ++ [at0], at0 + 1)).snd.fst ++ [at0], (cmB s.body (d + 1) (l ++ [LIns.mk 9 0 0 0 0], fr ++ [at0], at0 + 1)).snd.snd)).snd.snd) := (by simp only [List.length_append, List.length_replicate, List.length_cons, List.length_nil, r2]; have := hft.2.2.2.2; simp only [List.length_append] at this; omega); (first | rw [e1] | simp only [e1]) <;> rfl)
     · have q3 : s.kind = 2 := eq_of_beq h3; refine rT G (s.kind == (2 : Int)) (by assumption) ?_; refine wp_seq ?_; refine rs1 (dk := dkP) G ⟨[(4, _, [0, 1, 2])], [], []⟩ (calls_cons (c_l7Expr (s.index) (l) (fr) (at0 + 1) (at0) (1) (by simp [hh, hbb, hbe, h0, h1, h2, h3]) (by have := hft.2.2.2.2; simp only [List.length_append, List.length_cons, List.length_nil] at this ⊢; omega) (by have := hft.2.2.2.2; simp only [List.length_append, List.length_cons, List.length_nil] at this ⊢; omega) (by assumption)) calls_nil) trivial [0, 1, 2, 3, 4, 5, 6, 7, 8, 41, 42] [.dead, .dead, dE s.index.kids, dE s.value.kids, dT s.body, dT s.els, yRvCb10 at0, .box (sL s 2), yRvCb7, .row 50 (D.instrs (l ++ codeE s.index 1)), .row 3 (D.ints (fr ++ List.replicate (codeE s.index 1).length at0))] [(2, iA d), (3, .ptr 6 0), (4, .ptr 7 0), (6, .ptr 8 0), (7, iA at0)] [] trivial fun ρ a w G => th_n (wp_seq ?_); refine rs1 (dk := dkP) G ⟨[(5, _, [9, 10])], [], []⟩ (calls_cons (c_l7Add (l ++ codeE s.index 1) (fr ++ List.replicate (codeE s.index 1).length at0) (at0 + 1) (at0) (5) (s.target) (1) (0) (0) (by simp only [List.length_append, List.length_replicate, List.length_cons, List.length_nil, r2]; have := hft.2.2.2.2; simp only [List.length_append] at this; omega) (by simp only [List.length_append, List.length_replicate, List.length_cons, List.length_nil, r2]; have := hft.2.2.2.2; simp only [List.length_append] at this; omega)) calls_nil) trivial [0, 1, 2, 3, 4, 5, 6, 7, 8, 9, 10, 51, 52] [.dead, .dead, dE s.index.kids, dE s.value.kids, dT s.body, dT s.els, yRvCb10 at0, .box (sL s 2), .box [.ref 11, .ref 12, iA (at0 + 1)], .dead, .dead, .row 50 (D.instrs (l ++ codeE s.index 1 ++ [LIns.mk 5 s.target 1 0 0])), .row 3 (D.ints (fr ++ List.replicate (codeE s.index 1).length at0 ++ [at0]))] [(2, iA d), (3, .ptr 6 0), (4, .ptr 7 0), (6, .ptr 8 0), (7, iA at0)] [] trivial fun ρ a w G => th_n (wp_ret (bl_r (th_r ?_))); exact rx_ret (v := .agg [.ref 11, .ref 12, iA (at0 + 1)]) G [0, 1, 2, 3, 4, 5, 11, 12] (by kernel_rfl) (by kernel_rfl) (by show _ = List.map (It.ren (nth [0, 1, 2, 3, 4, 5, 11, 12])) (yRvCb6 s l fr at0 d); unfold yRvCb6; have e1 : ((cmS s d (l, fr, at0)).fst : List LIns) = (l ++ codeE s.index 1 ++ [LIns.mk 5 s.target 1 0 0]) := (by have := hft.2.2.2.2; simp only [List.length_append, List.length_cons, List.length_nil] at this ⊢; omega); have e2 : ((cmS s d (l, fr, at0)).snd.fst : List Int) = (fr ++ List.replicate (codeE s.index 1).length at0 ++ [at0]) := (by have := hft.2.2.2.2; simp only [List.length_append, List.length_cons, List.length_nil] at this ⊢; omega); (first | rw [e1, e2] | simp only [e1, e2]) <;> rfl) (by have e1 : ((cmS s d (l, fr, at0)).snd.snd : Int) = (at0 + 1) := (by exact congrArg (fun x : ComS => x.2.2) (cm5 (by omega))); (first | rw [e1] | simp only [e1]) <;> rfl)
    · have q2 : s.kind = 5 := eq_of_beq h2; refine rT G (s.kind == (5 : Int)) (by assumption) ?_; refine wp_seq ?_; refine rs1 (dk := dkP) G ⟨[(3, _, [0, 1])], [], []⟩ (calls_cons (c_l7Add (l) (fr) (at0 + 1) (at0) (11) (0) (0) (0) (0) (by have := hft.2.2.2.2; simp only [List.length_append, List.length_cons, List.length_nil] at this ⊢; omega) (by simp only [List.length_append, List.length_replicate, List.length_cons, List.length_nil, r2]; have := hft.2.2.2.2; simp only [List.length_append] at this; omega)) calls_nil) trivial [0, 1, 2, 3, 4, 5, 6, 7, 8, 33, 34] [.dead, .dead, dE s.index.kids, dE s.value.kids, dT s.body, dT s.els, yRvCb10 at0, .box (sL s 2), yRvCb7, .row 50 (D.instrs (l ++ [LIns.mk 11 0 0 0 0])), .row 3 (D.ints (fr ++ [at0]))] [(2, iA d), (3, .ptr 6 0), (4, .ptr 7 0), (6, .ptr 8 0), (7, iA at0)] [] trivial fun ρ a w G => th_n (wp_seq ?_); refine rs1 (dk := dkP) G ⟨[(5, _, [9, 10])], [], []⟩ (calls_cons (c_l7Add (l ++ [LIns.mk 11 0 0 0 0]) (fr ++ [at0]) (at0 + 1) (at0) (3) (s.target) (0) (0) (0) (by simp only [List.length_append, List.length_replicate, List.length_cons, List.length_nil, r2]; have := hft.2.2.2.2; simp only [List.length_append] at this; omega) (by simp only [List.length_append, List.length_replicate, List.length_cons, List.length_nil, r2]; have := hft.2.2.2.2; simp only [List.length_append] at this; omega)) calls_nil) trivial [0, 1, 2, 3, 4, 5, 6, 7, 8, 9, 10, 51, 52] [.dead, .dead, dE s.index.kids, dE s.value.kids, dT s.body, dT s.els, yRvCb10 at0, .box (sL s 2), .box [.ref 11, .ref 12, iA (at0 + 1)], .dead, .dead, .row 50 (D.instrs (l ++ [LIns.mk 11 0 0 0 0] ++ [LIns.mk 3 s.target 0 0 0])), .row 3 (D.ints (fr ++ [at0] ++ [at0]))] [(2, iA d), (3, .ptr 6 0), (4, .ptr 7 0), (6, .ptr 8 0), (7, iA at0)] [] trivial fun ρ a w G => th_n (wp_ret (bl_r (th_r ?_))); exact rx_ret (v := .agg [.ref 11, .ref 12, iA (at0 + 1)]) G [0, 1, 2, 3, 4, 5, 11, 12] (by kernel_rfl) (by kernel_rfl) (by show _ = List.map (It.ren (nth [0, 1, 2, 3, 4, 5, 11, 12])) (yRvCb6 s l fr at0 d); unfold yRvCb6; have e1 : ((cmS s d (l, fr, at0)).fst : List LIns) = (l ++ [LIns.mk 11 0 0 0 0] ++ [LIns.mk 3 s.target 0 0 0]) := (by have := hft.2.2.2.2; simp only [List.length_append, List.length_cons, List.length_nil] at this ⊢; omega); have e2 : ((cmS s d (l, fr, at0)).snd.fst : List Int) = (fr ++ [at0] ++ [at0]) := (by have := hft.2.2.2.2; simp only [List.length_append, List.length_cons, List.length_nil] at this ⊢; omega); (first | rw [e1, e2] | simp only [e1, e2]) <;> rfl) (by have e1 : ((cmS s d (l, fr, at0)).snd.snd : Int) = (at0 + 1) := (by exact congrArg (fun x : ComS => x.2.2) (cm5 (by omega))); (first | rw [e1] | simp only [e1]) <;> rfl)
   · have q1 : s.kind = 1 := eq_of_beq h1; refine rT G (s.kind == (1 : Int)) (by assumption) ?_; refine wp_seq ?_; refine rs1 (dk := dkP) G ⟨[(5, _, [0, 1])], [], []⟩ (calls_cons (c_l7Add (l) (fr) (at0 + 1) (at0) (3) (s.target) (0) (0) (0) (by have := hft.2.2.2.2; simp only [List.length_append, List.length_cons, List.length_nil] at this ⊢; omega) (by simp only [List.length_append, List.length_replicate, List.length_cons, List.length_nil, r2]; have := hft.2.2.2.2; simp only [List.length_append] at this; omega)) calls_nil) trivial [0, 1, 2, 3, 4, 5, 6, 7, 8, 49, 50] [.dead, .dead, dE s.index.kids, dE s.value.kids, dT s.body, dT s.els, .box [.ref 0, .ref 1, iA (at0 + 1)], .box (sL s 2), yRvCb10 at0, .row 50 (D.instrs (l ++ [LIns.mk 3 s.target 0 0 0])), .row 3 (D.ints (fr ++ [at0]))] [(2, iA d), (3, .ptr 6 0), (4, .ptr 7 0), (6, .ptr 8 0), (7, iA at0)] [] trivial fun ρ a w G => th_n (wp_ret (bl_r (th_r ?_))); exact rx_ret (v := .agg [.ref 9, .ref 10, iA (at0 + 1)]) G [0, 1, 2, 3, 4, 5, 9, 10] (by kernel_rfl) (by kernel_rfl) (by show _ = List.map (It.ren (nth [0, 1, 2, 3, 4, 5, 9, 10])) (yRvCb6 s l fr at0 d); unfold yRvCb6; have e1 : ((cmS s d (l, fr, at0)).fst : List LIns) = (l ++ [LIns.mk 3 s.target 0 0 0]) := (by have := hft.2.2.2.2; simp only [List.length_append, List.length_cons, List.length_nil] at this ⊢; omega); have e2 : ((cmS s d (l, fr, at0)).snd.fst : List Int) = (fr ++ [at0]) := (by have := hft.2.2.2.2; simp only [List.length_append, List.length_cons, List.length_nil] at this ⊢; omega); (first | rw [e1, e2] | simp only [e1, e2]) <;> rfl) (by have e1 : ((cmS s d (l, fr, at0)).snd.snd : Int) = (at0 + 1) := (by exact congrArg (fun x : ComS => x.2.2) (cm5 (by omega))); (first | rw [e1] | simp only [e1]) <;> rfl)
  ·
   have q0 : ¬ (s.kind = 4) := bne_iff_ne.1 h0; refine rT G (s.kind != (4 : Int)) (by assumption) ?_; refine rs1 (dk := dkP) G ⟨[(4, _, [0, 1, 3])], [], []⟩ (calls_cons (c_l7Expr (s.value) (l) (fr) (at0 + 1) (at0) (0) (by simp [hh, hbb, hbe, h0]) (by have := hft.2.2.2.2; simp only [List.length_append, List.length_cons, List.length_nil] at this ⊢; omega) (by have := hft.2.2.2.2; simp only [List.length_append, List.length_cons, List.length_nil] at this ⊢; omega) (by assumption)) calls_nil) trivial [0, 1, 2, 3, 4, 5, 6, 7, 8, 41, 42] [.dead, .dead, dE s.index.kids, dE s.value.kids, dT s.body, dT s.els, yRvCb10 at0, .box (sL s 2), yRvCb7, .row 50 (D.instrs (l ++ codeE s.value 0)), .row 3 (D.ints (fr ++ List.replicate (codeE s.value 0).length at0))] [(2, iA d), (3, .ptr 6 0), (4, .ptr 7 0), (6, .ptr 8 0), (7, iA at0)] [] trivial fun ρ a w G => th_n (wp_seq (wp_seq ?_)); refine rs0s G [(2, iA d), (3, .ptr 6 0), (4, .ptr 7 0), (6, .ptr 8 0), (7, iA at0), (27, iA s.kind)] fun ρ a w G => th_n (wp_block (wp_seq ?_)); refine rs0s G [(2, iA d), (3, .ptr 6 0), (4, .ptr 7 0), (6, .ptr 8 0), (7, iA at0), (27, iA s.kind), (28, bA (s.kind == 1))] fun ρ a w G => th_n ?_; cases h5 : (s.kind == (1 : Int))
   ·
    have q5 : ¬ (s.kind = 1) := ne_of_beq_false h5; refine rF G (s.kind == (1 : Int)) (by assumption) ?_; refine wp_seq ?_; refine rs0s G [(2, iA d), (3, .ptr 6 0), (4, .ptr 7 0), (6, .ptr 8 0), (7, iA at0), (27, iA s.kind), (36, bA (s.kind == 5))] fun ρ a w G => th_n ?_; cases h6 : (s.kind == (5 : Int))
    ·
     have q6 : ¬ (s.kind = 5) := ne_of_beq_false h6; refine rF G (s.kind == (5 : Int)) (by assumption) ?_; refine wp_seq ?_; refine rs0s G [(2, iA d), (3, .ptr 6 0), (4, .ptr 7 0), (6, .ptr 8 0), (7, iA at0), (27, iA s.kind), (48, bA (s.kind == 2))] fun ρ a w G => th_n ?_; cases h7 : (s.kind == (2 : Int))
     ·
      have q7 : ¬ (s.kind = 2) := ne_of_beq_false h7; refine rF G (s.kind == (2 : Int)) (by assumption) ?_; refine wp_seq ?_; refine rs0s G [(2, iA d), (3, .ptr 6 0), (4, .ptr 7 0), (6, .ptr 8 0), (7, iA at0), (61, bA (s.kind == 3))] fun ρ a w G => th_n ?_; cases h8 : (s.kind == (3 : Int))
      ·
       have q8 : ¬ (s.kind = 3) := ne_of_beq_false h8; refine rF G (s.kind == (3 : Int)) (by assumption) ?_; refine wp_skip ?_; refine bl_n ?_; refine th_n (wp_seq ?_); refine rs1s G ⟨[], [], []⟩ calls_nil trivial [(2, iA d), (3, .ptr 6 0), (4, .ptr 7 0), (6, .ptr 8 0), (7, iA at0), (10, iA (9 + d))] [IntKind.i64.wrap ((9 : Int) + d) = (9 : Int) + d] ⟨(by exact absurd (hh.symm.trans (head0 (by omega))) (by decide)), trivial⟩ fun ρ a w G => th_n (wp_seq ?_); refine rs1 (dk := dkP) G ⟨[(6, _, [9, 10])], [], []⟩ (calls_cons (c_l7Add (l ++ codeE s.value 0) (fr ++ List.replicate (codeE s.value 0).length at0) (at0 + 1) (at0) (1) (9 + d) (s.count) (0) (0) (by simp only [List.length_append, List.length_replicate, List.length_cons, List.length_nil, r2]; have := hft.2.2.2.2; simp only [List.length_append] at this; omega) (by simp only [List.length_append, List.length_replicate, List.length_cons, List.length_nil, r2]; have := hft.2.2.2.2; simp only [List.length_append] at this; omega)) calls_nil) trivial [0, 1, 2, 3, 4, 5, 6, 7, 8, 59, 60] [.dead, .dead, dE s.index.kids, dE s.value.kids, dT s.body, dT s.els, yRvCb10 at0, .box (sL s 2), yRvCb7, .row 50 (D.instrs (l ++ codeE s.value 0 ++ [LIns.mk 1 (9 + d) s.count 0 0])), yRvCb11 s fr at0] [(2, iA d), (3, .ptr 6 0), (4, .ptr 7 0), (6, .ptr 8 0), (7, iA at0), (10, iA (9 + d))] [] trivial fun ρ a w G => th_n (wp_seq ?_); refine rs0s G [(2, iA d), (3, .ptr 6 0), (4, .ptr 7 0), (6, .ptr 8 0), (7, iA at0), (10, iA (9 + d)), (11, iA (↑(l ++ codeE s.value 0 ++ [LIns.mk 1 (9 + d) s.count 0 0]).length : Int))] fun ρ a w G => th_n (wp_seq ?_); refine rs1 (dk := dkP) G ⟨[(5, _, [9, 10, 4])], [], []⟩ (calls_cons (ih (s.body) (l ++ codeE s.value 0 ++ [LIns.mk 1 (9 + d) s.count 0 0]) (fr ++ List.replicate (codeE s.value 0).length at0 ++ [at0]) (at0 + 1) (d + 1) (by assumption) (by simp only [List.length_append, List.length_replicate, List.length_cons, List.length_nil, r2]; have := hft.2.2.2.2; simp only [List.length_append] at this; omega) (by exact absurd (hh.symm.trans (head0 (by omega))) (by decide)) (by have := hft.2.2.2.2; simp only [List.length_append, List.length_cons, List.length_nil] at this ⊢; omega) (by have := hft.2.2.2.2; simp only [List.length_append, List.length_cons, List.length_nil] at this ⊢; omega) (by have := hft.2.2.2.2; simp only [List.length_append, List.length_cons, List.length_nil] at this ⊢; omega) (by have := hft.2.2.2.2; simp only [List.length_append, List.length_cons, List.length_nil] at this ⊢; omega)) calls_nil) trivial [0, 1, 2, 3, 4, 5, 6, 8, 51, 52] [.dead, .dead, dE s.index.kids, dE s.value.kids, dT s.body, dT s.els, .box [.ref 8, .ref 9, iA (yRvCb4 s l fr at0 d).snd.snd], yRvCb7, .row 50 (D.instrs (yRvCb4 s l fr at0 d).fst), .row 3 (D.ints (yRvCb4 s l fr at0 d).snd.fst)] [(3, .ptr 6 0), (6, .ptr 7 0), (7, iA at0), (10, iA (9 + d)), (11, iA (↑(l ++ codeE s.value 0 ++ [LIns.mk 1 (9 + d) s.count 0 0]).length : Int))] [IntKind.i64.wrap (d + (1 : Int)) = d + (1 : Int)] ⟨(by exact absurd (hh.symm.trans (head0 (by omega))) (by decide)), trivial⟩ fun ρ a w G => th_n (wp_seq ?_); refine rs1 (dk := dkP) G ⟨[(5, _, [8, 9])], [], []⟩ (calls_cons (c_l7Add ((cmB s.body (d + 1) (l ++ codeE s.value 0 ++ [LIns.mk 1 (9 + d) s.count 0 0], fr ++ List.replicate (codeE s.value 0).length at0 ++ [at0], at0 + 1)).fst) ((cmB s.body (d + 1) (l ++ codeE s.value 0 ++ [LIns.mk 1 (9 + d) s.count 0 0], fr ++ List.replicate (codeE s.value 0).length at0 ++ [at0], at0 + 1)).snd.fst) ((cmB s.body (d + 1) (l ++ codeE s.value 0 ++ [LIns.mk 1 (9 + d) s.count 0 0], fr ++ List.replicate (codeE s.value 0).length at0 ++ [at0], at0 + 1)).snd.snd) (at0) (10) (9 + d) ((↑(l ++ codeE s.value 0 ++ [LIns.mk 1 (9 + d) s.count 0 0]).length : Int)) (0) (0) (by exact absurd (hh.symm.trans (head0 (by omega))) (by decide)) (by exact absurd (hh.symm.trans (head0 (by omega))) (by decide))) calls_nil) trivial [0, 1, 2, 3, 4, 5, 7, 50, 51] [.dead, .dead, dE s.index.kids, dE s.value.kids, dT s.body, dT s.els, .box [.ref 7, .ref 8, iA (yRvCb4 s l fr at0 d).snd.snd], .row 50 (D.instrs ((yRvCb4 s l fr at0 d).fst ++ [LIns.mk 10 (9 + d) (↑(l ++ codeE s.value 0 ++ [LIns.mk 1 (9 + d) s.count 0 0]).length : Int) 0 0])), .row 3 (D.ints ((yRvCb4 s l fr at0 d).snd.fst ++ [at0]))] [(6, .ptr 6 0)] [] trivial ?_
       clear G; intro ρ a w G; refine th_n (wp_ret ?_); exact rx_ret (v := .agg [.ref 7, .ref 8, iA (cmB s.body (d + 1) (l ++ codeE s.value 0 ++ [LIns.mk 1 (9 + d) s.count 0 0], fr ++ List.replicate (codeE s.value 0).length at0 ++ [at0], at0 + 1)).snd.snd]) G [0, 1, 2, 3, 4, 5, 7, 8] (by kernel_rfl) (by kernel_rfl) (by show _ = List.map (It.ren (nth [0, 1, 2, 3, 4, 5, 7, 8])) (yRvCb6 s l fr at0 d); unfold yRvCb6; have e1 : ((cmS s d (l, fr, at0)).fst : List LIns) = ((cmB s.body (d + 1) (l ++ codeE s.value 0 ++ [LIns.mk 1 (9 + d) s.count 0 0], fr ++ List.replicate (codeE s.value 0).length at0 ++ [at0], at0 + 1)).fst ++ [LIns.mk 10 (9 + d) (↑(l ++ codeE s.value 0 ++ [LIns.mk 1 (9 + d) s.count 0 0]).length : Int) 0 0]) := (by exact absurd (hh.symm.trans (head0 (by omega))) (by decide)); have e2 : ((cmS s d (l, fr, at0)).snd.fst : List Int) = ((cmB s.body (d + 1) (l ++ codeE s.value 0 ++ [LIns.mk 1 (9 + d) s.count 0 0], fr ++ List.replicate (codeE s.value 0).length at0 ++ [at0], at0 + 1)).snd.fst ++ [at0]) := (by exact absurd (hh.symm.trans (head0 (by omega))) (by decide)); (first | rw [e1, e2] | simp only [e1, e2]) <;> rfl) (by have e1 : ((cmS s d (l, fr, at0)).snd.snd : Int) = ((cmB s.body (d + 1) (l ++ codeE s.value 0 ++ [LIns.mk 1 (9 + d) s.count 0 0], fr ++ List.replicate (codeE s.value 0).length at0 ++ [at0], at0 + 1)).snd.snd) := (by exact absurd (hh.symm.trans (head0 (by omega))) (by decide)); (first | rw [e1] | simp only [e1]) <;> rfl)
      ·
       have q8 : s.kind = 3 := eq_of_beq h8; refine rT G (s.kind == (3 : Int)) (by assumption) ?_; refine wp_seq ?_; refine rs0s G [(2, iA d), (3, .ptr 6 0), (4, .ptr 7 0), (6, .ptr 8 0), (7, iA at0), (8, iA (↑(l ++ codeE s.value 0).length : Int))] fun ρ a w G => th_n (wp_seq ?_); refine rs1 (dk := dkP) G ⟨[(3, _, [9, 10])], [], []⟩ (calls_cons (c_l7Add (l ++ codeE s.value 0) (fr ++ List.replicate (codeE s.value 0).length at0) (at0 + 1) (at0) (9) (0) (0) (0) (0) (by simp only [List.length_append, List.length_replicate, List.length_cons, List.length_nil, r2]; have := hft.2.2.2.2; simp only [List.length_append] at this; omega) (by simp only [List.length_append, List.length_replicate, List.length_cons, List.length_nil, r2]; have := hft.2.2.2.2; simp only [List.length_append] at this; omega)) calls_nil) trivial [0, 1, 2, 3, 4, 5, 6, 7, 8, 35, 36] [.dead, .dead, dE s.index.kids, dE s.value.kids, dT s.body, dT s.els, yRvCb10 at0, .box (sL s 2), yRvCb7, .row 50 (D.instrs (l ++ codeE s.value 0 ++ [LIns.mk 9 0 0 0 0])), yRvCb11 s fr at0] [(2, iA d), (3, .ptr 6 0), (4, .ptr 7 0), (6, .ptr 8 0), (7, iA at0), (8, iA (↑(l ++ codeE s.value 0).length : Int))] [] trivial fun ρ a w G => th_n (wp_seq ?_); refine rs1 (dk := dkP) G ⟨[(5, _, [9, 10, 4])], [], []⟩ (calls_cons (ih (s.body) (l ++ codeE s.value 0 ++ [LIns.mk 9 0 0 0 0]) (fr ++ List.replicate (codeE s.value 0).length at0 ++ [at0]) (at0 + 1) (d + 1) (by assumption) (by simp only [List.length_append, List.length_replicate, List.length_cons, List.length_nil, r2]; have := hft.2.2.2.2; simp only [List.length_append] at this; omega) (by simp; omega) (by have := hft.2.2.2.2; simp only [List.length_append, List.length_cons, List.length_nil] at this ⊢; omega) (by have := hft.2.2.2.2; simp only [List.length_append, List.length_cons, List.length_nil] at this ⊢; omega) (by have := hft.2.2.2.2; simp only [List.length_append, List.length_cons, List.length_nil] at this ⊢; omega) (by have := hft.2.2.2.2; simp only [List.length_append, List.length_cons, List.length_nil] at this ⊢; omega)) calls_nil) trivial [0, 1, 2, 3, 4, 5, 6, 7, 8, 51, 52] [.dead, .dead, dE s.index.kids, dE s.value.kids, dT s.body, dT s.els, .box [.ref 9, .ref 10, iA (yRvCb2 s l fr at0 d).snd.snd], .box (sL s 2), yRvCb7, .row 50 (D.instrs (yRvCb2 s l fr at0 d).fst), .row 3 (D.ints (yRvCb2 s l fr at0 d).snd.fst)] [(2, iA d), (3, .ptr 6 0), (4, .ptr 7 0), (6, .ptr 8 0), (7, iA at0), (8, iA (↑(l ++ codeE s.value 0).length : Int))] [IntKind.i64.wrap (d + (1 : Int)) = d + (1 : Int)] ⟨(by exact w64 (by omega) (by omega)), trivial⟩ fun ρ a w G => th_n (wp_seq ?_); refine rs0s G [(2, iA d), (3, .ptr 6 0), (4, .ptr 7 0), (6, .ptr 8 0), (7, iA at0), (8, iA (↑(l ++ codeE s.value 0).length : Int)), (9, iA (↑(yRvCb2 s l fr at0 d).fst.length : Int))] fun ρ a w G => th_n (wp_seq ?_); refine rs1 (dk := dkP) G ⟨[(3, _, [9, 10])], [], []⟩ (calls_cons (c_l7Add ((cmB s.body (d + 1) (l ++ codeE s.value 0 ++ [LIns.mk 9 0 0 0 0], fr ++ List.replicate (codeE s.value 0).length at0 ++ [at0], at0 + 1)).fst) ((cmB s.body (d + 1) (l ++ codeE s.value 0 ++ [LIns.mk 9 0 0 0 0], fr ++ List.replicate (codeE s.value 0).length at0 ++ [at0], at0 + 1)).snd.fst) ((cmB s.body (d + 1) (l ++ codeE s.value 0 ++ [LIns.mk 9 0 0 0 0], fr ++ List.replicate (codeE s.value 0).length at0 ++ [at0], at0 + 1)).snd.snd) (at0) (8) (0) (0) (0) (0) (by have h9 := cmB_len s.body (d + 1) (l ++ codeE s.value 0 ++ [⟨9, 0, 0, 0, 0⟩], fr ++ List.replicate (codeE s.value 0).length at0 ++ [at0], at0 + 1); have h8 := cntB_le s.body; simp only [List.length_append, List.length_cons, List.length_nil, List.length_replicate, List.length_set, r2] at h9 ⊢; omega) (by have h9 := cmB_len s.body (d + 1) (l ++ codeE s.value 0 ++ [⟨9, 0, 0, 0, 0⟩], fr ++ List.replicate (codeE s.value 0).length at0 ++ [at0], at0 + 1); have h8 := cntB_le s.body; simp only [List.length_append, List.length_cons, List.length_nil, List.length_replicate, List.length_set, r2] at h9 ⊢; omega)) calls_nil) trivial [0, 1, 2, 3, 4, 5, 6, 7, 8, 35, 36] [.dead, .dead, dE s.index.kids, dE s.value.kids, dT s.body, dT s.els, .box [.ref 9, .ref 10, iA (yRvCb2 s l fr at0 d).snd.snd], .box (sL s 2), yRvCb7, .row 50 (D.instrs ((yRvCb2 s l fr at0 d).fst ++ [LIns.mk 8 0 0 0 0])), .row 3 (D.ints ((yRvCb2 s l fr at0 d).snd.fst ++ [at0]))] [(2, iA d), (3, .ptr 6 0), (4, .ptr 7 0), (6, .ptr 8 0), (7, iA at0), (8, iA (↑(l ++ codeE s.value 0).length : Int)), (9, iA (↑(yRvCb2 s l fr at0 d).fst.length : Int))] [] trivial ?_
       clear G; intro ρ a w G; refine th_n (wp_seq ?_); refine rs1 (dk := dkP) G ⟨[], [], []⟩ calls_nil trivial (rg 11) [.dead, .dead, dE s.index.kids, dE s.value.kids, dT s.body, dT s.els, .box [.ref 9, .ref 10, iA (yRvCb2 s l fr at0 d).snd.snd], .box (sL s 2), yRvCb7, .row 50 (D.instrs (((yRvCb2 s l fr at0 d).fst ++ [LIns.mk 8 0 0 0 0]).set (l ++ codeE s.value 0).length (LIns.mk (((yRvCb2 s l fr at0 d).fst ++ [LIns.mk 8 0 0 0 0]).getD (l ++ codeE s.value 0).length default).op (((yRvCb2 s l fr at0 d).fst ++ [LIns.mk 8 0 0 0 0]).getD (l ++ codeE s.value 0).length default).a (↑((yRvCb2 s l fr at0 d).fst ++ [LIns.mk 8 0 0 0 0]).length : Int) (((yRvCb2 s l fr at0 d).fst ++ [LIns.mk 8 0 0 0 0]).getD (l ++ codeE s.value 0).length default).c (((yRvCb2 s l fr at0 d).fst ++ [LIns.mk 8 0 0 0 0]).getD (l ++ codeE s.value 0).length default).d))), .row 3 (D.ints ((yRvCb2 s l fr at0 d).snd.fst ++ [at0]))] [(2, iA d), (3, .ptr 6 0), (4, .ptr 7 0), (6, .ptr 8 0), (7, iA at0), (9, iA (↑(yRvCb2 s l fr at0 d).fst.length : Int))] [(0 : Int) ≤ (↑(l ++ codeE s.value (0 : Int)).length : Int), (↑(l ++ codeE s.value (0 : Int)).length : Int) < (↑((cmB s.body (d + (1 : Int)) (l ++ codeE s.value (0 : Int) ++ [LIns.mk (9 : Int) (0 : Int) (0 : Int) (0 : Int) (0 : Int)], fr ++ List.replicate (codeE s.value (0 : Int)).length at0 ++ [at0], at0 + (1 : Int))).fst ++ [LIns.mk (8 : Int) (0 : Int) (0 : Int) (0 : Int) (0 : Int)]).length : Int), (l ++ codeE s.value (0 : Int)).length < ((cmB s.body (d + (1 : Int)) (l ++ codeE s.value (0 : Int) ++ [LIns.mk (9 : Int) (0 : Int) (0 : Int) (0 : Int) (0 : Int)], fr ++ List.replicate (codeE s.value (0 : Int)).length at0 ++ [at0], at0 + (1 : Int))).fst ++ [LIns.mk (8 : Int) (0 : Int) (0 : Int) (0 : Int) (0 : Int)]).length] ⟨(by simp only [List.length_append, List.length_replicate, List.length_cons, List.length_nil, r2]; have := hft.2.2.2.2; simp only [List.length_append] at this; omega), (by simp only [cmB_len1, List.length_set, List.length_append, List.length_cons, List.length_nil]; omega), (by simp only [cmB_len1, List.length_set, List.length_append, List.length_cons, List.length_nil]; omega), trivial⟩ fun ρ a w G => th_n (wp_seq ?_); refine rs1 (dk := dkP) G ⟨[(5, _, [9, 10, 5])], [], []⟩ (calls_cons (ih (s.els) (((cmB s.body (d + 1) (l ++ codeE s.value 0 ++ [LIns.mk 9 0 0 0 0], fr ++ List.replicate (codeE s.value 0).length at0 ++ [at0], at0 + 1)).fst ++ [LIns.mk 8 0 0 0 0]).set (l ++ codeE s.value 0).length (LIns.mk (((cmB s.body (d + 1) (l ++ codeE s.value 0 ++ [LIns.mk 9 0 0 0 0], fr ++ List.replicate (codeE s.value 0).length at0 ++ [at0], at0 + 1)).fst ++ [LIns.mk 8 0 0 0 0]).getD (l ++ codeE s.value 0).length default).op (((cmB s.body (d + 1) (l ++ codeE s.value 0 ++ [LIns.mk 9 0 0 0 0], fr ++ List.replicate (codeE s.value 0).length at0 ++ [at0], at0 + 1)).fst ++ [LIns.mk 8 0 0 0 0]).getD (l ++ codeE s.value 0).length default).a (↑((cmB s.body (d + 1) (l ++ codeE s.value 0 ++ [LIns.mk 9 0 0 0 0], fr ++ List.replicate (codeE s.value 0).length at0 ++ [at0], at0 + 1)).fst ++ [LIns.mk 8 0 0 0 0]).length : Int) (((cmB s.body (d + 1) (l ++ codeE s.value 0 ++ [LIns.mk 9 0 0 0 0], fr ++ List.replicate (codeE s.value 0).length at0 ++ [at0], at0 + 1)).fst ++ [LIns.mk 8 0 0 0 0]).getD (l ++ codeE s.value 0).length default).c (((cmB s.body (d + 1) (l ++ codeE s.value 0 ++ [LIns.mk 9 0 0 0 0], fr ++ List.replicate (codeE s.value 0).length at0 ++ [at0], at0 + 1)).fst ++ [LIns.mk 8 0 0 0 0]).getD (l ++ codeE s.value 0).length default).d)) ((cmB s.body (d + 1) (l ++ codeE s.value 0 ++ [LIns.mk 9 0 0 0 0], fr ++ List.replicate (codeE s.value 0).length at0 ++ [at0], at0 + 1)).snd.fst ++ [at0]) ((cmB s.body (d + 1) (l ++ codeE s.value 0 ++ [LIns.mk 9 0 0 0 0], fr ++ List.replicate (codeE s.value 0).length at0 ++ [at0], at0 + 1)).snd.snd) (d + 1) (by assumption) (by have h9 := cmB_len s.body (d + 1) (l ++ codeE s.value 0 ++ [⟨9, 0, 0, 0, 0⟩], fr ++ List.replicate (codeE s.value 0).length at0 ++ [at0], at0 + 1); have h8 := cntB_le s.body; simp only [List.length_append, List.length_cons, List.length_nil, List.length_replicate, List.length_set, r2] at h9 ⊢; omega) (by have h9 := cmB_len s.body (d + 1) (l ++ codeE s.value 0 ++ [⟨9, 0, 0, 0, 0⟩], fr ++ List.replicate (codeE s.value 0).length at0 ++ [at0], at0 + 1); have h8 := cntB_le s.body; simp only [List.length_append, List.length_cons, List.length_nil, List.length_replicate, List.length_set, r2] at h9 ⊢; omega) (by have := hft.2.2.2.2; simp only [List.length_append, List.length_cons, List.length_nil] at this ⊢; omega) (by have := hft.2.2.2.2; simp only [List.length_append, List.length_cons, List.length_nil] at this ⊢; omega) (by have h9 := cmB_at s.body (d + 1) (l ++ codeE s.value 0 ++ [⟨9, 0, 0, 0, 0⟩], fr ++ List.replicate (codeE s.value 0).length at0 ++ [at0], at0 + 1); simp only at h9; omega) (by have h9 := cmB_at s.body (d + 1) (l ++ codeE s.value 0 ++ [⟨9, 0, 0, 0, 0⟩], fr ++ List.replicate (codeE s.value 0).length at0 ++ [at0], at0 + 1); simp only at h9; omega)) calls_nil) trivial [0, 1, 2, 3, 4, 5, 6, 7, 8, 51, 52] [.dead, .dead, dE s.index.kids, dE s.value.kids, dT s.body, dT s.els, .box [.ref 9, .ref 10, iA (yRvCb0 s l fr at0 d).snd.snd], .box (sL s 2), yRvCb7, .row 50 (D.instrs (yRvCb0 s l fr at0 d).fst), .row 3 (D.ints (yRvCb0 s l fr at0 d).snd.fst)] [(2, iA d), (3, .ptr 6 0), (4, .ptr 7 0), (6, .ptr 8 0), (7, iA at0), (9, iA (↑(yRvCb2 s l fr at0 d).fst.length : Int))] [IntKind.i64.wrap (d + (1 : Int)) = d + (1 : Int)] ⟨(by exact w64 (by omega) (by omega)), trivial⟩ ?_
       clear G; intro ρ a w G; refine th_n (wp_seq ?_); refine rs1 (dk := dkP) G ⟨[], [], []⟩ calls_nil trivial (rg 11) [.dead, .dead, dE s.index.kids, dE s.value.kids, dT s.body, dT s.els, .box [.ref 9, .ref 10, iA (yRvCb0 s l fr at0 d).snd.snd], .box (sL s 2), yRvCb7, yRvCb9 s l fr at0 d, .row 3 (D.ints (yRvCb0 s l fr at0 d).snd.fst)] [(2, iA d), (3, .ptr 6 0), (4, .ptr 7 0), (6, .ptr 8 0), (7, iA at0)] [(0 : Int) ≤ (↑(cmB s.body (d + (1 : Int)) (l ++ codeE s.value (0 : Int) ++ [LIns.mk (9 : Int) (0 : Int) (0 : Int) (0 : Int) (0 : Int)], fr ++ List.replicate (codeE s.value (0 : Int)).length at0 ++ [at0], at0 + (1 : Int))).fst.length : Int), (↑(cmB s.body (d + (1 : Int)) (l ++ codeE s.value (0 : Int) ++ [LIns.mk (9 : Int) (0 : Int) (0 : Int) (0 : Int) (0 : Int)], fr ++ List.replicate (codeE s.value (0 : Int)).length at0 ++ [at0], at0 + (1 : Int))).fst.length : Int) < (↑(cmB s.els (d + (1 : Int)) (((cmB s.body (d + (1 : Int)) (l ++ codeE s.value (0 : Int) ++ [LIns.mk (9 : Int) (0 : Int) (0 : Int) (0 : Int) (0 : Int)], fr ++ List.replicate (codeE s.value (0 : Int)).length at0 ++ [at0], at0 + (1 : Int))).fst ++ [LIns.mk (8 : Int) (0 : Int) (0 : Int) (0 : Int) (0 : Int)]).set (l ++ codeE s.value (0 : Int)).length (LIns.mk (((cmB s.body (d + (1 : Int)) (l ++ codeE s.value (0 : Int) ++ [LIns.mk (9 : Int) (0 : Int) (0 : Int) (0 : Int) (0 : Int)], fr ++ List.replicate (codeE s.value (0 : Int)).length at0 ++ [at0], at0 + (1 : Int))).fst ++ [LIns.mk (8 : Int) (0 : Int) (0 : Int) (0 : Int) (0 : Int)]).getD (l ++ codeE s.value (0 : Int)).length default).op (((cmB s.body (d + (1 : Int)) (l ++ codeE s.value (0 : Int) ++ [LIns.mk (9 : Int) (0 : Int) (0 : Int) (0 : Int) (0 : Int)], fr ++ List.replicate (codeE s.value (0 : Int)).length at0 ++ [at0], at0 + (1 : Int))).fst ++ [LIns.mk (8 : Int) (0 : Int) (0 : Int) (0 : Int) (0 : Int)]).getD (l ++ codeE s.value (0 : Int)).length default).a (↑((cmB s.body (d + (1 : Int)) (l ++ codeE s.value (0 : Int) ++ [LIns.mk (9 : Int) (0 : Int) (0 : Int) (0 : Int) (0 : Int)], fr ++ List.replicate (codeE s.value (0 : Int)).length at0 ++ [at0], at0 + (1 : Int))).fst ++ [LIns.mk (8 : Int) (0 : Int) (0 : Int) (0 : Int) (0 : Int)]).length : Int) (((cmB s.body (d + (1 : Int)) (l ++ codeE s.value (0 : Int) ++ [LIns.mk (9 : Int) (0 : Int) (0 : Int) (0 : Int) (0 : Int)], fr ++ List.replicate (codeE s.value (0 : Int)).length at0 ++ [at0], at0 + (1 : Int))).fst ++ [LIns.mk (8 : Int) (0 : Int) (0 : Int) (0 : Int) (0 : Int)]).getD (l ++ codeE s.value (0 : Int)).length default).c (((cmB s.body (d + (1 : Int)) (l ++ codeE s.value (0 : Int) ++ [LIns.mk (9 : Int) (0 : Int) (0 : Int) (0 : Int) (0 : Int)], fr ++ List.replicate (codeE s.value (0 : Int)).length at0 ++ [at0], at0 + (1 : Int))).fst ++ [LIns.mk (8 : Int) (0 : Int) (0 : Int) (0 : Int) (0 : Int)]).getD (l ++ codeE s.value (0 : Int)).length default).d), (cmB s.body (d + (1 : Int)) (l ++ codeE s.value (0 : Int) ++ [LIns.mk (9 : Int) (0 : Int) (0 : Int) (0 : Int) (0 : Int)], fr ++ List.replicate (codeE s.value (0 : Int)).length at0 ++ [at0], at0 + (1 : Int))).snd.fst ++ [at0], (cmB s.body (d + (1 : Int)) (l ++ codeE s.value (0 : Int) ++ [LIns.mk (9 : Int) (0 : Int) (0 : Int) (0 : Int) (0 : Int)], fr ++ List.replicate (codeE s.value (0 : Int)).length at0 ++ [at0], at0 + (1 : Int))).snd.snd)).fst.length : Int), (cmB s.body (d + (1 : Int)) (l ++ codeE s.value (0 : Int) ++ [LIns.mk (9 : Int) (0 : Int) (0 : Int) (0 : Int) (0 : Int)], fr ++ List.replicate (codeE s.value (0 : Int)).length at0 ++ [at0], at0 + (1 : Int))).fst.length < (cmB s.els (d + (1 : Int)) (((cmB s.body (d + (1 : Int)) (l ++ codeE s.value (0 : Int) ++ [LIns.mk (9 : Int) (0 : Int) (0 : Int) (0 : Int) (0 : Int)], fr ++ List.replicate (codeE s.value (0 : Int)).length at0 ++ [at0], at0 + (1 : Int))).fst ++ [LIns.mk (8 : Int) (0 : Int) (0 : Int) (0 : Int) (0 : Int)]).set (l ++ codeE s.value (0 : Int)).length (LIns.mk (((cmB s.body (d + (1 : Int)) (l ++ codeE s.value (0 : Int) ++ [LIns.mk (9 : Int) (0 : Int) (0 : Int) (0 : Int) (0 : Int)], fr ++ List.replicate (codeE s.value (0 : Int)).length at0 ++ [at0], at0 + (1 : Int))).fst ++ [LIns.mk (8 : Int) (0 : Int) (0 : Int) (0 : Int) (0 : Int)]).getD (l ++ codeE s.value (0 : Int)).length default).op (((cmB s.body (d + (1 : Int)) (l ++ codeE s.value (0 : Int) ++ [LIns.mk (9 : Int) (0 : Int) (0 : Int) (0 : Int) (0 : Int)], fr ++ List.replicate (codeE s.value (0 : Int)).length at0 ++ [at0], at0 + (1 : Int))).fst ++ [LIns.mk (8 : Int) (0 : Int) (0 : Int) (0 : Int) (0 : Int)]).getD (l ++ codeE s.value (0 : Int)).length default).a (↑((cmB s.body (d + (1 : Int)) (l ++ codeE s.value (0 : Int) ++ [LIns.mk (9 : Int) (0 : Int) (0 : Int) (0 : Int) (0 : Int)], fr ++ List.replicate (codeE s.value (0 : Int)).length at0 ++ [at0], at0 + (1 : Int))).fst ++ [LIns.mk (8 : Int) (0 : Int) (0 : Int) (0 : Int) (0 : Int)]).length : Int) (((cmB s.body (d + (1 : Int)) (l ++ codeE s.value (0 : Int) ++ [LIns.mk (9 : Int) (0 : Int) (0 : Int) (0 : Int) (0 : Int)], fr ++ List.replicate (codeE s.value (0 : Int)).length at0 ++ [at0], at0 + (1 : Int))).fst ++ [LIns.mk (8 : Int) (0 : Int) (0 : Int) (0 : Int) (0 : Int)]).getD (l ++ codeE s.value (0 : Int)).length default).c (((cmB s.body (d + (1 : Int)) (l ++ codeE s.value (0 : Int) ++ [LIns.mk (9 : Int) (0 : Int) (0 : Int) (0 : Int) (0 : Int)], fr ++ List.replicate (codeE s.value (0 : Int)).length at0 ++ [at0], at0 + (1 : Int))).fst ++ [LIns.mk (8 : Int) (0 : Int) (0 : Int) (0 : Int) (0 : Int)]).getD (l ++ codeE s.value (0 : Int)).length default).d), (cmB s.body (d + (1 : Int)) (l ++ codeE s.value (0 : Int) ++ [LIns.mk (9 : Int) (0 : Int) (0 : Int) (0 : Int) (0 : Int)], fr ++ List.replicate (codeE s.value (0 : Int)).length at0 ++ [at0], at0 + (1 : Int))).snd.fst ++ [at0], (cmB s.body (d + (1 : Int)) (l ++ codeE s.value (0 : Int) ++ [LIns.mk (9 : Int) (0 : Int) (0 : Int) (0 : Int) (0 : Int)], fr ++ List.replicate (codeE s.value (0 : Int)).length at0 ++ [at0], at0 + (1 : Int))).snd.snd)).fst.length] ⟨(by simp [hh, hbb, hbe, h0, h5, h6, h7, h8]), (by simp only [cmB_len1, List.length_set, List.length_append, List.length_cons, List.length_nil]; omega), (by simp only [cmB_len1, List.length_set, List.length_append, List.length_cons, List.length_nil]; omega), trivial⟩ ?_
       clear G; intro ρ a w G; refine th_n (wp_seq ?_); refine rs0 G (rg 11) [.dead, .dead, dE s.index.kids, dE s.value.kids, dT s.body, dT s.els, .box [.ref 9, .ref 10, iA (yRvCb0 s l fr at0 d).snd.snd], .box (sL s 2), .box [.ref 9, .ref 10, iA (yRvCb0 s l fr at0 d).snd.snd], yRvCb9 s l fr at0 d, .row 3 (D.ints (yRvCb0 s l fr at0 d).snd.fst)] [(2, iA d), (3, .ptr 6 0), (4, .ptr 7 0), (6, .ptr 8 0), (7, iA at0)] fun ρ a w G => th_n (wp_ret (bl_r (th_r ?_))); exact rx_ret (v := .agg [.ref 9, .ref 10, iA (cmB s.els (d + 1) (((cmB s.body (d + 1) (l ++ codeE s.value 0 ++ [LIns.mk 9 0 0 0 0], fr ++ List.replicate (codeE s.value 0).length at0 ++ [at0], at0 + 1)).fst ++ [LIns.mk 8 0 0 0 0]).set (l ++ codeE s.value 0).length (LIns.mk (((cmB s.body (d + 1) (l ++ codeE s.value 0 ++ [LIns.mk 9 0 0 0 0], fr ++ List.replicate (codeE s.value 0).length at0 ++ [at0], at0 + 1)).fst ++ [LIns.mk 8 0 0 0 0]).getD (l ++ codeE s.value 0).length default).op (((cmB s.body (d + 1) (l ++ codeE s.value 0 ++ [LIns.mk 9 0 0 0 0], fr ++ List.replicate (codeE s.value 0).length at0 ++ [at0], at0 + 1)).fst ++ [LIns.mk 8 0 0 0 0]).getD (l ++ codeE s.value 0).length default).a (↑((cmB s.body (d + 1) (l ++ codeE s.value 0 ++ [LIns.mk 9 0 0 0 0], fr ++ List.replicate (codeE s.value 0).length at0 ++ [at0], at0 + 1)).fst ++ [LIns.mk 8 0 0 0 0]).length : Int) (((cmB s.body (d + 1) (l ++ codeE s.value 0 ++ [LIns.mk 9 0 0 0 0], fr ++ List.replicate (codeE s.value 0).length at0 ++ [at0], at0 + 1)).fst ++ [LIns.mk 8 0 0 0 0]).getD (l ++ codeE s.value 0).length default).c (((cmB s.body (d + 1) (l ++ codeE s.value 0 ++ [LIns.mk 9 0 0 0 0], fr ++ List.replicate (codeE s.value 0).length at0 ++ [at0], at0 + 1)).fst ++ [LIns.mk 8 0 0 0 0]).getD (l ++ codeE s.value 0).length default).d), (cmB s.body (d + 1) (l ++ codeE s.value 0 ++ [LIns.mk 9 0 0 0 0], fr ++ List.replicate (codeE s.value 0).length at0 ++ [at0], at0 + 1)).snd.fst ++ [at0], (cmB s.body (d + 1) (l ++ codeE s.value 0 ++ [LIns.mk 9 0 0 0 0], fr ++ List.replicate (codeE s.value 0).length at0 ++ [at0], at0 + 1)).snd.snd)).snd.snd]) G [0, 1, 2, 3, 4, 5, 9, 10] (by kernel_rfl) (by kernel_rfl) (by show _ = List.map (It.ren (nth [0, 1, 2, 3, 4, 5, 9, 10])) (yRvCb6 s l fr at0 d); unfold yRvCb6; have e1 : ((cmS s d (l, fr, at0)).fst : List LIns) = ((cmB s.els (d + 1) (((cmB s.body (d + 1) (l ++ codeE s.value 0 ++ [LIns.mk 9 0 0 0 0], fr ++ List.replicate (codeE s.value 0).length at0 ++ [at0], at0 + 1)).fst ++ [LIns.mk 8 0 0 0 0]).set (l ++ codeE s.value 0).length (LIns.mk (((cmB s.body (d + 1) (l ++ codeE s.value 0 ++ [LIns.mk 9 0 0 0 0], fr ++ List.replicate (codeE s.value 0).length at0 ++ [at0], at0 + 1)).fst ++ [LIns.mk 8 0 0 0 0]).getD (l ++ codeE s.value 0).length default).op (((cmB s.body (d + 1) (l ++ codeE s.value 0 ++ [LIns.mk 9 0 0 0 0], fr ++ List.replicate (codeE s.value 0).length at0 ++ [at0], at0 + 1)).fst ++ [LIns.mk 8 0 0 0 0]).getD (l ++ codeE s.value 0).length default).a (↑((cmB s.body (d + 1) (l ++ codeE s.value 0 ++ [LIns.mk 9 0 0 0 0], fr ++ List.replicate (codeE s.value 0).length at0 ++ [at0], at0 + 1)).fst ++ [LIns.mk 8 0 0 0 0]).length : Int) (((cmB s.body (d + 1) (l ++ codeE s.value 0 ++ [LIns.mk 9 0 0 0 0], fr ++ List.replicate (codeE s.value 0).length at0 ++ [at0], at0 + 1)).fst ++ [LIns.mk 8 0 0 0 0]).getD (l ++ codeE s.value 0).length default).c (((cmB s.body (d + 1) (l ++ codeE s.value 0 ++ [LIns.mk 9 0 0 0 0], fr ++ List.replicate (codeE s.value 0).length at0 ++ [at0], at0 + 1)).fst ++ [LIns.mk 8 0 0 0 0]).getD (l ++ codeE s.value 0).length default).d), (cmB s.body (d + 1) (l ++ codeE s.value 0 ++ [LIns.mk 9 0 0 0 0], fr ++ List.replicate (codeE s.value 0).length at0 ++ [at0], at0 + 1)).snd.fst ++ [at0], (cmB s.body (d + 1) (l ++ codeE s.value 0 ++ [LIns.mk 9 0 0 0 0], fr ++ List.replicate (codeE s.value 0).length at0 ++ [at0], at0 + 1)).snd.snd)).fst.set (cmB s.body (d + 1) (l ++ codeE s.value 0 ++ [LIns.mk 9 0 0 0 0], fr ++ List.replicate (codeE s.value 0).length at0 ++ [at0], at0 + 1)).fst.length (LIns.mk ((cmB s.els (d + 1) (((cmB s.body (d + 1) (l ++ codeE s.value 0 ++ [LIns.mk 9 0 0 0 0], fr ++ List.replicate (codeE s.value 0).length at0 ++ [at0], at0 + 1)).fst ++ [LIns.mk 8 0 0 0 0]).set (l ++ codeE s.value 0).length (LIns.mk (((cmB s.body (d + 1) (l ++ codeE s.value 0 ++ [LIns.mk 9 0 0 0 0], fr ++ List.replicate (codeE s.value 0).length at0 ++ [at0], at0 + 1)).fst ++ [LIns.mk 8 0 0 0 0]).getD (l ++ codeE s.value 0).length default).op (((cmB s.body (d + 1) (l ++ codeE s.value 0 ++ [LIns.mk 9 0 0 0 0], fr ++ List.replicate (codeE s.value 0).length at0 ++ [at0], at0 + 1)).fst ++ [LIns.mk 8 0 0 0 0]).getD (l ++ codeE s.value 0).length default).a (↑((cmB s.body (d + 1) (l ++ codeE s.value 0 ++ [LIns.mk 9 0 0 0 0], fr ++ List.replicate (codeE s.value 0).length at0 ++ [at0], at0 + 1)).fst ++ [LIns.mk 8 0 0 0 0]).length : Int) (((cmB s.body (d + 1) (l ++ codeE s.value 0 ++ [LIns.mk 9 0 0 0 0], fr ++ List.replicate (codeE s.value 0).length at0 ++ [at0], at0 + 1)).fst ++ [LIns.mk 8 0 0 0 0]).getD (l ++ codeE s.value 0).length default).c (((cmB s.body (d + 1) (l ++ codeE s.value 0 ++ [LIns.mk 9 0 0 0 0], fr ++ List.replicate (codeE s.value 0).length at0 ++ [at0], at0 + 1)).fst ++ [LIns.mk 8 0 0 0 0]).getD (l ++ codeE s.value 0).length default).d), (cmB s.body (d + 1) (l ++ codeE s.value 0 ++ [LIns.mk 9 0 0 0 0], fr ++ List.replicate (codeE s.value 0).length at0 ++ [at0], at0 + 1)).snd.fst ++ [at0], (cmB s.body (d + 1) (l ++ codeE s.value 0 ++ [LIns.mk 9 0 0 0 0], fr ++ List.replicate (codeE s.value 0).length at0 ++ [at0], at0 + 1)).snd.snd)).fst.getD (cmB s.body (d + 1) (l ++ codeE s.value 0 ++ [LIns.mk 9 0 0 0 0], fr ++ List.replicate (codeE s.value 0).length at0 ++ [at0], at0 + 1)).fst.length default).op (↑(cmB s.els (d + 1) (((cmB s.body (d + 1) (l ++ codeE s.value 0 ++ [LIns.mk 9 0 0 0 0], fr ++ List.replicate (codeE s.value 0).length at0 ++ [at0], at0 + 1)).fst ++ [LIns.mk 8 0 0 0 0]).set (l ++ codeE s.value 0).length (LIns.mk (((cmB s.body (d + 1) (l ++ codeE s.value 0 ++ [LIns.mk 9 0 0 0 0], fr ++ List.replicate (codeE s.value 0).length at0 ++ [at0], at0 + 1)).fst ++ [LIns.mk 8 0 0 0 0]).getD (l ++ codeE s.value 0).length default).op (((cmB s.body (d + 1) (l ++ codeE s.value 0 ++ [LIns.mk 9 0 0 0 0], fr ++ List.replicate (codeE s.value 0).length at0 ++ [at0], at0 + 1)).fst ++ [LIns.mk 8 0 0 0 0]).getD (l ++ codeE s.value 0).length default).a (↑((cmB s.body (d + 1) (l ++ codeE s.value 0 ++ [LIns.mk 9 0 0 0 0], fr ++ List.replicate (codeE s.value 0).length at0 ++ [at0], at0 + 1)).fst ++ [LIns.mk 8 0 0 0 0]).length : Int) (((cmB s.body (d + 1) (l ++ codeE s.value 0 ++ [LIns.mk 9 0 0 0 0], fr ++ List.replicate (codeE s.value 0).length at0 ++ [at0], at0 + 1)).fst ++ [LIns.mk 8 0 0 0 0]).getD (l ++ codeE s.value 0).length default).c (((cmB s.body (d + 1) (l ++ codeE s.value 0 ++ [LIns.mk 9 0 0 0 0], fr ++ List.replicate (codeE s.value 0).length at0 ++ [at0], at0 + 1)).fst ++ [LIns.mk 8 0 0 0 0]).getD (l ++ codeE s.value 0).length default).d), (cmB s.body (d + 1) (l ++ codeE s.value 0 ++ [LIns.mk 9 0 0 0 0], fr ++ List.replicate (codeE s.value 0).length at0 ++ [at0], at0 + 1)).snd.fst ++ [at0], (cmB s.body (d + 1) (l ++ codeE s.value 0 ++ [LIns.mk 9 0 0 0 0], fr ++ List.replicate (codeE s.value 0).length at0 ++ [at0], at0 + 1)).snd.snd)).fst.length : Int) ((cmB s.els (d + 1) (((cmB s.body (d + 1) (l ++ codeE s.value 0 ++ [LIns.mk 9 0 0 0 0], fr ++ List.replicate (codeE s.value 0).length at0 ++ [at0], at0 + 1)).fst ++ [LIns.mk 8 0 0 0 0]).set (l ++ codeE s.value 0).length (LIns.mk (((cmB s.body (d + 1) (l ++ codeE s.value 0 ++ [LIns.mk 9 0 0 0 0], fr ++ List.replicate (codeE s.value 0).length at0 ++ [at0], at0 + 1)).fst ++ [LIns.mk 8 0 0 0 0]).getD (l ++ codeE s.value 0).length default).op (((cmB s.body (d + 1) (l ++ codeE s.value 0 ++ [LIns.mk 9 0 0 0 0], fr ++ List.replicate (codeE s.value 0).length at0 ++ [at0], at0 + 1)).fst ++ [LIns.mk 8 0 0 0 0]).getD (l ++ codeE s.value 0).length default).a (↑((cmB s.body (d + 1) (l ++ codeE s.value 0 ++ [LIns.mk 9 0 0 0 0], fr ++ List.replicate (codeE s.value 0).length at0 ++ [at0], at0 + 1)).fst ++ [LIns.mk 8 0 0 0 0]).length : Int) (((cmB s.body (d + 1) (l ++ codeE s.value 0 ++ [LIns.mk 9 0 0 0 0], fr ++ List.replicate (codeE s.value 0).length at0 ++ [at0], at0 + 1)).fst ++ [LIns.mk 8 0 0 0 0]).getD (l ++ codeE s.value 0).length default).c (((cmB s.body (d + 1) (l ++ codeE s.value 0 ++ [LIns.mk 9 0 0 0 0], fr ++ List.replicate (codeE s.value 0).length at0 ++ [at0], at0 + 1)).fst ++ [LIns.mk 8 0 0 0 0]).getD (l ++ codeE s.value 0).length default).d), (cmB s.body (d + 1) (l ++ codeE s.value 0 ++ [LIns.mk 9 0 0 0 0], fr ++ List.replicate (codeE s.value 0).length at0 ++ [at0], at0 + 1)).snd.fst ++ [at0], (cmB s.body (d + 1) (l ++ codeE s.value 0 ++ [LIns.mk 9 0 0 0 0], fr ++ List.replicate (codeE s.value 0).length at0 ++ [at0], at0 + 1)).snd.snd)).fst.getD (cmB s.body (d + 1) (l ++ codeE s.value 0 ++ [LIns.mk 9 0 0 0 0], fr ++ List.replicate (codeE s.value 0).length at0 ++ [at0], at0 + 1)).fst.length default).b ((cmB s.els (d + 1) (((cmB s.body (d + 1) (l ++ codeE s.value 0 ++ [LIns.mk 9 0 0 0 0], fr ++ List.replicate (codeE s.value 0).length at0 ++ [at0], at0 + 1)).fst ++ [LIns.mk 8 0 0 0 0]).set (l ++ codeE s.value 0).length (LIns.mk (((cmB s.body (d + 1) (l ++ codeE s.value 0 ++ [LIns.mk 9 0 0 0 0], fr ++ List.replicate (codeE s.value 0).length at0 ++ [at0], at0 + 1)).fst ++ [LIns.mk 8 0 0 0 0]).getD (l ++ codeE s.value 0).length default).op (((cmB s.body (d + 1) (l ++ codeE s.value 0 ++ [LIns.mk 9 0 0 0 0], fr ++ List.replicate (codeE s.value 0).length at0 ++ [at0], at0 + 1)).fst ++ [LIns.mk 8 0 0 0 0]).getD (l ++ codeE s.value 0).length default).a (↑((cmB s.body (d + 1) (l ++ codeE s.value 0 ++ [LIns.mk 9 0 0 0 0], fr ++ List.replicate (codeE s.value 0).length at0 ++ [at0], at0 + 1)).fst ++ [LIns.mk 8 0 0 0 0]).length : Int) (((cmB s.body (d + 1) (l ++ codeE s.value 0 ++ [LIns.mk 9 0 0 0 0], fr ++ List.replicate (codeE s.value 0).length at0 ++ [at0], at0 + 1)).fst ++ [LIns.mk 8 0 0 0 0]).getD (l ++ codeE s.value 0).length default).c (((cmB s.body (d + 1) (l ++ codeE s.value 0 ++ [LIns.mk 9 0 0 0 0], fr ++ List.replicate (codeE s.value 0).length at0 ++ [at0], at0 + 1)).fst ++ [LIns.mk 8 0 0 0 0]).getD (l ++ codeE s.value 0).length default).d), (cmB s.body (d + 1) (l ++ codeE s.value 0 ++ [LIns.mk 9 0 0 0 0], fr ++ List.replicate (codeE s.value 0).length at0 ++ [at0], at0 + 1)).snd.fst ++ [at0], (cmB s.body (d + 1) (l ++ codeE s.value 0 ++ [LIns.mk 9 0 0 0 0], fr ++ List.replicate (codeE s.value 0).length at0 ++ [at0], at0 + 1)).snd.snd)).fst.getD (cmB s.body (d + 1) (l ++ codeE s.value 0 ++ [LIns.mk 9 0 0 0 0], fr ++ List.replicate (codeE s.value 0).length at0 ++ [at0], at0 + 1)).fst.length default).c ((cmB s.els (d + 1) (((cmB s.body (d + 1) (l ++ codeE s.value 0 ++ [LIns.mk 9 0 0 0 0], fr ++ List.replicate (codeE s.value 0).length at0 ++ [at0], at0 + 1)).fst ++ [LIns.mk 8 0 0 0 0]).set (l ++ codeE s.value 0).length (LIns.mk (((cmB s.body (d + 1) (l ++ codeE s.value 0 ++ [LIns.mk 9 0 0 0 0], fr ++ List.replicate (codeE s.value 0).length at0 ++ [at0], at0 + 1)).fst ++ [LIns.mk 8 0 0 0 0]).getD (l ++ codeE s.value 0).length default).op (((cmB s.body (d + 1) (l ++ codeE s.value 0 ++ [LIns.mk 9 0 0 0 0], fr ++ List.replicate (codeE s.value 0).length at0 ++ [at0], at0 + 1)).fst ++ [LIns.mk 8 0 0 0 0]).getD (l ++ codeE s.value 0).length default).a (↑((cmB s.body (d + 1) (l ++ codeE s.value 0 ++ [LIns.mk 9 0 0 0 0], fr ++ List.replicate (codeE s.value 0).length at0 ++ [at0], at0 + 1)).fst ++ [LIns.mk 8 0 0 0 0]).length : Int) (((cmB s.body (d + 1) (l ++ codeE s.value 0 ++ [LIns.mk 9 0 0 0 0], fr ++ List.replicate (codeE s.value 0).length at0 ++ [at0], at0 + 1)).fst ++ [LIns.mk 8 0 0 0 0]).getD (l ++ codeE s.value 0).length default).c (((cmB s.body (d + 1) (l ++ codeE s.value 0 ++ [LIns.mk 9 0 0 0 0], fr ++ List.replicate (codeE s.value 0).length at0 ++ [at0], at0 + 1)).fst ++ [LIns.mk 8 0 0 0 0]).getD (l ++ codeE s.value 0).length default).d), (cmB s.body (d + 1) (l ++ codeE s.value 0 ++ [LIns.mk 9 0 0 0 0], fr ++ List.replicate (codeE s.value 0).length at0 ++ [at0], at0 + 1)).snd.fst ++ [at0], (cmB s.body (d + 1) (l ++ codeE s.value 0 ++ [LIns.mk 9 0 0 0 0], fr ++ List.replicate (codeE s.value 0).length at0 ++ [at0], at0 + 1)).snd.snd)).fst.getD (cmB s.body (d + 1) (l ++ codeE s.value 0 ++ [LIns.mk 9 0 0 0 0], fr ++ List.replicate (codeE s.value 0).length at0 ++ [at0], at0 + 1)).fst.length default).d)) := (by have h9 := congrArg Prod.fst (cm3 (l := l) (fr := fr) (at0 := at0) (d := d) (s := s) (by omega)); exact h9); have e2 : ((cmS s d (l, fr, at0)).snd.fst : List Int) = ((cmB s.els (d + 1) (((cmB s.body (d + 1) (l ++ codeE s.value 0 ++ [LIns.mk 9 0 0 0 0], fr ++ List.replicate (codeE s.value 0).length at0 ++ [at0], at0 + 1)).fst ++ [LIns.mk 8 0 0 0 0]).set (l ++ codeE s.value 0).length (LIns.mk (((cmB s.body (d + 1) (l ++ codeE s.value 0 ++ [LIns.mk 9 0 0 0 0], fr ++ List.replicate (codeE s.value 0).length at0 ++ [at0], at0 + 1)).fst ++ [LIns.mk 8 0 0 0 0]).getD (l ++ codeE s.value 0).length default).op (((cmB s.body (d + 1) (l ++ codeE s.value 0 ++ [LIns.mk 9 0 0 0 0], fr ++ List.replicate (codeE s.value 0).length at0 ++ [at0], at0 + 1)).fst ++ [LIns.mk 8 0 0 0 0]).getD (l ++ codeE s.value 0).length default).a (↑((cmB s.body (d + 1) (l ++ codeE s.value 0 ++ [LIns.mk 9 0 0 0 0], fr ++ List.replicate (codeE s.value 0).length at0 ++ [at0], at0 + 1)).fst ++ [LIns.mk 8 0 0 0 0]).length : Int) (((cmB s.body (d + 1) (l ++ codeE s.value 0 ++ [LIns.mk 9 0 0 0 0], fr ++ List.replicate (codeE s.value 0).length at0 ++ [at0], at0 + 1)).fst ++ [LIns.mk 8 0 0 0 0]).getD (l ++ codeE s.value 0).length default).c (((cmB s.body (d + 1) (l ++ codeE s.value 0 ++ [LIns.mk 9 0 0 0 0], fr ++ List.replicate (codeE s.value 0).length at0 ++ [at0], at0 + 1)).fst ++ [LIns.mk 8 0 0 0 0]).getD (l ++ codeE s.value 0).length default).d), (cmB s.body (d + 1) (l ++ codeE s.value 0 ++ [LIns.mk 9 0 0 0 0], fr ++ List.replicate (codeE s.value 0).length at0 ++ [at0], at0 + 1)).snd.fst ++ [at0], (cmB s.body (d + 1) (l ++ codeE s.value 0 ++ [LIns.mk 9 0 0 0 0], fr ++ List.replicate (codeE s.value 0).length at0 ++ [at0], at0 + 1)).snd.snd)).snd.fst) := (by have h9 := congrArg (fun x : ComS => x.2.1) (cm3 (l := l) (fr := fr) (at0 := at0) (d := d) (s := s) (by omega)); exact h9); (first | rw [e1, e2] | simp only [e1, e2]) <;> rfl) (by have e1 : ((cmS s d (l, fr, at0)).snd.snd : Int) = ((cmB s.els (d + 1) (((cmB s.body (d + 1) (l ++ codeE s.value 0 ++ [LIns.mk 9 0 0 0 0], fr ++ List.replicate (codeE s.value 0).length at0 ++ [at0], at0 + 1)).fst ++ [LIns.mk 8 0 0 0 0]).set (l ++ codeE s.value 0).length (LIns.mk (((cmB s.body (d + 1) (l ++ codeE s.value 0 ++ [LIns.mk 9 0 0 0 0], fr ++ List.replicate (codeE s.value 0).length at0 ++ [at0], at0 + 1)).fst ++ [LIns.mk 8 0 0 0 0]).getD (l ++ codeE s.value 0).length default).op (((cmB s.body (d + 1) (l ++ codeE s.value 0 ++ [LIns.mk 9 0 0 0 0], fr ++ List.replicate (codeE s.value 0).length at0 ++ [at0], at0 + 1)).fst ++ [LIns.mk 8 0 0 0 0]).getD (l ++ codeE s.value 0).length default).a (↑((cmB s.body (d + 1) (l ++ codeE s.value 0 ++ [LIns.mk 9 0 0 0 0], fr ++ List.replicate (codeE s.value 0).length at0 ++ [at0], at0 + 1)).fst ++ [LIns.mk 8 0 0 0 0]).length : Int) (((cmB s.body (d + 1) (l ++ codeE s.value 0 ++ [LIns.mk 9 0 0 0 0], fr ++ List.replicate (codeE s.value 0).length at0 ++ [at0], at0 + 1)).fst ++ [LIns.mk 8 0 0 0 0]).getD (l ++ codeE s.value 0).length default).c (((cmB s.body (d + 1) (l ++ codeE s.value 0 ++ [LIns.mk 9 0 0 0 0], fr ++ List.replicate (codeE s.value 0).length at0 ++ [at0], at0 + 1)).fst ++ [LIns.mk 8 0 0 0 0]).getD (l ++ codeE s.value 0).length default).d), (cmB s.body (d + 1) (l ++ codeE s.value 0 ++ [LIns.mk 9 0 0 0 0], fr ++ List.replicate (codeE s.value 0).length at0 ++ [at0], at0 + 1)).snd.fst ++ [at0], (cmB s.body (d + 1) (l ++ codeE s.value 0 ++ [LIns.mk 9 0 0 0 0], fr ++ List.replicate (codeE s.value 0).length at0 ++ [at0], at0 + 1)).snd.snd)).snd.snd) := (by have h9 := congrArg (fun x : ComS => x.2.2) (cm3 (l := l) (fr := fr) (at0 := at0) (d := d) (s := s) (by omega)); exact h9); (first | rw [e1] | simp only [e1]) <;> rfl)
     · have q7 : s.kind = 2 := eq_of_beq h7; refine rT G (s.kind == (2 : Int)) (by assumption) ?_; refine wp_seq ?_; refine rs1 (dk := dkP) G ⟨[(4, _, [9, 10, 2])], [], []⟩ (calls_cons (c_l7Expr (s.index) (l ++ codeE s.value 0) (fr ++ List.replicate (codeE s.value 0).length at0) (at0 + 1) (at0) (1) (by simp [hh, hbb, hbe, h0, h5, h6, h7]) (by have := hft.2.2.2.2; simp only [List.length_append, List.length_cons, List.length_nil] at this ⊢; omega) (by simp only [List.length_append, List.length_replicate, List.length_cons, List.length_nil, r2]; have := hft.2.2.2.2; simp only [List.length_append] at this; omega) (by simp only [List.length_append, List.length_replicate, r2]; done)) calls_nil) trivial [0, 1, 2, 3, 4, 5, 6, 7, 8, 43, 44] [.dead, .dead, dE s.index.kids, dE s.value.kids, dT s.body, dT s.els, yRvCb10 at0, .box (sL s 2), yRvCb7, .row 50 (D.instrs (l ++ codeE s.value 0 ++ codeE s.index 1)), .row 3 (D.ints (fr ++ List.replicate (codeE s.value 0).length at0 ++ List.replicate (codeE s.index 1).length at0))] [(2, iA d), (3, .ptr 6 0), (4, .ptr 7 0), (6, .ptr 8 0), (7, iA at0)] [] trivial fun ρ a w G => th_n (wp_seq ?_); refine rs1 (dk := dkP) G ⟨[(5, _, [9, 10])], [], []⟩ (calls_cons (c_l7Add (l ++ codeE s.value 0 ++ codeE s.index 1) (fr ++ List.replicate (codeE s.value 0).length at0 ++ List.replicate (codeE s.index 1).length at0) (at0 + 1) (at0) (5) (s.target) (1) (0) (0) (by simp only [List.length_append, List.length_replicate, List.length_cons, List.length_nil, r2]; have := hft.2.2.2.2; simp only [List.length_append] at this; omega) (by simp only [List.length_append, List.length_replicate, List.length_cons, List.length_nil, r2]; have := hft.2.2.2.2; simp only [List.length_append] at this; omega)) calls_nil) trivial [0, 1, 2, 3, 4, 5, 6, 7, 8, 9, 10, 51, 52] [.dead, .dead, dE s.index.kids, dE s.value.kids, dT s.body, dT s.els, yRvCb10 at0, .box (sL s 2), .box [.ref 11, .ref 12, iA (at0 + 1)], .dead, .dead, .row 50 (D.instrs (l ++ codeE s.value 0 ++ codeE s.index 1 ++ [LIns.mk 5 s.target 1 0 0])), .row 3 (D.ints (fr ++ List.replicate (codeE s.value 0).length at0 ++ List.replicate (codeE s.index 1).length at0 ++ [at0]))] [(2, iA d), (3, .ptr 6 0), (4, .ptr 7 0), (6, .ptr 8 0), (7, iA at0)] [] trivial fun ρ a w G => th_n (wp_ret (bl_r (th_r ?_))); exact rx_ret (v := .agg [.ref 11, .ref 12, iA (at0 + 1)]) G [0, 1, 2, 3, 4, 5, 11, 12] (by kernel_rfl) (by kernel_rfl) (by show _ = List.map (It.ren (nth [0, 1, 2, 3, 4, 5, 11, 12])) (yRvCb6 s l fr at0 d); unfold yRvCb6; have e1 : ((cmS s d (l, fr, at0)).fst : List LIns) = (l ++ codeE s.value 0 ++ codeE s.index 1 ++ [LIns.mk 5 s.target 1 0 0]) := (by exact congrArg Prod.fst (cm2 (by omega))); have e2 : ((cmS s d (l, fr, at0)).snd.fst : List Int) = (fr ++ List.replicate (codeE s.value 0).length at0 ++ List.replicate (codeE s.index 1).length at0 ++ [at0]) := (by exact congrArg (fun x : ComS => x.2.1) (cm2 (by omega))); (first | rw [e1, e2] | simp only [e1, e2]) <;> rfl) (by have e1 : ((cmS s d (l, fr, at0)).snd.snd : Int) = (at0 + 1) := (by exact congrArg (fun x : ComS => x.2.2) (cm2 (by omega))); (first | rw [e1] | simp only [e1]) <;> rfl)
    · have q6 : s.kind = 5 := eq_of_beq h6; refine rT G (s.kind == (5 : Int)) (by assumption) ?_; refine wp_seq ?_; refine rs1 (dk := dkP) G ⟨[(3, _, [9, 10])], [], []⟩ (calls_cons (c_l7Add (l ++ codeE s.value 0) (fr ++ List.replicate (codeE s.value 0).length at0) (at0 + 1) (at0) (11) (0) (0) (0) (0) (by simp only [List.length_append, List.length_replicate, List.length_cons, List.length_nil, r2]; have := hft.2.2.2.2; simp only [List.length_append] at this; omega) (by simp only [List.length_append, List.length_replicate, List.length_cons, List.length_nil, r2]; have := hft.2.2.2.2; simp only [List.length_append] at this; omega)) calls_nil) trivial [0, 1, 2, 3, 4, 5, 6, 7, 8, 35, 36] [.dead, .dead, dE s.index.kids, dE s.value.kids, dT s.body, dT s.els, yRvCb10 at0, .box (sL s 2), yRvCb7, .row 50 (D.instrs (l ++ codeE s.value 0 ++ [LIns.mk 11 0 0 0 0])), yRvCb11 s fr at0] [(2, iA d), (3, .ptr 6 0), (4, .ptr 7 0), (6, .ptr 8 0), (7, iA at0)] [] trivial fun ρ a w G => th_n (wp_seq ?_); refine rs1 (dk := dkP) G ⟨[(5, _, [9, 10])], [], []⟩ (calls_cons (c_l7Add (l ++ codeE s.value 0 ++ [LIns.mk 11 0 0 0 0]) (fr ++ List.replicate (codeE s.value 0).length at0 ++ [at0]) (at0 + 1) (at0) (3) (s.target) (0) (0) (0) (by simp only [List.length_append, List.length_replicate, List.length_cons, List.length_nil, r2]; have := hft.2.2.2.2; simp only [List.length_append] at this; omega) (by simp only [List.length_append, List.length_replicate, List.length_cons, List.length_nil, r2]; have := hft.2.2.2.2; simp only [List.length_append] at this; omega)) calls_nil) trivial [0, 1, 2, 3, 4, 5, 6, 7, 8, 9, 10, 51, 52] [.dead, .dead, dE s.index.kids, dE s.value.kids, dT s.body, dT s.els, yRvCb10 at0, .box (sL s 2), .box [.ref 11, .ref 12, iA (at0 + 1)], .dead, .dead, .row 50 (D.instrs (l ++ codeE s.value 0 ++ [LIns.mk 11 0 0 0 0] ++ [LIns.mk 3 s.target 0 0 0])), .row 3 (D.ints (fr ++ List.replicate (codeE s.value 0).length at0 ++ [at0] ++ [at0]))] [(2, iA d), (3, .ptr 6 0), (4, .ptr 7 0), (6, .ptr 8 0), (7, iA at0)] [] trivial fun ρ a w G => th_n (wp_ret (bl_r (th_r ?_))); exact rx_ret (v := .agg [.ref 11, .ref 12, iA (at0 + 1)]) G [0, 1, 2, 3, 4, 5, 11, 12] (by kernel_rfl) (by kernel_rfl) (by show _ = List.map (It.ren (nth [0, 1, 2, 3, 4, 5, 11, 12])) (yRvCb6 s l fr at0 d); unfold yRvCb6; have e1 : ((cmS s d (l, fr, at0)).fst : List LIns) = (l ++ codeE s.value 0 ++ [LIns.mk 11 0 0 0 0] ++ [LIns.mk 3 s.target 0 0 0]) := (by exact congrArg Prod.fst (cm5 (by omega))); have e2 : ((cmS s d (l, fr, at0)).snd.fst : List Int) = (fr ++ List.replicate (codeE s.value 0).length at0 ++ [at0] ++ [at0]) := (by exact congrArg (fun x : ComS => x.2.1) (cm5 (by omega))); (first | rw [e1, e2] | simp only [e1, e2]) <;> rfl) (by have e1 : ((cmS s d (l, fr, at0)).snd.snd : Int) = (at0 + 1) := (by exact congrArg (fun x : ComS => x.2.2) (cm5 (by omega))); (first | rw [e1] | simp only [e1]) <;> rfl)
   · have q5 : s.kind = 1 := eq_of_beq h5; refine rT G (s.kind == (1 : Int)) (by assumption) ?_; refine wp_seq ?_; refine rs1 (dk := dkP) G ⟨[(5, _, [9, 10])], [], []⟩ (calls_cons (c_l7Add (l ++ codeE s.value 0) (fr ++ List.replicate (codeE s.value 0).length at0) (at0 + 1) (at0) (3) (s.target) (0) (0) (0) (by simp only [List.length_append, List.length_replicate, List.length_cons, List.length_nil, r2]; have := hft.2.2.2.2; simp only [List.length_append] at this; omega) (by simp only [List.length_append, List.length_replicate, List.length_cons, List.length_nil, r2]; have := hft.2.2.2.2; simp only [List.length_append] at this; omega)) calls_nil) trivial [0, 1, 2, 3, 4, 5, 6, 7, 8, 9, 10, 51, 52] [.dead, .dead, dE s.index.kids, dE s.value.kids, dT s.body, dT s.els, yRvCb10 at0, .box (sL s 2), .box [.ref 11, .ref 12, iA (at0 + 1)], .dead, .dead, .row 50 (D.instrs (l ++ codeE s.value 0 ++ [LIns.mk 3 s.target 0 0 0])), yRvCb11 s fr at0] [(2, iA d), (3, .ptr 6 0), (4, .ptr 7 0), (6, .ptr 8 0), (7, iA at0)] [] trivial fun ρ a w G => th_n (wp_ret (bl_r (th_r ?_))); exact rx_ret (v := .agg [.ref 11, .ref 12, iA (at0 + 1)]) G [0, 1, 2, 3, 4, 5, 11, 12] (by kernel_rfl) (by kernel_rfl) (by show _ = List.map (It.ren (nth [0, 1, 2, 3, 4, 5, 11, 12])) (yRvCb6 s l fr at0 d); unfold yRvCb6; have e1 : ((cmS s d (l, fr, at0)).fst : List LIns) = (l ++ codeE s.value 0 ++ [LIns.mk 3 s.target 0 0 0]) := (by exact congrArg Prod.fst (cm1 (by omega))); have e2 : ((cmS s d (l, fr, at0)).snd.fst : List Int) = (fr ++ List.replicate (codeE s.value 0).length at0 ++ [at0]) := (by exact congrArg (fun x : ComS => x.2.1) (cm1 (by omega))); (first | rw [e1, e2] | simp only [e1, e2]) <;> rfl) (by have e1 : ((cmS s d (l, fr, at0)).snd.snd : Int) = (at0 + 1) := (by exact congrArg (fun x : ComS => x.2.2) (cm1 (by omega))); (first | rw [e1] | simp only [e1]) <;> rfl)


section
variable {ss : List LStmt} {k : Nat} {d : Int} {l : List LIns} {fr : List Int} {at0 : Int}
theorem szSs_next (hk : k < ss.length) : szSs (ss.take k) + (1 + szS (ss.getD k default)) ≤ szSs ss := by
  have h1 := szSs_append (ss.take (k + 1)) (ss.drop (k + 1))
  rw [List.take_append_drop, take_succ_get _ _ hk, szSs_append, ← getD_lt (d := default) hk] at h1
  simp only [szSs] at h1
  omega
theorem nSs_next (hk : k < ss.length) : nSs (ss.take k) + nS (ss.getD k default) ≤ nSs ss := by
  have h1 := nSs_append (ss.take (k + 1)) (ss.drop (k + 1))
  rw [List.take_append_drop, take_succ_get _ _ hk, nSs_append, ← getD_lt (d := default) hk] at h1
  simp only [nSs] at h1
  omega
theorem cb_fit (r1 : l.length + 4 * szSs ss ≤ 5000000) (hk : k < ss.length) : (cmB (ss.take k) d (l, fr, at0)).1.length + (4 + 4 * szS (ss.getD k default)) ≤ 5000000 := by
  have h1 := szSs_next hk
  have h2 := cntB_le (ss.take k)
  rw [cmB_len1]
  simp only
  omega
theorem cb_fr (r2 : fr.length = l.length) : (cmB (ss.take k) d (l, fr, at0)).2.1.length = (cmB (ss.take k) d (l, fr, at0)).1.length := by
  have h := cmB_len (ss.take k) d (l, fr, at0)
  simp only at h
  omega
theorem cb_at1 (r5 : 0 ≤ at0) : 0 ≤ (cmB (ss.take k) d (l, fr, at0)).2.2 := by
  have h := cmB_at (ss.take k) d (l, fr, at0)
  simp only at h
  omega
theorem cb_at2 (r6 : at0 + nSs ss ≤ 5000000) (hk : k < ss.length) : (cmB (ss.take k) d (l, fr, at0)).2.2 + nS (ss.getD k default) ≤ 5000000 := by
  have h := cmB_at (ss.take k) d (l, fr, at0)
  have h1 := nSs_next hk
  simp only at h
  omega
theorem cb_1 (hk : k < ss.length) : (cmB (ss.take (k + 1)) d (l, fr, at0)).1 = (cmS (ss.getD k default) d (cmB (ss.take k) d (l, fr, at0))).1 := by rw [cmB_next hk]
theorem cb_2 (hk : k < ss.length) : (cmB (ss.take (k + 1)) d (l, fr, at0)).2.1 = (cmS (ss.getD k default) d (cmB (ss.take k) d (l, fr, at0))).2.1 := by rw [cmB_next hk]
theorem cb_3 (hk : k < ss.length) : (cmB (ss.take (k + 1)) d (l, fr, at0)).2.2 = (cmS (ss.getD k default) d (cmB (ss.take k) d (l, fr, at0))).2.2 := by rw [cmB_next hk]
theorem cb_e (hk : ss.length ≤ k) (x : ComS) : cmB ss d x = cmB (ss.take k) d x := by rw [List.take_of_length_le hk]
end
abbrev yRvCc0 : It := .box [.v (.slice none 0 0), .v (.slice none 0 0), iA 0]
set_option maxHeartbeats 4000000 in
set_option maxRecDepth 100000 in
theorem s_l7Block (ss : List LStmt) (B : Int) (ih : ∀ (s : LStmt), s ∈ ss → ∀ (l : List LIns) (fr : List Int) (at0 d : Int), l.length + (4 + 4 * szS s) ≤ 5000000 → fr.length = l.length → 0 ≤ d → d ≤ B → 0 ≤ at0 → at0 + nS s ≤ 5000000 → Ctr.ok Try.prog (lqC l fr at0 s d))
    (l : List LIns) (fr : List Int) (at0 d : Int) (r1 : l.length + 4 * szSs ss ≤ 5000000) (r2 : fr.length = l.length) (r3 : 0 ≤ d) (r4 : d ≤ B) (r5 : 0 ≤ at0) (r6 : at0 + nSs ss ≤ 5000000) : Ctr.ok Try.prog (lrC l fr at0 ss d) := by
  refine rx_enter 22 Try.func99 (by rfl) (by kernel_rfl) (by kernel_rfl) ?_; intro ι φ ψ w0 w F ρ0 ρ a G; replace G := Gam.at G [.row 50 (D.instrs l), .row 3 (D.ints fr), dT ss] [(0, .agg [.ref 0, .ref 1, iA at0]), (1, .ref 2), (2, iA d)]; have hl := szSs_len ss; refine wp_seq ?_; refine rs0 G [0, 1, 2, 3, 11] [.row 50 (D.instrs l), .row 3 (D.ints fr), dT ss, .box [.ref 0, .ref 1, iA at0], yRvCc0] [(1, .ref 2), (2, iA d), (3, .ptr 3 0), (6, .ptr 4 0)] fun ρ a w G => th_n (wp_seq (wp_seq ?_)); refine rs0s G [(1, .ref 2), (2, iA d), (3, .ptr 3 0), (6, .ptr 4 0), (7, iA 0)] fun ρ a w G => th_n (wp_block ?_); have Gx := G.shift 0 5 [.dead, .row 3 (D.ints fr), dT ss, .box [.ref 5, .ref 1, iA at0], yRvCc0, .row 50 (D.instrs l)] [(1, .ref 2), (2, iA d), (3, .ptr 3 0), (6, .ptr 4 0), (7, iA 0)]; clear G; obtain ⟨ρ, G⟩ := Gx; have Gx := G.shift 1 6 [.dead, .dead, dT ss, .box [.ref 5, .ref 6, iA at0], yRvCc0, .row 50 (D.instrs l), .row 3 (D.ints fr)] [(1, .ref 2), (2, iA d), (3, .ptr 3 0), (6, .ptr 4 0), (7, iA 0)]; clear G; obtain ⟨ρ, G⟩ := Gx; refine rx_for (κ := Nat) (fun k => k ≤ ss.length) (fun k => ss.length - k) (fun k => [.dead, .dead, dT ss, .box [.ref 5, .ref 6, iA (cmB (ss.take k) d (l, fr, at0)).2.2], yRvCc0, .row 50 (.instrs (cmB (ss.take k) d (l, fr, at0)).1), .row 3 (.ints (cmB (ss.take k) d (l, fr, at0)).2.1)]) (fun k => [(1, .ref 2), (2, iA d), (3, .ptr 3 0), (6, .ptr 4 0), (7, iA k)]) (0) (by omega) (Gam.at G _ _) ?_; clear G; intro k ρ a w hp G; replace G := Gam.at G [.dead, .dead, dT ss, .box [.ref 5, .ref 6, iA (cmB (List.take k ss) d (l, fr, at0)).snd.snd], yRvCc0, .row 50 (D.instrs (cmB (List.take k ss) d (l, fr, at0)).fst), .row 3 (D.ints (cmB (List.take k ss) d (l, fr, at0)).snd.fst)] [(1, .ref 2), (2, iA d), (3, .ptr 3 0), (6, .ptr 4 0), (7, iA (↑k : Int))]; refine wp_seq (wp_seq ?_); refine rs0s G [(1, .ref 2), (2, iA d), (3, .ptr 3 0), (6, .ptr 4 0), (7, iA (↑k : Int)), (11, bA (decide ((↑k : Int) < (↑ss.length : Int))))] fun ρ a w G => th_n ?_; cases h0 : (decide ((↑k : Int) < (↑ss.length : Int)))
  · have q0 : ¬ ((↑k : Int) < (↑ss.length : Int)) := dFf h0; refine rF G (decide ((↑k : Int) < (↑ss.length : Int))) (by assumption) ?_; refine wp_exit (th_e (th_e (bl_hit (th_n (wp_seq ?_))))); refine rs0 G [0, 1, 2, 4, 5, 6] [.dead, .dead, dT ss, .box [.ref 4, .ref 5, iA (cmB (List.take k ss) d (l, fr, at0)).snd.snd], .row 50 (D.instrs (cmB (List.take k ss) d (l, fr, at0)).fst), .row 3 (D.ints (cmB (List.take k ss) d (l, fr, at0)).snd.fst)] [(6, .ptr 3 0)] fun ρ a w G => th_n (wp_ret ?_); exact rx_ret (v := .agg [.ref 4, .ref 5, iA (cmB (List.take k ss) d (l, fr, at0)).snd.snd]) G [0, 1, 2, 4, 5] (by kernel_rfl) (by kernel_rfl) (by show _ = List.map (It.ren (nth [0, 1, 2, 4, 5])) [.dead, .dead, dT ss, .row 50 (D.instrs (cmB ss d (l, fr, at0)).fst), .row 3 (D.ints (cmB ss d (l, fr, at0)).snd.fst)]; have e1 : ((cmB ss d (l, fr, at0)).fst : List LIns) = ((cmB (List.take k ss) d (l, fr, at0)).fst) := (by exact congrArg Prod.fst (cb_e (by omega) _)); have e2 : ((cmB ss d (l, fr, at0)).snd.fst : List Int) = ((cmB (List.take k ss) d (l, fr, at0)).snd.fst) := (by exact congrArg (fun x : ComS => x.2.1) (cb_e (by omega) _)); (first | rw [e1, e2] | simp only [e1, e2]) <;> rfl) (by have e1 : ((cmB ss d (l, fr, at0)).snd.snd : Int) = ((cmB (List.take k ss) d (l, fr, at0)).snd.snd) := (by exact congrArg (fun x : ComS => x.2.2) (cb_e (by omega) _)); (first | rw [e1] | simp only [e1]) <;> rfl)
  · have q0 : (↑k : Int) < (↑ss.length : Int) := dTt h0; refine rT G (decide ((↑k : Int) < (↑ss.length : Int))) (by assumption) ?_; refine wp_skip (th_n (wp_seq (wp_block ?_))); refine rd1 (dk := dkP) G ⟨[(6, _, [5, 6, 39, 40, 41, 42])], [], []⟩ (calls_cons (ih (ss.getD k default) (by exact getS_mem (by omega)) ((cmB (List.take k ss) d (l, fr, at0)).fst) ((cmB (List.take k ss) d (l, fr, at0)).snd.fst) ((cmB (List.take k ss) d (l, fr, at0)).snd.snd) (d) (by exact cb_fit r1 (by omega)) (by exact cb_fr r2) (by assumption) (by assumption) (by exact cb_at1 r5) (by exact cb_at2 r6 (by omega))) calls_nil) trivial [0, 0, 0, 6, 14, 0, 63, 127] [0, 1, 2, 3, 4, 55, 56] [.dead, .dead, dT ss, .box [.ref 5, .ref 6, iA (cmS (ss.getD k default) d (cmB (List.take k ss) d (l, fr, at0))).snd.snd], yRvCc0, .row 50 (D.instrs (cmS (ss.getD k default) d (cmB (List.take k ss) d (l, fr, at0))).fst), .row 3 (D.ints (cmS (ss.getD k default) d (cmB (List.take k ss) d (l, fr, at0))).snd.fst)] [(1, .ref 2), (2, iA d), (3, .ptr 3 0), (6, .ptr 4 0), (7, iA (↑k : Int))] [(0 : Int) ≤ (↑k : Int), (↑k : Int) < (↑ss.length : Int), k < ss.length] ⟨(by simp [h0]), (by assumption), (by omega), trivial⟩ ?_; intro ρ a w G; refine bl_n ?_; refine th_n ?_; refine rs1s G ⟨[], [], []⟩ calls_nil trivial [(1, .ref 2), (2, iA d), (3, .ptr 3 0), (6, .ptr 4 0), (7, iA ((↑k : Int) + 1))] [IntKind.i64.wrap ((↑k : Int) + (1 : Int)) = (↑k : Int) + (1 : Int)] ⟨(by exact w64 (by omega) (by omega)), trivial⟩ fun ρ a w G => th_n ?_; exact rx_next G (k + 1) (by omega) (by omega) (rg 7) [.dead, .dead, dT ss, .box [.ref 5, .ref 6, iA (cmB (List.take (k + 1) ss) d (l, fr, at0)).snd.snd], .box [.v (.slice none 0 0), .v (.slice none 0 0), iA 0], .row 50 (D.instrs (cmB (List.take (k + 1) ss) d (l, fr, at0)).fst), .row 3 (D.ints (cmB (List.take (k + 1) ss) d (l, fr, at0)).snd.fst)] [(1, .ref 2), (2, iA d), (3, .ptr 3 0), (6, .ptr 4 0), (7, iA (↑(k + 1) : Int))] (by kernel_rfl) (by kernel_rfl) (by kernel_rfl) (by have e1 : ((cmB (List.take (k + 1) ss) d (l, fr, at0)).snd.snd : Int) = ((cmS (ss.getD k default) d (cmB (List.take k ss) d (l, fr, at0))).snd.snd) := (by exact cb_3 (by omega)); have e2 : ((cmB (List.take (k + 1) ss) d (l, fr, at0)).fst : List LIns) = ((cmS (ss.getD k default) d (cmB (List.take k ss) d (l, fr, at0))).fst) := (by exact cb_1 (by omega)); have e3 : ((cmB (List.take (k + 1) ss) d (l, fr, at0)).snd.fst : List Int) = ((cmS (ss.getD k default) d (cmB (List.take k ss) d (l, fr, at0))).snd.fst) := (by exact cb_2 (by omega)); (first | rw [e1, e2, e3] | simp only [e1, e2, e3]) <;> rfl) (by kernel_rfl)

theorem l7BlockD (nv na : Nat) : ∀ (dd : Nat) (ss : List LStmt) (l : List LIns) (fr : List Int) (at0 d : Int), ss.all (stmtB nv na dd) = true → l.length + 4 * szSs ss ≤ 5000000 → fr.length = l.length → 0 ≤ d → d + dd ≤ 100 → 0 ≤ at0 → at0 + nSs ss ≤ 5000000 → Ctr.ok Try.prog (lrC l fr at0 ss d) := by
  intro dd
  induction dd with
  | zero =>
    intro ss l fr at0 d hs r1 r2 r3 r4 r5 r6
    have h0 : ss = [] := by
      cases ss with
      | nil => rfl
      | cons a r => simp [stmtB] at hs
    subst h0
    exact s_l7Block [] 100 (fun s hs => by cases hs) l fr at0 d r1 r2 r3 (by omega) r5 r6
  | succ dd ih =>
    intro ss l fr at0 d hs r1 r2 r3 r4 r5 r6
    refine s_l7Block ss (100 - (dd + 1)) (fun s hm l fr at0 d q1 q2 q3 q4 q5 q6 => ?_) l fr at0 d r1 r2 r3 (by omega) r5 r6
    have h := List.all_eq_true.1 hs s hm
    rw [stmtB_head, Bool.and_eq_true, Bool.and_eq_true] at h
    exact s_l7Stmt nv na dd s h.1 h.2.1 h.2.2 (fun tt l fr at0 d h1 h2 h3 h4 h5 h6 h7 => ih tt l fr at0 d h1 h2 h3 h4 h5 h6 h7) l fr at0 d q1 q2 q3 (by omega) q5 q6


abbrev yRvCd0 : It := .box [.v (.slice none 0 0), .v (.slice none 0 0), iA 0]
set_option maxHeartbeats 4000000 in
set_option maxRecDepth 100000 in
theorem s_l7BlockN (ss : List LStmt) (B : Int) (ih : ∀ (s : LStmt), s ∈ ss → ∀ (l : List LIns) (fr : List Int) (at0 d : Int), l.length + (4 + 4 * szS s) ≤ 5000000 → fr.length = l.length → 0 ≤ d → d ≤ B → 0 ≤ at0 → at0 + nS s ≤ 5000000 → Ctr.ok Try.prog (lqC l fr at0 s d))
    (d : Int) (r1 : ([] : List LIns).length + 4 * szSs ss ≤ 5000000) (r3 : 0 ≤ d) (r4 : d ≤ B) (r6 : (0 : Int) + nSs ss ≤ 5000000) : Ctr.ok Try.prog ⟨99, [.agg [.v (.slice none 0 0), .v (.slice none 0 0), iA 0], .ref 0, iA d], [dT ss], [dT ss, rN (cmB ss d ([], [], 0)).1, rI (cmB ss d ([], [], 0)).2.1], .agg [.ref 1, .ref 2, iA (cmB ss d ([], [], 0)).2.2]⟩ := by
  refine rx_enter 22 Try.func99 (by rfl) (by kernel_rfl) (by kernel_rfl) ?_; intro ι φ ψ w0 w F ρ0 ρ a G; replace G := Gam.at G [dT ss] [(0, .agg [.v (.slice none 0 0), .v (.slice none 0 0), iA 0]), (1, .ref 0), (2, iA d)]; have hl := szSs_len ss; refine wp_seq ?_; refine rs0 G [0, 1, 9] [dT ss, yRvCd0, yRvCd0] [(1, .ref 0), (2, iA d), (3, .ptr 1 0), (6, .ptr 2 0)] fun ρ a w G => th_n (wp_seq (wp_seq ?_)); refine rs0s G [(1, .ref 0), (2, iA d), (3, .ptr 1 0), (6, .ptr 2 0), (7, iA 0)] fun ρ a w G => th_n (wp_block ?_); have Gx := G.nil 3 50 (.instrs []) 5 [dT ss, .box [.ref 3, .v (.slice none 0 0), iA 0], yRvCd0] [(1, .ref 0), (2, iA d), (3, .ptr 1 0), (6, .ptr 2 0), (7, iA 0)]; clear G; obtain ⟨ρ, G⟩ := Gx; replace G := Gam.at G [dT ss, .box [.ref 3, .v (.slice none 0 0), iA 0], yRvCd0, .row 50 (D.instrs [])] [(1, .ref 0), (2, iA d), (3, .ptr 1 0), (6, .ptr 2 0), (7, iA 0)]; have Gx := G.nil 4 3 (.ints []) 1 [dT ss, .box [.ref 3, .ref 4, iA 0], yRvCd0, .row 50 (D.instrs [])] [(1, .ref 0), (2, iA d), (3, .ptr 1 0), (6, .ptr 2 0), (7, iA 0)]; clear G; obtain ⟨ρ, G⟩ := Gx; replace G := Gam.at G [dT ss, .box [.ref 3, .ref 4, iA 0], yRvCd0, .row 50 (D.instrs []), .row 3 (D.ints [])] [(1, .ref 0), (2, iA d), (3, .ptr 1 0), (6, .ptr 2 0), (7, iA 0)]; refine rx_for (κ := Nat) (fun k => k ≤ ss.length) (fun k => ss.length - k) (fun k => [dT ss, .box [.ref 3, .ref 4, iA (cmB (ss.take k) d ([], [], 0)).2.2], yRvCd0, .row 50 (.instrs (cmB (ss.take k) d ([], [], 0)).1), .row 3 (.ints (cmB (ss.take k) d ([], [], 0)).2.1)]) (fun k => [(1, .ref 0), (2, iA d), (3, .ptr 1 0), (6, .ptr 2 0), (7, iA k)]) (0) (by omega) (Gam.at G _ _) ?_; clear G; intro k ρ a w hp G; replace G := Gam.at G [dT ss, .box [.ref 3, .ref 4, iA (cmB (List.take k ss) d ([], [], 0)).snd.snd], yRvCd0, .row 50 (D.instrs (cmB (List.take k ss) d ([], [], 0)).fst), .row 3 (D.ints (cmB (List.take k ss) d ([], [], 0)).snd.fst)] [(1, .ref 0), (2, iA d), (3, .ptr 1 0), (6, .ptr 2 0), (7, iA (↑k : Int))]; refine wp_seq (wp_seq ?_); refine rs0s G [(1, .ref 0), (2, iA d), (3, .ptr 1 0), (6, .ptr 2 0), (7, iA (↑k : Int)), (11, bA (decide ((↑k : Int) < (↑ss.length : Int))))] fun ρ a w G => th_n ?_; cases h0 : (decide ((↑k : Int) < (↑ss.length : Int)))
  · have q0 : ¬ ((↑k : Int) < (↑ss.length : Int)) := dFf h0; refine rF G (decide ((↑k : Int) < (↑ss.length : Int))) (by assumption) ?_; refine wp_exit (th_e (th_e (bl_hit (th_n (wp_seq ?_))))); refine rs0 G [0, 2, 3, 4] [dT ss, .box [.ref 2, .ref 3, iA (cmB (List.take k ss) d ([], [], 0)).snd.snd], .row 50 (D.instrs (cmB (List.take k ss) d ([], [], 0)).fst), .row 3 (D.ints (cmB (List.take k ss) d ([], [], 0)).snd.fst)] [(6, .ptr 1 0)] fun ρ a w G => th_n (wp_ret ?_); exact rx_ret (v := .agg [.ref 2, .ref 3, iA (cmB (List.take k ss) d ([], [], 0)).snd.snd]) G [0, 2, 3] (by kernel_rfl) (by kernel_rfl) (by show _ = List.map (It.ren (nth [0, 2, 3])) [dT ss, .row 50 (D.instrs (cmB ss d ([], [], 0)).fst), .row 3 (D.ints (cmB ss d ([], [], 0)).snd.fst)]; have e1 : ((cmB ss d ([], [], 0)).fst : List LIns) = ((cmB (List.take k ss) d ([], [], 0)).fst) := (by exact congrArg Prod.fst (cb_e (by omega) _)); have e2 : ((cmB ss d ([], [], 0)).snd.fst : List Int) = ((cmB (List.take k ss) d ([], [], 0)).snd.fst) := (by exact congrArg (fun x : ComS => x.2.1) (cb_e (by omega) _)); (first | rw [e1, e2] | simp only [e1, e2]) <;> rfl) (by have e1 : ((cmB ss d ([], [], 0)).snd.snd : Int) = ((cmB (List.take k ss) d ([], [], 0)).snd.snd) := (by exact congrArg (fun x : ComS => x.2.2) (cb_e (by omega) _)); (first | rw [e1] | simp only [e1]) <;> rfl)
  · have q0 : (↑k : Int) < (↑ss.length : Int) := dTt h0; refine rT G (decide ((↑k : Int) < (↑ss.length : Int))) (by assumption) ?_; refine wp_skip (th_n (wp_seq (wp_block ?_))); refine rd1 (dk := dkP) G ⟨[(6, _, [3, 4, 37, 38, 39, 40])], [], []⟩ (calls_cons (ih (ss.getD k default) (by exact getS_mem (by omega)) ((cmB (List.take k ss) d ([], [], 0)).fst) ((cmB (List.take k ss) d ([], [], 0)).snd.fst) ((cmB (List.take k ss) d ([], [], 0)).snd.snd) (d) (by exact cb_fit r1 (by omega)) (by exact cb_fr rfl) (by assumption) (by assumption) (by exact cb_at1 (Int.le_refl 0)) (by exact cb_at2 r6 (by omega))) calls_nil) trivial [0, 0, 0, 6, 14, 0, 63, 127] [0, 1, 2, 53, 54] [dT ss, .box [.ref 3, .ref 4, iA (cmS (ss.getD k default) d (cmB (List.take k ss) d ([], [], 0))).snd.snd], yRvCd0, .row 50 (D.instrs (cmS (ss.getD k default) d (cmB (List.take k ss) d ([], [], 0))).fst), .row 3 (D.ints (cmS (ss.getD k default) d (cmB (List.take k ss) d ([], [], 0))).snd.fst)] [(1, .ref 0), (2, iA d), (3, .ptr 1 0), (6, .ptr 2 0), (7, iA (↑k : Int))] [(0 : Int) ≤ (↑k : Int), (↑k : Int) < (↑ss.length : Int), k < ss.length] ⟨(by simp [h0]), (by assumption), (by omega), trivial⟩ ?_; intro ρ a w G; refine bl_n ?_; refine th_n ?_; refine rs1s G ⟨[], [], []⟩ calls_nil trivial [(1, .ref 0), (2, iA d), (3, .ptr 1 0), (6, .ptr 2 0), (7, iA ((↑k : Int) + 1))] [IntKind.i64.wrap ((↑k : Int) + (1 : Int)) = (↑k : Int) + (1 : Int)] ⟨(by exact w64 (by omega) (by omega)), trivial⟩ fun ρ a w G => th_n ?_; exact rx_next G (k + 1) (by omega) (by omega) (rg 5) [dT ss, .box [.ref 3, .ref 4, iA (cmB (List.take (k + 1) ss) d ([], [], 0)).snd.snd], .box [.v (.slice none 0 0), .v (.slice none 0 0), iA 0], .row 50 (D.instrs (cmB (List.take (k + 1) ss) d ([], [], 0)).fst), .row 3 (D.ints (cmB (List.take (k + 1) ss) d ([], [], 0)).snd.fst)] [(1, .ref 0), (2, iA d), (3, .ptr 1 0), (6, .ptr 2 0), (7, iA (↑(k + 1) : Int))] (by kernel_rfl) (by kernel_rfl) (by kernel_rfl) (by have e1 : ((cmB (List.take (k + 1) ss) d ([], [], 0)).snd.snd : Int) = ((cmS (ss.getD k default) d (cmB (List.take k ss) d ([], [], 0))).snd.snd) := (by exact cb_3 (by omega)); have e2 : ((cmB (List.take (k + 1) ss) d ([], [], 0)).fst : List LIns) = ((cmS (ss.getD k default) d (cmB (List.take k ss) d ([], [], 0))).fst) := (by exact cb_1 (by omega)); have e3 : ((cmB (List.take (k + 1) ss) d ([], [], 0)).snd.fst : List Int) = ((cmS (ss.getD k default) d (cmB (List.take k ss) d ([], [], 0))).snd.fst) := (by exact cb_2 (by omega)); (first | rw [e1, e2, e3] | simp only [e1, e2, e3]) <;> rfl) (by kernel_rfl)

theorem c_l7BlockP (p : LProg) (hp : progB p = true) (hb : szSs p.body ≤ 1048576) : Ctr.ok Try.prog ⟨99, [.agg [.v (.slice none 0 0), .v (.slice none 0 0), iA 0], .ref 0, iA 0], [dT p.body], [dT p.body, rN (cmB p.body 0 ([], [], 0)).1, rI (cmB p.body 0 ([], [], 0)).2.1], .agg [.ref 1, .ref 2, iA (cmB p.body 0 ([], [], 0)).2.2]⟩ := by
  simp only [progB, blockB, Bool.and_eq_true, decide_eq_true_eq] at hp
  refine s_l7BlockN p.body 95 (fun s hm l fr at0 d q1 q2 q3 q4 q5 q6 => ?_) 0 (by simp only [List.length_nil]; omega) (by omega) (by omega) (by have := nSs_sz p.body; omega)
  have h := List.all_eq_true.1 hp.1.2 s hm
  rw [stmtB_head, Bool.and_eq_true, Bool.and_eq_true] at h
  exact s_l7Stmt _ _ 4 s h.1 h.2.1 h.2.2 (fun tt l fr at0 d h1 h2 h3 h4 h5 h6 h7 => l7BlockD _ _ 4 tt l fr at0 d h1 h2 h3 h4 h5 h6 h7) l fr at0 d q1 q2 q3 (by omega) q5 q6

def comC (p : LProg) : ComS := ((cmB p.body 0 ([], [], 0)).1 ++ [⟨13, 0, 0, 0, 0⟩], (cmB p.body 0 ([], [], 0)).2.1 ++ [-1], (cmB p.body 0 ([], [], 0)).2.2)
def okC (p : LProg) : Bool := progB p && decide ((comC p).1.length ≤ 400)
def comP (p : LProg) : ComS := if okC p = true then comC p else ([], [], 0)
theorem okC_no {p : LProg} (h : progB p = false) : okC p = false := by unfold okC; rw [h]; rfl
theorem okC_f {p : LProg} (h : ¬ (comC p).1.length ≤ 400) : okC p = false := by unfold okC; rw [decide_eq_false h, Bool.and_false]
theorem okC_t {p : LProg} (h1 : progB p = true) (h : (comC p).1.length ≤ 400) : okC p = true := by unfold okC; rw [decide_eq_true h, h1]; rfl
theorem comP_f {p : LProg} (h : okC p = false) : comP p = ([], [], 0) := by unfold comP; rw [h]; rfl
theorem comP_t {p : LProg} (h : okC p = true) : comP p = comC p := by unfold comP; rw [h]; rfl
theorem com_bound (p : LProg) (hb : szSs p.body ≤ 1048576) : (cmB p.body 0 ([], [], 0)).1.length ≤ 5000000 ∧ (cmB p.body 0 ([], [], 0)).2.1.length ≤ 5000000 := by
  have h := cmB_len p.body 0 ([], [], 0)
  have h1 := cntB_le p.body
  simp only [List.length_nil] at h
  omega
abbrev yRvCd1 (p : LProg) : List It := [dI p.vars, dI p.arrays, dT p.body, .row 50 (D.instrs (comP p).fst), .row 3 (D.ints (comP p).snd.fst)]
abbrev yRvCd2 (p : LProg) : It := .row 50 (D.instrs ((cmB p.body 0 ([], [], 0)).fst ++ [LIns.mk 13 0 0 0 0]))
abbrev yRvCd3 (p : LProg) : It := .row 3 (D.ints ((cmB p.body 0 ([], [], 0)).snd.fst ++ [-1]))
abbrev yRvCd4 (p : LProg) : It := .box [.ref 5, .ref 6, iA (cmB p.body 0 ([], [], 0)).snd.snd]
set_option maxHeartbeats 4000000 in
set_option maxRecDepth 100000 in
theorem c_l7Compile (p : LProg) (hb : szSs p.body ≤ 1048576) : Ctr.ok Try.prog ⟨56, [pA 0], pS p, pS p ++ [rN (comP p).1, rI (comP p).2.1], .tup [.agg [.ref 3, .ref 4, iA (comP p).2.2], bA (okC p)]⟩ := by
  refine rx_enter 22 Try.func56 (by rfl) (by kernel_rfl) (by kernel_rfl) ?_; intro ι φ ψ w0 w F ρ0 ρ a G; replace G := Gam.at G [dI p.vars, dI p.arrays, dT p.body] [(0, pA 0)]; have hcb := com_bound p hb; refine wp_seq ?_; refine rs0 G [0, 1, 2, 3, 11] [dI p.vars, dI p.arrays, dT p.body, .box (pL 0), .box [.v (.slice none 0 0), .v (.slice none 0 0), iA 0]] [(1, .ptr 3 0), (2, .ptr 4 0), (3, bA false)] fun ρ a w G => th_n (wp_seq (wp_seq ?_)); refine rs1s G ⟨[(1, _, [0, 1, 2])], [], []⟩ (calls_cons (c_ProgramValid (p) (by assumption)) calls_nil) trivial [(1, .ptr 3 0), (2, .ptr 4 0), (3, bA false), (7, .v (.bool !progB p))] [] trivial fun ρ a w G => th_n ?_; cases h0 : (!progB p)
  ·
   have q0 : (progB p) = true := (Eq.mp (Bool.not_eq_false' _) h0); refine rF G (!progB p) (by assumption) ?_; refine wp_skip (th_n (wp_seq ?_)); refine rs1 (dk := dkP) G ⟨[(3, _, [2])], [], []⟩ (calls_cons (c_l7BlockP (p) (by assumption) (by assumption)) calls_nil) trivial [0, 1, 2, 4, 29, 30, 37] [dI p.vars, dI p.arrays, dT p.body, .box [.v (.slice none 0 0), .v (.slice none 0 0), iA 0], .row 50 (D.instrs (cmB p.body 0 ([], [], 0)).fst), .row 3 (D.ints (cmB p.body 0 ([], [], 0)).snd.fst), .box [.ref 4, .ref 5, iA (cmB p.body 0 ([], [], 0)).snd.snd]] [(2, .ptr 3 0), (3, bA false), (4, .ptr 6 0)] [] trivial fun ρ a w G => th_n (wp_seq ?_); refine rs1 (dk := dkP) G ⟨[(2, _, [4, 5])], [], []⟩ (calls_cons (c_l7Add ((cmB p.body 0 ([], [], 0)).fst) ((cmB p.body 0 ([], [], 0)).snd.fst) ((cmB p.body 0 ([], [], 0)).snd.snd) (-1) (13) (0) (0) (0) (0) (by omega) (by omega)) calls_nil) trivial [0, 1, 2, 3, 6, 23, 24] [dI p.vars, dI p.arrays, dT p.body, .box [.v (.slice none 0 0), .v (.slice none 0 0), iA 0], yRvCd4 p, yRvCd2 p, yRvCd3 p] [(2, .ptr 3 0), (3, bA false), (4, .ptr 4 0)] [] trivial fun ρ a w G => th_n (wp_seq (wp_seq ?_)); refine rs0s G [(2, .ptr 3 0), (3, bA false), (4, .ptr 4 0), (19, bA (decide ((↑((cmB p.body 0 ([], [], 0)).fst ++ [LIns.mk 13 0 0 0 0]).length : Int) > 400)))] fun ρ a w G => th_n ?_; cases h1 : (decide ((↑((cmB p.body (0 : Int) ([], [], (0 : Int))).fst ++ [LIns.mk (13 : Int) (0 : Int) (0 : Int) (0 : Int) (0 : Int)]).length : Int) > (400 : Int)))
   · have q1 : ¬ ((↑((cmB p.body 0 ([], [], 0)).fst ++ [LIns.mk 13 0 0 0 0]).length : Int) > 400) := dFf h1; refine rF G (decide ((↑((cmB p.body (0 : Int) ([], [], (0 : Int))).fst ++ [LIns.mk (13 : Int) (0 : Int) (0 : Int) (0 : Int) (0 : Int)]).length : Int) > (400 : Int))) (by assumption) ?_; refine wp_skip (th_n (wp_seq ?_)); refine rs0 G [0, 1, 2, 3, 5, 6] [dI p.vars, dI p.arrays, dT p.body, .box [.ref 4, .ref 5, iA (cmB p.body 0 ([], [], 0)).snd.snd], yRvCd2 p, yRvCd3 p] [(2, .ptr 3 0), (3, bA true)] fun ρ a w G => th_n (wp_ret ?_); exact rx_ret (v := .tup [.agg [.ref 4, .ref 5, iA (cmB p.body 0 ([], [], 0)).snd.snd], bA true]) G [0, 1, 2, 4, 5] (by kernel_rfl) (by kernel_rfl) (by show _ = List.map (It.ren (nth [0, 1, 2, 4, 5])) (yRvCd1 p); unfold yRvCd1; rw [comP_t (okC_t (by with_reducible assumption) (by simp only [comC]; omega))] <;> rfl) (by have e1 : ((comP p).snd.snd : Int) = ((cmB p.body 0 ([], [], 0)).snd.snd) := (by rw [comP_t (okC_t (by with_reducible assumption) (by simp only [comC]; omega))]; rfl); have e2 : (okC p : Bool) = (true) := (by exact okC_t (by with_reducible assumption) (by simp only [comC]; omega)); (first | rw [e1, e2] | simp only [e1, e2]) <;> rfl)
   · have q1 : (↑((cmB p.body 0 ([], [], 0)).fst ++ [LIns.mk 13 0 0 0 0]).length : Int) > 400 := dTt h1; refine rT G (decide ((↑((cmB p.body (0 : Int) ([], [], (0 : Int))).fst ++ [LIns.mk (13 : Int) (0 : Int) (0 : Int) (0 : Int) (0 : Int)]).length : Int) > (400 : Int))) (by assumption) ?_; refine wp_seq ?_; refine rs0s G [(2, .ptr 3 0), (3, bA false), (4, .ptr 4 0)] fun ρ a w G => th_n (wp_ret (th_r ?_)); have Gx := G.nil 7 50 (.instrs []) 5 [dI p.vars, dI p.arrays, dT p.body, .box [.ref 7, .v (.slice none 0 0), iA 0], yRvCd4 p, yRvCd2 p, yRvCd3 p] [(2, .ptr 3 0), (3, bA false), (4, .ptr 4 0)]; clear G; obtain ⟨ρ, G⟩ := Gx; replace G := Gam.at G [dI p.vars, dI p.arrays, dT p.body, .box [.ref 7, .v (.slice none 0 0), iA 0], yRvCd4 p, yRvCd2 p, yRvCd3 p, .row 50 (D.instrs [])] [(2, .ptr 3 0), (3, bA false), (4, .ptr 4 0)]; have Gx := G.nil 8 3 (.ints []) 1 [dI p.vars, dI p.arrays, dT p.body, .box [.ref 7, .ref 8, iA 0], yRvCd4 p, yRvCd2 p, yRvCd3 p, .row 50 (D.instrs [])] [(2, .ptr 3 0), (3, bA false), (4, .ptr 4 0)]; clear G; obtain ⟨ρ, G⟩ := Gx; replace G := Gam.at G [dI p.vars, dI p.arrays, dT p.body, .box [.ref 7, .ref 8, iA 0], yRvCd4 p, yRvCd2 p, yRvCd3 p, .row 50 (D.instrs []), .row 3 (D.ints [])] [(2, .ptr 3 0), (3, bA false), (4, .ptr 4 0)]; exact rx_ret (v := .tup [.agg [.ref 7, .ref 8, iA 0], bA false]) G [0, 1, 2, 7, 8] (by kernel_rfl) (by kernel_rfl) (by show _ = List.map (It.ren (nth [0, 1, 2, 7, 8])) (yRvCd1 p); unfold yRvCd1; rw [comP_f (okC_f (by simp only [comC]; omega))] <;> rfl) (by have e1 : ((comP p).snd.snd : Int) = (0) := (by rw [comP_f (okC_f (by simp only [comC]; omega))]; done); have e2 : (okC p : Bool) = (false) := (by exact okC_f (by simp only [comC]; omega)); (first | rw [e1, e2] | simp only [e1, e2]) <;> rfl)
  · have q0 : (progB p) = false := (Eq.mp (Bool.not_eq_true' _) h0); refine rT G (!progB p) (by assumption) ?_; refine wp_seq ?_; refine rs0s G [(1, .ptr 3 0), (2, .ptr 4 0), (3, bA false)] fun ρ a w G => th_n (wp_ret (th_r ?_)); have Gx := G.nil 5 50 (.instrs []) 5 [dI p.vars, dI p.arrays, dT p.body, .box (pL 0), .box [.ref 5, .v (.slice none 0 0), iA 0]] [(1, .ptr 3 0), (2, .ptr 4 0), (3, bA false)]; clear G; obtain ⟨ρ, G⟩ := Gx; replace G := Gam.at G [dI p.vars, dI p.arrays, dT p.body, .box (pL 0), .box [.ref 5, .v (.slice none 0 0), iA 0], .row 50 (D.instrs [])] [(1, .ptr 3 0), (2, .ptr 4 0), (3, bA false)]; have Gx := G.nil 6 3 (.ints []) 1 [dI p.vars, dI p.arrays, dT p.body, .box (pL 0), .box [.ref 5, .ref 6, iA 0], .row 50 (D.instrs [])] [(1, .ptr 3 0), (2, .ptr 4 0), (3, bA false)]; clear G; obtain ⟨ρ, G⟩ := Gx; replace G := Gam.at G [dI p.vars, dI p.arrays, dT p.body, .box (pL 0), .box [.ref 5, .ref 6, iA 0], .row 50 (D.instrs []), .row 3 (D.ints [])] [(1, .ptr 3 0), (2, .ptr 4 0), (3, bA false)]; exact rx_ret (v := .tup [.agg [.ref 5, .ref 6, iA 0], bA false]) G [0, 1, 2, 5, 6] (by kernel_rfl) (by kernel_rfl) (by show _ = List.map (It.ren (nth [0, 1, 2, 5, 6])) (yRvCd1 p); unfold yRvCd1; rw [comP_f (okC_no (by with_reducible assumption))] <;> rfl) (by have e1 : ((comP p).snd.snd : Int) = (0) := (by rw [comP_f (okC_no (by with_reducible assumption))]; done); have e2 : (okC p : Bool) = (false) := (by exact okC_no (by with_reducible assumption)); (first | rw [e1, e2] | simp only [e1, e2]) <;> rfl)


def gX (nv na : Nat) (L : Int) (x : LIns) : Prop :=
  (x.op = 1 ∧ (0 ≤ x.a ∧ x.a ≤ 13) ∧ (0 ≤ x.b ∧ x.b ≤ 255) ∧ x.c = 0 ∧ x.d = 0) ∨
  (x.op = 2 ∧ (0 ≤ x.a ∧ x.a ≤ 13) ∧ (0 ≤ x.b ∧ x.b < nv) ∧ x.c = 0 ∧ x.d = 0) ∨
  (x.op = 3 ∧ (0 ≤ x.a ∧ x.a < nv) ∧ (0 ≤ x.b ∧ x.b ≤ 13) ∧ x.c = 0 ∧ x.d = 0) ∨
  (x.op = 4 ∧ (0 ≤ x.a ∧ x.a ≤ 13) ∧ (0 ≤ x.b ∧ x.b < na) ∧ (0 ≤ x.c ∧ x.c ≤ 13) ∧ x.d = 0) ∨
  (x.op = 5 ∧ (0 ≤ x.a ∧ x.a < na) ∧ (0 ≤ x.b ∧ x.b ≤ 13) ∧ (0 ≤ x.c ∧ x.c ≤ 13) ∧ x.d = 0) ∨
  (x.op = 6 ∧ (0 ≤ x.a ∧ x.a ≤ 13) ∧ (4 ≤ x.b ∧ x.b ≤ 10) ∧ (0 ≤ x.c ∧ x.c ≤ 13) ∧ (0 ≤ x.d ∧ x.d ≤ 13)) ∨
  (x.op = 7 ∧ (0 ≤ x.a ∧ x.a ≤ 13) ∧ (0 ≤ x.b ∧ x.b ≤ 13) ∧ (0 ≤ x.c ∧ x.c ≤ 13) ∧ (0 ≤ x.d ∧ x.d ≤ 13)) ∨
  (x.op = 8 ∧ (0 ≤ x.a ∧ x.a < L) ∧ x.b = 0 ∧ x.c = 0 ∧ x.d = 0) ∨
  (x.op = 9 ∧ (0 ≤ x.a ∧ x.a ≤ 13) ∧ (0 ≤ x.b ∧ x.b < L) ∧ x.c = 0 ∧ x.d = 0) ∨
  (x.op = 10 ∧ (0 ≤ x.a ∧ x.a ≤ 13) ∧ (0 ≤ x.b ∧ x.b < L) ∧ x.c = 0 ∧ x.d = 0) ∨
  (x.op = 11 ∧ (0 ≤ x.a ∧ x.a ≤ 13) ∧ x.b = 0 ∧ x.c = 0 ∧ x.d = 0)
def gL (nv na : Nat) (L : Int) (l : List LIns) : Prop := ∀ x ∈ l, gX nv na L x
theorem gL_app {nv na : Nat} {L : Int} {a b : List LIns} (h : gL nv na L a) (k : gL nv na L b) : gL nv na L (a ++ b) := by
  intro x hx
  rcases List.mem_append.1 hx with hx | hx
  · exact h x hx
  · exact k x hx
theorem gL_one {nv na : Nat} {L : Int} {a : LIns} (h : gX nv na L a) : gL nv na L [a] := by
  intro x hx
  rw [List.mem_singleton] at hx
  subst hx; exact h
theorem gX_ok {c : LCode} {x : LIns} (h : gX c.vars.length c.arrays.length c.list.length x) : insOk c x = true := by
  obtain ⟨op, a, b, cc, d⟩ := x
  unfold gX at h
  simp only at h
  rcases h with h | h | h | h | h | h | h | h | h | h | h <;> obtain ⟨rfl, h1, h2, h3, h4⟩ := h <;>
    · simp only [insOk, fldStr, partOk, rangeOk, Bool.and_eq_true, decide_eq_true_eq]
      simp
      omega
theorem shape_parts {nv na n : Nat} {k v : Int} {ks : List LExpr} (h : shapeB nv na (n + 1) ⟨k, v, ks⟩ = true) : (ks.length : Int) = arity k ∧ 0 ≤ v ∧ v < limit nv na k ∧ ks.all (shapeB nv na n) = true := by
  rw [shapeB] at h
  simp only [Bool.and_eq_true, nodeB, decide_eq_true_eq] at h
  exact ⟨h.1.1.1.1, h.1.1.1.2, h.1.1.2, h.1.2⟩
theorem stmt_parts {nv na n : Nat} {k t c : Int} {i v : LExpr} {b e : List LStmt} (h : stmtB nv na (n + 1) ⟨k, t, i, v, c, b, e⟩ = true) :
    (k = 4 → 1 ≤ c ∧ c ≤ 3 ∧ b.all (stmtB nv na n) = true) ∧ (k = 1 ∨ k = 5 → (0 ≤ t ∧ t < nv) ∧ rightB nv na v = true) ∧ (k = 2 → (0 ≤ t ∧ t < na) ∧ rightB nv na i = true ∧ rightB nv na v = true) ∧
    (k ≠ 4 → k ≠ 1 → k ≠ 5 → k ≠ 2 → rightB nv na v = true ∧ b.all (stmtB nv na n) = true ∧ e.all (stmtB nv na n) = true) := by
  rw [stmtB, Bool.and_eq_true] at h
  obtain ⟨hp, h⟩ := h
  have hp : (if (k = 3 ∨ k = 4) then
    decide (t = 0) && (if k = 4 then decide (e.length = 0) && decide (1 ≤ c) && decide (c ≤ 3) && noneB i && noneB v
      else decide (c = 0) && noneB i)
  else decide (b.length = 0) && decide (e.length = 0) && decide (c = 0) && (decide (k = 2) || noneB i)) = true := hp
  have h : (if k = 1 ∨ k = 5 then decide (0 ≤ t) && decide (t < nv) && rightB nv na v
     else if k = 2 then decide (0 ≤ t) && decide (t < na) && rightB nv na i && atomB i && rightB nv na v
     else if k = 3 then rightB nv na v && b.all (stmtB nv na n) && e.all (stmtB nv na n)
     else if k = 4 then b.all (stmtB nv na n)
     else false) = true := h
  refine ⟨?_, ?_, ?_, ?_⟩
  · rintro rfl
    rw [if_pos (.inr rfl), if_pos rfl] at hp
    rw [if_neg (by omega), if_neg (by omega), if_neg (by omega), if_pos rfl] at h
    simp only [Bool.and_eq_true, decide_eq_true_eq] at hp
    exact ⟨hp.2.1.1.1.2, hp.2.1.1.2, h⟩
  · intro hk
    rw [if_pos hk] at h
    simp only [Bool.and_eq_true, decide_eq_true_eq] at h
    exact ⟨h.1, h.2⟩
  · rintro rfl
    rw [if_neg (by omega), if_pos rfl] at h
    simp only [Bool.and_eq_true, decide_eq_true_eq] at h
    exact ⟨h.1.1.1, h.1.1.2, h.2⟩
  · intro k4 k1 k5 k2
    rw [if_neg (by omega), if_neg k2] at h
    split at h
    · simp only [Bool.and_eq_true] at h
      exact ⟨h.1.1, h.1.2, h.2⟩
    · exact absurd h (by decide)
mutual
theorem codeE_g (nv na : Nat) (L : Int) : ∀ (n : Nat) (e : LExpr) (r : Int), shapeB nv na n e = true → 0 ≤ r → r + 2 * n ≤ 13 → gL nv na L (codeE e r)
  | 0, e, r, h, _, _ => by simp [shapeB] at h
  | n + 1, ⟨k, v, ks⟩, r, h, h0, h1 => by
    obtain ⟨ha, hv0, hv1, hk⟩ := shape_parts h
    simp only [arity, limit] at ha hv1
    rw [codeE]
    split
    · rename_i hk1
      subst hk1
      simp at hv1
      exact gL_one (.inl ⟨rfl, by constructor <;> simp only <;> omega, by constructor <;> simp only <;> omega, rfl, rfl⟩)
    · split
      · rename_i hk2
        subst hk2
        simp at hv1
        exact gL_one (.inr (.inl ⟨rfl, by constructor <;> simp only <;> omega, by constructor <;> simp only <;> omega, rfl, rfl⟩))
      · rename_i k1 k2
        have hlen : ks.length ≤ 3 ∧ (3 ≤ k ∧ k ≤ 11) := by
          rw [if_neg (by omega)] at ha
          split at ha
          · omega
          · split at ha
            · omega
            · split at ha <;> omega
        refine gL_app (codeEs_g nv na L n ks r hk h0 (by omega)) (gL_one ?_)
        unfold lastI
        split
        · rename_i hk3
          subst hk3
          simp at hv1
          exact .inr (.inr (.inr (.inl ⟨rfl, by constructor <;> simp only <;> omega, by constructor <;> simp only <;> omega, by constructor <;> simp only <;> omega, rfl⟩)))
        · split
          · exact .inr (.inr (.inr (.inr (.inr (.inr (.inl ⟨rfl, by constructor <;> simp only <;> omega, by constructor <;> simp only <;> omega, by constructor <;> simp only <;> omega, by constructor <;> simp only <;> omega⟩))))))
          · exact .inr (.inr (.inr (.inr (.inr (.inl ⟨rfl, by constructor <;> simp only <;> omega, by constructor <;> simp only <;> omega, by constructor <;> simp only <;> omega, by constructor <;> simp only <;> omega⟩)))))
termination_by n _ => (n, 0)
theorem codeEs_g (nv na : Nat) (L : Int) : ∀ (n : Nat) (ks : List LExpr) (r : Int), ks.all (shapeB nv na n) = true → 0 ≤ r → r + ks.length + 2 * n ≤ 14 → gL nv na L (codeEs ks r)
  | _, [], r, _, _, _ => by rw [codeEs]; intro x hx; cases hx
  | n, e :: t, r, h, h0, h1 => by
    simp only [List.all_cons, Bool.and_eq_true] at h
    simp only [List.length_cons] at h1
    rw [codeEs]
    exact gL_app (codeE_g nv na L n e r h.1 h0 (by omega)) (codeEs_g nv na L n t (r + 1) h.2 (by omega) (by omega))
termination_by n ks => (n, ks.length + 1)
end
theorem right_g {nv na : Nat} {e : LExpr} (L r : Int) (h : rightB nv na e = true) (h0 : 0 ≤ r) (h1 : r ≤ 1) : gL nv na L (codeE e r) := by
  unfold rightB at h
  rw [Bool.and_eq_true] at h
  exact codeE_g nv na L 5 e r h.1 h0 (by omega)
def Gd (nv na : Nat) (L : Int) (x y : ComS) : Prop := ∃ ys, y.1 = x.1 ++ ys ∧ gL nv na L ys
theorem Gd.refl {nv na : Nat} {L : Int} (x : ComS) : Gd nv na L x x := ⟨[], by simp, fun x hx => by cases hx⟩
theorem Gd.trans {nv na : Nat} {L : Int} {x y z : ComS} (h : Gd nv na L x y) (k : Gd nv na L y z) : Gd nv na L x z := by
  obtain ⟨a, a1, a2⟩ := h
  obtain ⟨b, b1, b2⟩ := k
  exact ⟨a ++ b, by rw [b1, a1, List.append_assoc], gL_app a2 b2⟩
theorem Gd.add {nv na : Nat} {L : Int} {x : ComS} {n : Int} {c : List LIns} (h : gL nv na L c) : Gd nv na L x (addC x n c) := ⟨c, rfl, h⟩
theorem Gd.add1 {nv na : Nat} {L : Int} {x : ComS} {n m : Int} {c : List LIns} (h : gL nv na L c) : Gd nv na L x (addC (x.1, x.2.1, m) n c) := ⟨c, rfl, h⟩
theorem put_b {a b : List LIns} {n : Int} {k : Nat} (hk : k = a.length) : putB (a ++ ⟨9, 0, 0, 0, 0⟩ :: b) k n = a ++ ⟨9, 0, n, 0, 0⟩ :: b := by
  subst hk
  simp [putB, List.getD_eq_getElem?_getD, List.set_append_right]
theorem put_a {a b : List LIns} {n : Int} {k : Nat} (hk : k = a.length) : putA (a ++ ⟨8, 0, 0, 0, 0⟩ :: b) k n = a ++ ⟨8, n, 0, 0, 0⟩ :: b := by
  subst hk
  simp [putA, List.getD_eq_getElem?_getD, List.set_append_right]
theorem r130 : (0 : Int) ≤ 0 ∧ (0 : Int) ≤ 13 := by decide
theorem r131 : (0 : Int) ≤ 1 ∧ (1 : Int) ≤ 13 := by decide
theorem g1 {nv na : Nat} {L a b : Int} (h1 : 0 ≤ a ∧ a ≤ 13) (h2 : 0 ≤ b ∧ b ≤ 255) : gL nv na L [⟨1, a, b, 0, 0⟩] := gL_one (.inl ⟨rfl, h1, h2, rfl, rfl⟩)
theorem g3 {nv na : Nat} {L a : Int} (h1 : 0 ≤ a ∧ a < nv) : gL nv na L [⟨3, a, 0, 0, 0⟩] := gL_one (.inr (.inr (.inl ⟨rfl, h1, r130, rfl, rfl⟩)))
theorem g5 {nv na : Nat} {L a : Int} (h1 : 0 ≤ a ∧ a < na) : gL nv na L [⟨5, a, 1, 0, 0⟩] := gL_one (.inr (.inr (.inr (.inr (.inl ⟨rfl, h1, r131, r130, rfl⟩)))))
theorem g8 {nv na : Nat} {L a : Int} (h1 : 0 ≤ a ∧ a < L) : gX nv na L ⟨8, a, 0, 0, 0⟩ := .inr (.inr (.inr (.inr (.inr (.inr (.inr (.inl ⟨rfl, h1, rfl, rfl, rfl⟩)))))))
theorem g9 {nv na : Nat} {L b : Int} (h1 : 0 ≤ b ∧ b < L) : gX nv na L ⟨9, 0, b, 0, 0⟩ := .inr (.inr (.inr (.inr (.inr (.inr (.inr (.inr (.inl ⟨rfl, r130, h1, rfl, rfl⟩))))))))
theorem g10 {nv na : Nat} {L a b : Int} (h0 : 0 ≤ a ∧ a ≤ 13) (h1 : 0 ≤ b ∧ b < L) : gL nv na L [⟨10, a, b, 0, 0⟩] := gL_one (.inr (.inr (.inr (.inr (.inr (.inr (.inr (.inr (.inr (.inl ⟨rfl, h0, h1, rfl, rfl⟩))))))))))
theorem g11 {nv na : Nat} {L : Int} : gL nv na L [⟨11, 0, 0, 0, 0⟩] := gL_one (.inr (.inr (.inr (.inr (.inr (.inr (.inr (.inr (.inr (.inr ⟨rfl, r130, rfl, rfl, rfl⟩))))))))))
mutual
theorem cmS_g (nv na : Nat) (L : Int) : ∀ (n : Nat) (s : LStmt) (d : Int) (x : ComS), stmtB nv na n s = true → 0 ≤ d → d + n ≤ 5 → ((cmS s d x).1.length : Int) < L → Gd nv na L x (cmS s d x)
  | 0, s, d, x, h, _, _, _ => by simp [stmtB] at h
  | n + 1, ⟨k, t, i, v, c, b, e⟩, d, x, h, h0, h1, hL => by
    have hl := (cmS_len ⟨k, t, i, v, c, b, e⟩ d x).1
    obtain ⟨p4, p1, p2, p3⟩ := stmt_parts h
    rw [cmS] at hL ⊢
    split
    · rename_i hk
      subst hk
      obtain ⟨c1, c2, h⟩ := p4 rfl
      rw [if_pos rfl] at hL
      simp only [addC, List.length_append, List.length_cons, List.length_nil] at hL
      have a1 : Gd nv na L x (addC (x.1, x.2.1, x.2.2 + 1) x.2.2 [⟨1, 9 + d, c, 0, 0⟩]) := Gd.add1 (g1 (by omega) (by omega))
      have a2 := cmB_g nv na L n b (d + 1) (addC (x.1, x.2.1, x.2.2 + 1) x.2.2 [⟨1, 9 + d, c, 0, 0⟩]) h (by omega) (by omega) (by simp only [addC, List.length_cons, List.length_nil]; omega)
      have l2 := (cmB_len b (d + 1) (addC (x.1, x.2.1, x.2.2 + 1) x.2.2 [⟨1, 9 + d, c, 0, 0⟩])).1
      simp only [addC, List.length_append, List.length_cons, List.length_nil] at l2
      exact (a1.trans a2).trans (Gd.add (g10 (by omega) (by omega)))
    · rename_i k4
      rw [if_neg k4] at hL
      split
      · rename_i hk
        obtain ⟨h1, h2⟩ := p1 (.inl hk)
        exact (Gd.add1 (right_g L 0 h2 (by omega) (by omega))).trans (Gd.add (g3 h1))
      · rename_i k1
        rw [if_neg k1] at hL
        split
        · rename_i hk
          obtain ⟨h1, h2⟩ := p1 (.inr hk)
          exact ((Gd.add1 (right_g L 0 h2 (by omega) (by omega))).trans (Gd.add g11)).trans (Gd.add (g3 h1))
        · rename_i k5
          rw [if_neg k5] at hL
          split
          · rename_i hk
            obtain ⟨h1, h2, h3⟩ := p2 hk
            exact ((Gd.add1 (right_g L 0 h3 (by omega) (by omega))).trans (Gd.add (right_g L 1 h2 (by omega) (by omega)))).trans (Gd.add (g5 h1))
          · rename_i k2
            rw [if_neg k2] at hL
            have h := p3 k4 k1 k5 k2
            simp only at hL ⊢
            have a1 : Gd nv na L x (addC (x.1, x.2.1, x.2.2 + 1) x.2.2 (codeE v 0)) := Gd.add1 (right_g L 0 h.1 (by omega) (by omega))
            generalize addC (x.1, x.2.1, x.2.2 + 1) x.2.2 (codeE v 0) = y at hL a1 ⊢
            have a2 := cmB_g nv na L n b (d + 1) (addC y x.2.2 [⟨9, 0, 0, 0, 0⟩]) h.2.1 (by omega) (by omega)
            generalize cmB b (d + 1) (addC y x.2.2 [⟨9, 0, 0, 0, 0⟩]) = z at hL a2 ⊢
            have l3 := (cmB_len e (d + 1) (putB (addC z x.2.2 [⟨8, 0, 0, 0, 0⟩]).1 y.1.length ((addC z x.2.2 [⟨8, 0, 0, 0, 0⟩]).1.length : Int), (addC z x.2.2 [⟨8, 0, 0, 0, 0⟩]).2)).1
            have a3 := cmB_g nv na L n e (d + 1) (putB (addC z x.2.2 [⟨8, 0, 0, 0, 0⟩]).1 y.1.length ((addC z x.2.2 [⟨8, 0, 0, 0, 0⟩]).1.length : Int), (addC z x.2.2 [⟨8, 0, 0, 0, 0⟩]).2) h.2.2 (by omega) (by omega)
            generalize cmB e (d + 1) (putB (addC z x.2.2 [⟨8, 0, 0, 0, 0⟩]).1 y.1.length ((addC z x.2.2 [⟨8, 0, 0, 0, 0⟩]).1.length : Int), (addC z x.2.2 [⟨8, 0, 0, 0, 0⟩]).2) = u at hL l3 a3 ⊢
            simp only [addC, putB, putA, List.length_set, List.length_append, List.length_cons, List.length_nil] at hL l3
            obtain ⟨b2, e2, q2⟩ := a2 (by omega)
            obtain ⟨b3, e3, q3⟩ := a3 (by omega)
            obtain ⟨b1, e1, q1⟩ := a1
            simp only [addC, List.append_assoc, List.singleton_append] at e2 e3
            rw [e2] at e3
            simp only [List.append_assoc, List.cons_append] at e3
            rw [put_b rfl] at e3
            have e4 : u.1 = (y.1 ++ ⟨9, 0, ((z.1 ++ [(⟨8, 0, 0, 0, 0⟩ : LIns)]).length : Int), 0, 0⟩ :: b2) ++ ⟨8, 0, 0, 0, 0⟩ :: b3 := by
              rw [e3, e2]; simp
            refine ⟨b1 ++ ⟨9, 0, ((z.1 ++ [(⟨8, 0, 0, 0, 0⟩ : LIns)]).length : Int), 0, 0⟩ :: (b2 ++ ⟨8, (u.1.length : Int), 0, 0, 0⟩ :: b3), ?_, ?_⟩
            · show putA u.1 _ _ = _
              rw [show putA u.1 ((addC z x.2.2 [⟨8, 0, 0, 0, 0⟩]).1.length - 1) (u.1.length : Int) = putA ((y.1 ++ ⟨9, 0, ((z.1 ++ [(⟨8, 0, 0, 0, 0⟩ : LIns)]).length : Int), 0, 0⟩ :: b2) ++ ⟨8, 0, 0, 0, 0⟩ :: b3) ((addC z x.2.2 [⟨8, 0, 0, 0, 0⟩]).1.length - 1) (u.1.length : Int) from by rw [← e4]]
              rw [put_a (by simp only [addC, e2, List.length_append, List.length_cons, List.length_nil]; omega), e1]
              simp only [List.append_assoc, List.cons_append]
            · refine gL_app q1 ?_
              intro w hw
              simp only [List.mem_cons, List.mem_append] at hw
              rcases hw with rfl | hw | rfl | hw
              · refine g9 ⟨by omega, ?_⟩
                simp only [List.length_append, List.length_cons, List.length_nil]; omega
              · exact q2 w hw
              · exact g8 ⟨by omega, by omega⟩
              · exact q3 w hw
termination_by n _ => (n, 0)
theorem cmB_g (nv na : Nat) (L : Int) : ∀ (n : Nat) (ss : List LStmt) (d : Int) (x : ComS), ss.all (stmtB nv na n) = true → 0 ≤ d → d + n ≤ 5 → ((cmB ss d x).1.length : Int) < L → Gd nv na L x (cmB ss d x)
  | _, [], _, x, _, _, _, _ => by rw [cmB]; exact Gd.refl x
  | n, s :: r, d, x, h, h0, h1, hL => by
    simp only [List.all_cons, Bool.and_eq_true] at h
    rw [cmB] at hL ⊢
    have hl := (cmB_len r d (cmS s d x)).1
    exact (cmS_g nv na L n s d x h.1 h0 h1 (by omega)).trans (cmB_g nv na L n r d _ h.2 h0 h1 hL)
termination_by n ss => (n, ss.length + 1)
end
theorem com_g {p : LProg} (h : progB p = true) : gL p.vars.length p.arrays.length ((comC p).1.length : Int) (cmB p.body 0 ([], [], 0)).1 := by
  simp only [progB, blockB, Bool.and_eq_true, decide_eq_true_eq] at h
  obtain ⟨ys, e1, e2⟩ := cmB_g p.vars.length p.arrays.length ((comC p).1.length : Int) 5 p.body 0 ([], [], 0) h.1.2 (by omega) (by omega) (by simp only [comC, List.length_append, List.length_cons, List.length_nil]; omega)
  rw [e1]; exact e2
theorem com_ok {p : LProg} (h : okC p = true) : codeOk ⟨p.vars, p.arrays, (comC p).1⟩ = true := by
  unfold okC at h
  simp only [Bool.and_eq_true, decide_eq_true_eq] at h
  have hg := com_g h.1
  have hh : headsB p.vars p.arrays = true := by have := h.1; simp only [progB, Bool.and_eq_true] at this; exact this.1.1
  simp only [codeOk, Bool.and_eq_true, decide_eq_true_eq]
  refine ⟨⟨⟨⟨hh, ?_⟩, h.2⟩, ?_⟩, ?_⟩
  · simp [comC]
  · rw [List.all_eq_true]
    intro x hx
    simp only [comC, List.mem_append, List.mem_singleton] at hx
    rcases hx with hx | rfl
    · exact gX_ok (c := ⟨p.vars, p.arrays, (comC p).1⟩) (hg x hx)
    · simp [insOk, fldStr, partOk]
  · simp [lastOk, comC]
theorem com_halt {p : LProg} (h : okC p = true) {k : Nat} (hk : (k : Int) + 1 < (comC p).1.length) : ((comC p).1.getD k default).op ≠ 13 := by
  unfold okC at h
  simp only [Bool.and_eq_true, decide_eq_true_eq] at h
  have hg := com_g h.1
  have hl : k < (cmB p.body 0 ([], [], 0)).1.length := by simp only [comC, List.length_append, List.length_cons, List.length_nil] at hk; omega
  have e : (comC p).1.getD k default = (cmB p.body 0 ([], [], 0)).1[k] := by
    simp only [comC]
    rw [List.getD_eq_getElem?_getD, List.getElem?_append_left hl, List.getElem?_eq_getElem hl]; rfl
  rw [e]
  have hx := hg _ (List.getElem_mem hl)
  unfold gX at hx
  intro h13
  rcases hx with hx | hx | hx | hx | hx | hx | hx | hx | hx | hx | hx <;> omega


theorem ins_neq (x y : LIns) (w : World) : (binOp .neq 50 (.agg #[.int .i64 x.op, .int .i64 x.a, .int .i64 x.b, .int .i64 x.c, .int .i64 x.d]) (.agg #[.int .i64 y.op, .int .i64 y.a, .int .i64 y.b, .int .i64 y.c, .int .i64 y.d])).run Try.prog w = .ok (.bool (!decide (x.l = y.l))) w := by
  rw [run_neq_struct, run_equalIn_struct _ _ _ _ _ (by kernel_rfl) (by kernel_rfl)]
  rw [show (Try.prog.fieldsOf 50).toList = [⟨"Op", 3, 0, false, "", "", 0⟩, ⟨"A", 3, 1, false, "", "", 8⟩, ⟨"B", 3, 2, false, "", "", 16⟩, ⟨"C", 3, 3, false, "", "", 24⟩, ⟨"D", 3, 4, false, "", "", 32⟩] from by kernel_rfl]
  simp only [LIns.l, List.cons.injEq, and_true]
  simp [go_sem, Op.eqFields]
  (repeat' split) <;> simp_all

theorem equal_ints (v1 v2 : Value) (xs ys : List Int) (w : World) (h1 : Row w v1 xs.length 1 (ints xs)) (h2 : Row w v2 ys.length 1 (ints ys)) :
    Calls Try.prog 69 #[v1, v2] w fun e w' => e = .returned (.bool (decide (xs = ys))) ∧ ∃ n, w' = w.drewN n := by
  obtain ⟨a1, c1, rfl, -, hm1, -, hc1⟩ := h1.open1
  obtain ⟨a2, c2, rfl, -, hm2, -, hc2⟩ := h2.open1
  by_cases hl : xs.length = ys.length
  · have heq : ((xs.length : Int) == (ys.length : Int)) = true := by simp; omega
    have HL : Hid (xs.length = ys.length) := hl
    clear h1 h2 hl
    go_enter Try.func69, Try.ntmps69
    go_wp2
    go_loopw [5, 13] (fun _ i wr => ∃ k : Nat, k ≤ xs.length ∧ i = .int .i64 k ∧ xs.take k = ys.take k ∧ ∃ n, wr = w.drewN n) (fun _ i _ => xs.length - (intOf i).toNat)
    case atStart => exact ⟨0, Nat.zero_le _, rfl, rfl, 0, rfl⟩
    case round =>
      obtain ⟨k, hk, rfl, ht, nd, rfl⟩ := hrel
      have HT : Hid (xs.take k = ys.take k) := ht
      clear ht
      by_cases hlt : k < xs.length
      · have hlt2 : k < ys.length := by have := HL.out; omega
        obtain ⟨b1, o1, rfl, hb1, hx⟩ := hc1 k hlt
        obtain ⟨b2, o2, rfl, hb2, hy⟩ := hc2 k hlt2
        rw [ints_get _ _ hlt] at hx
        rw [ints_get _ _ hlt2] at hy
        clear hc1 hc2
        go_wp2
        go_quiet (fail)
        go_wp2
        · rename_i hd
          go_ret
          exact ⟨ret_bool (by symm; simp; intro h; subst h; simp at hd), _, by first | rfl | exact World.drewN_drewN _ _ _⟩
        · rename_i hd
          refine ⟨⟨k + 1, by omega, by go_num, take_eq_succ HT.out hlt hlt2 (by simpa using hd), _, by first | rfl | exact World.drewN_drewN _ _ _⟩, by simp [intOf]; omega⟩
      · have hge : decide ((k : Int) < (xs.length : Int)) = false := by simp; omega
        go_wp2
        go_ret
        exact ⟨ret_bool (by symm; simp; exact take_eq_all HT.out (by omega) (by have := HL.out; omega)), _, rfl⟩
  · have hne : ((xs.length : Int) == (ys.length : Int)) = false := by simp; omega
    clear hc1 hc2
    go_enter Try.func69, Try.ntmps69
    go_wp2
    go_ret
    exact ⟨ret_bool (by symm; simp; intro h; exact hl (by rw [h])), 0, rfl⟩

theorem equal_ins (v1 v2 : Value) (xs ys : List LIns) (w : World) (h1 : InsRow w v1 xs) (h2 : InsRow w v2 ys) :
    Calls Try.prog 70 #[v1, v2] w fun e w' => e = .returned (.bool (decide (insF xs = insF ys))) ∧ ∃ n, w' = w.drewN n := by
  obtain ⟨a1, c1, rfl, -, hm1, -, hc1⟩ := h1.ins
  obtain ⟨a2, c2, rfl, -, hm2, -, hc2⟩ := h2.ins
  by_cases hl : xs.length = ys.length
  · have heq : ((xs.length : Int) == (ys.length : Int)) = true := by simp; omega
    have HL : Hid (xs.length = ys.length) := hl
    clear h1 h2 hl
    go_enter Try.func70, Try.ntmps70
    go_wp2
    go_loopw [5, 13] (fun _ i wr => ∃ k : Nat, k ≤ xs.length ∧ i = .int .i64 k ∧ xs.take k = ys.take k ∧ ∃ n, wr = w.drewN n) (fun _ i _ => xs.length - (intOf i).toNat)
    case atStart => exact ⟨0, Nat.zero_le _, rfl, rfl, 0, rfl⟩
    case round =>
      obtain ⟨k, hk, rfl, ht, nd, rfl⟩ := hrel
      have HT : Hid (xs.take k = ys.take k) := ht
      clear ht
      by_cases hlt : k < xs.length
      · have hlt2 : k < ys.length := by have := HL.out; omega
        obtain ⟨b1, o1, e1, hb1, i0, i1, i2, i3, i4⟩ := hc1 k hlt
        obtain ⟨b2, o2, e2, hb2, j0, j1, j2, j3, j4⟩ := hc2 k hlt2
        have hq := fun w => ins_neq xs[k] ys[k] w
        have HE := show Hid _ from (fun (h : xs[k].l = ys[k].l) => take_eq_succ HT.out hlt hlt2 (LIns.ext' h))
        obtain ⟨q, hq0⟩ : ∃ q, q = !decide (xs[k].l = ys[k].l) := ⟨_, rfl⟩
        rw [← hq0] at hq
        have HQ0 := show Hid _ from hq0
        obtain ⟨x, hx⟩ : ∃ x, x = xs[k] := ⟨_, rfl⟩
        obtain ⟨y, hy⟩ : ∃ y, y = ys[k] := ⟨_, rfl⟩
        rw [← hx] at i0 i1 i2 i3 i4
        rw [← hy] at j0 j1 j2 j3 j4
        simp only [← hx, ← hy] at hq
        subst e1 e2
        clear hc1 hc2 hq0 hx hy
        cases q
        · go_wp2
          go_quiet (fail)
          go_wp2
          refine ⟨⟨k + 1, by omega, by go_num, HE.out (by have := HQ0.out; simpa using this), _, by first | rfl | exact World.drewN_drewN _ _ _⟩, by simp [intOf]; omega⟩
        · go_wp2
          go_quiet (fail)
          go_wp2
          go_ret
          exact ⟨ret_bool (by symm; simp; intro h; have := insF_inj h; subst this; simpa using HQ0.out), _, by first | rfl | exact World.drewN_drewN _ _ _⟩
      · go_wp2
        go_ret
        exact ⟨ret_bool (by symm; simp; exact congrArg insF (take_eq_all HT.out (by omega) (by have := HL.out; omega))), _, rfl⟩
  · have hne : ((xs.length : Int) == (ys.length : Int)) = false := by simp; omega
    clear hc1 hc2
    go_enter Try.func70, Try.ntmps70
    go_wp2
    go_ret
    exact ⟨ret_bool (by symm; simp; intro h; exact hl (by rw [insF_inj h])), 0, rfl⟩

set_option maxHeartbeats 1000000 in
theorem impl_CodeSame (v u : Value) (c d : LCode) (w : World) (h : CodeRow w v c) (h' : CodeRow w u d) :
    Calls Try.prog 33 #[v, u] w fun e w' => e = .returned (.bool (c.same d)) ∧ Below w.heap.size w w' := by
  obtain ⟨v1, v2, v3, rfl, h1, h2, h3⟩ := h
  obtain ⟨u1, u2, u3, rfl, g1, g2, g3⟩ := h'
  obtain ⟨W, hW, M⟩ : ∃ W, W = ((w.alloc (.cells #[v1, v2, v3] 40)).alloc (.cells #[u1, u2, u3] 40)) ∧ Mem (fun _ => True) (fun _ => True) w W [.box w.heap.size [v1, v2, v3], .box (w.heap.size + 1) [u1, u2, u3]] :=
    ⟨_, rfl, ((Mem.start fun _ _ => trivial).box _ _).box' _ _ (by simp)⟩
  have hs : Hid (c.same d = (decide (c.vars = d.vars) && decide (c.arrays = d.arrays) && decide (insF c.list = insF d.list))) := rfl
  have HR := show Hid (∀ W', Below W.heap.size W W' → (Row W' v1 c.vars.length 1 (ints c.vars) ∧ Row W' v2 c.arrays.length 1 (ints c.arrays) ∧ InsRow W' v3 c.list) ∧ Row W' u1 d.vars.length 1 (ints d.vars) ∧ Row W' u2 d.arrays.length 1 (ints d.arrays) ∧ InsRow W' u3 d.list) from fun W' k => by
    have bb := (M.call k).below fun _ _ => trivial
    exact ⟨⟨h1.below bb, h2.below bb, h3.below bb⟩, g1.below bb, g2.below bb, g3.below bb⟩
  have HB := show Hid (∀ n, Below w.heap.size w (W.drewN n)) from fun n => (M.call (below_drewN (Below.refl _ _) n)).below fun _ _ => trivial
  have x0 := M.c 0 0 rfl rfl
  have x1 := M.c 0 1 rfl rfl
  have x2 := M.c 0 2 rfl rfl
  have y0 := M.c 1 0 rfl rfl
  have y1 := M.c 1 1 rfl rfl
  have y2 := M.c 1 2 rfl rfl
  rw [hW] at x0 x1 x2 y0 y1 y2
  clear h1 h2 h3 g1 g2 g3 M
  go_enter Try.func33, Try.ntmps33
  go_wp2_with fail
  rw [← hW] at x0 x1 x2 y0 y1 y2 ⊢
  clear hW
  refine (equal_ints _ _ c.vars d.vars _ (HR.out _ (Below.refl _ _)).1.1 (HR.out _ (Below.refl _ _)).2.1).mono ?_
  rintro e w1 ⟨rfl, n1, rfl⟩
  by_cases q1 : c.vars = d.vars
  · rw [decide_eq_true q1]
    have Q1 := show Hid _ from q1
    clear q1
    go_wp2_with fail
    refine (equal_ints _ _ c.arrays d.arrays _ (HR.out _ (below_drewN (Below.refl _ _) n1)).1.2.1 (HR.out _ (below_drewN (Below.refl _ _) n1)).2.2.1).mono ?_
    rintro e w1 ⟨rfl, n2, rfl⟩
    by_cases q2 : c.arrays = d.arrays
    · rw [decide_eq_true q2]
      have Q2 := show Hid _ from q2
      clear q2
      go_wp2_with fail
      refine (equal_ins _ _ c.list d.list _ (HR.out _ (below_drewN (Below.refl _ _) (n1 + n2))).1.2.2 (HR.out _ (below_drewN (Below.refl _ _) (n1 + n2))).2.2.2).mono ?_
      rintro e w1 ⟨rfl, n3, rfl⟩
      obtain ⟨q, hq⟩ : ∃ q, q = decide (insF c.list = insF d.list) := ⟨_, rfl⟩
      rw [← hq]
      have HQ := show Hid _ from hq
      clear hq
      go_wp2_with fail
      go_ret
      exact ⟨ret_bool (by rw [hs.out, decide_eq_true Q1.out, decide_eq_true Q2.out, HQ.out]; rfl), HB.out _⟩
    · rw [decide_eq_false q2]
      go_wp2_with fail
      go_ret
      exact ⟨ret_bool (by rw [hs.out, decide_eq_false q2]; simp), HB.out _⟩
  · rw [decide_eq_false q1]
    go_wp2_with fail
    go_ret
    exact ⟨ret_bool (by rw [hs.out, decide_eq_false q1]; simp), HB.out _⟩


set_option maxHeartbeats 1000000 in
theorem indexFunc_ins1 (p : LIns → Bool) (f : FuncId) (q : Value) (v : Value) (xs : List LIns) (w : World) (h : InsRow w v xs) (he : ∀ args w, (callFunc f args).run Try.prog w = .ok (.enter f args) w)
    (hf : ∀ x w', Below w.heap.size w w' → Calls Try.prog f #[x.v, q] w' fun e w'' => e = .returned (.bool (p x)) ∧ Below w'.heap.size w' w'') :
    Calls Try.prog 110 #[v, .func (.func f) #[] #[q]] w fun e w' => ∃ r : Int, e = .returned (.int .i64 r) ∧ decide (0 ≤ r) = xs.any p ∧ Below w.heap.size w w' := by
  obtain ⟨a1, c1, rfl, -, hm1, -, hc1⟩ := h.ins
  have HF := show Hid _ from hf
  clear h hf
  go_enter Try.func110, Try.ntmps110
  go_wp2_with fail
  go_loopw [5, 8] (fun _ i wr => ∃ k : Nat, k ≤ xs.length ∧ i = .int .i64 k ∧ (xs.take k).any p = false ∧ Below w.heap.size w wr) (fun _ i _ => xs.length - (intOf i).toNat)
  case atStart => exact ⟨0, Nat.zero_le _, rfl, rfl, Below.refl _ _⟩
  case round =>
    obtain ⟨k, hk, rfl, ha, hb⟩ := hrel
    have HA := show Hid _ from ha
    clear ha
    by_cases hlt : k < xs.length
    · obtain ⟨b1, o1, rfl, hb1, i0, i1, i2, i3, i4⟩ := hc1 k hlt
      rw [← (bcell hb).1 _ _ hb1] at i0 i1 i2 i3 i4
      clear hc1
      cases hp : p xs[k]
      all_goals
        have HP := show Hid _ from hp
        clear hp
        go_wp2_with fail
        refine (HF.out xs[k] _ hb).mono ?_
        rintro e w1 ⟨rfl, hb2⟩
        rw [HP.out]
        go_wp2_with fail
      · go_roundw
        case rel => exact ⟨k + 1, by omega, by go_num, by rw [take_succ_get _ _ hlt, List.any_append, HA.out]; simp [HP.out], hb.trans (hb2.mono hb.size)⟩
        case measure => simp [intOf]; omega
      · go_ret
        exact ⟨_, rfl, by rw [decide_eq_true (by omega)]; symm; rw [List.any_eq_true]; exact ⟨_, List.getElem_mem hlt, HP.out⟩, hb.trans (hb2.mono hb.size)⟩
    · go_wp2_with fail
      go_ret
      refine ⟨_, rfl, ?_, hb⟩
      have := HA.out
      rw [List.take_of_length_le (by omega)] at this
      rw [this]; rfl

theorem containsFunc_ins1 (p : LIns → Bool) (f : FuncId) (q : Value) (v : Value) (xs : List LIns) (w : World) (h : InsRow w v xs) (he : ∀ args w, (callFunc f args).run Try.prog w = .ok (.enter f args) w)
    (hf : ∀ x w', Below w.heap.size w w' → Calls Try.prog f #[x.v, q] w' fun e w'' => e = .returned (.bool (p x)) ∧ Below w'.heap.size w' w'') :
    Calls Try.prog 73 #[v, .func (.func f) #[] #[q]] w fun e w' => e = .returned (.bool (xs.any p)) ∧ Below w.heap.size w w' := by
  obtain ⟨a1, c1, rfl, -⟩ := h.open
  have HF := show Hid _ from hf
  have HE := show Hid _ from he
  clear hf he
  go_enter Try.func73, Try.ntmps73
  go_wp2_with fail
  refine (indexFunc_ins1 p f q _ xs _ h HE.out HF.out).mono ?_
  rintro e w1 ⟨r, rfl, hr, hb⟩
  have HR := show Hid _ from hr
  clear hr
  go_wp2_with fail
  go_ret
  exact ⟨ret_bool HR.out, hb⟩

set_option maxHeartbeats 4000000 in
theorem impl_shape (op : Int) (w : World) :
    Calls Try.prog 111 #[.int .i64 op] w fun e w' => e = .returned (.string ⟨(shpStr op).toArray⟩) ∧ Below w.heap.size w w' := by
  by_cases h : 1 ≤ op ∧ op ≤ 13
  · obtain ⟨h1, h2⟩ := h
    have h : op = 1 ∨ op = 2 ∨ op = 3 ∨ op = 4 ∨ op = 5 ∨ op = 6 ∨ op = 7 ∨ op = 8 ∨ op = 9 ∨ op = 10 ∨ op = 11 ∨ op = 12 ∨ op = 13 := by omega
    clear h1 h2
    rcases h with rfl | rfl | rfl | rfl | rfl | rfl | rfl | rfl | rfl | rfl | rfl | rfl | rfl
    all_goals
      go_enter Try.func111, Try.ntmps111
      go_wp2_with fail
      refine (impl_within _ 1 13 _).mono ?_
      rintro e w1 ⟨rfl, rfl⟩
      go_wp2_with fail
      go_ret
      exact ⟨by simp [shpStr], by go_grown⟩
  · have hF : Hid (shpStr op = []) := shp_empty h
    have hb : (decide ((1 : Int) ≤ op) && decide (op ≤ 13)) = false := by
      rw [Bool.eq_false_iff]; simp only [ne_eq, Bool.and_eq_true, decide_eq_true_eq]; exact h
    have HB := show Hid _ from hb
    clear h hb
    go_enter Try.func111, Try.ntmps111
    go_wp2_with fail
    refine (impl_within _ 1 13 _).mono ?_
    rintro e w1 ⟨rfl, rfl⟩
    rw [HB.out]
    go_wp2_with fail
    go_ret
    exact ⟨by rw [hF.out]; rfl, Below.refl _ _⟩

theorem impl_fields (x : LIns) (w : World) :
    Calls Try.prog 112 #[x.v] w fun e w' => ∃ u, e = .returned u ∧ Own w' w.heap.size w'.heap.size 3 1 u 4 (ints [x.a, x.b, x.c, x.d]) ∧ Below w.heap.size w w' := by
  obtain ⟨x0, x1, x2, x3, x4⟩ := x
  go_enter Try.func112, Try.ntmps112
  go_wp2_with fail
  go_ret
  refine ⟨_, rfl, (own_built _ #[.int .i64 x1, .int .i64 x2, .int .i64 x3, .int .i64 x4] 4 1 _ (by simp) rfl (by omega)).wide (by simp) (by simp), by go_grown⟩

set_option maxHeartbeats 2000000 in
theorem impl_fieldOk (v1 v2 v3 : Value) (c : LCode) (kd : UInt8) (n : Int) (w : World) (h1 : Row w v1 c.vars.length 1 (ints c.vars)) (h2 : Row w v2 c.arrays.length 1 (ints c.arrays)) (h3 : InsRow w v3 c.list) :
    Calls Try.prog 113 #[.agg #[v1, v2, v3], .int .u8 kd.toNat, .int .i64 n] w fun e w' => e = .returned (.bool (rangeOk2 c kd n)) ∧ Below w.heap.size w w' := by
  obtain ⟨a1, k1, rfl, -, q1, -, -⟩ := h1.open1
  obtain ⟨a2, k2, rfl, -, q2, -, -⟩ := h2.open1
  obtain ⟨a3, k3, rfl, -, q3, -, -⟩ := h3.open
  have hk : kd.toNat < 256 := kd.toNat_lt
  have HK : Hid (∀ m : UInt8, (kd = m) = ((kd.toNat : Int) = (m.toNat : Int))) := fun m => by
    rw [eq_iff_iff]
    constructor
    · rintro rfl; rfl
    · intro h; exact UInt8.toNat_inj.1 (by omega)
  clear h1 h2 h3
  obtain ⟨z, hz⟩ : ∃ z, z = kd.toNat := ⟨_, rfl⟩
  rw [← hz] at hk ⊢
  have HZ := show Hid _ from hz
  clear hz
  go_enter Try.func113, Try.ntmps113
  go_wp2_with (go_at_call 72; refine (impl_within _ _ _ _).mono ?_; rintro e w1 ⟨rfl, rfl⟩)
  all_goals go_ret
  all_goals refine ⟨ret_bool ?_, by go_grown⟩
  all_goals unfold rangeOk2
  all_goals simp only [HK.out, ← HZ.out, show (UInt8.toNat 114) = 114 from rfl, show (UInt8.toNat 110) = 110 from rfl, show (UInt8.toNat 118) = 118 from rfl, show (UInt8.toNat 97) = 97 from rfl, show (UInt8.toNat 111) = 111 from rfl, show (UInt8.toNat 105) = 105 from rfl]
  all_goals clear HK HZ hk q1 q2 q3
  all_goals simp_all
  all_goals (rw [Bool.eq_iff_iff]; simp)


set_option maxHeartbeats 4000000 in
set_option maxRecDepth 100000 in
theorem impl_instrOk (v : Value) (c : LCode) (x : LIns) (w : World) (h : CodeRow w v c) :
    Calls Try.prog 75 #[v, x.v] w fun e w' => e = .returned (.bool (insOk c x)) ∧ Below w.heap.size w w' := by
  obtain ⟨v1, v2, v3, rfl, h1, h2, h3⟩ := h
  obtain ⟨W, hW⟩ : ∃ W, W = ((w.alloc (.cells #[v1, v2, v3] 40)).alloc (.cells #[.int .i64 x.op, .int .i64 x.a, .int .i64 x.b, .int .i64 x.c, .int .i64 x.d] 50)) := ⟨_, rfl⟩
  have B0 : Below w.heap.size w W := by rw [hW]; go_grown
  have L1 : Blk W w.heap.size [v1, v2, v3] := by rw [hW]; exact (Blk.new w [v1, v2, v3] _).alloc _
  have L2 : Blk W (w.heap.size + 1) [.int .i64 x.op, .int .i64 x.a, .int .i64 x.b, .int .i64 x.c, .int .i64 x.d] := by rw [hW]; exact Blk.new' (w.alloc _) [.int .i64 x.op, .int .i64 x.a, .int .i64 x.b, .int .i64 x.c, .int .i64 x.d] _ (by simp)
  go_enter Try.func75, Try.ntmps75
  go_wp2_with fail
  rw [← hW]
  clear hW
  refine (impl_shape x.op W).mono ?_
  rintro e w1 ⟨rfl, b1⟩
  replace L1 := L1.below b1 L1.lt
  replace L2 := L2.below b1 L2.lt
  have y0 := L2.cell 0
  have y1 := L2.cell 1
  have y2 := L2.cell 2
  have y3 := L2.cell 3
  have y4 := L2.cell 4
  simp at y0 y1 y2 y3 y4
  go_wp2_with fail
  refine (impl_fields x _).mono ?_
  rintro e w2 ⟨u, rfl, o2, b2⟩
  replace L1 := L1.below b2 L1.lt
  have B2 := (B0.trans (b1.mono B0.size)).trans (b2.mono (by have := B0.size; have := b1.size; omega))
  obtain ⟨g, cap, rfl, -, -, hg, -, -, -, hp⟩ := o2.open (by omega)
  clear y0 y1 y2 y3 y4 L2 o2
  by_cases hop : 1 ≤ x.op ∧ x.op ≤ 13
  · have hR : Hid (insOk c x = pre2 c (shpStr x.op) [x.a, x.b, x.c, x.d] 4) := insOk_pre2 c x hop
    have hkl := shp_len hop
    obtain ⟨kinds, hkinds⟩ : ∃ kinds, kinds = shpStr x.op := ⟨_, rfl⟩
    obtain ⟨parts, hparts⟩ : ∃ parts, parts = [x.a, x.b, x.c, x.d] := ⟨_, rfl⟩
    rw [← hkinds] at hkl ⊢
    rw [← hkinds] at hR
    rw [← hparts] at hR hp
    have hpl : parts.length = 4 := by rw [hparts]; rfl
    clear hkinds hparts hop
    have HPL := show Hid _ from hpl
    clear hpl
    have hne : kinds.isEmpty = false := by
      rw [List.isEmpty_eq_false_iff]; intro h; rw [h] at hkl; simp at hkl
    go_wp2_with fail
    go_loopw [14] (fun i wr => ∃ k : Nat, k ≤ 4 ∧ i = .int .i64 k ∧ pre2 c kinds parts k = true ∧ Below w2.heap.size w2 wr) (fun i _ => 4 - (intOf i).toNat)
    case atStart => exact ⟨0, by omega, rfl, rfl, Below.refl _ _⟩
    case round =>
      obtain ⟨k, hk, rfl, ha, hb⟩ := hrel
      have HA := show Hid _ from ha
      clear ha
      replace L1 := L1.below hb L1.lt
      by_cases hlt : k < 4
      · have x0 := L1.cell 0
        have x1 := L1.cell 1
        have x2 := L1.cell 2
        simp only [List.getElem?_cons_zero, List.getElem?_cons_succ] at x0 x1 x2
        have z0 := fun X => ext_cell x0 X
        have z1 := fun X => ext_cell x1 X
        have z2 := fun X => ext_cell x2 X
        have hpk : k < parts.length := by rw [HPL.out]; exact hlt
        have p0 : wr.cell? ⟨g, k, none⟩ = some (.int .i64 parts[k]) := by
          rw [(bcell hb).1 _ _ hg]; exact hp k _ (by simp [hpk])
        have hkk : k < kinds.length := by rw [hkl]; exact hlt
        have HS := show Hid _ from pre2_succ c kinds parts k
        have HG := show Hid (parts.getD k 0 = parts[k]) from by simp [Hid, hpk]
        have HKD := show Hid (kinds.getD k 0 = kinds[k]) from by simp [Hid, hkk]
        have BW := B2.trans (hb.mono B2.size)
        clear x0 x1 x2 hp
        cases hr : rangeOk2 c kinds[k] parts[k]
        all_goals
          have HR := show Hid _ from hr
          clear hr
          have HC : Hid (∀ X, Calls Try.prog 113 #[.agg #[v1, v2, v3], .int .u8 kinds[k].toNat, .int .i64 parts[k]] (wr.ext X) fun e w'' => e = .returned (.bool _) ∧ ∃ Y, w'' = wr.ext Y) :=
            fun X => Calls.ext_of' ((impl_fieldOk v1 v2 v3 c kinds[k] parts[k] _ ((h1.below BW).below (ext_below _ X)) ((h2.below BW).below (ext_below _ X)) ((h3.below BW).below (ext_below _ X))).mono fun e w' h => by rw [HR.out] at h; exact h)
          go_wp2_with fail
          refine wp_region_ext (by kernel_rfl) (by kernel_rfl) ?_
          repeat (any_goals (first | go_big_quiet_step ((go_at_call 113; exact HC.out _)) | quiet_step ((go_at_call 113; exact HC.out _))))
          refine wpQuiet_nil ?_
          rintro _ ⟨X, rfl⟩
          have hbX := hb.trans ((ext_below wr X).mono hb.size)
          go_wp2_with fail
        · go_ret
          exact ⟨ret_bool (by rw [hR.out, pre2_mono 4 hlt (by rw [HG.out, HKD.out, HR.out])]), B2.trans (hbX.mono B2.size)⟩
        · exact ⟨⟨k + 1, by omega, by go_num, by rw [HS.out, HA.out, HG.out, HKD.out, HR.out]; rfl, hbX⟩, by simp [intOf]; omega⟩
      · go_wp2_with fail
        go_ret
        obtain rfl : k = 4 := by omega
        exact ⟨ret_bool (by rw [hR.out, HA.out]), B2.trans (hb.mono B2.size)⟩
  · have hR : Hid (insOk c x = false) := by
      unfold Hid insOk
      rcases Classical.not_and_iff_not_or_not.1 hop with h | h
      · rw [decide_eq_false h]; rfl
      · rw [decide_eq_false h]; simp
    rw [shp_empty hop]
    have p0 := hp 0 (.int .i64 x.a) (by simp)
    clear hop hp h1 h2 h3
    go_wp2_with fail
    go_loopw [14] (fun i wr => i = .int .i64 0 ∧ w2 = wr) (fun i _ => 0)
    case atStart => exact ⟨rfl, rfl⟩
    case round =>
      obtain ⟨rfl, rfl⟩ := hrel
      go_wp2_with fail
      refine wp_region_ext (by kernel_rfl) (by kernel_rfl) ?_
      repeat (any_goals (first | go_big_quiet_step ((fail)) | quiet_step ((fail))))
      refine wpQuiet_nil ?_
      rintro _ ⟨X, rfl⟩
      have hbX := B2.trans ((ext_below w2 X).mono B2.size)
      go_wp2_with fail
      go_ret
      exact ⟨ret_bool hR.out.symm, hbX⟩

theorem impl_CodeValid1 (v : Value) (c : LCode) (x : LIns) (b : Nat) (v1 v2 v3 : Value) (w : World) (hv : v = .agg #[v1, v2, v3]) (h : CodeRow w v c) (hb : Blk w b [v1, v2, v3]) :
    Calls Try.prog 74 #[x.v, .pointer (some ⟨b, 0, none⟩)] w fun e w' => e = .returned (.bool (!insOk c x)) ∧ Below w.heap.size w w' := by
  subst hv
  obtain ⟨W, hW⟩ : ∃ W, W = (w.alloc (.cells #[.int .i64 x.op, .int .i64 x.a, .int .i64 x.b, .int .i64 x.c, .int .i64 x.d] 50)) := ⟨_, rfl⟩
  have B0 : Below w.heap.size w W := by rw [hW]; go_grown
  have L1 : Blk W b [v1, v2, v3] := hb.below B0 hb.lt
  have L2 : Blk W w.heap.size [.int .i64 x.op, .int .i64 x.a, .int .i64 x.b, .int .i64 x.c, .int .i64 x.d] := by rw [hW]; exact Blk.new w [.int .i64 x.op, .int .i64 x.a, .int .i64 x.b, .int .i64 x.c, .int .i64 x.d] _
  have x0 := L1.cell 0
  have x1 := L1.cell 1
  have x2 := L1.cell 2
  have y0 := L2.cell 0
  have y1 := L2.cell 1
  have y2 := L2.cell 2
  have y3 := L2.cell 3
  have y4 := L2.cell 4
  simp at x0 x1 x2 y0 y1 y2 y3 y4
  rw [hW] at x0 x1 x2 y0 y1 y2 y3 y4
  go_enter Try.func74, Try.ntmps74
  go_wp2_with fail
  rw [← hW]
  refine (impl_instrOk _ c x _ (h.below B0)).mono ?_
  rintro e w1 ⟨rfl, b1⟩
  clear x0 x1 x2 y0 y1 y2 y3 y4 hW
  go_wp2_with fail
  go_ret
  exact ⟨rfl, B0.trans (b1.mono B0.size)⟩

theorem any_not_ok (xs : List LIns) (c : LCode) : (xs.any fun l => !insOk c l) = !xs.all (insOk c) := by
  induction xs with
  | nil => rfl
  | cons x r ih => simp only [List.any_cons, List.all_cons, ih]; cases insOk c x <;> simp

set_option maxHeartbeats 2000000 in
theorem impl_CodeValid (v : Value) (c : LCode) (w : World) (h : CodeRow w v c) :
    Calls Try.prog 34 #[v] w fun e w' => e = .returned (.bool (codeOk c)) ∧ Below w.heap.size w w' := by
  have hrow := h
  obtain ⟨v1, v2, v3, rfl, h1, h2, h3⟩ := h
  have HT : Hid (codeOk c = (headsB c.vars c.arrays && decide (1 ≤ c.list.length) && decide (c.list.length ≤ 400) && c.list.all (insOk c) && lastOk c)) := rfl
  obtain ⟨W, hW⟩ : ∃ W, W = w.alloc (.cells #[v1, v2, v3] 40) := ⟨_, rfl⟩
  have B0 : Below w.heap.size w W := by rw [hW]; go_grown
  have L1 : Blk W w.heap.size [v1, v2, v3] := by rw [hW]; exact (Blk.new w [v1, v2, v3] _)
  have hmf : ∀ fn first cap w, (Instr.makeFunc fn first cap).run Try.prog w = .ok (.func fn first cap) w := fun _ _ _ _ => rfl
  obtain ⟨a3, k3, rfl, hk3, hm3, -, hc3⟩ := h3.ins
  have x0 := L1.cell 0
  have x1 := L1.cell 1
  have x2 := L1.cell 2
  simp at x0 x1 x2
  rw [hW] at x0 x1 x2
  go_enter Try.func34, Try.ntmps34
  go_wp2_with fail
  rw [← hW] at x0 x1 x2 ⊢
  clear hW
  refine (impl_declared _ _ c.vars c.arrays _ (h1.below B0) (h2.below B0)).mono ?_
  rintro e w1 ⟨rfl, rfl⟩
  cases hh : headsB c.vars c.arrays
  · have HH := show Hid _ from hh
    clear hh hc3
    go_wp2_with fail
    go_ret
    exact ⟨ret_bool (by rw [HT.out, HH.out]; rfl), B0⟩
  · have HH := show Hid _ from hh
    clear hh
    go_wp2_with fail
    refine (impl_within _ 1 400 _).mono ?_
    rintro e w1 ⟨rfl, rfl⟩
    by_cases hn : (1 : Int) ≤ (c.list.length : Int) ∧ (c.list.length : Int) ≤ 400
    · have hn' : (decide ((1 : Int) ≤ (c.list.length : Int)) && decide ((c.list.length : Int) ≤ 400)) = true := by simpa using hn
      have HN := show Hid _ from hn
      rw [hn']
      clear hn hn'
      go_wp2_with fail
      refine (containsFunc_ins1 (fun l => !insOk c l) 74 _ _ c.list _ (h3.below B0) (enters_of Try.func74 (by kernel_rfl) rfl) (fun x w' hb => impl_CodeValid1 _ c x _ _ _ _ w' rfl ((hrow.below B0).below hb) (L1.below hb L1.lt))).mono ?_
      rintro e w1 ⟨rfl, b1⟩
      rw [any_not_ok]
      have BW := B0.trans (b1.mono B0.size)
      replace L1 := L1.below b1 L1.lt
      clear x0 x1 x2
      cases ha : c.list.all (insOk c)
      · have HA := show Hid _ from ha
        clear ha hc3
        go_wp2_with fail
        go_ret
        exact ⟨ret_bool (by rw [HT.out, HA.out]; simp), BW⟩
      · have HA := show Hid _ from ha
        clear ha
        have hl : c.list.length - 1 < c.list.length := by have := HN.out; omega
        obtain ⟨b, off, rfl, hb3, i0, i1, i2, i3, i4⟩ := hc3 _ hl
        rw [← (bcell BW).1 _ _ hb3] at i0
        have x2 := L1.cell 2
        simp only [List.getElem?_cons_zero, List.getElem?_cons_succ] at x2
        have hn1 : 1 ≤ c.list.length := by omega
        have hn2 : c.list.length ≤ 400 := by have := HN.out; omega
        have HL : Hid (lastOk c = (decide (c.list[c.list.length - 1].op = 13) || decide (c.list[c.list.length - 1].op = 8))) := by
          unfold Hid lastOk
          rw [List.getLast?_eq_getElem?, List.getElem?_eq_getElem hl]
        clear hc3 i1 i2 i3 i4
        have hF : Hid (codeOk c = (decide (c.list[c.list.length - 1].op = 13) || decide (c.list[c.list.length - 1].op = 8))) := by
          unfold Hid; rw [HT.out, HH.out, HA.out, HL.out, decide_eq_true hn1, decide_eq_true hn2]; rfl
        go_wp2_with fail
        all_goals go_ret
        all_goals exact ⟨ret_bool (by rw [hF.out, Bool.eq_iff_iff]; simp_all), BW⟩
    · have hn' : (decide ((1 : Int) ≤ (c.list.length : Int)) && decide ((c.list.length : Int) ≤ 400)) = false := by
        rw [Bool.eq_false_iff]; simp only [ne_eq, Bool.and_eq_true, decide_eq_true_eq]; exact hn
      have hF : Hid (codeOk c = false) := by
        unfold Hid; rw [HT.out]
        rcases Classical.not_and_iff_not_or_not.1 hn with h | h
        · rw [decide_eq_false (show ¬ 1 ≤ c.list.length by omega)]; simp
        · rw [decide_eq_false (show ¬ c.list.length ≤ 400 by omega)]; simp
      rw [hn']
      clear hn hn' hc3
      go_wp2_with fail
      go_ret
      exact ⟨ret_bool hF.out.symm, B0⟩


theorem c_iCodeSame (v ar : List Int) (l : List LIns) : Ctr.ok Try.prog (fnC 33 [.agg [.ref 0, .ref 1, .ref 2], .agg [.ref 3, .ref 4, .ref 5]] [.dat (.ints v), .dat (.ints ar), .dat (.instrs l), .dat (.ints v), .dat (.ints ar), .dat (.instrs l)] (bA true)) :=
  old_ok fun φ w ρ h => (impl_CodeSame _ _ ⟨v, ar, l⟩ ⟨v, ar, l⟩ w ⟨ρ 0, ρ 1, ρ 2, rfl, RowF.row (h 0 _ rfl), RowF.row (h 1 _ rfl), RowF.row (h 2 _ rfl)⟩ ⟨ρ 3, ρ 4, ρ 5, rfl, RowF.row (h 3 _ rfl), RowF.row (h 4 _ rfl), RowF.row (h 5 _ rfl)⟩).mono fun e w' h => ⟨by rw [h.1, LCode.same_refl], h.2⟩
theorem c_iCodeValid (v ar : List Int) (l : List LIns) (r0 : codeOk ⟨v, ar, l⟩ = true) : Ctr.ok Try.prog (fnC 34 [.agg [.ref 0, .ref 1, .ref 2]] [.dat (.ints v), .dat (.ints ar), .dat (.instrs l)] (bA true)) :=
  old_ok fun φ w ρ h => (impl_CodeValid _ ⟨v, ar, l⟩ w ⟨ρ 0, ρ 1, ρ 2, rfl, RowF.row (h 0 _ rfl), RowF.row (h 1 _ rfl), RowF.row (h 2 _ rfl)⟩).mono fun e w' h => ⟨by rw [h.1, r0], h.2⟩


abbrev insG (o : Int) (fs : List Int) : LIns := ⟨o, (fs ++ [0, 0, 0, 0]).getD 0 0, (fs ++ [0, 0, 0, 0]).getD 1 0, (fs ++ [0, 0, 0, 0]).getD 2 0, (fs ++ [0, 0, 0, 0]).getD 3 0⟩
set_option maxRecDepth 100000 in
theorem c_withFields (o x y z u : Int) (fs : List Int) (hf : 4 ≤ fs.length) : Ctr.ok Try.prog (fnC 137 [.agg [iA o, iA x, iA y, iA z, iA u], .ref 0] [dI fs] (.agg [iA o, iA (fs.getD 0 0), iA (fs.getD 1 0), iA (fs.getD 2 0), iA (fs.getD 3 0)])) := by
  refine rx_enter 20 Try.func137 (by rfl) (by kernel_rfl) (by kernel_rfl) ?_; intro ι φ ψ w0 w F ρ0 ρ a G; replace G := Gam.at G [dI fs] [(0, .agg [iA o, iA x, iA y, iA z, iA u]), (1, .ref 0)]; refine wp_seq ?_; refine rs0 G [0, 1, 9] [dI fs, .box [iA o, iA x, iA y, iA z, iA u], .box [iA 0, iA 0, iA 0, iA 0, iA 0]] [(1, .ref 0), (2, .ptr 1 0), (4, .ptr 2 0)] fun ρ a w G => th_n (wp_seq ?_); refine rd1 (dk := dkP) G ⟨[], [], []⟩ calls_nil trivial [0, 1, 0, 4, 12, 0, 32, 96, 0, 256, 768, 0, 2048, 6144, 16383, 32767] [0, 2] [dI fs, .box [iA o, iA (fs.getD 0 0), iA (fs.getD 1 0), iA (fs.getD 2 0), iA (fs.getD 3 0)]] [(4, .ptr 1 0)] [(0 : Int) ≤ (0 : Int), (0 : Int) < (↑fs.length : Int), (0 : Nat) < fs.length, (0 : Int) ≤ (1 : Int), (1 : Int) < (↑fs.length : Int), (1 : Nat) < fs.length, (0 : Int) ≤ (2 : Int), (2 : Int) < (↑fs.length : Int), (2 : Nat) < fs.length, (0 : Int) ≤ (3 : Int), (3 : Int) < (↑fs.length : Int), (3 : Nat) < fs.length] ⟨(by omega), (by omega), (by omega), (by omega), (by omega), (by omega), (by omega), (by omega), (by omega), (by omega), (by omega), (by assumption), trivial⟩ fun ρ a w G => th_n (wp_ret ?_); exact rx_ret (v := .agg [iA o, iA (fs.getD 0 0), iA (fs.getD 1 0), iA (fs.getD 2 0), iA (fs.getD 3 0)]) G [0] (by kernel_rfl) (by kernel_rfl) (by kernel_rfl) (by kernel_rfl)

theorem len4 (fs : List Int) : 4 ≤ (((fs ++ [0, 0, 0, 0]).take 4).drop 0).length := by simp
abbrev yRvCe0 (fs : List Int) := List.drop 0 (List.take (Int.toNat 4) (fs ++ ([0] ++ ([0] ++ ([0] ++ ([0] ++ []))))))
set_option maxHeartbeats 4000000 in
set_option maxRecDepth 100000 in
theorem c_emit (o : Int) (fs : List Int) (hf : fs.length ≤ 4) (l : List LIns) (fr : List Int) (ow ct : Int) (q1 : l.length ≤ 8000000) (q2 : fr.length ≤ 8000000) : Ctr.ok Try.prog ⟨103, [.ptr 0 0, iA o, .ref 3], [.box [.ref 1, .ref 2, iA ow, iA ct], rN l, rI fr, rI fs], [.box [.ref 4, .ref 5, iA ow, iA ct], .dead, .dead, .dead, rN (l ++ [insG o fs]), rI (fr ++ [ow])], .tup []⟩ := by
  refine rx_enter 35 Try.func103 (by rfl) (by kernel_rfl) (by kernel_rfl) ?_; intro ι φ ψ w0 w F ρ0 ρ a G; replace G := Gam.at G [.box [.ref 1, .ref 2, iA ow, iA ct], .row 50 (D.instrs l), .row 3 (D.ints fr), .row 3 (D.ints fs)] [(0, .ptr 0 0), (1, iA o), (2, .ref 3)]; refine wp_seq ?_; refine rd1 (dk := dkP) G ⟨[(11, _, [84])], [], []⟩ (calls_cons (c_withFields (o) (0) (0) (0) (0) (List.drop 0 (List.take (Int.toNat 4) (fs ++ ([0] ++ ([0] ++ ([0] ++ ([0] ++ []))))))) (by exact len4 fs)) calls_nil) trivial [0, 0, 2, 6, 14, 0, 32, 0, 0, 384, 896, 2016, 4064, 8190, 16383, 32767, 65535] [0, 1, 2, 3, 108] [.box [.ref 4, .ref 2, iA ow, iA ct], .dead, .row 3 (D.ints fr), .dead, .row 50 (D.instrs (l ++ ([LIns.mk o ((yRvCe0 fs).getD 0 0) ((yRvCe0 fs).getD 1 0) ((yRvCe0 fs).getD 2 0) ((yRvCe0 fs).getD 3 0)] ++ [])))] [(0, .ptr 0 0)] [fs.length + ([(0 : Int)] ++ ([(0 : Int)] ++ ([(0 : Int)] ++ ([(0 : Int)] ++ [])))).length ≤ (9223372036854775807 : Nat), (fs.length + ([(0 : Int)] ++ ([(0 : Int)] ++ ([(0 : Int)] ++ ([(0 : Int)] ++ [])))).length) * (8 : Nat) ≤ (140737488355328 : Nat), (0 : Int) ≤ (4 : Int), (4 : Int) ≤ (↑(fs ++ ([(0 : Int)] ++ ([(0 : Int)] ++ ([(0 : Int)] ++ ([(0 : Int)] ++ []))))).length : Int), l.length + ([LIns.mk o ((List.drop (0 : Nat) (List.take (Int.toNat (4 : Int)) (fs ++ ([(0 : Int)] ++ ([(0 : Int)] ++ ([(0 : Int)] ++ ([(0 : Int)] ++ []))))))).getD (0 : Nat) (0 : Int)) ((List.drop (0 : Nat) (List.take (Int.toNat (4 : Int)) (fs ++ ([(0 : Int)] ++ ([(0 : Int)] ++ ([(0 : Int)] ++ ([(0 : Int)] ++ []))))))).getD (1 : Nat) (0 : Int)) ((List.drop (0 : Nat) (List.take (Int.toNat (4 : Int)) (fs ++ ([(0 : Int)] ++ ([(0 : Int)] ++ ([(0 : Int)] ++ ([(0 : Int)] ++ []))))))).getD (2 : Nat) (0 : Int)) ((List.drop (0 : Nat) (List.take (Int.toNat (4 : Int)) (fs ++ ([(0 : Int)] ++ ([(0 : Int)] ++ ([(0 : Int)] ++ ([(0 : Int)] ++ []))))))).getD (3 : Nat) (0 : Int))] ++ []).length ≤ (9223372036854775807 : Nat), (l.length + ([LIns.mk o ((List.drop (0 : Nat) (List.take (Int.toNat (4 : Int)) (fs ++ ([(0 : Int)] ++ ([(0 : Int)] ++ ([(0 : Int)] ++ ([(0 : Int)] ++ []))))))).getD (0 : Nat) (0 : Int)) ((List.drop (0 : Nat) (List.take (Int.toNat (4 : Int)) (fs ++ ([(0 : Int)] ++ ([(0 : Int)] ++ ([(0 : Int)] ++ ([(0 : Int)] ++ []))))))).getD (1 : Nat) (0 : Int)) ((List.drop (0 : Nat) (List.take (Int.toNat (4 : Int)) (fs ++ ([(0 : Int)] ++ ([(0 : Int)] ++ ([(0 : Int)] ++ ([(0 : Int)] ++ []))))))).getD (2 : Nat) (0 : Int)) ((List.drop (0 : Nat) (List.take (Int.toNat (4 : Int)) (fs ++ ([(0 : Int)] ++ ([(0 : Int)] ++ ([(0 : Int)] ++ ([(0 : Int)] ++ []))))))).getD (3 : Nat) (0 : Int))] ++ []).length) * (40 : Nat) ≤ (140737488355328 : Nat)] ⟨(by simp only [List.length_append, List.length_cons, List.length_nil]; omega), (by simp only [List.length_append, List.length_cons, List.length_nil]; omega), (by omega), (by simp only [List.length_append, List.length_cons, List.length_nil]; omega), (by simp only [List.length_append, List.length_cons, List.length_nil]; omega), (by simp only [List.length_append, List.length_cons, List.length_nil]; omega), trivial⟩ fun ρ a w G => th_n ?_; refine rd1 (dk := dkP) G ⟨[], [], []⟩ calls_nil trivial [0, 0, 2, 6, 14, 0, 32, 96, 224, 480, 1022, 2047, 4095, 8191] [0, 1, 2, 3, 4, 85] [.box [.ref 4, .ref 5, iA ow, iA ct], .dead, .dead, .dead, .row 50 (D.instrs (l ++ ([LIns.mk o ((yRvCe0 fs).getD 0 0) ((yRvCe0 fs).getD 1 0) ((yRvCe0 fs).getD 2 0) ((yRvCe0 fs).getD 3 0)] ++ []))), .row 3 (D.ints (fr ++ ([ow] ++ [])))] [] [fr.length + ([ow] ++ []).length ≤ (9223372036854775807 : Nat), (fr.length + ([ow] ++ []).length) * (8 : Nat) ≤ (140737488355328 : Nat)] ⟨(by simp only [List.length_append, List.length_cons, List.length_nil]; omega), (by simp only [List.length_append, List.length_cons, List.length_nil]; omega), trivial⟩ ?_; intro ρ a w G; exact rx_retN (v := .tup []) G (rg 6) (by kernel_rfl) (by kernel_rfl) (by show _ = List.map (It.ren (nth (rg 6))) [.box [.ref 4, .ref 5, iA ow, iA ct], .dead, .dead, .dead, .row 50 (D.instrs (l ++ [insG o fs])), .row 3 (D.ints (fr ++ [ow]))]; have e1 : (l ++ [insG o fs] : List LIns) = (l ++ ([LIns.mk o ((List.drop 0 (List.take (Int.toNat 4) (fs ++ ([0] ++ ([0] ++ ([0] ++ ([0] ++ []))))))).getD 0 0) ((List.drop 0 (List.take (Int.toNat 4) (fs ++ ([0] ++ ([0] ++ ([0] ++ ([0] ++ []))))))).getD 1 0) ((List.drop 0 (List.take (Int.toNat 4) (fs ++ ([0] ++ ([0] ++ ([0] ++ ([0] ++ []))))))).getD 2 0) ((List.drop 0 (List.take (Int.toNat 4) (fs ++ ([0] ++ ([0] ++ ([0] ++ ([0] ++ []))))))).getD 3 0)] ++ [])) := (by simp); (first | rw [e1] | simp only [e1]) <;> rfl) (by kernel_rfl)


set_option maxRecDepth 100000 in
theorem c_emit0 (o : Int) (l : List LIns) (fr : List Int) (ow ct : Int) (q1 : l.length ≤ 8000000) (q2 : fr.length ≤ 8000000) : Ctr.ok Try.prog ⟨103, [.ptr 0 0, iA o, .v (.slice none 0 0)], [.box [.ref 1, .ref 2, iA ow, iA ct], rN l, rI fr], [.box [.ref 3, .ref 4, iA ow, iA ct], .dead, .dead, rN (l ++ [⟨o, 0, 0, 0, 0⟩]), rI (fr ++ [ow])], .tup []⟩ := by
  refine rx_enter 35 Try.func103 (by rfl) (by kernel_rfl) (by kernel_rfl) ?_; intro ι φ ψ w0 w F ρ0 ρ a G; replace G := Gam.at G [.box [.ref 1, .ref 2, iA ow, iA ct], .row 50 (D.instrs l), .row 3 (D.ints fr)] [(0, .ptr 0 0), (1, iA o), (2, .v (.slice none 0 0))]; refine wp_seq ?_; refine rd1 (dk := dkP) G ⟨[(11, _, [83])], [], []⟩ (calls_cons (c_withFields (o) (0) (0) (0) (0) (List.drop 0 (List.take (Int.toNat 4) ([0] ++ ([0] ++ ([0] ++ ([0] ++ [])))))) (by simp)) calls_nil) trivial [0, 0, 2, 6, 14, 0, 32, 0, 0, 384, 896, 2016, 4064, 8190, 16383, 32767, 65535] [0, 1, 2, 107] [.box [.ref 3, .ref 2, iA ow, iA ct], .dead, .row 3 (D.ints fr), .row 50 (D.instrs (l ++ ([LIns.mk o 0 0 0 0] ++ [])))] [(0, .ptr 0 0)] [([(0 : Int)] ++ ([(0 : Int)] ++ ([(0 : Int)] ++ ([(0 : Int)] ++ [])))).length ≤ (9223372036854775807 : Nat), ([(0 : Int)] ++ ([(0 : Int)] ++ ([(0 : Int)] ++ ([(0 : Int)] ++ [])))).length * (8 : Nat) ≤ (140737488355328 : Nat), (0 : Int) ≤ (4 : Int), (4 : Int) ≤ (↑([(0 : Int)] ++ ([(0 : Int)] ++ ([(0 : Int)] ++ ([(0 : Int)] ++ [])))).length : Int), l.length + ([LIns.mk o (0 : Int) (0 : Int) (0 : Int) (0 : Int)] ++ []).length ≤ (9223372036854775807 : Nat), (l.length + ([LIns.mk o (0 : Int) (0 : Int) (0 : Int) (0 : Int)] ++ []).length) * (40 : Nat) ≤ (140737488355328 : Nat)] ⟨(by simp only [List.length_append, List.length_cons, List.length_nil]; omega), (by simp only [List.length_append, List.length_cons, List.length_nil]; omega), (by omega), (by simp only [List.length_append, List.length_cons, List.length_nil]; omega), (by simp only [List.length_append, List.length_cons, List.length_nil]; omega), (by simp only [List.length_append, List.length_cons, List.length_nil]; omega), trivial⟩ fun ρ a w G => th_n ?_; refine rd1 (dk := dkP) G ⟨[], [], []⟩ calls_nil trivial [0, 0, 2, 6, 14, 0, 32, 96, 224, 480, 1022, 2047, 4095, 8191] [0, 1, 2, 3, 84] [.box [.ref 3, .ref 4, iA ow, iA ct], .dead, .dead, .row 50 (D.instrs (l ++ ([LIns.mk o 0 0 0 0] ++ []))), .row 3 (D.ints (fr ++ ([ow] ++ [])))] [] [fr.length + ([ow] ++ []).length ≤ (9223372036854775807 : Nat), (fr.length + ([ow] ++ []).length) * (8 : Nat) ≤ (140737488355328 : Nat)] ⟨(by simp only [List.length_append, List.length_cons, List.length_nil]; omega), (by simp only [List.length_append, List.length_cons, List.length_nil]; omega), trivial⟩ ?_; intro ρ a w G; exact rx_retN (v := .tup []) G (rg 5) (by kernel_rfl) (by kernel_rfl) (by kernel_rfl) (by kernel_rfl)

abbrev ixC (l : List LIns) (fr : List Int) (ow ct : Int) (e : LExpr) (reg : Int) : Ctr := ⟨136, [.ptr 0 0, eA e 3, iA reg], [.box [.ref 1, .ref 2, iA ow, iA ct], rN l, rI fr, dE e.kids], [.box [.ref 4, .ref 5, iA ow, iA ct], .dead, .dead, dE e.kids, rN (l ++ codeE e reg), rI (fr ++ List.replicate (codeE e reg).length ow)], .tup []⟩
abbrev yRvCf0 (e : LExpr) (l : List LIns) (fr : List Int) (ow : Int) (ct : Int) (reg : Int) : List It := [.box [.ref 4, .ref 5, iA ow, iA ct], .dead, .dead, dE e.kids, .row 50 (D.instrs (l ++ codeE e reg)), .row 3 (D.ints (fr ++ List.replicate (codeE e reg).length ow))]
abbrev yRvCf1 (ow : Int) (ct : Int) : It := .box [.ref 5, .ref 6, iA ow, iA ct]
set_option maxHeartbeats 4000000 in
set_option maxRecDepth 100000 in
theorem s_iexpr (e : LExpr) (ih : ∀ (u : LExpr), u ∈ e.kids → ∀ (l : List LIns) (fr : List Int) (ow ct reg : Int), 0 ≤ reg → reg + szE u ≤ 2000000 → l.length + szE u ≤ 5000000 → fr.length = l.length → Ctr.ok Try.prog (ixC l fr ow ct u reg)) (l : List LIns) (fr : List Int) (ow ct reg : Int) (r0 : 0 ≤ reg) (r1 : reg + szE e ≤ 2000000) (r2 : l.length + szE e ≤ 5000000) (r3 : fr.length = l.length) : Ctr.ok Try.prog (ixC l fr ow ct e reg) := by
  refine rx_enter 72 Try.func136 (by rfl) (by kernel_rfl) (by kernel_rfl) ?_; intro ι φ ψ w0 w F ρ0 ρ a G; replace G := Gam.at G [.box [.ref 1, .ref 2, iA ow, iA ct], .row 50 (D.instrs l), .row 3 (D.ints fr), dE e.kids] [(0, .ptr 0 0), (1, eA e 3), (2, iA reg)]
  have hlen : e.kids.length ≤ szE e := by cases e; exact szEs_len _
  refine wp_seq ?_; refine rs0 G (rg 5) [.box [.ref 1, .ref 2, iA ow, iA ct], .row 50 (D.instrs l), .row 3 (D.ints fr), dE e.kids, .box (eL e 3)] [(0, .ptr 0 0), (2, iA reg), (4, .ptr 4 0)] fun ρ a w G => th_n (wp_seq (wp_seq ?_)); refine rs0s G [(0, .ptr 0 0), (2, iA reg), (4, .ptr 4 0), (9, iA e.kind)] fun ρ a w G => th_n (wp_block (wp_seq ?_)); refine rs0s G [(0, .ptr 0 0), (2, iA reg), (4, .ptr 4 0), (9, iA e.kind), (10, bA (e.kind == 1))] fun ρ a w G => th_n ?_; cases h0 : (e.kind == (1 : Int))
  ·
   have q0 : ¬ (e.kind = 1) := ne_of_beq_false h0; refine rF G (e.kind == (1 : Int)) (by assumption) ?_; refine wp_seq ?_; refine rs0s G [(0, .ptr 0 0), (2, iA reg), (4, .ptr 4 0), (18, bA (e.kind == 2))] fun ρ a w G => th_n ?_; cases h1 : (e.kind == (2 : Int))
   ·
    have q1 : ¬ (e.kind = 2) := ne_of_beq_false h1; refine rF G (e.kind == (2 : Int)) (by assumption) ?_; refine wp_skip ?_; refine bl_n ?_; refine th_n (wp_seq (wp_seq ?_)); refine rs0s G [(0, .ptr 0 0), (2, iA reg), (4, .ptr 4 0), (27, .ref 3), (28, iA (↑e.kids.length : Int)), (29, iA 0)] fun ρ a w G => th_n (wp_block ?_); have Gx := G.shift 1 5 [.box [.ref 5, .ref 2, iA ow, iA ct], .dead, .row 3 (D.ints fr), dE e.kids, .box (eL e 3), .row 50 (D.instrs l)] [(0, .ptr 0 0), (2, iA reg), (4, .ptr 4 0), (27, .ref 3), (28, iA (↑e.kids.length : Int)), (29, iA 0)]; clear G; obtain ⟨ρ, G⟩ := Gx; have Gx := G.shift 2 6 [yRvCf1 ow ct, .dead, .dead, dE e.kids, .box (eL e 3), .row 50 (D.instrs l), .row 3 (D.ints fr)] [(0, .ptr 0 0), (2, iA reg), (4, .ptr 4 0), (27, .ref 3), (28, iA (↑e.kids.length : Int)), (29, iA 0)]; clear G; obtain ⟨ρ, G⟩ := Gx; replace G := G.as [.box [.ref 5, .ref 6, iA ow, iA ct], .dead, .dead, dE e.kids, .box (eL e 3), .row 50 (D.instrs (l ++ codeEs (List.take 0 e.kids) reg)), .row 3 (D.ints (fr ++ List.replicate (codeEs (List.take 0 e.kids) reg).length ow))] [(0, .ptr 0 0), (2, iA reg), (4, .ptr 4 0), (27, .ref 3), (28, iA (↑e.kids.length : Int)), (29, iA 0)] (by have e1 : (l ++ codeEs (List.take 0 e.kids) reg : List LIns) = (l) := (by exact ck_start.symm); have e2 : (fr ++ List.replicate (codeEs (List.take 0 e.kids) reg).length ow : List Int) = (fr) := (by exact ck_start2.symm); (first | rw [e1, e2] | simp only [e1, e2]) <;> rfl) (by kernel_rfl); refine rx_for (κ := Nat) (fun k => k ≤ e.kids.length) (fun k => e.kids.length - k) (fun k => [yRvCf1 ow ct, .dead, .dead, dE e.kids, .box (eL e 3), .row 50 (.instrs (l ++ codeEs (e.kids.take k) reg)), .row 3 (.ints (fr ++ List.replicate (codeEs (e.kids.take k) reg).length ow))]) (fun k => [(0, .ptr 0 0), (2, iA reg), (4, .ptr 4 0), (27, .ref 3), (28, iA (↑e.kids.length : Int)), (29, iA k)]) (0) (by simp [h0, h1]) (Gam.at G _ _) ?_; clear G; intro k ρ a w hp G; replace G := Gam.at G [yRvCf1 ow ct, .dead, .dead, dE e.kids, .box (eL e 3), .row 50 (D.instrs (l ++ codeEs (List.take k e.kids) reg)), .row 3 (D.ints (fr ++ List.replicate (codeEs (List.take k e.kids) reg).length ow))] [(0, .ptr 0 0), (2, iA reg), (4, .ptr 4 0), (27, .ref 3), (28, iA (↑e.kids.length : Int)), (29, iA (↑k : Int))]; refine wp_seq ?_; refine rs0s G [(0, .ptr 0 0), (2, iA reg), (4, .ptr 4 0), (27, .ref 3), (28, iA (↑e.kids.length : Int)), (29, iA (↑k : Int)), (30, bA (decide ((↑k : Int) < (↑e.kids.length : Int))))] fun ρ a w G => th_n (wp_seq ?_); cases h2 : (decide ((↑k : Int) < (↑e.kids.length : Int)))
    ·
     have q2 : ¬ ((↑k : Int) < (↑e.kids.length : Int)) := dFf h2; refine rF G (decide ((↑k : Int) < (↑e.kids.length : Int))) (by assumption) ?_; refine wp_exit (th_e (th_e (bl_hit (th_n (wp_seq ?_))))); refine rs0s G [(0, .ptr 0 0), (2, iA reg), (4, .ptr 4 0), (42, iA e.kind)] fun ρ a w G => th_n (wp_block (wp_seq ?_)); refine rs0s G [(0, .ptr 0 0), (2, iA reg), (4, .ptr 4 0), (42, iA e.kind), (52, bA (e.kind == 3))] fun ρ a w G => th_n ?_; cases h3 : (e.kind == (3 : Int))
     ·
      have q3 : ¬ (e.kind = 3) := ne_of_beq_false h3; refine rF G (e.kind == (3 : Int)) (by assumption) ?_; refine wp_seq ?_; refine rs0s G [(0, .ptr 0 0), (2, iA reg), (4, .ptr 4 0), (61, bA (e.kind == 11))] fun ρ a w G => th_n ?_; cases h4 : (e.kind == (11 : Int))
      · have q4 : ¬ (e.kind = 11) := ne_of_beq_false h4; refine rF G (e.kind == (11 : Int)) (by assumption) ?_; refine rs1 (dk := dkP) G ⟨[(8, _, [0, 5, 6, 63])], [], []⟩ (calls_cons (c_emit (6) ([reg] ++ ([e.kind] ++ ([reg] ++ ([reg + 1] ++ [])))) (by simp [h0, h1, h2, h3, h4]) (l ++ codeEs (List.take k e.kids) reg) (fr ++ List.replicate (codeEs (List.take k e.kids) reg).length ow) (ow) (ct) (by have := ck_all (k := k) (reg := reg) r2; have := ck_fr (e := e) (n := ow) (k := k) (reg := reg) r3; omega) (by have := ck_all (k := k) (reg := reg) r2; have := ck_fr (e := e) (n := ow) (k := k) (reg := reg) r3; omega)) calls_nil) trivial [0, 1, 2, 3, 71, 72] [.box [.ref 4, .ref 5, iA ow, iA ct], .dead, .dead, dE e.kids, .row 50 (D.instrs (l ++ codeEs (List.take k e.kids) reg ++ [insG 6 ([reg] ++ ([e.kind] ++ ([reg] ++ ([reg + 1] ++ []))))])), .row 3 (D.ints (fr ++ List.replicate (codeEs (List.take k e.kids) reg).length ow ++ [ow]))] [] [IntKind.i64.wrap (reg + (1 : Int)) = reg + (1 : Int)] ⟨(by exact w64 (by omega) (by omega)), trivial⟩ ?_; intro ρ a w G; refine bl_n ?_; exact rx_retN (v := .tup []) G (rg 6) (by kernel_rfl) (by kernel_rfl) (by show _ = List.map (It.ren (nth (rg 6))) (yRvCf0 e l fr ow ct reg); unfold yRvCf0; have e1 : (l ++ codeE e reg : List LIns) = (l ++ codeEs (List.take k e.kids) reg ++ [insG 6 ([reg] ++ ([e.kind] ++ ([reg] ++ ([reg + 1] ++ []))))]) := (by exact ck_end (by omega) (by omega) (by omega) (la0 (by omega) (by omega))); have e2 : (fr ++ List.replicate (codeE e reg).length ow : List Int) = (fr ++ List.replicate (codeEs (List.take k e.kids) reg).length ow ++ [ow]) := (by exact ck_end2 (by omega) (by omega) (by omega)); (first | rw [e1, e2] | simp only [e1, e2]) <;> rfl) (by kernel_rfl)
      · have q4 : e.kind = 11 := eq_of_beq h4; refine rT G (e.kind == (11 : Int)) (by assumption) ?_; refine rs1 (dk := dkP) G ⟨[(8, _, [0, 5, 6, 63])], [], []⟩ (calls_cons (c_emit (7) ([reg] ++ ([reg] ++ ([reg + 1] ++ ([reg + 2] ++ [])))) (by simp [h0, h1, h2, h3, h4]) (l ++ codeEs (List.take k e.kids) reg) (fr ++ List.replicate (codeEs (List.take k e.kids) reg).length ow) (ow) (ct) (by have := ck_all (k := k) (reg := reg) r2; have := ck_fr (e := e) (n := ow) (k := k) (reg := reg) r3; omega) (by have := ck_all (k := k) (reg := reg) r2; have := ck_fr (e := e) (n := ow) (k := k) (reg := reg) r3; omega)) calls_nil) trivial [0, 1, 2, 3, 71, 72] [.box [.ref 4, .ref 5, iA ow, iA ct], .dead, .dead, dE e.kids, .row 50 (D.instrs (l ++ codeEs (List.take k e.kids) reg ++ [insG 7 ([reg] ++ ([reg] ++ ([reg + 1] ++ ([reg + 2] ++ []))))])), .row 3 (D.ints (fr ++ List.replicate (codeEs (List.take k e.kids) reg).length ow ++ [ow]))] [] [IntKind.i64.wrap (reg + (1 : Int)) = reg + (1 : Int), IntKind.i64.wrap (reg + (2 : Int)) = reg + (2 : Int)] ⟨(by exact w64 (by omega) (by omega)), (by exact w64 (by omega) (by omega)), trivial⟩ ?_; intro ρ a w G; refine bl_n ?_; exact rx_retN (v := .tup []) G (rg 6) (by kernel_rfl) (by kernel_rfl) (by show _ = List.map (It.ren (nth (rg 6))) (yRvCf0 e l fr ow ct reg); unfold yRvCf0; have e1 : (l ++ codeE e reg : List LIns) = (l ++ codeEs (List.take k e.kids) reg ++ [insG 7 ([reg] ++ ([reg] ++ ([reg + 1] ++ ([reg + 2] ++ []))))]) := (by exact ck_end (by omega) (by omega) (by omega) (la11 (by omega))); have e2 : (fr ++ List.replicate (codeE e reg).length ow : List Int) = (fr ++ List.replicate (codeEs (List.take k e.kids) reg).length ow ++ [ow]) := (by exact ck_end2 (by omega) (by omega) (by omega)); (first | rw [e1, e2] | simp only [e1, e2]) <;> rfl) (by kernel_rfl)
     · have q3 : e.kind = 3 := eq_of_beq h3; refine rT G (e.kind == (3 : Int)) (by assumption) ?_; refine rs1 (dk := dkP) G ⟨[(6, _, [0, 5, 6, 47])], [], []⟩ (calls_cons (c_emit (4) ([reg] ++ ([e.value] ++ ([reg] ++ []))) (by simp [h0, h1, h2, h3]) (l ++ codeEs (List.take k e.kids) reg) (fr ++ List.replicate (codeEs (List.take k e.kids) reg).length ow) (ow) (ct) (by have := ck_all (k := k) (reg := reg) r2; have := ck_fr (e := e) (n := ow) (k := k) (reg := reg) r3; omega) (by have := ck_all (k := k) (reg := reg) r2; have := ck_fr (e := e) (n := ow) (k := k) (reg := reg) r3; omega)) calls_nil) trivial [0, 1, 2, 3, 55, 56] [.box [.ref 4, .ref 5, iA ow, iA ct], .dead, .dead, dE e.kids, .row 50 (D.instrs (l ++ codeEs (List.take k e.kids) reg ++ [insG 4 ([reg] ++ ([e.value] ++ ([reg] ++ [])))])), .row 3 (D.ints (fr ++ List.replicate (codeEs (List.take k e.kids) reg).length ow ++ [ow]))] [] [] trivial ?_; intro ρ a w G; refine bl_n ?_; exact rx_retN (v := .tup []) G (rg 6) (by kernel_rfl) (by kernel_rfl) (by show _ = List.map (It.ren (nth (rg 6))) (yRvCf0 e l fr ow ct reg); unfold yRvCf0; have e1 : (l ++ codeE e reg : List LIns) = (l ++ codeEs (List.take k e.kids) reg ++ [insG 4 ([reg] ++ ([e.value] ++ ([reg] ++ [])))]) := (by exact ck_end (by omega) (by omega) (by omega) (la3 (by omega))); have e2 : (fr ++ List.replicate (codeE e reg).length ow : List Int) = (fr ++ List.replicate (codeEs (List.take k e.kids) reg).length ow ++ [ow]) := (by exact ck_end2 (by omega) (by omega) (by omega)); (first | rw [e1, e2] | simp only [e1, e2]) <;> rfl) (by kernel_rfl)
    · have q2 : (↑k : Int) < (↑e.kids.length : Int) := dTt h2; refine rT G (decide ((↑k : Int) < (↑e.kids.length : Int))) (by assumption) ?_; refine wp_skip (th_n (wp_seq (wp_block (wp_seq ?_)))); refine rs1 (dk := dkP) G ⟨[], [], []⟩ calls_nil trivial [0, 1, 2, 3, 4, 5, 6, 23, 31] [yRvCf1 ow ct, .dead, .dead, dE e.kids, .box (eL e 3), .row 50 (D.instrs (l ++ codeEs (List.take k e.kids) reg)), .row 3 (D.ints (fr ++ List.replicate (codeEs (List.take k e.kids) reg).length ow)), dE (e.kids.getD k default).kids, .box (eL (e.kids.getD k default) 7)] [(0, .ptr 0 0), (2, iA reg), (4, .ptr 4 0), (6, iA (↑k : Int)), (7, .ptr 8 0), (27, .ref 3), (28, iA (↑e.kids.length : Int)), (29, iA (↑k : Int))] [(0 : Int) ≤ (↑k : Int), (↑k : Int) < (↑e.kids.length : Int), k < e.kids.length] ⟨(by simp [h0, h1, h2]), (by assumption), (by have := ck_all (k := k) (reg := reg) r2; have := ck_fr (e := e) (n := ow) (k := k) (reg := reg) r3; omega), trivial⟩ fun ρ a w G => th_n ?_; refine rs1 (dk := dkP) G ⟨[(5, _, [0, 5, 6, 7])], [], []⟩ (calls_cons (ih (e.kids.getD k default) (by exact getE_mem (by omega)) (l ++ codeEs (List.take k e.kids) reg) (fr ++ List.replicate (codeEs (List.take k e.kids) reg).length ow) (ow) (ct) (reg + (↑k : Int)) (by have := ck_all (k := k) (reg := reg) r2; have := ck_fr (e := e) (n := ow) (k := k) (reg := reg) r3; omega) (by exact (ck_reg r0 r1 (by omega)).2) (by exact ck_len r2 (by omega)) (by exact ck_fr r3)) calls_nil) trivial [0, 1, 2, 3, 4, 49, 50] [yRvCf1 ow ct, .dead, .dead, dE e.kids, .box (eL e 3), .row 50 (D.instrs (l ++ codeEs (List.take k e.kids) reg ++ codeE (e.kids.getD k default) (reg + (↑k : Int)))), .row 3 (D.ints (fr ++ List.replicate (codeEs (List.take k e.kids) reg).length ow ++ List.replicate (codeE (e.kids.getD k default) (reg + (↑k : Int))).length ow))] [(0, .ptr 0 0), (2, iA reg), (4, .ptr 4 0), (27, .ref 3), (28, iA (↑e.kids.length : Int)), (29, iA (↑k : Int))] [IntKind.i64.wrap (reg + (↑k : Int)) = reg + (↑k : Int)] ⟨(by exact w64 (by omega) (by omega)), trivial⟩ ?_; intro ρ a w G; refine bl_n ?_; refine th_n ?_; refine rs1s G ⟨[], [], []⟩ calls_nil trivial [(0, .ptr 0 0), (2, iA reg), (4, .ptr 4 0), (27, .ref 3), (28, iA (↑e.kids.length : Int)), (29, iA ((↑k : Int) + 1))] [IntKind.i64.wrap ((↑k : Int) + (1 : Int)) = (↑k : Int) + (1 : Int)] ⟨(by exact w64 (by omega) (by omega)), trivial⟩ fun ρ a w G => th_n ?_; exact rx_next G (k + 1) (by have := ck_all (k := k) (reg := reg) r2; have := ck_fr (e := e) (n := ow) (k := k) (reg := reg) r3; omega) (by have := ck_all (k := k) (reg := reg) r2; have := ck_fr (e := e) (n := ow) (k := k) (reg := reg) r3; omega) (rg 7) [.box [.ref 5, .ref 6, iA ow, iA ct], .dead, .dead, dE e.kids, .box (eL e 3), .row 50 (D.instrs (l ++ codeEs (List.take (k + 1) e.kids) reg)), .row 3 (D.ints (fr ++ List.replicate (codeEs (List.take (k + 1) e.kids) reg).length ow))] [(0, .ptr 0 0), (2, iA reg), (4, .ptr 4 0), (27, .ref 3), (28, iA (↑e.kids.length : Int)), (29, iA (↑(k + 1) : Int))] (by kernel_rfl) (by kernel_rfl) (by kernel_rfl) (by have e1 : (l ++ codeEs (List.take (k + 1) e.kids) reg : List LIns) = (l ++ codeEs (List.take k e.kids) reg ++ codeE (e.kids.getD k default) (reg + (↑k : Int))) := (by exact ck_next (by omega)); have e2 : (fr ++ List.replicate (codeEs (List.take (k + 1) e.kids) reg).length ow : List Int) = (fr ++ List.replicate (codeEs (List.take k e.kids) reg).length ow ++ List.replicate (codeE (e.kids.getD k default) (reg + (↑k : Int))).length ow) := (by exact ck_next2 (by omega)); (first | rw [e1, e2] | simp only [e1, e2]) <;> rfl) (by kernel_rfl)
   · have q1 : e.kind = 2 := eq_of_beq h1; refine rT G (e.kind == (2 : Int)) (by assumption) ?_; refine wp_seq ?_; refine rs1 (dk := dkP) G ⟨[(5, _, [0, 1, 2, 37])], [], []⟩ (calls_cons (c_emit (2) ([reg] ++ ([e.value] ++ [])) (by simp [h0, h1]) (l) (fr) (ow) (ct) (by omega) (by omega)) calls_nil) trivial [0, 1, 2, 3, 4, 45, 46] [yRvCf1 ow ct, .dead, .dead, dE e.kids, .box (eL e 3), .row 50 (D.instrs (l ++ [insG 2 ([reg] ++ ([e.value] ++ []))])), .row 3 (D.ints (fr ++ [ow]))] [(0, .ptr 0 0), (2, iA reg), (4, .ptr 4 0)] [] trivial fun ρ a w G => th_n (wp_ret (bl_r (th_r ?_))); exact rx_ret (v := .tup []) G [0, 1, 2, 3, 5, 6] (by kernel_rfl) (by kernel_rfl) (by show _ = List.map (It.ren (nth [0, 1, 2, 3, 5, 6])) (yRvCf0 e l fr ow ct reg); unfold yRvCf0; rw [ce2 (by omega)] <;> rfl) (by kernel_rfl)
  · have q0 : e.kind = 1 := eq_of_beq h0; refine rT G (e.kind == (1 : Int)) (by assumption) ?_; refine wp_seq ?_; refine rs1 (dk := dkP) G ⟨[(5, _, [0, 1, 2, 37])], [], []⟩ (calls_cons (c_emit (1) ([reg] ++ ([e.value] ++ [])) (by simp [h0]) (l) (fr) (ow) (ct) (by omega) (by omega)) calls_nil) trivial [0, 1, 2, 3, 4, 45, 46] [yRvCf1 ow ct, .dead, .dead, dE e.kids, .box (eL e 3), .row 50 (D.instrs (l ++ [insG 1 ([reg] ++ ([e.value] ++ []))])), .row 3 (D.ints (fr ++ [ow]))] [(0, .ptr 0 0), (2, iA reg), (4, .ptr 4 0)] [] trivial fun ρ a w G => th_n (wp_ret (bl_r (th_r ?_))); exact rx_ret (v := .tup []) G [0, 1, 2, 3, 5, 6] (by kernel_rfl) (by kernel_rfl) (by show _ = List.map (It.ren (nth [0, 1, 2, 3, 5, 6])) (yRvCf0 e l fr ow ct reg); unfold yRvCf0; rw [ce1 (by omega)] <;> rfl) (by kernel_rfl)

theorem c_iexpr (e : LExpr) : ∀ (l : List LIns) (fr : List Int) (ow ct reg : Int), 0 ≤ reg → reg + szE e ≤ 2000000 → l.length + szE e ≤ 5000000 → fr.length = l.length → Ctr.ok Try.prog (ixC l fr ow ct e reg) :=
  LExpr.ind (P := fun e => ∀ (l : List LIns) (fr : List Int) (ow ct reg : Int), 0 ≤ reg → reg + szE e ≤ 2000000 → l.length + szE e ≤ 5000000 → fr.length = l.length → Ctr.ok Try.prog (ixC l fr ow ct e reg)) (fun k v ks ih l fr ow ct reg r0 r1 r2 r3 => s_iexpr ⟨k, v, ks⟩ (fun u hu => ih u hu) l fr ow ct reg r0 r1 r2 r3) e

end Go.Proofs.Ytimmlkmpbmbgdaa
