/-
  Texts of this claim, part 4: what the functions on the way do, and plain laws. Conditions: as each statement says.
-/
import Derived.WalkSpells
import Derived.Lib.SliceRun
import Derived.Test.YtgpkdfefgcpbiaaK3

namespace Go.Proofs.Ytgpkdfefgcpbiaa
set_option linter.unusedVariables false
set_option linter.unusedSimpArgs false
open Go Go.RowKit

section
variable {P : Program} {ι κ : Type} {φ ψ : Nat → Prop} {w0 w w' : World} {F : ι → Rs} {ρ ρ0 : Nat → Value}
/-- Some of what is owned has turned, in its own blocks. -/
theorem MemF.turns {L L' : κ → Rs} (M : MemF φ ψ w0 w L) (hblk : ∀ k b, (L' k).blk b ↔ (L k).blk b) (K : κ → Prop) (ho : ∀ k, ¬ K k → L' k = L k) (hk : Kept (fun b => ¬ ∃ k, K k ∧ (L k).blk b) w w') (h : ∀ k, K k → (L' k).holds w' (FrF φ L')) : MemF φ ψ w0 w' L' := by
  have hfr : ∀ b, FrF φ L b → FrF φ L' b := fun b hb => ⟨hb.1, fun k hk => hb.2 k ((hblk k b).1 hk)⟩
  refine ⟨⟨hk.os.trans M.kept.os, hk.tape.trans M.kept.tape, hk.output.trans M.kept.output, Nat.le_trans M.size hk.size, fun b hb hp => (hk.block b (Nat.lt_of_lt_of_le hb M.size) ?_).trans (M.kept.block b hb hp)⟩, M.fresh, fun k => ?_, fun i j g hij h1 h2 => M.dis i j g hij ((hblk i g).1 h1) ((hblk j g).1 h2), fun i b hb => M.ge i b ((hblk i b).1 hb), fun i b hb => M.ph i b ((hblk i b).1 hb)⟩
  · rintro ⟨k, _, h2⟩
    rcases M.ge k b h2 with h | h
    · omega
    · exact h hp
  · by_cases e : K k
    · exact h k e
    · rw [ho k e]
      refine Rs.keep (M.holds k) ⟨hk.size, fun b hb hf => ⟨hfr b hf, hk.block b hb fun ⟨j, _, h2⟩ => hf.2 j h2⟩⟩ fun g hg => hk.block g (M.lt hg) ?_
      rintro ⟨j, h1, h2⟩
      exact M.dis j k g (fun h => e (h ▸ h1)) h2 hg
/-- New things, in new blocks. -/
theorem MemF.grow {L L' : κ → Rs} (M : MemF φ ψ w0 w L) (hb : Below w.heap.size w w') (K : κ → Prop) (ho : ∀ k, ¬ K k → L' k = L k) (hg : ∀ k, K k → ∀ b, (L' k).blk b → w.heap.size ≤ b) (hd : ∀ j k b, j ≠ k → K j → K k → (L' j).blk b → ¬ (L' k).blk b) (h : ∀ k, K k → (L' k).holds w' (FrF φ L')) : MemF φ ψ w0 w' L' := by
  have M1 := M.call hb
  have old : ∀ k, ¬ K k → ∀ b, (L' k).blk b → b < w.heap.size := fun k hk b h1 => by rw [ho k hk] at h1; exact M.lt h1
  refine ⟨M1.kept, M.fresh, fun k => ?_, fun i j g hij h1 h2 => ?_, fun i b h1 => ?_, fun i b h1 => ?_⟩
  · by_cases e : K k
    · exact h k e
    · rw [ho k e]
      refine Rs.keep (M.holds k) ⟨hb.size, fun b hl hf => ⟨⟨hf.1, fun j hj => ?_⟩, hb.block b hl⟩⟩ fun g hgx => hb.block g (M.lt hgx)
      by_cases e2 : K j
      · have := hg j e2 b hj; omega
      · rw [ho j e2] at hj; exact hf.2 j hj
  · by_cases e1 : K i <;> by_cases e2 : K j
    · exact hd i j g hij e1 e2 h1 h2
    · have := hg i e1 g h1; have := old j e2 g h2; omega
    · have := hg j e2 g h2; have := old i e1 g h1; omega
    · rw [ho i e1] at h1; rw [ho j e2] at h2; exact M.dis i j g hij h1 h2
  · by_cases e : K i
    · exact .inl (Nat.le_trans M.size (hg i e b h1))
    · rw [ho i e] at h1; exact M.ge i b h1
  · by_cases e : K i
    · exact M.fresh b (Nat.le_trans M.size (hg i e b h1))
    · rw [ho i e] at h1; exact M.ph i b h1
end

abbrev oP (p : LProg) : List It := [.row 3 (.ints p.vars), .row 3 (.ints p.arrays), .tree (.stmts p.body)]
abbrev oA (r : Nat) : AV := .agg [.ref r, .ref (r + 1), .tref (r + 2)]
theorem row_holds {w : World} {φ : Nat → Prop} {v : Value} {l : List Int} (h : w.ownsRow 0 3 1 v l.length (ints l)) : (Rs.row 3 (D.ints l).sz v (D.ints l).len fun xs w φ => RW w φ (.ints l) xs).holds w φ := by
  refine ⟨fun xs => RW.nice (.ints l) xs, ints l, h, fun i hi j x hx => ?_⟩
  have hi' : i < l.length := hi
  simp only [D.elem] at hx
  have hj : j = 0 := by
    cases j with
    | zero => rfl
    | succ j => simp at hx
  subst hj
  simp at hx
  subst hx
  refine ⟨_, ?_, rfl⟩
  simp only [D.sz]
  rw [Nat.mul_one, Nat.add_zero]
  simp [ints, hi']
theorem row_of {w : World} {φ : Nat → Prop} {v : Value} {l : List Int} (h : (Rs.row 3 (D.ints l).sz v (D.ints l).len fun xs w φ => RW w φ (.ints l) xs).holds w φ) : w.ownsRow 0 3 1 v l.length (ints l) := by
  obtain ⟨_, xs, h1, h2⟩ := h
  have h3 : xs.length = l.length := by have := h1.1; simpa [D.len, D.sz] using this
  rw [rw_ints h3 h2] at h1
  exact h1

theorem t_toProgram (p : LProg) (hb : p.size ≤ 1048576) : Ctr.ok Try.prog ⟨17, [pA 0], pS p, pS p ++ oP p, oA 3⟩ := by
  intro ι φ ψ w0 w F ρ M
  refine (toProgram_any (FrF φ (lay F ρ (lst (pS p)))) _ p w ⟨ρ 0, ρ 1, ρ 2, rfl, M.datAt (id := 0) rfl, M.datAt (id := 1) rfl, M.datAt (id := 2) rfl⟩ hb).mono ?_
  rintro e w' ⟨a1, k1, a2, k2, a3, k3, S, rfl, hO, hS, hbl⟩
  obtain ⟨v1, v2, v3, S3, hv, h1, h2, h3, d1, d2, d3⟩ := hO
  cases hv
  obtain ⟨z, hz1, hz2⟩ := enc_exists (.slice a3 p.body.length k3) (fun b => S3 b ∧ b < w'.heap.size) w'.heap.size fun b h => h.2
  refine ⟨fun i => if i = 3 then .slice a1 p.vars.length k1 else if i = 4 then .slice a2 p.arrays.length k2 else if i = 5 then z else ρ i, fun i hi => ?_, ?_, ?_⟩
  · have : i < 3 := hi
    simp only [if_neg (show ¬ i = 3 by omega), if_neg (show ¬ i = 4 by omega), if_neg (show ¬ i = 5 by omega)]
  · simp [AV.val, AV.vals, hz1]
  · have hlt : ∀ j, 6 ≤ j → lst (pS p ++ oP p) j = .none ∧ lst (pS p) j = .none := fun j hj => ⟨lst_out (by simp; omega), lst_out (by simp; omega)⟩
    refine M.grow hbl (fun k => k = .inr 3 ∨ k = .inr 4 ∨ k = .inr 5) (fun k hk => ?_) ?_ ?_ ?_
    · cases k with
      | inl i => rfl
      | inr j =>
        have n3 : j ≠ 3 := fun e => hk (.inl (by rw [e]))
        have n4 : j ≠ 4 := fun e => hk (.inr (.inl (by rw [e])))
        have n5 : j ≠ 5 := fun e => hk (.inr (.inr (by rw [e])))
        match j, n3, n4, n5 with
        | 0, _, _, _ => rfl
        | 1, _, _, _ => rfl
        | 2, _, _, _ => rfl
        | 3, h, _, _ => exact absurd rfl h
        | 4, _, h, _ => exact absurd rfl h
        | 5, _, _, h => exact absurd rfl h
        | j + 6, _, _, _ => simp only [lay, (hlt (j + 6) (by omega)).1, (hlt (j + 6) (by omega)).2]; rfl
    · rintro k (rfl | rfl | rfl) b hbk
      · exact (hS b (d1 b hbk).1).1
      · exact (hS b (d2 b hbk).1).1
      · exact (hS b (d3 b ((hz2 b).1 hbk).1)).1
    · have x1 : ∀ b, (Value.slice a1 p.vars.length k1).ownBlock = some b → ¬ (Value.slice a2 p.arrays.length k2).ownBlock = some b := fun b hb => (d1 b hb).2.2
      rintro j k b hjk (rfl | rfl | rfl) (rfl | rfl | rfl) hj hk
      · exact hjk rfl
      · exact (d1 b hj).2.2 hk
      · exact (d1 b hj).2.1 ((hz2 b).1 hk).1
      · exact (d1 b hk).2.2 hj
      · exact hjk rfl
      · exact (d2 b hj).2 ((hz2 b).1 hk).1
      · exact (d1 b hk).2.1 ((hz2 b).1 hj).1
      · exact (d2 b hk).2 ((hz2 b).1 hj).1
      · exact hjk rfl
    · rintro k (rfl | rfl | rfl)
      · exact row_holds h1
      · exact row_holds h2
      · have e : blksOf z = fun b => S3 b ∧ b < w'.heap.size := funext fun b => propext (hz2 b)
        show (Rs.own (blksOf z) fun w => TreeO w (blksOf z) (.stmts p.body) (valOf z)).holds _ _
        rw [hz1, e]
        exact ⟨fun _ _ h hs => h.same hs, (TreeO.block.2 h3).cut, fun b hb => hb.2⟩

theorem c_markProgram (p : LProg) (k : Nat) (hb : k + mkPN p ≤ 9000000000000000000) : Ctr.ok Try.prog ⟨25, [oA 0, iA k], oP p, oP (mkP p k), iA (k + mkPN p)⟩ := by
  intro ι φ ψ w0 w F ρ M
  have r1 := row_of (M.holds (.inr 0))
  have r2 := row_of (M.holds (.inr 1))
  have r3 := (M.holds (.inr 2)).2.1
  have hO : ProgO w (.agg #[ρ 0, ρ 1, valOf (ρ 2)]) p (fun b => (ρ 0).ownBlock = some b ∨ (ρ 1).ownBlock = some b ∨ blksOf (ρ 2) b) :=
    ⟨_, _, _, blksOf (ρ 2), rfl, r1, r2, TreeO.block.1 r3,
      fun g hg => ⟨.inl hg, fun h => M.dis (.inr 0) (.inr 2) g (by simp) hg h, fun h => M.dis (.inr 0) (.inr 1) g (by simp) hg h⟩,
      fun g hg => ⟨.inr (.inl hg), fun h => M.dis (.inr 1) (.inr 2) g (by simp) hg h⟩, fun b hb => .inr (.inr hb)⟩
  refine (markProgram_any _ p k w _ hO hb).mono ?_
  rintro e w' ⟨rfl, hO', hk⟩
  obtain ⟨v1, v2, v3, S3, hv, h1, h2, h3, d1, d2, d3⟩ := hO'
  cases hv
  have hS3 : ∀ b, S3 b → blksOf (ρ 2) b := fun b hb => by
    rcases d3 b hb with h | h | h
    · exact ((d1 b h).2.1 hb).elim
    · exact ((d2 b h).2 hb).elim
    · exact h
  refine ⟨ρ, fun _ _ => rfl, rfl, M.turns (fun k b => ?_) (fun k => k = .inr 0 ∨ k = .inr 1 ∨ k = .inr 2) (fun k hk => ?_) ?_ ?_⟩
  · cases k with
    | inl i => rfl
    | inr j =>
      match j with
      | 0 => exact Iff.rfl
      | 1 => exact Iff.rfl
      | 2 => exact Iff.rfl
      | j + 3 => simp only [lay]; rw [lst_out (show (oP (mkP p _)).length ≤ j + 3 by simp), lst_out (show (oP p).length ≤ j + 3 by simp)]
  · cases k with
    | inl i => rfl
    | inr j =>
      match j, hk with
      | 0, h => exact absurd (.inl rfl) h
      | 1, h => exact absurd (.inr (.inl rfl)) h
      | 2, h => exact absurd (.inr (.inr rfl)) h
      | j + 3, _ => simp only [lay]; rw [lst_out (show (oP (mkP p _)).length ≤ j + 3 by simp), lst_out (show (oP p).length ≤ j + 3 by simp)]
  · refine ⟨hk.os, hk.tape, hk.output, hk.size, fun b hb hn => hk.block b hb ?_⟩
    rintro (h | h | h)
    · exact hn ⟨_, .inl rfl, h⟩
    · exact hn ⟨_, .inr (.inl rfl), h⟩
    · exact hn ⟨_, .inr (.inr rfl), h⟩
  · rintro k (rfl | rfl | rfl)
    · exact row_holds h1
    · exact row_holds h2
    · exact ⟨fun _ _ h hs => h.same hs, TreeO.block.2 (h3.mono hS3), fun b hb => Nat.lt_of_lt_of_le (M.lt (i := .inr 2) hb) hk.size⟩

theorem c_heldProgram (p : LProg) (k : Nat) (hb : k + mkPN p ≤ 9000000000000000000) : Ctr.ok Try.prog (fnC 30 [pA 0, iA k] (pS (mkP p k)) (iA (k + mkPN p))) :=
  old_ok fun φ w ρ h => heldProgram_any φ _ p k w ⟨ρ 0, ρ 1, ρ 2, rfl, h 0 _ rfl, h 1 _ rfl, h 2 _ rfl⟩ hb

end Go.Proofs.Ytgpkdfefgcpbiaa

namespace Go.Proofs.Ytgpkdfefgcpbiaa
set_option linter.unusedVariables false
set_option linter.unusedSimpArgs false
open Go Go.RowKit

set_option maxRecDepth 100000 in
theorem clone_ints (v : Value) (t : List Int) (w : World) (h : Row w v t.length 1 (ints t)) (hb : t.length ≤ 1000000000000) :
    Calls Try.prog 109 #[v] w fun e w' => ∃ u, e = .returned u ∧ Own w' w.heap.size w'.heap.size 3 1 u t.length (ints t) ∧ Below w.heap.size w w' := by
  obtain ⟨a, cap, rfl, hc1, hc2, hc3, -⟩ := h.open
  have hnil := fun w => Lib.run_eql_slice_nil (P := Try.prog) w 22 3 a t.length cap 0 0 Try.underlying22
  rcases a with _ | a
  · have hn : t.length = 0 := by
      rcases Nat.eq_zero_or_pos t.length with h0 | h0
      · exact h0
      · obtain ⟨_, a, c, he, _, _, hx⟩ := h
        cases he
        obtain ⟨_, _, he, _⟩ := hx h0
        cases he
    have ht : t = [] := List.eq_nil_of_length_eq_zero hn
    subst ht
    simp only [List.length_nil, Option.isNone_none] at hnil
    go_enter Try.func109, Try.ntmps109
    go_wp2_with fail
    go_ret
    exact ⟨_, rfl, ⟨World.ownsRow_nil _ _ _ _, fun g hg => by cases hg⟩, Below.refl _ _⟩
  · go_enter Try.func109, Try.ntmps109
    simp only [Option.isNone_some] at hnil
    have ba := (Below.refl w.heap.size w).alloc (Nat.le_refl _) (.cells #[] 3)
    go_wp2_with (at_builtin; refine wpList_app rfl _ _ rfl Try.underlying22 infoI rfl (by omega) rfl (own_built w #[] 0 1 _ rfl rfl (by omega)).1 rfl (h.below ba) ints_one (by omega) (by omega) (by simp) ?_; rintro a4 q4 w4 o4 b4 - -)
    go_ret
    refine ⟨_, rfl, Own.mk' (by simpa using o4), ba.trans b4⟩

theorem c_cloneInts (l : List Int) (hb : l.length ≤ 1000000000000) : Ctr.ok Try.prog ⟨109, [.ref 0], [.dat (.ints l)], [.dat (.ints l), .row 3 (.ints l)], .ref 1⟩ := by
  intro ι φ ψ w0 w F ρ M
  have hr := M.datAt (id := 0) (d := .ints l) rfl
  refine (clone_ints (ρ 0) l w (RowF.row hr) hb).mono ?_
  rintro e w' ⟨u, rfl, ⟨ho, hg⟩, hbl⟩
  refine ⟨fun i => if i = 1 then u else ρ i, fun i hi => if_neg (show ¬ i = 1 by have : i < 1 := hi; omega), by simp [AV.val], ?_⟩
  refine M.grow hbl (fun k => k = .inr 1) (fun k hk => ?_) ?_ ?_ ?_
  · cases k with
    | inl i => rfl
    | inr j =>
      match j, hk with
      | 0, _ => rfl
      | 1, h => exact absurd rfl h
      | j + 2, _ => rfl
  · rintro k rfl b hb; exact (World.ownsRow.lt ho b hb).1
  · rintro j k b hjk rfl rfl; exact absurd rfl hjk
  · rintro k rfl; exact row_holds (owns_base ho (Nat.zero_le _))
end Go.Proofs.Ytgpkdfefgcpbiaa

namespace Go.Proofs.Ytgpkdfefgcpbiaa
set_option linter.unusedVariables false
set_option linter.unusedSimpArgs false
open Go Go.RowKit

set_option maxRecDepth 100000 in
theorem c_isNone (e : LExpr) : Ctr.ok Try.prog ⟨203, [.agg [.v (.int .i64 e.kind), .v (.int .i64 e.value), .ref 0]], [.dat (.exprs e.kids)], [.dat (.exprs e.kids)], .v (.bool (noneB e))⟩ := by
  refine rx_enter 17 Try.func203 (by rfl) (by kernel_rfl) (by kernel_rfl) ?_
  intro ι φ ψ w0 w F ρ0 ρ a G
  replace G := Gam.at G [dE e.kids] [(0, eA e 0)]
  refine wp_seq ?_
  refine rs0 G [0, 1] [dE e.kids, .box (eL e 0)] [(1, .ptr 1 0), (2, bA false)] ?_
  clear G; intro ρ a w G
  refine th_n ?_
  refine wp_seq ?_
  cases h0 : (e.kind == (0 : Int))
  ·
   have q0 : ¬ (e.kind = 0) := ne_of_beq_false h0
   refine rs1 (dk := dkP) G ⟨[], [(e.kind == (0 : Int), false), (false, false)], [(4, 0), (5, 0), (6, 0), (1007, 0), (9, 1), (10, 1), (11, 1), (12, 1), (1013, 1)]⟩ calls_nil ⟨(by assumption), (by kernel_rfl), trivial⟩ [0] [dE e.kids] [(2, bA false)] [] trivial ?_
   clear G; intro ρ a w G
   refine th_n ?_
   refine wp_ret ?_
   exact rx_ret (v := bA false) G [0] (by kernel_rfl) (by kernel_rfl) (by kernel_rfl) (by have e1 : (noneB e : Bool) = (false) := (by rw [Bool.eq_iff_iff]; simp [noneB, h0, q0]; done); first | (rw [e1]; done) | (rw [e1]; rfl) | (simp only [e1]; done) | (simp only [e1]; rfl))
  ·
   have q0 : e.kind = 0 := eq_of_beq h0
   cases h1 : (e.value == (0 : Int))
   ·
    have q1 : ¬ (e.value = 0) := ne_of_beq_false h1
    refine rs1 (dk := dkP) G ⟨[], [(e.kind == (0 : Int), true), (e.value == (0 : Int), false)], [(4, 0), (5, 0), (6, 0), (1007, 0), (9, 1), (10, 1), (11, 1), (12, 1), (1013, 1)]⟩ calls_nil ⟨(by assumption), (by assumption), trivial⟩ [0] [dE e.kids] [(2, bA false)] [] trivial ?_
    clear G; intro ρ a w G
    refine th_n ?_
    refine wp_ret ?_
    exact rx_ret (v := bA false) G [0] (by kernel_rfl) (by kernel_rfl) (by kernel_rfl) (by have e1 : (noneB e : Bool) = (false) := (by rw [Bool.eq_iff_iff]; simp [noneB, h0, q0, h1, q1]; done); first | (rw [e1]; done) | (rw [e1]; rfl) | (simp only [e1]; done) | (simp only [e1]; rfl))
   ·
    have q1 : e.value = 0 := eq_of_beq h1
    refine rs1 (dk := dkP) G ⟨[], [(e.kind == (0 : Int), true), (e.value == (0 : Int), true)], [(4, 0), (5, 0), (6, 0), (1007, 0), (9, 1), (10, 1), (11, 1), (12, 1), (1013, 1)]⟩ calls_nil ⟨(by assumption), (by assumption), trivial⟩ [0] [dE e.kids] [(2, bA ((↑e.kids.length : Int) == 0))] [] trivial ?_
    clear G; intro ρ a w G
    refine th_n ?_
    refine wp_ret ?_
    exact rx_ret (v := bA ((↑e.kids.length : Int) == 0)) G [0] (by kernel_rfl) (by kernel_rfl) (by kernel_rfl) (by have e1 : (noneB e : Bool) = ((↑e.kids.length : Int) == 0) := (by rw [Bool.eq_iff_iff]; simp [noneB, h0, q0, h1, q1]; done); first | (rw [e1]; done) | (rw [e1]; rfl) | (simp only [e1]; done) | (simp only [e1]; rfl))

end Go.Proofs.Ytgpkdfefgcpbiaa

namespace Go.Proofs.Ytgpkdfefgcpbiaa
set_option linter.unusedVariables false
set_option linter.unusedSimpArgs false
open Go Go.RowKit

section
variable {nv na d : Nat} {e : LExpr}
end

end Go.Proofs.Ytgpkdfefgcpbiaa

namespace Go.Proofs.Ytgpkdfefgcpbiaa
set_option linter.unusedVariables false
set_option linter.unusedSimpArgs false
open Go Go.RowKit

/-- Statements counted down to a depth. -/
def sizeD : Nat → List LStmt → Nat
  | 0, ss => ss.length
  | d + 1, ss => ss.length + (ss.map fun s => sizeD d s.body + sizeD d s.els).sum
def szP (d : Nat) (ss : List LStmt) (k : Nat) : Nat := ss.length + ((ss.take k).map fun s => sizeD d s.body + sizeD d s.els).sum
theorem szP_all (d : Nat) (ss : List LStmt) {k : Nat} (h : ss.length ≤ k) : szP d ss k = sizeD (d + 1) ss := by unfold szP; rw [List.take_of_length_le h, sizeD]
theorem szP_succ {d : Nat} {ss : List LStmt} {k : Nat} (h : k < ss.length) : szP d ss (k + 1) = szP d ss k + (sizeD d (ss.getD k default).body + sizeD d (ss.getD k default).els) := by
  unfold szP
  rw [p_take_succ ss k h, List.map_append, List.sum_append, getD_lt h]
  simp; omega
theorem sizeD_le : ∀ (d : Nat) (ss : List LStmt), sizeD d ss ≤ szSs ss := by
  intro d
  induction d with
  | zero => intro ss; exact szSs_len ss
  | succ d ih =>
    intro ss
    induction ss with
    | nil => simp [sizeD]
    | cons s r ihr =>
      have h1 := ih s.body
      have h2 := ih s.els
      have h3 := szS_parts s
      simp only [sizeD, List.map_cons, List.sum_cons, List.length_cons, szSs] at ihr ⊢
      have h4 : szSs s.body + szSs s.els ≤ szS s := by
        rcases s with ⟨_, _, _, _, _, b, e⟩
        simp only [szS, LStmt.body, LStmt.els]; omega
      omega
theorem szP_le {d : Nat} {ss : List LStmt} {k : Nat} : szP d ss k ≤ szSs ss := by
  refine Nat.le_trans ?_ (sizeD_le (d + 1) ss)
  unfold szP
  rw [sizeD]
  have : ∀ (l : List Nat) (k : Nat), (l.take k).sum ≤ l.sum := fun l k => by
    have := List.sum_append (l₁ := l.take k) (l₂ := l.drop k)
    rw [List.take_append_drop] at this; omega
  have h := this (ss.map fun s => sizeD d s.body + sizeD d s.els) k
  rw [← List.map_take] at h
  omega
theorem body_le {ss : List LStmt} {k B : Nat} (h : szSs ss ≤ B) (hk : k < ss.length) : szSs (ss.getD k default).body ≤ B ∧ szSs (ss.getD k default).els ≤ B := by
  rw [getD_lt hk]
  have h1 := szS_mem (List.getElem_mem hk)
  have h2 := szS_parts ss[k]
  omega

set_option maxRecDepth 100000 in
theorem c_l2Size0 (ss : List LStmt) (n : Int) (hn : n = 1) (hb : szSs ss ≤ 1048576) : Ctr.ok Try.prog (fnC 145 [.ref 0, iA n] [.dat (.stmts ss)] (iA (sizeD 0 ss : Nat))) := by
  have h100 : decide (n > 1) = false := by simp; omega
  refine rx_enter 39 Try.func145 (by rfl) (by kernel_rfl) (by kernel_rfl) ?_
  intro ι φ ψ w0 w F ρ0 ρ a G
  replace G := Gam.at G [dT ss] [(0, .ref 0), (1, iA n)]
  refine wp_seq ?_
  refine rs0s G [(0, .ref 0), (1, iA n), (4, iA 0)] ?_
  clear G; intro ρ a w G
  refine th_n ?_
  refine wp_seq ?_
  refine rs0s G [(0, .ref 0), (1, iA n), (4, iA 0), (5, iA (↑ss.length : Int))] ?_
  clear G; intro ρ a w G
  refine th_n ?_
  refine wp_seq ?_
  refine wp_seq ?_
  refine rs0s G [(0, .ref 0), (1, iA n), (4, iA 0), (5, iA (↑ss.length : Int)), (6, iA 0)] ?_
  clear G; intro ρ a w G
  refine th_n ?_
  refine wp_block ?_
  refine rx_for (κ := Nat) (fun k => k = 0) (fun k => 0) (fun k => [dT ss]) (fun k => [(0, .ref 0), (1, iA n), (4, iA 0), (5, iA (ss.length : Nat)), (6, iA k)]) (0) (by kernel_rfl) (Gam.at G _ _) ?_
  clear G
  intro k ρ a w hp G
  replace G := Gam.at G [dT ss] [(0, .ref 0), (1, iA n), (4, iA 0), (5, iA (↑ss.length : Int)), (6, iA (↑k : Int))]
  refine wp_seq ?_
  refine wp_seq ?_
  cases h0 : (decide ((↑k : Int) < (↑ss.length : Int)))
  ·
   have q0 : ¬ ((↑k : Int) < (↑ss.length : Int)) := of_decide_eq_false h0
   refine rs1s G ⟨[], [(decide ((↑k : Int) < (↑ss.length : Int)), false)], [(5, 0), (6, 0), (1007, 0)]⟩ calls_nil ⟨(by assumption), trivial⟩ [(0, .ref 0), (1, iA n), (4, iA 0), (5, iA (↑ss.length : Int)), (6, iA (↑k : Int)), (16, bA false)] [] trivial ?_
   clear G; intro ρ a w G
   refine th_n ?_
   refine rF G (false) (by kernel_rfl) ?_
   refine wp_exit ?_
   refine th_e ?_
   refine th_e ?_
   refine bl_hit ?_
   refine th_n ?_
   refine wp_seq ?_
   refine rs0s G [(4, iA (↑ss.length : Int))] ?_
   clear G; intro ρ a w G
   refine th_n ?_
   refine wp_ret ?_
   exact rx_ret (v := iA (↑ss.length : Int)) G [0] (by kernel_rfl) (by kernel_rfl) (by kernel_rfl) (by kernel_rfl)
  ·
   have q0 : (↑k : Int) < (↑ss.length : Int) := of_decide_eq_true h0
   refine rs1s G ⟨[], [(decide ((↑k : Int) < (↑ss.length : Int)), true)], [(5, 0), (6, 0), (1007, 0)]⟩ calls_nil ⟨(by assumption), trivial⟩ [(0, .ref 0), (1, iA n), (4, iA 0), (5, iA (↑ss.length : Int)), (6, iA (↑k : Int)), (16, bA (decide (n > 1)))] [] trivial ?_
   clear G; intro ρ a w G
   refine th_n ?_
   refine rF G (decide (n > (1 : Int))) (by assumption) ?_
   refine wp_exit ?_
   refine th_e ?_
   refine th_e ?_
   refine bl_hit ?_
   refine th_n ?_
   refine wp_seq ?_
   refine rs0s G [(4, iA (↑ss.length : Int))] ?_
   clear G; intro ρ a w G
   refine th_n ?_
   refine wp_ret ?_
   exact rx_ret (v := iA (↑ss.length : Int)) G [0] (by kernel_rfl) (by kernel_rfl) (by kernel_rfl) (by kernel_rfl)

set_option maxRecDepth 100000 in
theorem c_l2SizeS (d : Nat) (hd : d ≤ 5) (ih : ∀ (ss : List LStmt) (n : Int), n = (d + 1 : Nat) → szSs ss ≤ 1048576 → Ctr.ok Try.prog (fnC 145 [.ref 0, iA n] [.dat (.stmts ss)] (iA (sizeD d ss : Nat))))
    (ss : List LStmt) (n : Int) (hn : n = (d + 2 : Nat)) (hb : szSs ss ≤ 1048576) : Ctr.ok Try.prog (fnC 145 [.ref 0, iA n] [.dat (.stmts ss)] (iA (sizeD (d + 1) ss : Nat))) := by
  have h100 : decide (n > 1) = true := by simp; omega
  refine rx_enter 39 Try.func145 (by rfl) (by kernel_rfl) (by kernel_rfl) ?_
  intro ι φ ψ w0 w F ρ0 ρ a G
  replace G := Gam.at G [dT ss] [(0, .ref 0), (1, iA n)]
  refine wp_seq ?_
  refine rs0s G [(0, .ref 0), (1, iA n), (4, iA 0)] ?_
  clear G; intro ρ a w G
  refine th_n ?_
  refine wp_seq ?_
  refine rs0s G [(0, .ref 0), (1, iA n), (4, iA 0), (5, iA (↑ss.length : Int))] ?_
  clear G; intro ρ a w G
  refine th_n ?_
  refine wp_seq ?_
  refine wp_seq ?_
  refine rs0s G [(0, .ref 0), (1, iA n), (4, iA 0), (5, iA (↑ss.length : Int)), (6, iA 0)] ?_
  clear G; intro ρ a w G
  refine th_n ?_
  refine wp_block ?_
  refine rx_for (κ := Nat) (fun k => k ≤ ss.length) (fun k => ss.length - k) (fun k => [dT ss]) (fun k => [(0, .ref 0), (1, iA n), (4, iA 0), (5, iA (szP d ss k : Nat)), (6, iA k)]) (0) (by simp [h100]) (Gam.at G _ _) ?_
  clear G
  intro k ρ a w hp G
  replace G := Gam.at G [dT ss] [(0, .ref 0), (1, iA n), (4, iA 0), (5, iA (↑(szP d ss k) : Int)), (6, iA (↑k : Int))]
  have hlen := szSs_len ss
  refine wp_seq ?_
  refine wp_seq ?_
  cases h0 : (decide ((↑k : Int) < (↑ss.length : Int)))
  ·
   have q0 : ¬ ((↑k : Int) < (↑ss.length : Int)) := of_decide_eq_false h0
   refine rs1s G ⟨[], [(decide ((↑k : Int) < (↑ss.length : Int)), false)], [(5, 0), (6, 0), (1007, 0)]⟩ calls_nil ⟨(by assumption), trivial⟩ [(0, .ref 0), (1, iA n), (4, iA 0), (5, iA (↑(szP d ss k) : Int)), (6, iA (↑k : Int)), (16, bA false)] [] trivial ?_
   clear G; intro ρ a w G
   refine th_n ?_
   refine rF G (false) (by kernel_rfl) ?_
   refine wp_exit ?_
   refine th_e ?_
   refine th_e ?_
   refine bl_hit ?_
   refine th_n ?_
   refine wp_seq ?_
   refine rs0s G [(4, iA (↑(szP d ss k) : Int))] ?_
   clear G; intro ρ a w G
   refine th_n ?_
   refine wp_ret ?_
   exact rx_ret (v := iA (↑(szP d ss k) : Int)) G [0] (by kernel_rfl) (by kernel_rfl) (by kernel_rfl) (by have e1 : ((↑(sizeD (d + 1) ss) : Int) : Int) = ((↑(szP d ss k) : Int)) := (by have h1 := szP_all d ss (k := k) (by omega); omega); first | (rw [e1]; done) | (rw [e1]; rfl) | (simp only [e1]; done) | (simp only [e1]; rfl))
  ·
   have q0 : (↑k : Int) < (↑ss.length : Int) := of_decide_eq_true h0
   refine rs1s G ⟨[], [(decide ((↑k : Int) < (↑ss.length : Int)), true)], [(5, 0), (6, 0), (1007, 0)]⟩ calls_nil ⟨(by assumption), trivial⟩ [(0, .ref 0), (1, iA n), (4, iA 0), (5, iA (↑(szP d ss k) : Int)), (6, iA (↑k : Int)), (16, bA (decide (n > 1)))] [] trivial ?_
   clear G; intro ρ a w G
   refine th_n ?_
   refine rT G (decide (n > (1 : Int))) (by assumption) ?_
   refine wp_skip ?_
   refine th_n ?_
   refine wp_seq ?_
   refine wp_block ?_
   refine rd1s G ⟨[(8, _, [41]), (17, _, [113])], [], []⟩ (calls_cons (ih ((ss.getD k default).body) (n - 1) (by have h1 := szP_succ (d := d) (ss := ss) (k := k) (by omega); have h2 := szP_le (d := d) (ss := ss) (k := k + 1); omega) (by exact (body_le hb (by omega)).1)) (calls_cons (ih ((ss.getD k default).els) (n - 1) (by have h1 := szP_succ (d := d) (ss := ss) (k := k) (by omega); have h2 := szP_le (d := d) (ss := ss) (k := k + 1); omega) (by exact (body_le hb (by omega)).2)) calls_nil)) trivial [0, 0, 0, 6, 14, 30, 0, 64, 254, 511, 0, 0, 3072, 7168, 15360, 0, 32768, 130558, 262143, 524287] [(0, .ref 0), (1, iA n), (4, iA 0), (5, iA ((↑(szP d ss k) : Int) + (↑(sizeD d (ss.getD k default).body) : Int) + (↑(sizeD d (ss.getD k default).els) : Int))), (6, iA (↑k : Int))] [(0 : Int) ≤ (↑k : Int), (↑k : Int) < (↑ss.length : Int), k < ss.length, IntKind.i64.wrap (n - (1 : Int)) = n - (1 : Int), IntKind.i64.wrap ((↑(szP d ss k) : Int) + (↑(sizeD d (ss.getD k default).body) : Int)) = (↑(szP d ss k) : Int) + (↑(sizeD d (ss.getD k default).body) : Int), (0 : Int) ≤ (↑k : Int), (↑k : Int) < (↑ss.length : Int), k < ss.length, IntKind.i64.wrap (n - (1 : Int)) = n - (1 : Int), IntKind.i64.wrap ((↑(szP d ss k) : Int) + (↑(sizeD d (ss.getD k default).body) : Int) + (↑(sizeD d (ss.getD k default).els) : Int)) = (↑(szP d ss k) : Int) + (↑(sizeD d (ss.getD k default).body) : Int) + (↑(sizeD d (ss.getD k default).els) : Int)] ⟨(by simp [h100, h0]), (by assumption), (by have h1 := szP_succ (d := d) (ss := ss) (k := k) (by omega); have h2 := szP_le (d := d) (ss := ss) (k := k + 1); omega), (by have h1 := szP_succ (d := d) (ss := ss) (k := k) (by omega); have h2 := szP_le (d := d) (ss := ss) (k := k + 1); exact w64 (by omega) (by omega)), (by have h1 := szP_succ (d := d) (ss := ss) (k := k) (by omega); have h2 := szP_le (d := d) (ss := ss) (k := k + 1); exact w64 (by omega) (by omega)), (by simp [h100, h0]), (by assumption), (by have h1 := szP_succ (d := d) (ss := ss) (k := k) (by omega); have h2 := szP_le (d := d) (ss := ss) (k := k + 1); omega), (by have h1 := szP_succ (d := d) (ss := ss) (k := k) (by omega); have h2 := szP_le (d := d) (ss := ss) (k := k + 1); exact w64 (by omega) (by omega)), (by have h1 := szP_succ (d := d) (ss := ss) (k := k) (by omega); have h2 := szP_le (d := d) (ss := ss) (k := k + 1); exact w64 (by omega) (by omega)), trivial⟩ ?_
   clear G; intro ρ a w G
   refine bl_n ?_
   refine th_n ?_
   refine rs1s G ⟨[], [], []⟩ calls_nil trivial [(0, .ref 0), (1, iA n), (4, iA 0), (5, iA ((↑(szP d ss k) : Int) + (↑(sizeD d (ss.getD k default).body) : Int) + (↑(sizeD d (ss.getD k default).els) : Int))), (6, iA ((↑k : Int) + 1))] [IntKind.i64.wrap ((↑k : Int) + (1 : Int)) = (↑k : Int) + (1 : Int)] ⟨(by have h1 := szP_succ (d := d) (ss := ss) (k := k) (by omega); have h2 := szP_le (d := d) (ss := ss) (k := k + 1); exact w64 (by omega) (by omega)), trivial⟩ ?_
   clear G; intro ρ a w G
   refine th_n ?_
   exact rx_next G (k + 1) (by have h1 := szP_succ (d := d) (ss := ss) (k := k) (by omega); have h2 := szP_le (d := d) (ss := ss) (k := k + 1); omega) (by have h1 := szP_succ (d := d) (ss := ss) (k := k) (by omega); have h2 := szP_le (d := d) (ss := ss) (k := k + 1); omega) [0] [dT ss] [(0, .ref 0), (1, iA n), (4, iA 0), (5, iA (↑(szP d ss (k + 1)) : Int)), (6, iA (↑(k + 1) : Int))] (by kernel_rfl) (by kernel_rfl) (by kernel_rfl) (by kernel_rfl) (by have e1 : ((↑(szP d ss (k + 1)) : Int) : Int) = ((↑(szP d ss k) : Int) + (↑(sizeD d (ss.getD k default).body) : Int) + (↑(sizeD d (ss.getD k default).els) : Int)) := (by have h1 := szP_succ (d := d) (ss := ss) (k := k) (by omega); have h2 := szP_le (d := d) (ss := ss) (k := k + 1); omega); first | (rw [e1]; done) | (rw [e1]; rfl) | (simp only [e1]; done) | (simp only [e1]; rfl))

end Go.Proofs.Ytgpkdfefgcpbiaa

namespace Go.Proofs.Ytgpkdfefgcpbiaa
set_option linter.unusedVariables false
set_option linter.unusedSimpArgs false
open Go Go.RowKit

theorem c_l2SizeD : ∀ d, d ≤ 5 → ∀ (ss : List LStmt) (n : Int), n = (d + 1 : Nat) → szSs ss ≤ 1048576 → Ctr.ok Try.prog (fnC 145 [.ref 0, iA n] [.dat (.stmts ss)] (iA (sizeD d ss : Nat))) := by
  intro d
  induction d with
  | zero => intro _ ss n hn hb; exact c_l2Size0 ss n (by omega) hb
  | succ d ih => intro hd ss n hn hb; exact c_l2SizeS d (by omega) (fun ss n hn hb => ih (by omega) ss n hn hb) ss n (by omega) hb
theorem c_l2Size (ss : List LStmt) (n : Int) (hn : n = 5) (hb : szSs ss ≤ 1048576) : Ctr.ok Try.prog (fnC 145 [.ref 0, iA n] [.dat (.stmts ss)] (iA (sizeD 4 ss : Nat))) :=
  c_l2SizeD 4 (by omega) ss n (by omega) hb
theorem sizeD_eq {nv na : Nat} : ∀ (d : Nat) (ss : List LStmt), (∀ s ∈ ss, stmtB nv na (d + 1) s = true) → sizeD d ss = nSs ss := by
  intro d
  induction d with
  | zero => intro ss h; rw [flat_nSs h]; rfl
  | succ d ih =>
    intro ss
    induction ss with
    | nil => intro _; rfl
    | cons s r ihr =>
      intro h
      have h1 := stmtB_blocks (h s List.mem_cons_self)
      have h2 := ih s.body fun x hx => List.all_eq_true.1 h1.1 x hx
      have h3 := ih s.els fun x hx => List.all_eq_true.1 h1.2 x hx
      have h4 := ihr fun x hx => h x (List.mem_cons_of_mem _ hx)
      rw [nSs, nS_def, ← h2, ← h3, ← h4]
      simp [sizeD]; omega
theorem progB_heads {p : LProg} (h : headsB p.vars p.arrays = false) : progB p = false := by simp [progB, h]
theorem progB_block {p : LProg} (h : blockB p.vars.length p.arrays.length 5 p.body = false) : progB p = false := by simp [progB, h]
theorem progB_size {p : LProg} (h1 : headsB p.vars p.arrays = true) (h2 : blockB p.vars.length p.arrays.length 5 p.body = true) : progB p = decide ((sizeD 4 p.body : Int) ≤ 60) := by
  have h3 := sizeD_eq (nv := p.vars.length) (na := p.arrays.length) 4 p.body (fun x hx => List.all_eq_true.1 h2 x hx)
  rw [progB, h1, h2, h3]
  simp
  exact ⟨fun h => by omega, fun h => by omega⟩

theorem c_l2Body (p : LProg) (n : Int) (hn : n = 5) : Ctr.ok Try.prog (fnC 144 [pA 0, .ref 2, iA n] (pS p) (bA (blockB p.vars.length p.arrays.length 5 p.body))) :=
  Ctr.dup (S := pS p) (S' := pS p) (d := .stmts p.body) (i := 2) (c_l2Block p p.body n hn) rfl rfl rfl (fun ρ h => by simp only [AV.vals, AV.val]; rw [show ρ 3 = ρ 2 from h]) rfl

set_option maxRecDepth 100000 in
theorem c_ProgramValid (p : LProg) (hb : szSs p.body ≤ 1048576) : Ctr.ok Try.prog (fnC 82 [pA 0] (pS p) (bA (progB p))) := by
  refine rx_enter 17 Try.func82 (by rfl) (by kernel_rfl) (by kernel_rfl) ?_
  intro ι φ ψ w0 w F ρ0 ρ a G
  replace G := Gam.at G [dI p.vars, dI p.arrays, dT p.body] [(0, pA 0)]
  refine wp_seq ?_
  refine rs0 G [0, 1, 2, 3] [dI p.vars, dI p.arrays, dT p.body, .box (pL 0)] [(1, .ptr 3 0), (2, bA false)] ?_
  clear G; intro ρ a w G
  refine th_n ?_
  refine wp_seq ?_
  cases h0 : (headsB p.vars p.arrays)
  ·
   refine rs1 (dk := dkP) G ⟨[(1, _, [0, 1, 2])], [(headsB p.vars p.arrays, false), (false, false)], [(3, 0), (4, 0), (5, 0), (6, 0), (1007, 0), (9, 1), (10, 1), (11, 1), (12, 1), (1013, 1)]⟩ (calls_cons (c_l2Heads (p)) calls_nil) ⟨(by assumption), (by kernel_rfl), trivial⟩ [0, 1, 2] [dI p.vars, dI p.arrays, dT p.body] [(2, bA false)] [] trivial ?_
   clear G; intro ρ a w G
   refine th_n ?_
   refine wp_ret ?_
   exact rx_ret (v := bA false) G [0, 1, 2] (by kernel_rfl) (by kernel_rfl) (by kernel_rfl) (by have e1 : (progB p : Bool) = (false) := (by exact progB_heads (by assumption)); first | (rw [e1]; done) | (rw [e1]; rfl) | (simp only [e1]; done) | (simp only [e1]; rfl))
  ·
   cases h1 : (blockB p.vars.length p.arrays.length (5 : Nat) p.body)
   ·
    refine rs1 (dk := dkP) G ⟨[(1, _, [0, 1, 2]), (6, _, [0, 1, 2])], [(headsB p.vars p.arrays, true), (blockB p.vars.length p.arrays.length (5 : Nat) p.body, false)], [(3, 0), (4, 0), (5, 0), (6, 0), (1007, 0), (9, 1), (10, 1), (11, 1), (12, 1), (1013, 1)]⟩ (calls_cons (c_l2Heads (p)) (calls_cons (c_l2Body (p) (5) (by kernel_rfl)) calls_nil)) ⟨(by assumption), (by assumption), trivial⟩ [0, 1, 2] [dI p.vars, dI p.arrays, dT p.body] [(2, bA false)] [] trivial ?_
    clear G; intro ρ a w G
    refine th_n ?_
    refine wp_ret ?_
    exact rx_ret (v := bA false) G [0, 1, 2] (by kernel_rfl) (by kernel_rfl) (by kernel_rfl) (by have e1 : (progB p : Bool) = (false) := (by exact progB_block (by assumption)); first | (rw [e1]; done) | (rw [e1]; rfl) | (simp only [e1]; done) | (simp only [e1]; rfl))
   ·
    refine rs1 (dk := dkP) G ⟨[(1, _, [0, 1, 2]), (6, _, [0, 1, 2]), (11, _, [2])], [(headsB p.vars p.arrays, true), (blockB p.vars.length p.arrays.length (5 : Nat) p.body, true)], [(3, 0), (4, 0), (5, 0), (6, 0), (1007, 0), (9, 1), (10, 1), (11, 1), (12, 1), (1013, 1)]⟩ (calls_cons (c_l2Heads (p)) (calls_cons (c_l2Body (p) (5) (by kernel_rfl)) (calls_cons (c_l2Size (p.body) (5) (by kernel_rfl) (by assumption)) calls_nil))) ⟨(by assumption), (by assumption), trivial⟩ [0, 1, 2] [dI p.vars, dI p.arrays, dT p.body] [(2, bA (decide ((↑(sizeD 4 p.body) : Int) ≤ 60)))] [] trivial ?_
    clear G; intro ρ a w G
    refine th_n ?_
    refine wp_ret ?_
    exact rx_ret (v := bA (decide ((↑(sizeD 4 p.body) : Int) ≤ 60))) G [0, 1, 2] (by kernel_rfl) (by kernel_rfl) (by kernel_rfl) (by have e1 : (progB p : Bool) = (decide ((↑(sizeD 4 p.body) : Int) ≤ 60)) := (by exact progB_size (by assumption) (by assumption)); first | (rw [e1]; done) | (rw [e1]; rfl) | (simp only [e1]; done) | (simp only [e1]; rfl))

/-- What a statement itself must be. -/
def headB (nv na : Nat) (s : LStmt) : Bool := partsB s &&
    (if s.kind = 1 ∨ s.kind = 5 then decide (0 ≤ s.target) && decide (s.target < nv) && rightB nv na s.value
     else if s.kind = 2 then decide (0 ≤ s.target) && decide (s.target < na) && rightB nv na s.index && atomB s.index && rightB nv na s.value
     else if s.kind = 3 then rightB nv na s.value
     else decide (s.kind = 4))
theorem stmtB_head {nv na d : Nat} {s : LStmt} : stmtB nv na (d + 1) s = (headB nv na s && (s.body.all (stmtB nv na d) && s.els.all (stmtB nv na d))) := by
  rw [Bool.eq_iff_iff]
  constructor
  · intro h
    have h1 := stmtB_blocks h
    rw [h1.1, h1.2, Bool.and_true, Bool.and_true]
    rw [stmtB, Bool.and_eq_true] at h
    rw [headB, h.1, Bool.true_and]
    obtain ⟨-, h⟩ := h
    split at h
    · rw [if_pos (by assumption)]; exact h
    split at h
    · rw [if_neg (by assumption), if_pos (by assumption)]; exact h
    split at h
    · rw [if_neg (by assumption), if_neg (by assumption), if_pos (by assumption)]
      simp only [Bool.and_eq_true] at h; exact h.1.1
    split at h
    · rw [if_neg (by assumption), if_neg (by assumption), if_neg (by assumption)]; simp [*]
    · simp at h
  · intro h
    simp only [Bool.and_eq_true] at h
    obtain ⟨h, hb, he⟩ := h
    rw [headB, Bool.and_eq_true] at h
    obtain ⟨h0, h⟩ := h
    rw [stmtB, h0, Bool.true_and]
    split at h
    · rw [if_pos (by assumption)]; exact h
    split at h
    · rw [if_neg (by assumption), if_pos (by assumption)]; exact h
    split at h
    · rw [if_neg (by assumption), if_neg (by assumption), if_pos (by assumption), h, hb, he]; rfl
    · rw [if_neg (by assumption), if_neg (by assumption), if_neg (by assumption), if_pos (by simpa using h), hb]
/-- Statements one after another, with a count. -/
def foldF (F : Nat → LStmt → Bool × Nat) : Nat → List LStmt → Bool × Nat
  | c, [] => (true, c)
  | c, s :: r => if (F c s).1 then foldF F (F c s).2 r else F c s
def stmtF (nv na : Nat) : Nat → Nat → LStmt → Bool × Nat
  | 0, c, _ => (false, c + 1)
  | d + 1, c, s => if 60 < c + 1 then (false, c + 1) else if headB nv na s then
      (if (foldF (stmtF nv na d) (c + 1) s.body).1 then foldF (stmtF nv na d) (foldF (stmtF nv na d) (c + 1) s.body).2 s.els else foldF (stmtF nv na d) (c + 1) s.body)
      else (false, c + 1)
abbrev stmtsF (nv na d c : Nat) (ss : List LStmt) : Bool × Nat := foldF (stmtF nv na d) c ss
theorem foldF_append (F : Nat → LStmt → Bool × Nat) : ∀ (a b : List LStmt) (c : Nat), foldF F c (a ++ b) = if (foldF F c a).1 then foldF F (foldF F c a).2 b else foldF F c a
  | [], b, c => by simp [foldF]
  | x :: r, b, c => by
    simp only [List.cons_append, foldF]
    by_cases h : (F c x).1 = true
    · simp only [h, if_true]; exact foldF_append F r b _
    · simp [h]
theorem foldF_next {F : Nat → LStmt → Bool × Nat} {c k : Nat} {ss : List LStmt} (h : (foldF F c (ss.take k)).1 = true) (hk : k < ss.length) : foldF F c (ss.take (k + 1)) = F (foldF F c (ss.take k)).2 (ss.getD k default) := by
  rw [take_succ_get _ _ hk, foldF_append, if_pos h, getD_lt hk]
  simp only [foldF]
  split
  · rename_i h; exact Prod.ext h.symm rfl
  · rfl
theorem foldF_stop {F : Nat → LStmt → Bool × Nat} {c k : Nat} {ss : List LStmt} (h : (foldF F c (ss.take k)).1 = true) (hk : k < ss.length) (hf : (F (foldF F c (ss.take k)).2 (ss.getD k default)).1 = false) : foldF F c ss = F (foldF F c (ss.take k)).2 (ss.getD k default) := by
  conv => lhs; rw [← List.take_append_drop (k + 1) ss]
  rw [foldF_append, foldF_next h hk, hf]
  rfl
theorem foldF_full {F : Nat → LStmt → Bool × Nat} {c k : Nat} {ss : List LStmt} (hk : ss.length ≤ k) : foldF F c (ss.take k) = foldF F c ss := by rw [List.take_of_length_le hk]
theorem foldF_le {F : Nat → LStmt → Bool × Nat} (hF : ∀ c s, c ≤ 60 → (F c s).2 ≤ 61 ∧ ((F c s).1 = true → (F c s).2 ≤ 60)) : ∀ (ss : List LStmt) (c : Nat), c ≤ 60 → (foldF F c ss).2 ≤ 61 ∧ ((foldF F c ss).1 = true → (foldF F c ss).2 ≤ 60)
  | [], c, h => ⟨by simp only [foldF]; omega, fun _ => by simp only [foldF]; omega⟩
  | s :: r, c, h => by
    simp only [foldF]
    by_cases h1 : (F c s).1 = true
    · rw [if_pos h1]; exact foldF_le hF r _ ((hF c s h).2 h1)
    · rw [if_neg h1]; exact hF c s h
theorem stmtF_le {nv na : Nat} : ∀ (d c : Nat) (s : LStmt), c ≤ 60 → (stmtF nv na d c s).2 ≤ 61 ∧ ((stmtF nv na d c s).1 = true → (stmtF nv na d c s).2 ≤ 60)
  | 0, c, s, h => by simp [stmtF]; omega
  | d + 1, c, s, h => by
    rw [stmtF]
    by_cases h1 : 60 < c + 1
    · rw [if_pos h1]; simp; omega
    rw [if_neg h1]
    by_cases h2 : headB nv na s = true
    · rw [if_pos h2]
      have h3 := foldF_le (stmtF_le (nv := nv) (na := na) d) s.body (c + 1) (by omega)
      by_cases h4 : (foldF (stmtF nv na d) (c + 1) s.body).1 = true
      · rw [if_pos h4]; exact foldF_le (stmtF_le d) s.els _ (h3.2 h4)
      · rw [if_neg h4]; exact h3
    · rw [if_neg h2]; simp; omega
theorem stmtsF_le {nv na d c : Nat} {ss : List LStmt} (h : c ≤ 60) (h1 : (stmtsF nv na d c ss).1 = true) : (stmtsF nv na d c ss).2 ≤ 60 := (foldF_le (stmtF_le d) ss c h).2 h1
section
variable {nv na d c : Nat} {s : LStmt}
theorem stmtF_over (h : 60 < c + 1) : stmtF nv na d c s = (false, c + 1) := by cases d with
  | zero => rfl
  | succ d => rw [stmtF, if_pos h]
theorem stmtF_bad (h : headB nv na s = false) : stmtF nv na d c s = (false, c + 1) := by cases d with
  | zero => rfl
  | succ d => rw [stmtF, h]; simp
theorem stmtF_body (h1 : c + 1 ≤ 60) (h : headB nv na s = true) (h2 : (stmtsF nv na d (c + 1) s.body).1 = false) : stmtF nv na (d + 1) c s = stmtsF nv na d (c + 1) s.body := by
  rw [stmtF, if_neg (by omega), if_pos h, if_neg (by simp [h2])]
theorem stmtF_els (h1 : c + 1 ≤ 60) (h : headB nv na s = true) (h2 : (stmtsF nv na d (c + 1) s.body).1 = true) : stmtF nv na (d + 1) c s = stmtsF nv na d (stmtsF nv na d (c + 1) s.body).2 s.els := by
  rw [stmtF, if_neg (by omega), if_pos h, if_pos h2]
end
/-- What the count comes to. -/
theorem foldF_eq {nv na d : Nat} (hF : ∀ c s, c ≤ 60 → ((stmtF nv na d c s).1 = (stmtB nv na d s && decide (c + nS s ≤ 60))) ∧ ((stmtF nv na d c s).1 = true → (stmtF nv na d c s).2 = c + nS s)) : ∀ (ss : List LStmt) (c : Nat), c ≤ 60 → ((stmtsF nv na d c ss).1 = (ss.all (stmtB nv na d) && decide (c + nSs ss ≤ 60))) ∧ ((stmtsF nv na d c ss).1 = true → (stmtsF nv na d c ss).2 = c + nSs ss)
  | [], c, h => by simp [foldF, nSs, h]
  | s :: r, c, h => by
    obtain ⟨h1, h2⟩ := hF c s h
    simp only [stmtsF, foldF]
    by_cases h3 : (stmtF nv na d c s).1 = true
    · rw [if_pos h3]
      have e := h2 h3
      have l := (stmtF_le d c s h).2 h3
      obtain ⟨h4, h5⟩ := foldF_eq hF r (stmtF nv na d c s).2 l
      rw [h1, Bool.and_eq_true] at h3
      constructor
      · rw [show foldF (stmtF nv na d) (stmtF nv na d c s).2 r = stmtsF nv na d (stmtF nv na d c s).2 r from rfl, h4, List.all_cons, h3.1, Bool.true_and, e, nSs, Nat.add_assoc]
      · intro h6; rw [show foldF (stmtF nv na d) (stmtF nv na d c s).2 r = stmtsF nv na d (stmtF nv na d c s).2 r from rfl, h5 h6, e, nSs]; omega
    · rw [if_neg h3]
      refine ⟨?_, fun h => absurd h h3⟩
      have h4 := h3
      rw [h1] at h4
      rw [Bool.eq_false_iff.2 h3, List.all_cons, nSs]
      cases ha : stmtB nv na d s
      · simp
      · rw [ha, Bool.true_and, decide_eq_true_eq] at h4
        rw [Bool.true_and, show decide (c + (nS s + nSs r) ≤ 60) = false from decide_eq_false (by omega), Bool.and_false]
theorem stmtF_eq {nv na : Nat} : ∀ (d c : Nat) (s : LStmt), c ≤ 60 → ((stmtF nv na d c s).1 = (stmtB nv na d s && decide (c + nS s ≤ 60))) ∧ ((stmtF nv na d c s).1 = true → (stmtF nv na d c s).2 = c + nS s)
  | 0, c, s, h => by simp [stmtF, stmtB]
  | d + 1, c, s, h => by
    have hs := nS_def s
    by_cases h1 : 60 < c + 1
    · rw [stmtF_over h1, show decide (c + nS s ≤ 60) = false from decide_eq_false (by omega), Bool.and_false]; simp
    cases h2 : headB nv na s
    · rw [stmtF_bad h2, stmtB_head, h2]; simp
    obtain ⟨b1, b2⟩ := foldF_eq (stmtF_eq (nv := nv) (na := na) d) s.body (c + 1) (by omega)
    rw [stmtB_head, h2, Bool.true_and]
    cases h3 : (stmtsF nv na d (c + 1) s.body).1
    · rw [stmtF_body (by omega) h2 h3, h3]
      refine ⟨?_, fun h => by simp at h⟩
      rw [h3] at b1
      cases h4 : s.body.all (stmtB nv na d)
      · simp
      · rw [h4, Bool.true_and] at b1
        have := of_decide_eq_false b1.symm
        rw [show decide (c + nS s ≤ 60) = false from decide_eq_false (by omega), Bool.and_false]
    · rw [stmtF_els (by omega) h2 h3]
      have e := b2 h3
      have l := stmtsF_le (nv := nv) (na := na) (d := d) (c := c + 1) (by omega) h3
      obtain ⟨e1, e2⟩ := foldF_eq (stmtF_eq (nv := nv) (na := na) d) s.els _ l
      rw [h3] at b1
      have b3 := b1.symm
      rw [Bool.and_eq_true] at b3
      rw [b3.1, Bool.true_and, e1, e]
      refine ⟨by rw [show c + 1 + nSs s.body + nSs s.els = c + nS s by omega], fun h => ?_⟩
      have h' : (stmtsF nv na d (stmtsF nv na d (c + 1) s.body).2 s.els).1 = true := by rw [e1, e]; exact h
      have := e2 h'
      rw [e] at this
      rw [this]; omega
theorem stmtsF_prog {p : LProg} (h : headsB p.vars p.arrays = true) : (stmtsF p.vars.length p.arrays.length 5 0 p.body).1 = progB p := by
  rw [(foldF_eq (stmtF_eq 5) p.body 0 (by omega)).1, progB, h, Bool.true_and, blockB]; simp

set_option maxRecDepth 100000 in
theorem c_stmt0 (p : LProg) (s : LStmt) (c : Nat) (hc : c ≤ 60) (n : Int) (hn : n = 6) : Ctr.ok Try.prog ⟨181, [pA 0, sA s 4, iA n, .ptr 3 0], pS p ++ [.box [iA c]] ++ sS s, pS p ++ [.box [iA (stmtF p.vars.length p.arrays.length 0 c s).2]] ++ sS s, bA false⟩ := by
  have h100 : decide (n > 5) = true := by simp; omega
  refine rx_enter 149 Try.func181 (by rfl) (by kernel_rfl) (by kernel_rfl) ?_
  intro ι φ ψ w0 w F ρ0 ρ a G
  replace G := Gam.at G [dI p.vars, dI p.arrays, dT p.body, .box [iA (↑c : Int)], dE s.index.kids, dE s.value.kids, dT s.body, dT s.els] [(0, pA 0), (1, sA s 4), (2, iA n), (3, .ptr 3 0)]
  refine wp_seq ?_
  refine rs0 G [0, 1, 2, 3, 4, 5, 6, 7, 8, 16] [dI p.vars, dI p.arrays, dT p.body, .box [iA (↑c : Int)], dE s.index.kids, dE s.value.kids, dT s.body, dT s.els, .box (pL 0), .box (sL s 4)] [(2, iA n), (3, .ptr 3 0), (4, .ptr 8 0), (5, .ptr 9 0), (8, bA false)] ?_
  clear G; intro ρ a w G
  refine th_n ?_
  refine wp_seq ?_
  refine rs1 (dk := dkP) G ⟨[], [], []⟩ calls_nil trivial [0, 1, 2, 3, 4, 5, 6, 7, 8, 9] [dI p.vars, dI p.arrays, dT p.body, .box [iA ((↑c : Int) + 1)], dE s.index.kids, dE s.value.kids, dT s.body, dT s.els, .box (pL 0), .box (sL s 4)] [(2, iA n), (3, .ptr 3 0), (4, .ptr 8 0), (5, .ptr 9 0), (8, bA false)] [IntKind.i64.wrap ((↑c : Int) + (1 : Int)) = (↑c : Int) + (1 : Int)] ⟨(by exact w64 (by omega) (by omega)), trivial⟩ ?_
  clear G; intro ρ a w G
  refine th_n ?_
  refine wp_seq ?_
  refine wp_seq ?_
  cases h0 : (decide ((↑c : Int) + (1 : Int) > (60 : Int)))
  ·
   have q0 : ¬ ((↑c : Int) + 1 > 60) := of_decide_eq_false h0
   refine rs1s G ⟨[], [(decide ((↑c : Int) + (1 : Int) > (60 : Int)), false)], [(5, 0), (6, 0), (1007, 0)]⟩ calls_nil ⟨(by assumption), trivial⟩ [(2, iA n), (3, .ptr 3 0), (4, .ptr 8 0), (5, .ptr 9 0), (8, bA false), (27, bA (decide (n > 5)))] [] trivial ?_
   clear G; intro ρ a w G
   refine th_n ?_
   refine rT G (decide (n > (5 : Int))) (by assumption) ?_
   refine wp_seq ?_
   refine rs0s G [(2, iA n), (3, .ptr 3 0), (4, .ptr 8 0), (5, .ptr 9 0), (8, bA false)] ?_
   clear G; intro ρ a w G
   refine th_n ?_
   refine wp_ret ?_
   refine th_r ?_
   exact rx_ret (v := bA false) G [0, 1, 2, 3, 4, 5, 6, 7] (by kernel_rfl) (by kernel_rfl) (by kernel_rfl) (by kernel_rfl)
  ·
   have q0 : (↑c : Int) + 1 > 60 := of_decide_eq_true h0
   refine rs1s G ⟨[], [(decide ((↑c : Int) + (1 : Int) > (60 : Int)), true)], [(5, 0), (6, 0), (1007, 0)]⟩ calls_nil ⟨(by assumption), trivial⟩ [(2, iA n), (3, .ptr 3 0), (4, .ptr 8 0), (5, .ptr 9 0), (8, bA false), (27, bA true)] [] trivial ?_
   clear G; intro ρ a w G
   refine th_n ?_
   refine rT G (true) (by kernel_rfl) ?_
   refine wp_seq ?_
   refine rs0s G [(2, iA n), (3, .ptr 3 0), (4, .ptr 8 0), (5, .ptr 9 0), (8, bA false)] ?_
   clear G; intro ρ a w G
   refine th_n ?_
   refine wp_ret ?_
   refine th_r ?_
   exact rx_ret (v := bA false) G [0, 1, 2, 3, 4, 5, 6, 7] (by kernel_rfl) (by kernel_rfl) (by kernel_rfl) (by kernel_rfl)

end Go.Proofs.Ytgpkdfefgcpbiaa

namespace Go.Proofs.Ytgpkdfefgcpbiaa
set_option linter.unusedVariables false
set_option linter.unusedSimpArgs false
open Go Go.RowKit

abbrev stmtC (p : LProg) (d c : Nat) (s : LStmt) (n : Int) : Ctr := ⟨181, [pA 0, sA s 4, iA n, .ptr 3 0], pS p ++ [.box [iA c]] ++ sS s, pS p ++ [.box [iA (stmtF p.vars.length p.arrays.length d c s).2]] ++ sS s, bA (stmtF p.vars.length p.arrays.length d c s).1⟩
abbrev stmtsC (p : LProg) (d c : Nat) (ss : List LStmt) (n : Int) : Ctr := ⟨147, [pA 0, .ref 4, iA n, .ptr 3 0], pS p ++ [.box [iA c]] ++ [.dat (.stmts ss)], pS p ++ [.box [iA (stmtsF p.vars.length p.arrays.length d c ss).2]] ++ [.dat (.stmts ss)], bA (stmtsF p.vars.length p.arrays.length d c ss).1⟩

set_option maxRecDepth 100000 in
theorem c_stmtsS (p : LProg) (d : Nat) (hd : d ≤ 5) (ih : ∀ (s : LStmt) (c : Nat) (n : Int), c ≤ 60 → n = 6 - (d : Int) → Ctr.ok Try.prog (stmtC p d c s n))
    (ss : List LStmt) (c : Nat) (n : Int) (hc : c ≤ 60) (hn : n = 6 - (d : Int)) : Ctr.ok Try.prog (stmtsC p d c ss n) := by
  refine rx_enter 24 Try.func147 (by rfl) (by kernel_rfl) (by kernel_rfl) ?_
  intro ι φ ψ w0 w F ρ0 ρ a G
  replace G := Gam.at G [dI p.vars, dI p.arrays, dT p.body, .box [iA (↑c : Int)], dT ss] [(0, pA 0), (1, .ref 4), (2, iA n), (3, .ptr 3 0)]
  refine wp_seq ?_
  refine rs0 G [0, 1, 2, 3, 4, 5] [dI p.vars, dI p.arrays, dT p.body, .box [iA (↑c : Int)], dT ss, .box (pL 0)] [(1, .ref 4), (2, iA n), (3, .ptr 3 0), (4, .ptr 5 0), (8, bA false)] ?_
  clear G; intro ρ a w G
  refine th_n ?_
  refine wp_seq ?_
  refine wp_seq ?_
  refine rs0s G [(2, iA n), (3, .ptr 3 0), (4, .ptr 5 0), (8, bA false), (11, .ref 4), (12, iA (↑ss.length : Int)), (13, iA 0)] ?_
  clear G; intro ρ a w G
  refine th_n ?_
  refine wp_block ?_
  have hlen : ss.length ≤ 9223372036854775807 := G.len 4 (d := .stmts ss) (by kernel_rfl)
  refine rx_for (κ := Nat) (fun k => k ≤ ss.length ∧ (stmtsF p.vars.length p.arrays.length d c (ss.take k)).1 = true) (fun k => ss.length - k) (fun k => [dI p.vars, dI p.arrays, dT p.body, .box [iA (stmtsF p.vars.length p.arrays.length d c (ss.take k)).2], dT ss, .box (pL 0)]) (fun k => [(2, iA n), (3, .ptr 3 0), (4, .ptr 5 0), (8, bA false), (11, .ref 4), (12, iA (↑ss.length : Int)), (13, iA k)]) (0) (by simp [stmtsF, foldF]; done) (Gam.at G _ _) ?_
  clear G
  intro k ρ a w hp G
  replace G := Gam.at G [dI p.vars, dI p.arrays, dT p.body, .box [iA (↑(stmtsF p.vars.length p.arrays.length d c (List.take k ss)).snd : Int)], dT ss, .box (pL 0)] [(2, iA n), (3, .ptr 3 0), (4, .ptr 5 0), (8, bA false), (11, .ref 4), (12, iA (↑ss.length : Int)), (13, iA (↑k : Int))]
  refine wp_seq ?_
  refine rs0s G [(2, iA n), (3, .ptr 3 0), (4, .ptr 5 0), (8, bA false), (11, .ref 4), (12, iA (↑ss.length : Int)), (13, iA (↑k : Int)), (14, bA (decide ((↑k : Int) < (↑ss.length : Int))))] ?_
  clear G; intro ρ a w G
  refine th_n ?_
  refine wp_seq ?_
  cases h0 : (decide ((↑k : Int) < (↑ss.length : Int)))
  ·
   have q0 : ¬ ((↑k : Int) < (↑ss.length : Int)) := of_decide_eq_false h0
   refine rF G (decide ((↑k : Int) < (↑ss.length : Int))) (by assumption) ?_
   refine wp_exit ?_
   refine th_e ?_
   refine th_e ?_
   refine bl_hit ?_
   refine th_n ?_
   refine wp_seq ?_
   refine rs0 G [0, 1, 2, 3, 4] [dI p.vars, dI p.arrays, dT p.body, .box [iA (↑(stmtsF p.vars.length p.arrays.length d c (List.take k ss)).snd : Int)], dT ss] [(8, bA true)] ?_
   clear G; intro ρ a w G
   refine th_n ?_
   refine wp_ret ?_
   exact rx_ret (v := bA true) G [0, 1, 2, 3, 4] (by kernel_rfl) (by kernel_rfl) (by have e1 : ((↑(stmtsF p.vars.length p.arrays.length d c ss).snd : Int) : Int) = ((↑(stmtsF p.vars.length p.arrays.length d c (List.take k ss)).snd : Int)) := (by rw [stmtsF, ← foldF_full (k := k) (by omega)]); first | (rw [e1]; done) | (rw [e1]; rfl) | (simp only [e1]; done) | (simp only [e1]; rfl)) (by have e1 : ((stmtsF p.vars.length p.arrays.length d c ss).fst : Bool) = (true) := (by rw [stmtsF, ← foldF_full (k := k) (by omega)]; exact hp.2); first | (rw [e1]; done) | (rw [e1]; rfl) | (simp only [e1]; done) | (simp only [e1]; rfl))
  ·
   have q0 : (↑k : Int) < (↑ss.length : Int) := of_decide_eq_true h0
   refine rT G (decide ((↑k : Int) < (↑ss.length : Int))) (by assumption) ?_
   refine wp_skip ?_
   refine th_n ?_
   refine wp_seq ?_
   refine wp_block ?_
   refine wp_seq ?_
   refine rs1 (dk := dkP) G ⟨[], [], []⟩ calls_nil trivial [0, 1, 2, 3, 4, 5, 14, 15, 16, 17, 22] [dI p.vars, dI p.arrays, dT p.body, .box [iA (↑(stmtsF p.vars.length p.arrays.length d c (List.take k ss)).snd : Int)], dT ss, .box (pL 0), dE (ss.getD k default).index.kids, dE (ss.getD k default).value.kids, dT (ss.getD k default).body, dT (ss.getD k default).els, .box (sL (ss.getD k default) 6)] [(2, iA n), (3, .ptr 3 0), (4, .ptr 5 0), (8, bA false), (10, .ptr 10 0), (11, .ref 4), (12, iA (↑ss.length : Int)), (13, iA (↑k : Int))] [(0 : Int) ≤ (↑k : Int), (↑k : Int) < (↑ss.length : Int), k < ss.length] ⟨(by simp [h0]), (by assumption), (by have hp := hp; omega), trivial⟩ ?_
   clear G; intro ρ a w G
   refine th_n ?_
   refine wp_seq ?_
   refine rs1 (dk := dkP) G ⟨[(4, _, [0, 1, 2, 3, 6, 7, 8, 9])], [], []⟩ (calls_cons (ih (ss.getD k default) ((stmtsF p.vars.length p.arrays.length d c (List.take k ss)).snd) (n) (by exact stmtsF_le (by omega) hp.2) (by assumption)) calls_nil) trivial [0, 1, 2, 3, 4, 5] [dI p.vars, dI p.arrays, dT p.body, .box [iA (↑(stmtF p.vars.length p.arrays.length d (stmtsF p.vars.length p.arrays.length d c (List.take k ss)).snd (ss.getD k default)).snd : Int)], dT ss, .box (pL 0)] [(2, iA n), (3, .ptr 3 0), (4, .ptr 5 0), (8, bA false), (11, .ref 4), (12, iA (↑ss.length : Int)), (13, iA (↑k : Int)), (22, .v (.bool !(stmtF p.vars.length p.arrays.length d (stmtsF p.vars.length p.arrays.length d c (List.take k ss)).snd (ss.getD k default)).fst))] [] trivial ?_
   clear G; intro ρ a w G
   refine th_n ?_
   cases h1 : (!(stmtF p.vars.length p.arrays.length d (stmtsF p.vars.length p.arrays.length d c (List.take k ss)).snd (ss.getD k default)).fst)
   ·
    have q1 : ((stmtF p.vars.length p.arrays.length d (stmtsF p.vars.length p.arrays.length d c (List.take k ss)).snd (ss.getD k default)).fst) = true := (fun hq => (hq)) (Eq.mp (Bool.not_eq_false' _) h1)
    refine rF G (!(stmtF p.vars.length p.arrays.length d (stmtsF p.vars.length p.arrays.length d c (List.take k ss)).snd (ss.getD k default)).fst) (by assumption) ?_
    refine wp_skip ?_
    refine bl_n ?_
    refine th_n ?_
    refine rs1s G ⟨[], [], []⟩ calls_nil trivial [(2, iA n), (3, .ptr 3 0), (4, .ptr 5 0), (8, bA false), (11, .ref 4), (12, iA (↑ss.length : Int)), (13, iA ((↑k : Int) + 1))] [IntKind.i64.wrap ((↑k : Int) + (1 : Int)) = (↑k : Int) + (1 : Int)] ⟨(by exact w64 (by omega) (by omega)), trivial⟩ ?_
    clear G; intro ρ a w G
    refine th_n ?_
    exact rx_next G (k + 1) (by exact ⟨by omega, by rw [stmtsF, foldF_next hp.2 (by omega)]; assumption⟩) (by have hp := hp; omega) [0, 1, 2, 3, 4, 5] [dI p.vars, dI p.arrays, dT p.body, .box [iA (↑(stmtsF p.vars.length p.arrays.length d c (List.take (k + 1) ss)).snd : Int)], dT ss, .box (pL 0)] [(2, iA n), (3, .ptr 3 0), (4, .ptr 5 0), (8, bA false), (11, .ref 4), (12, iA (↑ss.length : Int)), (13, iA (↑(k + 1) : Int))] (by kernel_rfl) (by kernel_rfl) (by kernel_rfl) (by have e1 : ((↑(stmtsF p.vars.length p.arrays.length d c (List.take (k + 1) ss)).snd : Int) : Int) = ((↑(stmtF p.vars.length p.arrays.length d (stmtsF p.vars.length p.arrays.length d c (List.take k ss)).snd (ss.getD k default)).snd : Int)) := (by rw [stmtsF, foldF_next hp.2 (by omega)]); first | (rw [e1]; done) | (rw [e1]; rfl) | (simp only [e1]; done) | (simp only [e1]; rfl)) (by kernel_rfl)
   ·
    have q1 : ((stmtF p.vars.length p.arrays.length d (stmtsF p.vars.length p.arrays.length d c (List.take k ss)).snd (ss.getD k default)).fst) = false := (fun hq => (hq)) (Eq.mp (Bool.not_eq_true' _) h1)
    refine rT G (!(stmtF p.vars.length p.arrays.length d (stmtsF p.vars.length p.arrays.length d c (List.take k ss)).snd (ss.getD k default)).fst) (by assumption) ?_
    refine wp_seq ?_
    refine rs0s G [(2, iA n), (3, .ptr 3 0), (4, .ptr 5 0), (8, bA false), (11, .ref 4), (12, iA (↑ss.length : Int)), (13, iA (↑k : Int))] ?_
    clear G; intro ρ a w G
    refine th_n ?_
    refine wp_ret ?_
    refine bl_r ?_
    refine th_r ?_
    refine th_r ?_
    refine bl_r ?_
    refine th_r ?_
    exact rx_ret (v := bA false) G [0, 1, 2, 3, 4] (by kernel_rfl) (by kernel_rfl) (by have e1 : ((↑(stmtsF p.vars.length p.arrays.length d c ss).snd : Int) : Int) = ((↑(stmtF p.vars.length p.arrays.length d (stmtsF p.vars.length p.arrays.length d c (List.take k ss)).snd (ss.getD k default)).snd : Int)) := (by rw [stmtsF, foldF_stop hp.2 (by omega) (by assumption)]); first | (rw [e1]; done) | (rw [e1]; rfl) | (simp only [e1]; done) | (simp only [e1]; rfl)) (by have e1 : ((stmtsF p.vars.length p.arrays.length d c ss).fst : Bool) = (false) := (by rw [stmtsF, foldF_stop hp.2 (by omega) (by assumption)]; assumption); first | (rw [e1]; done) | (rw [e1]; rfl) | (simp only [e1]; done) | (simp only [e1]; rfl))

section
variable {nv na : Nat} {s : LStmt}
theorem head1 (k : s.kind = 1 ∨ s.kind = 5) : headB nv na s = (decide (0 ≤ s.target ∧ s.target < nv ∧ s.body.length = 0 ∧ s.els.length = 0 ∧ s.count = 0) && (noneB s.index && rightB nv na s.value)) := by
  rw [headB, partsB, if_pos k, if_neg (by omega), show decide (s.kind = 2) = false from decide_eq_false (by omega), Bool.eq_iff_iff]
  simp only [Bool.and_eq_true, decide_eq_true_eq, Bool.false_or]
  constructor
  · rintro ⟨⟨⟨⟨a, b⟩, c⟩, d⟩, ⟨e, f⟩, g⟩; exact ⟨⟨e, f, a, b, c⟩, d, g⟩
  · rintro ⟨⟨e, f, a, b, c⟩, d, g⟩; exact ⟨⟨⟨⟨a, b⟩, c⟩, d⟩, ⟨e, f⟩, g⟩
theorem head2 (k : s.kind = 2) : headB nv na s = (decide (0 ≤ s.target ∧ s.target < na ∧ s.body.length = 0 ∧ s.els.length = 0 ∧ s.count = 0) && (rightB nv na s.index && (atomB s.index && rightB nv na s.value))) := by
  rw [headB, partsB, if_neg (by omega), if_pos k, if_neg (by omega), show decide (s.kind = 2) = true from decide_eq_true k, Bool.eq_iff_iff]
  simp only [Bool.and_eq_true, decide_eq_true_eq, Bool.true_or]
  constructor
  · rintro ⟨⟨⟨⟨a, b⟩, c⟩, -⟩, ⟨⟨⟨e, f⟩, i⟩, j⟩, g⟩; exact ⟨⟨e, f, a, b, c⟩, i, j, g⟩
  · rintro ⟨⟨e, f, a, b, c⟩, i, j, g⟩; exact ⟨⟨⟨⟨a, b⟩, c⟩, trivial⟩, ⟨⟨⟨e, f⟩, i⟩, j⟩, g⟩
theorem head3 (k : s.kind = 3) : headB nv na s = (decide (s.target = 0 ∧ s.count = 0) && (noneB s.index && rightB nv na s.value)) := by
  rw [headB, partsB, if_pos (show s.kind = 3 ∨ s.kind = 4 from .inl k), if_neg (show ¬ s.kind = 4 by omega), if_neg (by omega), if_neg (by omega), if_pos k, Bool.eq_iff_iff]
  simp only [Bool.and_eq_true, decide_eq_true_eq]
  constructor
  · rintro ⟨⟨a, b, c⟩, d⟩; exact ⟨⟨a, b⟩, c, d⟩
  · rintro ⟨⟨a, b⟩, c, d⟩; exact ⟨⟨a, b, c⟩, d⟩
theorem head4 (k : s.kind = 4) : headB nv na s = (decide (s.target = 0 ∧ s.els.length = 0 ∧ 1 ≤ s.count ∧ s.count ≤ 3) && (noneB s.index && noneB s.value)) := by
  rw [headB, partsB, if_pos (show s.kind = 3 ∨ s.kind = 4 from .inr k), if_pos k, if_neg (by omega), if_neg (by omega), if_neg (by omega), show decide (s.kind = 4) = true from decide_eq_true k, Bool.eq_iff_iff]
  simp only [Bool.and_eq_true, decide_eq_true_eq]
  constructor
  · rintro ⟨⟨a, ⟨⟨⟨b, c⟩, d⟩, e⟩, f⟩, -⟩; exact ⟨⟨a, b, c, d⟩, e, f⟩
  · rintro ⟨⟨a, b, c, d⟩, e, f⟩; exact ⟨⟨a, ⟨⟨⟨b, c⟩, d⟩, e⟩, f⟩, trivial⟩
theorem head0 (k : ¬ s.kind = 1 ∧ ¬ s.kind = 2 ∧ ¬ s.kind = 3 ∧ ¬ s.kind = 4 ∧ ¬ s.kind = 5) : headB nv na s = false := by
  rw [headB, if_neg (by omega), if_neg (by omega), if_neg (by omega), show decide (s.kind = 4) = false from decide_eq_false (by omega), Bool.and_false]
theorem and_t {p : Prop} [Decidable p] {a b : Bool} (hp : p) (ha : a = true) (hb : b = true) : (decide p && (a && b)) = true := by rw [ha, hb, decide_eq_true hp]; rfl
theorem and_t3 {p : Prop} [Decidable p] {a b c : Bool} (hp : p) (ha : a = true) (hb : b = true) (hc : c = true) : (decide p && (a && (b && c))) = true := by rw [ha, hb, hc, decide_eq_true hp]; rfl
end

set_option maxHeartbeats 4000000 in
set_option maxRecDepth 100000 in
theorem c_stmtS (p : LProg) (d : Nat) (hd : d ≤ 4) (ih : ∀ (ss : List LStmt) (c : Nat) (n : Int), c ≤ 60 → n = 6 - (d : Int) → Ctr.ok Try.prog (stmtsC p d c ss n))
    (s : LStmt) (c : Nat) (n : Int) (hc : c ≤ 60) (hn : n = 5 - (d : Int)) : Ctr.ok Try.prog (stmtC p (d + 1) c s n) := by
  have h100 : decide (n > 5) = false := by simp; omega
  refine rx_enter 149 Try.func181 (by rfl) (by kernel_rfl) (by kernel_rfl) ?_
  intro ι φ ψ w0 w F ρ0 ρ a G
  replace G := Gam.at G [dI p.vars, dI p.arrays, dT p.body, .box [iA (↑c : Int)], dE s.index.kids, dE s.value.kids, dT s.body, dT s.els] [(0, pA 0), (1, sA s 4), (2, iA n), (3, .ptr 3 0)]
  have hl0 : p.vars.length ≤ 9223372036854775807 := G.len 0 (d := .ints p.vars) (by kernel_rfl)
  have hl1 : p.arrays.length ≤ 9223372036854775807 := G.len 1 (d := .ints p.arrays) (by kernel_rfl)
  refine wp_seq ?_
  refine rs0 G [0, 1, 2, 3, 4, 5, 6, 7, 8, 16] [dI p.vars, dI p.arrays, dT p.body, .box [iA (↑c : Int)], dE s.index.kids, dE s.value.kids, dT s.body, dT s.els, .box (pL 0), .box (sL s 4)] [(2, iA n), (3, .ptr 3 0), (4, .ptr 8 0), (5, .ptr 9 0), (8, bA false)] ?_
  clear G; intro ρ a w G
  refine th_n ?_
  refine wp_seq ?_
  refine rs1 (dk := dkP) G ⟨[], [], []⟩ calls_nil trivial [0, 1, 2, 3, 4, 5, 6, 7, 8, 9] [dI p.vars, dI p.arrays, dT p.body, .box [iA ((↑c : Int) + 1)], dE s.index.kids, dE s.value.kids, dT s.body, dT s.els, .box (pL 0), .box (sL s 4)] [(2, iA n), (3, .ptr 3 0), (4, .ptr 8 0), (5, .ptr 9 0), (8, bA false)] [IntKind.i64.wrap ((↑c : Int) + (1 : Int)) = (↑c : Int) + (1 : Int)] ⟨(by exact w64 (by omega) (by omega)), trivial⟩ ?_
  clear G; intro ρ a w G
  refine th_n ?_
  refine wp_seq ?_
  refine wp_seq ?_
  cases h0 : (decide ((↑c : Int) + (1 : Int) > (60 : Int)))
  ·
   have q0 : ¬ ((↑c : Int) + 1 > 60) := of_decide_eq_false h0
   refine rs1s G ⟨[], [(decide ((↑c : Int) + (1 : Int) > (60 : Int)), false)], [(5, 0), (6, 0), (1007, 0)]⟩ calls_nil ⟨(by assumption), trivial⟩ [(2, iA n), (3, .ptr 3 0), (4, .ptr 8 0), (5, .ptr 9 0), (8, bA false), (27, bA (decide (n > 5)))] [] trivial ?_
   clear G; intro ρ a w G
   refine th_n ?_
   refine rF G (decide (n > (5 : Int))) (by assumption) ?_
   refine wp_skip ?_
   refine th_n ?_
   refine wp_seq ?_
   refine rs0s G [(2, iA n), (3, .ptr 3 0), (4, .ptr 8 0), (5, .ptr 9 0), (8, bA false), (9, iA 1), (10, bA false), (11, bA true), (12, bA false), (13, bA false), (14, bA false)] ?_
   clear G; intro ρ a w G
   refine th_n ?_
   refine wp_seq ?_
   refine wp_seq ?_
   refine rs0s G [(2, iA n), (3, .ptr 3 0), (4, .ptr 8 0), (5, .ptr 9 0), (8, bA false), (9, iA 1), (10, bA false), (11, bA true), (12, bA false), (13, bA false), (14, bA false), (29, iA s.kind)] ?_
   clear G; intro ρ a w G
   refine th_n ?_
   refine wp_block ?_
   refine wp_seq ?_
   refine wp_seq ?_
   refine rs0s G [(2, iA n), (3, .ptr 3 0), (4, .ptr 8 0), (5, .ptr 9 0), (8, bA false), (9, iA 1), (10, bA false), (11, bA true), (12, bA false), (13, bA false), (14, bA false), (29, iA s.kind), (30, bA (s.kind == 1))] ?_
   clear G; intro ρ a w G
   refine th_n ?_
   cases h1 : (s.kind == (1 : Int))
   ·
    have q1 : ¬ (s.kind = 1) := ne_of_beq_false h1
    refine rF G (s.kind == (1 : Int)) (by assumption) ?_
    refine rs0s G [(2, iA n), (3, .ptr 3 0), (4, .ptr 8 0), (5, .ptr 9 0), (8, bA false), (9, iA 1), (10, bA false), (11, bA true), (12, bA false), (13, bA false), (14, bA false), (29, iA s.kind), (30, bA (s.kind == 5))] ?_
    clear G; intro ρ a w G
    refine th_n ?_
    cases h2 : (s.kind == (5 : Int))
    ·
     have q2 : ¬ (s.kind = 5) := ne_of_beq_false h2
     refine rF G (s.kind == (5 : Int)) (by assumption) ?_
     refine wp_seq ?_
     refine rs0s G [(2, iA n), (3, .ptr 3 0), (4, .ptr 8 0), (5, .ptr 9 0), (8, bA false), (9, iA 1), (10, bA false), (11, bA true), (12, bA false), (13, bA false), (14, bA false), (29, iA s.kind), (36, bA (s.kind == 2))] ?_
     clear G; intro ρ a w G
     refine th_n ?_
     cases h3 : (s.kind == (2 : Int))
     ·
      have q3 : ¬ (s.kind = 2) := ne_of_beq_false h3
      refine rF G (s.kind == (2 : Int)) (by assumption) ?_
      refine wp_seq ?_
      refine rs0s G [(2, iA n), (3, .ptr 3 0), (4, .ptr 8 0), (5, .ptr 9 0), (8, bA false), (9, iA 1), (10, bA false), (11, bA true), (12, bA false), (13, bA false), (14, bA false), (29, iA s.kind), (41, bA (s.kind == 3))] ?_
      clear G; intro ρ a w G
      refine th_n ?_
      cases h4 : (s.kind == (3 : Int))
      ·
       have q4 : ¬ (s.kind = 3) := ne_of_beq_false h4
       refine rF G (s.kind == (3 : Int)) (by assumption) ?_
       refine wp_seq ?_
       refine rs0s G [(2, iA n), (3, .ptr 3 0), (4, .ptr 8 0), (5, .ptr 9 0), (8, bA false), (9, iA 1), (10, bA false), (11, bA true), (12, bA false), (13, bA false), (14, bA false), (43, bA (s.kind == 4))] ?_
       clear G; intro ρ a w G
       refine th_n ?_
       cases h5 : (s.kind == (4 : Int))
       ·
        have q5 : ¬ (s.kind = 4) := ne_of_beq_false h5
        refine rF G (s.kind == (4 : Int)) (by assumption) ?_
        refine wp_seq ?_
        refine rs0s G [(2, iA n), (3, .ptr 3 0), (4, .ptr 8 0), (5, .ptr 9 0), (8, bA false), (9, iA 1), (10, bA false), (11, bA true), (12, bA false), (13, bA false), (14, bA false)] ?_
        clear G; intro ρ a w G
        refine th_n ?_
        refine wp_ret ?_
        refine bl_r ?_
        refine th_r ?_
        exact rx_ret (v := bA false) G [0, 1, 2, 3, 4, 5, 6, 7] (by kernel_rfl) (by kernel_rfl) (by have e1 : ((↑(stmtF p.vars.length p.arrays.length (d + 1) c s).snd : Int) : Int) = ((↑c : Int) + 1) := (by rw [stmtF_bad (by exact head0 (by omega))]; rfl); first | (rw [e1]; done) | (rw [e1]; rfl) | (simp only [e1]; done) | (simp only [e1]; rfl)) (by have e1 : ((stmtF p.vars.length p.arrays.length (d + 1) c s).fst : Bool) = (false) := (by rw [stmtF_bad (by exact head0 (by omega))]; done); first | (rw [e1]; done) | (rw [e1]; rfl) | (simp only [e1]; done) | (simp only [e1]; rfl))
       ·
        have q5 : s.kind = 4 := eq_of_beq h5
        refine rT G (s.kind == (4 : Int)) (by assumption) ?_
        refine rs0s G [(2, iA n), (3, .ptr 3 0), (4, .ptr 8 0), (5, .ptr 9 0), (8, bA false), (9, iA 1), (10, bA false), (11, bA false), (12, bA true), (13, bA true), (14, bA false)] ?_
        clear G; intro ρ a w G
        refine bl_n ?_
        refine th_n ?_
        refine wp_seq ?_
        refine wp_seq ?_
        cases h6 : (!(decide ((0 : Int) ≤ s.target) && decide (s.target ≤ (0 : Int))))
        ·
         have q6 : (0 ≤ s.target) ∧ (s.target ≤ 0) := (fun hq => And.imp (fun hq => of_decide_eq_true (hq)) (fun hq => of_decide_eq_true (hq)) (Bool.and_eq_true_iff.1 (hq))) (Eq.mp (Bool.not_eq_false' _) h6)
         cases h7 : (!(decide ((1 : Int) ≤ s.count) && decide (s.count ≤ (3 : Int))))
         ·
          have q7 : (1 ≤ s.count) ∧ (s.count ≤ 3) := (fun hq => And.imp (fun hq => of_decide_eq_true (hq)) (fun hq => of_decide_eq_true (hq)) (Bool.and_eq_true_iff.1 (hq))) (Eq.mp (Bool.not_eq_false' _) h7)
          refine rs1s G ⟨[(4, _, []), (11, _, [])], [(!(decide ((0 : Int) ≤ s.target) && decide (s.target ≤ (0 : Int))), false), (true, true), (!(decide ((1 : Int) ≤ s.count) && decide (s.count ≤ (3 : Int))), false), (false, false)], [(7, 0), (8, 0), (9, 1), (10, 1), (11, 1), (12, 1), (13, 0), (1013, 1), (1014, 0), (16, 2), (17, 2), (18, 2), (19, 3), (20, 3), (21, 3), (22, 2), (1022, 3), (1023, 2), (25, 3), (26, 3), (27, 3), (28, 3), (29, 3), (30, 3), (31, 3), (32, 3), (1032, 3), (1033, 3), (35, 3), (36, 3), (37, 3), (38, 1), (39, 1), (40, 1), (41, 1), (42, 3), (1042, 1), (1043, 3)]⟩ (calls_cons (c_within (s.target) (0) (0)) (calls_cons (c_within (s.count) (1) (3)) calls_nil)) ⟨(by assumption), (by kernel_rfl), (by assumption), (by kernel_rfl), trivial⟩ [(2, iA n), (3, .ptr 3 0), (4, .ptr 8 0), (5, .ptr 9 0), (8, bA false), (10, bA false), (11, bA false), (88, bA (decide ((↑s.els.length : Int) > 0)))] [IntKind.i64.wrap ((1 : Int) - (1 : Int)) = (1 : Int) - (1 : Int)] ⟨(by kernel_rfl), trivial⟩ ?_
          clear G; intro ρ a w G
          refine th_n ?_
          cases h8 : (decide ((↑s.els.length : Int) > (0 : Int)))
          ·
           have q8 : ¬ ((↑s.els.length : Int) > 0) := of_decide_eq_false h8
           refine rF G (decide ((↑s.els.length : Int) > (0 : Int))) (by assumption) ?_
           refine wp_skip ?_
           refine th_n ?_
           refine wp_seq ?_
           refine wp_seq ?_
           cases h9 : (!noneB s.index)
           ·
            have q9 : (noneB s.index) = true := (fun hq => (hq)) (Eq.mp (Bool.not_eq_false' _) h9)
            refine rs1s G ⟨[(20, _, [4]), (40, _, [5])], [(false, false), (true, true), (!noneB s.index, false)], [(2, 0), (3, 0), (4, 0), (5, 0), (6, 0), (7, 0), (12, 0), (1013, 0), (15, 0), (16, 0), (17, 0), (18, 1), (19, 1), (20, 1), (21, 1), (22, 0), (1022, 1), (1023, 0), (25, 2), (26, 2), (27, 0), (28, 0), (29, 0), (30, 0), (31, 0), (32, 2), (1032, 0), (1033, 2), (35, 0), (36, 0), (37, 0), (38, 1), (39, 1), (40, 1), (41, 1), (42, 0), (1042, 1), (1043, 0)]⟩ (calls_cons (c_isNone (s.index)) (calls_cons (c_isNone (s.value)) calls_nil)) ⟨(by kernel_rfl), (by kernel_rfl), (by assumption), trivial⟩ [(2, iA n), (3, .ptr 3 0), (4, .ptr 8 0), (5, .ptr 9 0), (8, bA false), (132, .v (.bool !noneB s.value))] [] trivial ?_
            clear G; intro ρ a w G
            refine th_n ?_
            cases h10 : (!noneB s.value)
            ·
             have q10 : (noneB s.value) = true := (fun hq => (hq)) (Eq.mp (Bool.not_eq_false' _) h10)
             refine rF G (!noneB s.value) (by assumption) ?_
             refine wp_skip ?_
             refine th_n ?_
             refine wp_seq ?_
             cases h11 : ((stmtsF p.vars.length p.arrays.length d (c + (1 : Nat)) s.body).fst)
             ·
              refine rs1 (dk := dkP) G ⟨[(6, _, [0, 1, 2, 3, 6])], [((stmtsF p.vars.length p.arrays.length d (c + (1 : Nat)) s.body).fst, false)], [(8, 0), (9, 0), (10, 0), (11, 0), (12, 0), (13, 0), (14, 0), (1015, 0)]⟩ (calls_cons (ih (s.body) (c + 1) (n + 1) (by simp; omega) (by omega)) calls_nil) ⟨(by assumption), trivial⟩ [0, 1, 2, 3, 4, 5, 6, 7] [dI p.vars, dI p.arrays, dT p.body, .box [iA (↑(stmtsF p.vars.length p.arrays.length d (c + 1) s.body).snd : Int)], dE s.index.kids, dE s.value.kids, dT s.body, dT s.els] [(8, bA false)] [IntKind.i64.wrap (n + (1 : Int)) = n + (1 : Int)] ⟨(by exact w64 (by omega) (by omega)), trivial⟩ ?_
              clear G; intro ρ a w G
              refine th_n ?_
              refine wp_ret ?_
              exact rx_ret (v := bA false) G [0, 1, 2, 3, 4, 5, 6, 7] (by kernel_rfl) (by kernel_rfl) (by have e1 : ((↑(stmtF p.vars.length p.arrays.length (d + 1) c s).snd : Int) : Int) = ((↑(stmtsF p.vars.length p.arrays.length d (c + 1) s.body).snd : Int)) := (by rw [stmtF_body (by omega) (by (rw [head4 (by omega)]; exact and_t (by omega) (by assumption) (by assumption))) (by assumption)]; done); first | (rw [e1]; done) | (rw [e1]; rfl) | (simp only [e1]; done) | (simp only [e1]; rfl)) (by have e1 : ((stmtF p.vars.length p.arrays.length (d + 1) c s).fst : Bool) = (false) := (by rw [stmtF_body (by omega) (by (rw [head4 (by omega)]; exact and_t (by omega) (by assumption) (by assumption))) (by assumption)]; assumption); first | (rw [e1]; done) | (rw [e1]; rfl) | (simp only [e1]; done) | (simp only [e1]; rfl))
             ·
              refine rs1 (dk := dkP) G ⟨[(6, _, [0, 1, 2, 3, 6]), (14, _, [0, 1, 2, 3, 7])], [((stmtsF p.vars.length p.arrays.length d (c + (1 : Nat)) s.body).fst, true)], [(8, 0), (9, 0), (10, 0), (11, 0), (12, 0), (13, 0), (14, 0), (1015, 0)]⟩ (calls_cons (ih (s.body) (c + 1) (n + 1) (by simp; omega) (by omega)) (calls_cons (ih (s.els) ((stmtsF p.vars.length p.arrays.length d (c + 1) s.body).snd) (n + 1) (by exact stmtsF_le (by omega) (by assumption)) (by omega)) calls_nil)) ⟨(by assumption), trivial⟩ [0, 1, 2, 3, 4, 5, 6, 7] [dI p.vars, dI p.arrays, dT p.body, .box [iA (↑(stmtsF p.vars.length p.arrays.length d (stmtsF p.vars.length p.arrays.length d (c + 1) s.body).snd s.els).snd : Int)], dE s.index.kids, dE s.value.kids, dT s.body, dT s.els] [(8, bA (stmtsF p.vars.length p.arrays.length d (stmtsF p.vars.length p.arrays.length d (c + 1) s.body).snd s.els).fst)] [IntKind.i64.wrap (n + (1 : Int)) = n + (1 : Int), IntKind.i64.wrap (n + (1 : Int)) = n + (1 : Int)] ⟨(by exact w64 (by omega) (by omega)), (by exact w64 (by omega) (by omega)), trivial⟩ ?_
              clear G; intro ρ a w G
              refine th_n ?_
              refine wp_ret ?_
              exact rx_ret (v := bA (stmtsF p.vars.length p.arrays.length d (stmtsF p.vars.length p.arrays.length d (c + 1) s.body).snd s.els).fst) G [0, 1, 2, 3, 4, 5, 6, 7] (by kernel_rfl) (by kernel_rfl) (by have e1 : ((↑(stmtF p.vars.length p.arrays.length (d + 1) c s).snd : Int) : Int) = ((↑(stmtsF p.vars.length p.arrays.length d (stmtsF p.vars.length p.arrays.length d (c + 1) s.body).snd s.els).snd : Int)) := (by rw [stmtF_els (by omega) (by (rw [head4 (by omega)]; exact and_t (by omega) (by assumption) (by assumption))) (by assumption)]; done); first | (rw [e1]; done) | (rw [e1]; rfl) | (simp only [e1]; done) | (simp only [e1]; rfl)) (by have e1 : ((stmtF p.vars.length p.arrays.length (d + 1) c s).fst : Bool) = ((stmtsF p.vars.length p.arrays.length d (stmtsF p.vars.length p.arrays.length d (c + 1) s.body).snd s.els).fst) := (by rw [stmtF_els (by omega) (by (rw [head4 (by omega)]; exact and_t (by omega) (by assumption) (by assumption))) (by assumption)]; done); first | (rw [e1]; done) | (rw [e1]; rfl) | (simp only [e1]; done) | (simp only [e1]; rfl))
            ·
             have q10 : (noneB s.value) = false := (fun hq => (hq)) (Eq.mp (Bool.not_eq_true' _) h10)
             refine rT G (!noneB s.value) (by assumption) ?_
             refine wp_seq ?_
             refine rs0s G [(2, iA n), (3, .ptr 3 0), (4, .ptr 8 0), (5, .ptr 9 0), (8, bA false)] ?_
             clear G; intro ρ a w G
             refine th_n ?_
             refine wp_ret ?_
             refine th_r ?_
             exact rx_ret (v := bA false) G [0, 1, 2, 3, 4, 5, 6, 7] (by kernel_rfl) (by kernel_rfl) (by have e1 : ((↑(stmtF p.vars.length p.arrays.length (d + 1) c s).snd : Int) : Int) = ((↑c : Int) + 1) := (by rw [stmtF_bad (by (rw [head4 (by omega)]; simp [h100, h0, q0, h1, q1, h2, q2, h3, q3, h4, q4, h5, q5, h6, q6, h7, q7, h8, q8, h9, q9, h10, q10]; done))]; rfl); first | (rw [e1]; done) | (rw [e1]; rfl) | (simp only [e1]; done) | (simp only [e1]; rfl)) (by have e1 : ((stmtF p.vars.length p.arrays.length (d + 1) c s).fst : Bool) = (false) := (by rw [stmtF_bad (by (rw [head4 (by omega)]; simp [h100, h0, q0, h1, q1, h2, q2, h3, q3, h4, q4, h5, q5, h6, q6, h7, q7, h8, q8, h9, q9, h10, q10]; done))]; done); first | (rw [e1]; done) | (rw [e1]; rfl) | (simp only [e1]; done) | (simp only [e1]; rfl))
           ·
            have q9 : (noneB s.index) = false := (fun hq => (hq)) (Eq.mp (Bool.not_eq_true' _) h9)
            refine rs1s G ⟨[(20, _, [4])], [(false, false), (true, true), (!noneB s.index, true)], [(2, 0), (3, 0), (4, 0), (5, 0), (6, 0), (7, 0), (12, 0), (1013, 0), (15, 0), (16, 0), (17, 0), (18, 1), (19, 1), (20, 1), (21, 1), (22, 0), (1022, 1), (1023, 0), (25, 2), (26, 2), (32, 2), (1033, 2), (35, 1), (36, 1), (37, 1), (42, 1), (1043, 1)]⟩ (calls_cons (c_isNone (s.index)) calls_nil) ⟨(by kernel_rfl), (by kernel_rfl), (by assumption), trivial⟩ [(2, iA n), (3, .ptr 3 0), (4, .ptr 8 0), (5, .ptr 9 0), (8, bA false), (132, bA true)] [] trivial ?_
            clear G; intro ρ a w G
            refine th_n ?_
            refine rT G (true) (by kernel_rfl) ?_
            refine wp_seq ?_
            refine rs0s G [(2, iA n), (3, .ptr 3 0), (4, .ptr 8 0), (5, .ptr 9 0), (8, bA false)] ?_
            clear G; intro ρ a w G
            refine th_n ?_
            refine wp_ret ?_
            refine th_r ?_
            exact rx_ret (v := bA false) G [0, 1, 2, 3, 4, 5, 6, 7] (by kernel_rfl) (by kernel_rfl) (by have e1 : ((↑(stmtF p.vars.length p.arrays.length (d + 1) c s).snd : Int) : Int) = ((↑c : Int) + 1) := (by rw [stmtF_bad (by (rw [head4 (by omega)]; simp [h100, h0, q0, h1, q1, h2, q2, h3, q3, h4, q4, h5, q5, h6, q6, h7, q7, h8, q8, h9, q9]; done))]; rfl); first | (rw [e1]; done) | (rw [e1]; rfl) | (simp only [e1]; done) | (simp only [e1]; rfl)) (by have e1 : ((stmtF p.vars.length p.arrays.length (d + 1) c s).fst : Bool) = (false) := (by rw [stmtF_bad (by (rw [head4 (by omega)]; simp [h100, h0, q0, h1, q1, h2, q2, h3, q3, h4, q4, h5, q5, h6, q6, h7, q7, h8, q8, h9, q9]; done))]; done); first | (rw [e1]; done) | (rw [e1]; rfl) | (simp only [e1]; done) | (simp only [e1]; rfl))
          ·
           have q8 : (↑s.els.length : Int) > 0 := of_decide_eq_true h8
           refine rT G (decide ((↑s.els.length : Int) > (0 : Int))) (by assumption) ?_
           refine wp_seq ?_
           refine rs0s G [(2, iA n), (3, .ptr 3 0), (4, .ptr 8 0), (5, .ptr 9 0), (8, bA false), (10, bA false), (11, bA false)] ?_
           clear G; intro ρ a w G
           refine th_n ?_
           refine wp_ret ?_
           refine th_r ?_
           exact rx_ret (v := bA false) G [0, 1, 2, 3, 4, 5, 6, 7] (by kernel_rfl) (by kernel_rfl) (by have e1 : ((↑(stmtF p.vars.length p.arrays.length (d + 1) c s).snd : Int) : Int) = ((↑c : Int) + 1) := (by rw [stmtF_bad (by (rw [head4 (by omega), decide_eq_false (by omega)]; rfl))]; rfl); first | (rw [e1]; done) | (rw [e1]; rfl) | (simp only [e1]; done) | (simp only [e1]; rfl)) (by have e1 : ((stmtF p.vars.length p.arrays.length (d + 1) c s).fst : Bool) = (false) := (by rw [stmtF_bad (by (rw [head4 (by omega), decide_eq_false (by omega)]; rfl))]; done); first | (rw [e1]; done) | (rw [e1]; rfl) | (simp only [e1]; done) | (simp only [e1]; rfl))
         ·
          have q7 : (¬ (1 ≤ s.count)) ∨ (¬ (s.count ≤ 3)) := (fun hq => Or.imp (fun hq => of_decide_eq_false (hq)) (fun hq => of_decide_eq_false (hq)) (Bool.and_eq_false_iff.1 (hq))) (Eq.mp (Bool.not_eq_true' _) h7)
          refine rs1s G ⟨[(4, _, []), (11, _, [])], [(!(decide ((0 : Int) ≤ s.target) && decide (s.target ≤ (0 : Int))), false), (true, true), (!(decide ((1 : Int) ≤ s.count) && decide (s.count ≤ (3 : Int))), true)], [(7, 0), (8, 0), (9, 1), (10, 1), (11, 1), (12, 1), (13, 0), (1013, 1), (1014, 0), (16, 2), (17, 2), (18, 2), (22, 2), (1023, 2), (25, 1), (26, 1), (27, 1), (32, 1), (1033, 1), (35, 1), (36, 1), (37, 1), (42, 1), (1043, 1)]⟩ (calls_cons (c_within (s.target) (0) (0)) (calls_cons (c_within (s.count) (1) (3)) calls_nil)) ⟨(by assumption), (by kernel_rfl), (by assumption), trivial⟩ [(2, iA n), (3, .ptr 3 0), (4, .ptr 8 0), (5, .ptr 9 0), (8, bA false), (10, bA false), (11, bA false), (88, bA true)] [IntKind.i64.wrap ((1 : Int) - (1 : Int)) = (1 : Int) - (1 : Int)] ⟨(by kernel_rfl), trivial⟩ ?_
          clear G; intro ρ a w G
          refine th_n ?_
          refine rT G (true) (by kernel_rfl) ?_
          refine wp_seq ?_
          refine rs0s G [(2, iA n), (3, .ptr 3 0), (4, .ptr 8 0), (5, .ptr 9 0), (8, bA false), (10, bA false), (11, bA false)] ?_
          clear G; intro ρ a w G
          refine th_n ?_
          refine wp_ret ?_
          refine th_r ?_
          exact rx_ret (v := bA false) G [0, 1, 2, 3, 4, 5, 6, 7] (by kernel_rfl) (by kernel_rfl) (by have e1 : ((↑(stmtF p.vars.length p.arrays.length (d + 1) c s).snd : Int) : Int) = ((↑c : Int) + 1) := (by rw [stmtF_bad (by (rw [head4 (by omega), decide_eq_false (by omega)]; rfl))]; rfl); first | (rw [e1]; done) | (rw [e1]; rfl) | (simp only [e1]; done) | (simp only [e1]; rfl)) (by have e1 : ((stmtF p.vars.length p.arrays.length (d + 1) c s).fst : Bool) = (false) := (by rw [stmtF_bad (by (rw [head4 (by omega), decide_eq_false (by omega)]; rfl))]; done); first | (rw [e1]; done) | (rw [e1]; rfl) | (simp only [e1]; done) | (simp only [e1]; rfl))
        ·
         have q6 : (¬ (0 ≤ s.target)) ∨ (¬ (s.target ≤ 0)) := (fun hq => Or.imp (fun hq => of_decide_eq_false (hq)) (fun hq => of_decide_eq_false (hq)) (Bool.and_eq_false_iff.1 (hq))) (Eq.mp (Bool.not_eq_true' _) h6)
         refine rs1s G ⟨[(4, _, [])], [(!(decide ((0 : Int) ≤ s.target) && decide (s.target ≤ (0 : Int))), true), (true, true)], [(7, 0), (8, 0), (13, 0), (1014, 0), (16, 1), (17, 1), (18, 1), (22, 1), (1023, 1), (25, 1), (26, 1), (27, 1), (32, 1), (1033, 1), (35, 1), (36, 1), (37, 1), (42, 1), (1043, 1)]⟩ (calls_cons (c_within (s.target) (0) (0)) calls_nil) ⟨(by assumption), (by kernel_rfl), trivial⟩ [(2, iA n), (3, .ptr 3 0), (4, .ptr 8 0), (5, .ptr 9 0), (8, bA false), (10, bA false), (11, bA false), (88, bA true)] [IntKind.i64.wrap ((1 : Int) - (1 : Int)) = (1 : Int) - (1 : Int)] ⟨(by kernel_rfl), trivial⟩ ?_
         clear G; intro ρ a w G
         refine th_n ?_
         refine rT G (true) (by kernel_rfl) ?_
         refine wp_seq ?_
         refine rs0s G [(2, iA n), (3, .ptr 3 0), (4, .ptr 8 0), (5, .ptr 9 0), (8, bA false), (10, bA false), (11, bA false)] ?_
         clear G; intro ρ a w G
         refine th_n ?_
         refine wp_ret ?_
         refine th_r ?_
         exact rx_ret (v := bA false) G [0, 1, 2, 3, 4, 5, 6, 7] (by kernel_rfl) (by kernel_rfl) (by have e1 : ((↑(stmtF p.vars.length p.arrays.length (d + 1) c s).snd : Int) : Int) = ((↑c : Int) + 1) := (by rw [stmtF_bad (by (rw [head4 (by omega), decide_eq_false (by omega)]; rfl))]; rfl); first | (rw [e1]; done) | (rw [e1]; rfl) | (simp only [e1]; done) | (simp only [e1]; rfl)) (by have e1 : ((stmtF p.vars.length p.arrays.length (d + 1) c s).fst : Bool) = (false) := (by rw [stmtF_bad (by (rw [head4 (by omega), decide_eq_false (by omega)]; rfl))]; done); first | (rw [e1]; done) | (rw [e1]; rfl) | (simp only [e1]; done) | (simp only [e1]; rfl))
      ·
       have q4 : s.kind = 3 := eq_of_beq h4
       refine rT G (s.kind == (3 : Int)) (by assumption) ?_
       refine rs0s G [(2, iA n), (3, .ptr 3 0), (4, .ptr 8 0), (5, .ptr 9 0), (8, bA false), (9, iA 1), (10, bA false), (11, bA true), (12, bA false), (13, bA true), (14, bA true)] ?_
       clear G; intro ρ a w G
       refine bl_n ?_
       refine th_n ?_
       refine wp_seq ?_
       refine wp_seq ?_
       cases h12 : (!(decide ((0 : Int) ≤ s.target) && decide (s.target ≤ (0 : Int))))
       ·
        have q12 : (0 ≤ s.target) ∧ (s.target ≤ 0) := (fun hq => And.imp (fun hq => of_decide_eq_true (hq)) (fun hq => of_decide_eq_true (hq)) (Bool.and_eq_true_iff.1 (hq))) (Eq.mp (Bool.not_eq_false' _) h12)
        cases h13 : (s.count != (0 : Int))
        ·
         have q13 : s.count = 0 := (by simpa using h13)
         refine rs1s G ⟨[(4, _, [])], [(!(decide ((0 : Int) ≤ s.target) && decide (s.target ≤ (0 : Int))), false), (false, false), (true, true), (s.count != (0 : Int), false)], [(7, 0), (8, 0), (9, 1), (10, 1), (11, 1), (12, 1), (13, 0), (1013, 1), (1014, 0), (16, 1), (17, 1), (18, 1), (19, 2), (20, 2), (21, 2), (22, 1), (1022, 2), (1023, 1), (25, 3), (26, 3), (27, 3), (28, 1), (29, 1), (30, 1), (31, 1), (32, 3), (1032, 1), (1033, 3), (35, 1), (36, 1), (37, 1), (38, 1), (39, 1), (40, 1), (41, 1), (42, 1), (1042, 1), (1043, 1)]⟩ (calls_cons (c_within (s.target) (0) (0)) calls_nil) ⟨(by assumption), (by kernel_rfl), (by kernel_rfl), (by assumption), trivial⟩ [(2, iA n), (3, .ptr 3 0), (4, .ptr 8 0), (5, .ptr 9 0), (8, bA false), (10, bA false), (11, bA true), (88, bA false)] [IntKind.i64.wrap ((1 : Int) - (1 : Int)) = (1 : Int) - (1 : Int)] ⟨(by kernel_rfl), trivial⟩ ?_
         clear G; intro ρ a w G
         refine th_n ?_
         refine rF G (false) (by kernel_rfl) ?_
         refine wp_skip ?_
         refine th_n ?_
         refine wp_seq ?_
         refine wp_seq ?_
         cases h14 : (!noneB s.index)
         ·
          have q14 : (noneB s.index) = true := (fun hq => (hq)) (Eq.mp (Bool.not_eq_false' _) h14)
          cases h15 : (!rightB p.vars.length p.arrays.length s.value)
          ·
           have q15 : (rightB p.vars.length p.arrays.length s.value) = true := (fun hq => (hq)) (Eq.mp (Bool.not_eq_false' _) h15)
           refine rs1s G ⟨[(20, _, [4]), (30, _, [0, 1, 2, 5])], [(false, false), (true, true), (!noneB s.index, false), (!rightB p.vars.length p.arrays.length s.value, false)], [(2, 0), (3, 0), (4, 0), (5, 0), (6, 0), (7, 0), (12, 0), (1013, 0), (15, 0), (16, 0), (17, 0), (18, 1), (19, 1), (20, 1), (21, 1), (22, 0), (1022, 1), (1023, 0), (25, 2), (26, 2), (27, 1), (28, 1), (29, 1), (30, 1), (31, 1), (32, 2), (1032, 1), (1033, 2), (35, 3), (36, 3), (37, 3), (38, 0), (39, 0), (40, 0), (41, 0), (42, 3), (1042, 0), (1043, 3)]⟩ (calls_cons (c_isNone (s.index)) (calls_cons (c_expr (p) (s.value)) calls_nil)) ⟨(by kernel_rfl), (by kernel_rfl), (by assumption), (by assumption), trivial⟩ [(2, iA n), (3, .ptr 3 0), (4, .ptr 8 0), (5, .ptr 9 0), (8, bA false), (132, bA false)] [] trivial ?_
           clear G; intro ρ a w G
           refine th_n ?_
           refine rF G (false) (by kernel_rfl) ?_
           refine wp_skip ?_
           refine th_n ?_
           refine wp_seq ?_
           cases h16 : ((stmtsF p.vars.length p.arrays.length d (c + (1 : Nat)) s.body).fst)
           ·
            refine rs1 (dk := dkP) G ⟨[(6, _, [0, 1, 2, 3, 6])], [((stmtsF p.vars.length p.arrays.length d (c + (1 : Nat)) s.body).fst, false)], [(8, 0), (9, 0), (10, 0), (11, 0), (12, 0), (13, 0), (14, 0), (1015, 0)]⟩ (calls_cons (ih (s.body) (c + 1) (n + 1) (by simp; omega) (by omega)) calls_nil) ⟨(by assumption), trivial⟩ [0, 1, 2, 3, 4, 5, 6, 7] [dI p.vars, dI p.arrays, dT p.body, .box [iA (↑(stmtsF p.vars.length p.arrays.length d (c + 1) s.body).snd : Int)], dE s.index.kids, dE s.value.kids, dT s.body, dT s.els] [(8, bA false)] [IntKind.i64.wrap (n + (1 : Int)) = n + (1 : Int)] ⟨(by exact w64 (by omega) (by omega)), trivial⟩ ?_
            clear G; intro ρ a w G
            refine th_n ?_
            refine wp_ret ?_
            exact rx_ret (v := bA false) G [0, 1, 2, 3, 4, 5, 6, 7] (by kernel_rfl) (by kernel_rfl) (by have e1 : ((↑(stmtF p.vars.length p.arrays.length (d + 1) c s).snd : Int) : Int) = ((↑(stmtsF p.vars.length p.arrays.length d (c + 1) s.body).snd : Int)) := (by rw [stmtF_body (by omega) (by (rw [head3 (by omega)]; exact and_t (by omega) (by assumption) (by assumption))) (by assumption)]; done); first | (rw [e1]; done) | (rw [e1]; rfl) | (simp only [e1]; done) | (simp only [e1]; rfl)) (by have e1 : ((stmtF p.vars.length p.arrays.length (d + 1) c s).fst : Bool) = (false) := (by rw [stmtF_body (by omega) (by (rw [head3 (by omega)]; exact and_t (by omega) (by assumption) (by assumption))) (by assumption)]; assumption); first | (rw [e1]; done) | (rw [e1]; rfl) | (simp only [e1]; done) | (simp only [e1]; rfl))
           ·
            refine rs1 (dk := dkP) G ⟨[(6, _, [0, 1, 2, 3, 6]), (14, _, [0, 1, 2, 3, 7])], [((stmtsF p.vars.length p.arrays.length d (c + (1 : Nat)) s.body).fst, true)], [(8, 0), (9, 0), (10, 0), (11, 0), (12, 0), (13, 0), (14, 0), (1015, 0)]⟩ (calls_cons (ih (s.body) (c + 1) (n + 1) (by simp; omega) (by omega)) (calls_cons (ih (s.els) ((stmtsF p.vars.length p.arrays.length d (c + 1) s.body).snd) (n + 1) (by exact stmtsF_le (by omega) (by assumption)) (by omega)) calls_nil)) ⟨(by assumption), trivial⟩ [0, 1, 2, 3, 4, 5, 6, 7] [dI p.vars, dI p.arrays, dT p.body, .box [iA (↑(stmtsF p.vars.length p.arrays.length d (stmtsF p.vars.length p.arrays.length d (c + 1) s.body).snd s.els).snd : Int)], dE s.index.kids, dE s.value.kids, dT s.body, dT s.els] [(8, bA (stmtsF p.vars.length p.arrays.length d (stmtsF p.vars.length p.arrays.length d (c + 1) s.body).snd s.els).fst)] [IntKind.i64.wrap (n + (1 : Int)) = n + (1 : Int), IntKind.i64.wrap (n + (1 : Int)) = n + (1 : Int)] ⟨(by exact w64 (by omega) (by omega)), (by exact w64 (by omega) (by omega)), trivial⟩ ?_
            clear G; intro ρ a w G
            refine th_n ?_
            refine wp_ret ?_
            exact rx_ret (v := bA (stmtsF p.vars.length p.arrays.length d (stmtsF p.vars.length p.arrays.length d (c + 1) s.body).snd s.els).fst) G [0, 1, 2, 3, 4, 5, 6, 7] (by kernel_rfl) (by kernel_rfl) (by have e1 : ((↑(stmtF p.vars.length p.arrays.length (d + 1) c s).snd : Int) : Int) = ((↑(stmtsF p.vars.length p.arrays.length d (stmtsF p.vars.length p.arrays.length d (c + 1) s.body).snd s.els).snd : Int)) := (by rw [stmtF_els (by omega) (by (rw [head3 (by omega)]; exact and_t (by omega) (by assumption) (by assumption))) (by assumption)]; done); first | (rw [e1]; done) | (rw [e1]; rfl) | (simp only [e1]; done) | (simp only [e1]; rfl)) (by have e1 : ((stmtF p.vars.length p.arrays.length (d + 1) c s).fst : Bool) = ((stmtsF p.vars.length p.arrays.length d (stmtsF p.vars.length p.arrays.length d (c + 1) s.body).snd s.els).fst) := (by rw [stmtF_els (by omega) (by (rw [head3 (by omega)]; exact and_t (by omega) (by assumption) (by assumption))) (by assumption)]; done); first | (rw [e1]; done) | (rw [e1]; rfl) | (simp only [e1]; done) | (simp only [e1]; rfl))
          ·
           have q15 : (rightB p.vars.length p.arrays.length s.value) = false := (fun hq => (hq)) (Eq.mp (Bool.not_eq_true' _) h15)
           refine rs1s G ⟨[(20, _, [4]), (30, _, [0, 1, 2, 5])], [(false, false), (true, true), (!noneB s.index, false), (!rightB p.vars.length p.arrays.length s.value, true)], [(2, 0), (3, 0), (4, 0), (5, 0), (6, 0), (7, 0), (12, 0), (1013, 0), (15, 0), (16, 0), (17, 0), (18, 1), (19, 1), (20, 1), (21, 1), (22, 0), (1022, 1), (1023, 0), (25, 2), (26, 2), (27, 1), (28, 1), (29, 1), (30, 1), (31, 1), (32, 2), (1032, 1), (1033, 2), (35, 3), (36, 3), (37, 3), (42, 3), (1043, 3)]⟩ (calls_cons (c_isNone (s.index)) (calls_cons (c_expr (p) (s.value)) calls_nil)) ⟨(by kernel_rfl), (by kernel_rfl), (by assumption), (by assumption), trivial⟩ [(2, iA n), (3, .ptr 3 0), (4, .ptr 8 0), (5, .ptr 9 0), (8, bA false), (132, bA true)] [] trivial ?_
           clear G; intro ρ a w G
           refine th_n ?_
           refine rT G (true) (by kernel_rfl) ?_
           refine wp_seq ?_
           refine rs0s G [(2, iA n), (3, .ptr 3 0), (4, .ptr 8 0), (5, .ptr 9 0), (8, bA false)] ?_
           clear G; intro ρ a w G
           refine th_n ?_
           refine wp_ret ?_
           refine th_r ?_
           exact rx_ret (v := bA false) G [0, 1, 2, 3, 4, 5, 6, 7] (by kernel_rfl) (by kernel_rfl) (by have e1 : ((↑(stmtF p.vars.length p.arrays.length (d + 1) c s).snd : Int) : Int) = ((↑c : Int) + 1) := (by rw [stmtF_bad (by (rw [head3 (by omega)]; simp [h100, h0, q0, h1, q1, h2, q2, h3, q3, h4, q4, h12, q12, h13, q13, h14, q14, h15, q15]; done))]; rfl); first | (rw [e1]; done) | (rw [e1]; rfl) | (simp only [e1]; done) | (simp only [e1]; rfl)) (by have e1 : ((stmtF p.vars.length p.arrays.length (d + 1) c s).fst : Bool) = (false) := (by rw [stmtF_bad (by (rw [head3 (by omega)]; simp [h100, h0, q0, h1, q1, h2, q2, h3, q3, h4, q4, h12, q12, h13, q13, h14, q14, h15, q15]; done))]; done); first | (rw [e1]; done) | (rw [e1]; rfl) | (simp only [e1]; done) | (simp only [e1]; rfl))
         ·
          have q14 : (noneB s.index) = false := (fun hq => (hq)) (Eq.mp (Bool.not_eq_true' _) h14)
          refine rs1s G ⟨[(20, _, [4])], [(false, false), (true, true), (!noneB s.index, true)], [(2, 0), (3, 0), (4, 0), (5, 0), (6, 0), (7, 0), (12, 0), (1013, 0), (15, 0), (16, 0), (17, 0), (18, 1), (19, 1), (20, 1), (21, 1), (22, 0), (1022, 1), (1023, 0), (25, 2), (26, 2), (32, 2), (1033, 2), (35, 1), (36, 1), (37, 1), (42, 1), (1043, 1)]⟩ (calls_cons (c_isNone (s.index)) calls_nil) ⟨(by kernel_rfl), (by kernel_rfl), (by assumption), trivial⟩ [(2, iA n), (3, .ptr 3 0), (4, .ptr 8 0), (5, .ptr 9 0), (8, bA false), (132, bA true)] [] trivial ?_
          clear G; intro ρ a w G
          refine th_n ?_
          refine rT G (true) (by kernel_rfl) ?_
          refine wp_seq ?_
          refine rs0s G [(2, iA n), (3, .ptr 3 0), (4, .ptr 8 0), (5, .ptr 9 0), (8, bA false)] ?_
          clear G; intro ρ a w G
          refine th_n ?_
          refine wp_ret ?_
          refine th_r ?_
          exact rx_ret (v := bA false) G [0, 1, 2, 3, 4, 5, 6, 7] (by kernel_rfl) (by kernel_rfl) (by have e1 : ((↑(stmtF p.vars.length p.arrays.length (d + 1) c s).snd : Int) : Int) = ((↑c : Int) + 1) := (by rw [stmtF_bad (by (rw [head3 (by omega)]; simp [h100, h0, q0, h1, q1, h2, q2, h3, q3, h4, q4, h12, q12, h13, q13, h14, q14]; done))]; rfl); first | (rw [e1]; done) | (rw [e1]; rfl) | (simp only [e1]; done) | (simp only [e1]; rfl)) (by have e1 : ((stmtF p.vars.length p.arrays.length (d + 1) c s).fst : Bool) = (false) := (by rw [stmtF_bad (by (rw [head3 (by omega)]; simp [h100, h0, q0, h1, q1, h2, q2, h3, q3, h4, q4, h12, q12, h13, q13, h14, q14]; done))]; done); first | (rw [e1]; done) | (rw [e1]; rfl) | (simp only [e1]; done) | (simp only [e1]; rfl))
        ·
         have q13 : ¬ (s.count = 0) := bne_iff_ne.1 h13
         refine rs1s G ⟨[(4, _, [])], [(!(decide ((0 : Int) ≤ s.target) && decide (s.target ≤ (0 : Int))), false), (false, false), (true, true), (s.count != (0 : Int), true)], [(7, 0), (8, 0), (9, 1), (10, 1), (11, 1), (12, 1), (13, 0), (1013, 1), (1014, 0), (16, 1), (17, 1), (18, 1), (19, 2), (20, 2), (21, 2), (22, 1), (1022, 2), (1023, 1), (25, 3), (26, 3), (27, 3), (32, 3), (1033, 3), (35, 2), (36, 2), (37, 2), (42, 2), (1043, 2)]⟩ (calls_cons (c_within (s.target) (0) (0)) calls_nil) ⟨(by assumption), (by kernel_rfl), (by kernel_rfl), (by assumption), trivial⟩ [(2, iA n), (3, .ptr 3 0), (4, .ptr 8 0), (5, .ptr 9 0), (8, bA false), (10, bA false), (11, bA true), (88, bA true)] [IntKind.i64.wrap ((1 : Int) - (1 : Int)) = (1 : Int) - (1 : Int)] ⟨(by kernel_rfl), trivial⟩ ?_
         clear G; intro ρ a w G
         refine th_n ?_
         refine rT G (true) (by kernel_rfl) ?_
         refine wp_seq ?_
         refine rs0s G [(2, iA n), (3, .ptr 3 0), (4, .ptr 8 0), (5, .ptr 9 0), (8, bA false), (10, bA false), (11, bA true)] ?_
         clear G; intro ρ a w G
         refine th_n ?_
         refine wp_ret ?_
         refine th_r ?_
         exact rx_ret (v := bA false) G [0, 1, 2, 3, 4, 5, 6, 7] (by kernel_rfl) (by kernel_rfl) (by have e1 : ((↑(stmtF p.vars.length p.arrays.length (d + 1) c s).snd : Int) : Int) = ((↑c : Int) + 1) := (by rw [stmtF_bad (by (rw [head3 (by omega), decide_eq_false (by omega)]; rfl))]; rfl); first | (rw [e1]; done) | (rw [e1]; rfl) | (simp only [e1]; done) | (simp only [e1]; rfl)) (by have e1 : ((stmtF p.vars.length p.arrays.length (d + 1) c s).fst : Bool) = (false) := (by rw [stmtF_bad (by (rw [head3 (by omega), decide_eq_false (by omega)]; rfl))]; done); first | (rw [e1]; done) | (rw [e1]; rfl) | (simp only [e1]; done) | (simp only [e1]; rfl))
       ·
        have q12 : (¬ (0 ≤ s.target)) ∨ (¬ (s.target ≤ 0)) := (fun hq => Or.imp (fun hq => of_decide_eq_false (hq)) (fun hq => of_decide_eq_false (hq)) (Bool.and_eq_false_iff.1 (hq))) (Eq.mp (Bool.not_eq_true' _) h12)
        refine rs1s G ⟨[(4, _, [])], [(!(decide ((0 : Int) ≤ s.target) && decide (s.target ≤ (0 : Int))), true), (true, true)], [(7, 0), (8, 0), (13, 0), (1014, 0), (16, 1), (17, 1), (18, 1), (22, 1), (1023, 1), (25, 1), (26, 1), (27, 1), (32, 1), (1033, 1), (35, 1), (36, 1), (37, 1), (42, 1), (1043, 1)]⟩ (calls_cons (c_within (s.target) (0) (0)) calls_nil) ⟨(by assumption), (by kernel_rfl), trivial⟩ [(2, iA n), (3, .ptr 3 0), (4, .ptr 8 0), (5, .ptr 9 0), (8, bA false), (10, bA false), (11, bA true), (88, bA true)] [IntKind.i64.wrap ((1 : Int) - (1 : Int)) = (1 : Int) - (1 : Int)] ⟨(by kernel_rfl), trivial⟩ ?_
        clear G; intro ρ a w G
        refine th_n ?_
        refine rT G (true) (by kernel_rfl) ?_
        refine wp_seq ?_
        refine rs0s G [(2, iA n), (3, .ptr 3 0), (4, .ptr 8 0), (5, .ptr 9 0), (8, bA false), (10, bA false), (11, bA true)] ?_
        clear G; intro ρ a w G
        refine th_n ?_
        refine wp_ret ?_
        refine th_r ?_
        exact rx_ret (v := bA false) G [0, 1, 2, 3, 4, 5, 6, 7] (by kernel_rfl) (by kernel_rfl) (by have e1 : ((↑(stmtF p.vars.length p.arrays.length (d + 1) c s).snd : Int) : Int) = ((↑c : Int) + 1) := (by rw [stmtF_bad (by (rw [head3 (by omega), decide_eq_false (by omega)]; rfl))]; rfl); first | (rw [e1]; done) | (rw [e1]; rfl) | (simp only [e1]; done) | (simp only [e1]; rfl)) (by have e1 : ((stmtF p.vars.length p.arrays.length (d + 1) c s).fst : Bool) = (false) := (by rw [stmtF_bad (by (rw [head3 (by omega), decide_eq_false (by omega)]; rfl))]; done); first | (rw [e1]; done) | (rw [e1]; rfl) | (simp only [e1]; done) | (simp only [e1]; rfl))
     ·
      have q3 : s.kind = 2 := eq_of_beq h3
      refine rT G (s.kind == (2 : Int)) (by assumption) ?_
      refine rs0s G [(2, iA n), (3, .ptr 3 0), (4, .ptr 8 0), (5, .ptr 9 0), (8, bA false), (9, iA (↑p.arrays.length : Int)), (10, bA true), (11, bA true), (12, bA false), (13, bA false), (14, bA false)] ?_
      clear G; intro ρ a w G
      refine bl_n ?_
      refine th_n ?_
      refine wp_seq ?_
      refine wp_seq ?_
      cases h17 : (!(decide ((0 : Int) ≤ s.target) && decide (s.target ≤ (↑p.arrays.length : Int) - (1 : Int))))
      ·
       have q17 : (0 ≤ s.target) ∧ (s.target ≤ (↑p.arrays.length : Int) - 1) := (fun hq => And.imp (fun hq => of_decide_eq_true (hq)) (fun hq => of_decide_eq_true (hq)) (Bool.and_eq_true_iff.1 (hq))) (Eq.mp (Bool.not_eq_false' _) h17)
       cases h18 : (s.count != (0 : Int))
       ·
        have q18 : s.count = 0 := (by simpa using h18)
        cases h19 : (decide ((↑s.body.length : Int) > (0 : Int)))
        ·
         have q19 : ¬ ((↑s.body.length : Int) > 0) := of_decide_eq_false h19
         refine rs1s G ⟨[(4, _, [])], [(!(decide ((0 : Int) ≤ s.target) && decide (s.target ≤ (↑p.arrays.length : Int) - (1 : Int))), false), (false, false), (true, true), (s.count != (0 : Int), false), (decide ((↑s.body.length : Int) > (0 : Int)), false)], [(7, 0), (8, 0), (9, 1), (10, 1), (11, 1), (12, 1), (13, 0), (1013, 1), (1014, 0), (16, 1), (17, 1), (18, 1), (19, 2), (20, 2), (21, 2), (22, 1), (1022, 2), (1023, 1), (25, 3), (26, 3), (27, 3), (28, 2), (29, 2), (30, 2), (31, 2), (32, 3), (1032, 2), (1033, 3), (35, 4), (36, 4), (37, 4), (38, 2), (39, 2), (40, 2), (41, 2), (42, 4), (1042, 2), (1043, 4)]⟩ (calls_cons (c_within (s.target) (0) ((↑p.arrays.length : Int) - 1)) calls_nil) ⟨(by assumption), (by kernel_rfl), (by kernel_rfl), (by assumption), (by assumption), trivial⟩ [(2, iA n), (3, .ptr 3 0), (4, .ptr 8 0), (5, .ptr 9 0), (8, bA false), (10, bA true), (11, bA true), (88, bA (decide ((↑s.els.length : Int) > 0)))] [IntKind.i64.wrap ((↑p.arrays.length : Int) - (1 : Int)) = (↑p.arrays.length : Int) - (1 : Int)] ⟨(by exact w64 (by omega) (by omega)), trivial⟩ ?_
         clear G; intro ρ a w G
         refine th_n ?_
         cases h20 : (decide ((↑s.els.length : Int) > (0 : Int)))
         ·
          have q20 : ¬ ((↑s.els.length : Int) > 0) := of_decide_eq_false h20
          refine rF G (decide ((↑s.els.length : Int) > (0 : Int))) (by assumption) ?_
          refine wp_skip ?_
          refine th_n ?_
          refine wp_seq ?_
          refine wp_seq ?_
          cases h21 : (!rightB p.vars.length p.arrays.length s.index)
          ·
           have q21 : (rightB p.vars.length p.arrays.length s.index) = true := (fun hq => (hq)) (Eq.mp (Bool.not_eq_false' _) h21)
           cases h22 : (!atomB s.index)
           ·
            have q22 : (atomB s.index) = true := (fun hq => (hq)) (Eq.mp (Bool.not_eq_false' _) h22)
            cases h23 : (!rightB p.vars.length p.arrays.length s.value)
            ·
             have q23 : (rightB p.vars.length p.arrays.length s.value) = true := (fun hq => (hq)) (Eq.mp (Bool.not_eq_false' _) h23)
             refine rs1s G ⟨[(5, _, [0, 1, 2, 4]), (10, _, [4]), (30, _, [0, 1, 2, 5])], [(true, true), (!rightB p.vars.length p.arrays.length s.index, false), (!atomB s.index, false), (false, false), (!rightB p.vars.length p.arrays.length s.value, false)], [(2, 0), (3, 0), (4, 0), (5, 0), (6, 0), (7, 0), (8, 1), (9, 1), (10, 1), (11, 1), (12, 0), (1012, 1), (1013, 0), (15, 2), (16, 2), (17, 2), (18, 3), (19, 3), (20, 3), (21, 3), (22, 2), (1022, 3), (1023, 2), (25, 3), (26, 3), (27, 0), (28, 0), (29, 0), (30, 0), (31, 0), (32, 3), (1032, 0), (1033, 3), (35, 4), (36, 4), (37, 4), (38, 3), (39, 3), (40, 3), (41, 3), (42, 4), (1042, 3), (1043, 4)]⟩ (calls_cons (c_expr (p) (s.index)) (calls_cons (c_isPlain (s.index)) (calls_cons (c_expr (p) (s.value)) calls_nil))) ⟨(by kernel_rfl), (by assumption), (by assumption), (by kernel_rfl), (by assumption), trivial⟩ [(2, iA n), (3, .ptr 3 0), (4, .ptr 8 0), (5, .ptr 9 0), (8, bA false), (132, bA false)] [] trivial ?_
             clear G; intro ρ a w G
             refine th_n ?_
             refine rF G (false) (by kernel_rfl) ?_
             refine wp_skip ?_
             refine th_n ?_
             refine wp_seq ?_
             cases h24 : ((stmtsF p.vars.length p.arrays.length d (c + (1 : Nat)) s.body).fst)
             ·
              refine rs1 (dk := dkP) G ⟨[(6, _, [0, 1, 2, 3, 6])], [((stmtsF p.vars.length p.arrays.length d (c + (1 : Nat)) s.body).fst, false)], [(8, 0), (9, 0), (10, 0), (11, 0), (12, 0), (13, 0), (14, 0), (1015, 0)]⟩ (calls_cons (ih (s.body) (c + 1) (n + 1) (by simp; omega) (by omega)) calls_nil) ⟨(by assumption), trivial⟩ [0, 1, 2, 3, 4, 5, 6, 7] [dI p.vars, dI p.arrays, dT p.body, .box [iA (↑(stmtsF p.vars.length p.arrays.length d (c + 1) s.body).snd : Int)], dE s.index.kids, dE s.value.kids, dT s.body, dT s.els] [(8, bA false)] [IntKind.i64.wrap (n + (1 : Int)) = n + (1 : Int)] ⟨(by exact w64 (by omega) (by omega)), trivial⟩ ?_
              clear G; intro ρ a w G
              refine th_n ?_
              refine wp_ret ?_
              exact rx_ret (v := bA false) G [0, 1, 2, 3, 4, 5, 6, 7] (by kernel_rfl) (by kernel_rfl) (by have e1 : ((↑(stmtF p.vars.length p.arrays.length (d + 1) c s).snd : Int) : Int) = ((↑(stmtsF p.vars.length p.arrays.length d (c + 1) s.body).snd : Int)) := (by rw [stmtF_body (by omega) (by (rw [head2 (by omega)]; exact and_t3 (by omega) (by assumption) (by assumption) (by assumption))) (by assumption)]; done); first | (rw [e1]; done) | (rw [e1]; rfl) | (simp only [e1]; done) | (simp only [e1]; rfl)) (by have e1 : ((stmtF p.vars.length p.arrays.length (d + 1) c s).fst : Bool) = (false) := (by rw [stmtF_body (by omega) (by (rw [head2 (by omega)]; exact and_t3 (by omega) (by assumption) (by assumption) (by assumption))) (by assumption)]; assumption); first | (rw [e1]; done) | (rw [e1]; rfl) | (simp only [e1]; done) | (simp only [e1]; rfl))
             ·
              refine rs1 (dk := dkP) G ⟨[(6, _, [0, 1, 2, 3, 6]), (14, _, [0, 1, 2, 3, 7])], [((stmtsF p.vars.length p.arrays.length d (c + (1 : Nat)) s.body).fst, true)], [(8, 0), (9, 0), (10, 0), (11, 0), (12, 0), (13, 0), (14, 0), (1015, 0)]⟩ (calls_cons (ih (s.body) (c + 1) (n + 1) (by simp; omega) (by omega)) (calls_cons (ih (s.els) ((stmtsF p.vars.length p.arrays.length d (c + 1) s.body).snd) (n + 1) (by exact stmtsF_le (by omega) (by assumption)) (by omega)) calls_nil)) ⟨(by assumption), trivial⟩ [0, 1, 2, 3, 4, 5, 6, 7] [dI p.vars, dI p.arrays, dT p.body, .box [iA (↑(stmtsF p.vars.length p.arrays.length d (stmtsF p.vars.length p.arrays.length d (c + 1) s.body).snd s.els).snd : Int)], dE s.index.kids, dE s.value.kids, dT s.body, dT s.els] [(8, bA (stmtsF p.vars.length p.arrays.length d (stmtsF p.vars.length p.arrays.length d (c + 1) s.body).snd s.els).fst)] [IntKind.i64.wrap (n + (1 : Int)) = n + (1 : Int), IntKind.i64.wrap (n + (1 : Int)) = n + (1 : Int)] ⟨(by exact w64 (by omega) (by omega)), (by exact w64 (by omega) (by omega)), trivial⟩ ?_
              clear G; intro ρ a w G
              refine th_n ?_
              refine wp_ret ?_
              exact rx_ret (v := bA (stmtsF p.vars.length p.arrays.length d (stmtsF p.vars.length p.arrays.length d (c + 1) s.body).snd s.els).fst) G [0, 1, 2, 3, 4, 5, 6, 7] (by kernel_rfl) (by kernel_rfl) (by have e1 : ((↑(stmtF p.vars.length p.arrays.length (d + 1) c s).snd : Int) : Int) = ((↑(stmtsF p.vars.length p.arrays.length d (stmtsF p.vars.length p.arrays.length d (c + 1) s.body).snd s.els).snd : Int)) := (by rw [stmtF_els (by omega) (by (rw [head2 (by omega)]; exact and_t3 (by omega) (by assumption) (by assumption) (by assumption))) (by assumption)]; done); first | (rw [e1]; done) | (rw [e1]; rfl) | (simp only [e1]; done) | (simp only [e1]; rfl)) (by have e1 : ((stmtF p.vars.length p.arrays.length (d + 1) c s).fst : Bool) = ((stmtsF p.vars.length p.arrays.length d (stmtsF p.vars.length p.arrays.length d (c + 1) s.body).snd s.els).fst) := (by rw [stmtF_els (by omega) (by (rw [head2 (by omega)]; exact and_t3 (by omega) (by assumption) (by assumption) (by assumption))) (by assumption)]; done); first | (rw [e1]; done) | (rw [e1]; rfl) | (simp only [e1]; done) | (simp only [e1]; rfl))
            ·
             have q23 : (rightB p.vars.length p.arrays.length s.value) = false := (fun hq => (hq)) (Eq.mp (Bool.not_eq_true' _) h23)
             refine rs1s G ⟨[(5, _, [0, 1, 2, 4]), (10, _, [4]), (30, _, [0, 1, 2, 5])], [(true, true), (!rightB p.vars.length p.arrays.length s.index, false), (!atomB s.index, false), (false, false), (!rightB p.vars.length p.arrays.length s.value, true)], [(2, 0), (3, 0), (4, 0), (5, 0), (6, 0), (7, 0), (8, 1), (9, 1), (10, 1), (11, 1), (12, 0), (1012, 1), (1013, 0), (15, 2), (16, 2), (17, 2), (18, 3), (19, 3), (20, 3), (21, 3), (22, 2), (1022, 3), (1023, 2), (25, 3), (26, 3), (27, 0), (28, 0), (29, 0), (30, 0), (31, 0), (32, 3), (1032, 0), (1033, 3), (35, 4), (36, 4), (37, 4), (42, 4), (1043, 4)]⟩ (calls_cons (c_expr (p) (s.index)) (calls_cons (c_isPlain (s.index)) (calls_cons (c_expr (p) (s.value)) calls_nil))) ⟨(by kernel_rfl), (by assumption), (by assumption), (by kernel_rfl), (by assumption), trivial⟩ [(2, iA n), (3, .ptr 3 0), (4, .ptr 8 0), (5, .ptr 9 0), (8, bA false), (132, bA true)] [] trivial ?_
             clear G; intro ρ a w G
             refine th_n ?_
             refine rT G (true) (by kernel_rfl) ?_
             refine wp_seq ?_
             refine rs0s G [(2, iA n), (3, .ptr 3 0), (4, .ptr 8 0), (5, .ptr 9 0), (8, bA false)] ?_
             clear G; intro ρ a w G
             refine th_n ?_
             refine wp_ret ?_
             refine th_r ?_
             exact rx_ret (v := bA false) G [0, 1, 2, 3, 4, 5, 6, 7] (by kernel_rfl) (by kernel_rfl) (by have e1 : ((↑(stmtF p.vars.length p.arrays.length (d + 1) c s).snd : Int) : Int) = ((↑c : Int) + 1) := (by rw [stmtF_bad (by (rw [head2 (by omega)]; simp [h100, h0, q0, h1, q1, h2, q2, h3, q3, h17, q17, h18, q18, h19, q19, h20, q20, h21, q21, h22, q22, h23, q23]; done))]; rfl); first | (rw [e1]; done) | (rw [e1]; rfl) | (simp only [e1]; done) | (simp only [e1]; rfl)) (by have e1 : ((stmtF p.vars.length p.arrays.length (d + 1) c s).fst : Bool) = (false) := (by rw [stmtF_bad (by (rw [head2 (by omega)]; simp [h100, h0, q0, h1, q1, h2, q2, h3, q3, h17, q17, h18, q18, h19, q19, h20, q20, h21, q21, h22, q22, h23, q23]; done))]; done); first | (rw [e1]; done) | (rw [e1]; rfl) | (simp only [e1]; done) | (simp only [e1]; rfl))
           ·
            have q22 : (atomB s.index) = false := (fun hq => (hq)) (Eq.mp (Bool.not_eq_true' _) h22)
            refine rs1s G ⟨[(5, _, [0, 1, 2, 4]), (10, _, [4])], [(true, true), (!rightB p.vars.length p.arrays.length s.index, false), (!atomB s.index, true)], [(2, 0), (3, 0), (4, 0), (5, 0), (6, 0), (7, 0), (8, 1), (9, 1), (10, 1), (11, 1), (12, 0), (1012, 1), (1013, 0), (15, 2), (16, 2), (17, 2), (22, 2), (1023, 2), (25, 0), (26, 0), (32, 0), (1033, 0), (35, 0), (36, 0), (37, 0), (42, 0), (1043, 0)]⟩ (calls_cons (c_expr (p) (s.index)) (calls_cons (c_isPlain (s.index)) calls_nil)) ⟨(by kernel_rfl), (by assumption), (by assumption), trivial⟩ [(2, iA n), (3, .ptr 3 0), (4, .ptr 8 0), (5, .ptr 9 0), (8, bA false), (132, bA true)] [] trivial ?_
            clear G; intro ρ a w G
            refine th_n ?_
            refine rT G (true) (by kernel_rfl) ?_
            refine wp_seq ?_
            refine rs0s G [(2, iA n), (3, .ptr 3 0), (4, .ptr 8 0), (5, .ptr 9 0), (8, bA false)] ?_
            clear G; intro ρ a w G
            refine th_n ?_
            refine wp_ret ?_
            refine th_r ?_
            exact rx_ret (v := bA false) G [0, 1, 2, 3, 4, 5, 6, 7] (by kernel_rfl) (by kernel_rfl) (by have e1 : ((↑(stmtF p.vars.length p.arrays.length (d + 1) c s).snd : Int) : Int) = ((↑c : Int) + 1) := (by rw [stmtF_bad (by (rw [head2 (by omega)]; simp [h100, h0, q0, h1, q1, h2, q2, h3, q3, h17, q17, h18, q18, h19, q19, h20, q20, h21, q21, h22, q22]; done))]; rfl); first | (rw [e1]; done) | (rw [e1]; rfl) | (simp only [e1]; done) | (simp only [e1]; rfl)) (by have e1 : ((stmtF p.vars.length p.arrays.length (d + 1) c s).fst : Bool) = (false) := (by rw [stmtF_bad (by (rw [head2 (by omega)]; simp [h100, h0, q0, h1, q1, h2, q2, h3, q3, h17, q17, h18, q18, h19, q19, h20, q20, h21, q21, h22, q22]; done))]; done); first | (rw [e1]; done) | (rw [e1]; rfl) | (simp only [e1]; done) | (simp only [e1]; rfl))
          ·
           have q21 : (rightB p.vars.length p.arrays.length s.index) = false := (fun hq => (hq)) (Eq.mp (Bool.not_eq_true' _) h21)
           refine rs1s G ⟨[(5, _, [0, 1, 2, 4])], [(true, true), (!rightB p.vars.length p.arrays.length s.index, true)], [(2, 0), (3, 0), (4, 0), (5, 0), (6, 0), (7, 0), (8, 1), (9, 1), (10, 1), (11, 1), (12, 0), (1012, 1), (1013, 0), (15, 0), (16, 0), (17, 0), (22, 0), (1023, 0), (25, 0), (26, 0), (32, 0), (1033, 0), (35, 0), (36, 0), (37, 0), (42, 0), (1043, 0)]⟩ (calls_cons (c_expr (p) (s.index)) calls_nil) ⟨(by kernel_rfl), (by assumption), trivial⟩ [(2, iA n), (3, .ptr 3 0), (4, .ptr 8 0), (5, .ptr 9 0), (8, bA false), (132, bA true)] [] trivial ?_
           clear G; intro ρ a w G
           refine th_n ?_
           refine rT G (true) (by kernel_rfl) ?_
           refine wp_seq ?_
           refine rs0s G [(2, iA n), (3, .ptr 3 0), (4, .ptr 8 0), (5, .ptr 9 0), (8, bA false)] ?_
           clear G; intro ρ a w G
           refine th_n ?_
           refine wp_ret ?_
           refine th_r ?_
           exact rx_ret (v := bA false) G [0, 1, 2, 3, 4, 5, 6, 7] (by kernel_rfl) (by kernel_rfl) (by have e1 : ((↑(stmtF p.vars.length p.arrays.length (d + 1) c s).snd : Int) : Int) = ((↑c : Int) + 1) := (by rw [stmtF_bad (by (rw [head2 (by omega)]; simp [h100, h0, q0, h1, q1, h2, q2, h3, q3, h17, q17, h18, q18, h19, q19, h20, q20, h21, q21]; done))]; rfl); first | (rw [e1]; done) | (rw [e1]; rfl) | (simp only [e1]; done) | (simp only [e1]; rfl)) (by have e1 : ((stmtF p.vars.length p.arrays.length (d + 1) c s).fst : Bool) = (false) := (by rw [stmtF_bad (by (rw [head2 (by omega)]; simp [h100, h0, q0, h1, q1, h2, q2, h3, q3, h17, q17, h18, q18, h19, q19, h20, q20, h21, q21]; done))]; done); first | (rw [e1]; done) | (rw [e1]; rfl) | (simp only [e1]; done) | (simp only [e1]; rfl))
         ·
          have q20 : (↑s.els.length : Int) > 0 := of_decide_eq_true h20
          refine rT G (decide ((↑s.els.length : Int) > (0 : Int))) (by assumption) ?_
          refine wp_seq ?_
          refine rs0s G [(2, iA n), (3, .ptr 3 0), (4, .ptr 8 0), (5, .ptr 9 0), (8, bA false), (10, bA true), (11, bA true)] ?_
          clear G; intro ρ a w G
          refine th_n ?_
          refine wp_ret ?_
          refine th_r ?_
          exact rx_ret (v := bA false) G [0, 1, 2, 3, 4, 5, 6, 7] (by kernel_rfl) (by kernel_rfl) (by have e1 : ((↑(stmtF p.vars.length p.arrays.length (d + 1) c s).snd : Int) : Int) = ((↑c : Int) + 1) := (by rw [stmtF_bad (by (rw [head2 (by omega), decide_eq_false (by omega)]; rfl))]; rfl); first | (rw [e1]; done) | (rw [e1]; rfl) | (simp only [e1]; done) | (simp only [e1]; rfl)) (by have e1 : ((stmtF p.vars.length p.arrays.length (d + 1) c s).fst : Bool) = (false) := (by rw [stmtF_bad (by (rw [head2 (by omega), decide_eq_false (by omega)]; rfl))]; done); first | (rw [e1]; done) | (rw [e1]; rfl) | (simp only [e1]; done) | (simp only [e1]; rfl))
        ·
         have q19 : (↑s.body.length : Int) > 0 := of_decide_eq_true h19
         refine rs1s G ⟨[(4, _, [])], [(!(decide ((0 : Int) ≤ s.target) && decide (s.target ≤ (↑p.arrays.length : Int) - (1 : Int))), false), (false, false), (true, true), (s.count != (0 : Int), false), (decide ((↑s.body.length : Int) > (0 : Int)), true)], [(7, 0), (8, 0), (9, 1), (10, 1), (11, 1), (12, 1), (13, 0), (1013, 1), (1014, 0), (16, 1), (17, 1), (18, 1), (19, 2), (20, 2), (21, 2), (22, 1), (1022, 2), (1023, 1), (25, 3), (26, 3), (27, 3), (28, 2), (29, 2), (30, 2), (31, 2), (32, 3), (1032, 2), (1033, 3), (35, 4), (36, 4), (37, 4), (42, 4), (1043, 4)]⟩ (calls_cons (c_within (s.target) (0) ((↑p.arrays.length : Int) - 1)) calls_nil) ⟨(by assumption), (by kernel_rfl), (by kernel_rfl), (by assumption), (by assumption), trivial⟩ [(2, iA n), (3, .ptr 3 0), (4, .ptr 8 0), (5, .ptr 9 0), (8, bA false), (10, bA true), (11, bA true), (88, bA true)] [IntKind.i64.wrap ((↑p.arrays.length : Int) - (1 : Int)) = (↑p.arrays.length : Int) - (1 : Int)] ⟨(by exact w64 (by omega) (by omega)), trivial⟩ ?_
         clear G; intro ρ a w G
         refine th_n ?_
         refine rT G (true) (by kernel_rfl) ?_
         refine wp_seq ?_
         refine rs0s G [(2, iA n), (3, .ptr 3 0), (4, .ptr 8 0), (5, .ptr 9 0), (8, bA false), (10, bA true), (11, bA true)] ?_
         clear G; intro ρ a w G
         refine th_n ?_
         refine wp_ret ?_
         refine th_r ?_
         exact rx_ret (v := bA false) G [0, 1, 2, 3, 4, 5, 6, 7] (by kernel_rfl) (by kernel_rfl) (by have e1 : ((↑(stmtF p.vars.length p.arrays.length (d + 1) c s).snd : Int) : Int) = ((↑c : Int) + 1) := (by rw [stmtF_bad (by (rw [head2 (by omega), decide_eq_false (by omega)]; rfl))]; rfl); first | (rw [e1]; done) | (rw [e1]; rfl) | (simp only [e1]; done) | (simp only [e1]; rfl)) (by have e1 : ((stmtF p.vars.length p.arrays.length (d + 1) c s).fst : Bool) = (false) := (by rw [stmtF_bad (by (rw [head2 (by omega), decide_eq_false (by omega)]; rfl))]; done); first | (rw [e1]; done) | (rw [e1]; rfl) | (simp only [e1]; done) | (simp only [e1]; rfl))
       ·
        have q18 : ¬ (s.count = 0) := bne_iff_ne.1 h18
        refine rs1s G ⟨[(4, _, [])], [(!(decide ((0 : Int) ≤ s.target) && decide (s.target ≤ (↑p.arrays.length : Int) - (1 : Int))), false), (false, false), (true, true), (s.count != (0 : Int), true)], [(7, 0), (8, 0), (9, 1), (10, 1), (11, 1), (12, 1), (13, 0), (1013, 1), (1014, 0), (16, 1), (17, 1), (18, 1), (19, 2), (20, 2), (21, 2), (22, 1), (1022, 2), (1023, 1), (25, 3), (26, 3), (27, 3), (32, 3), (1033, 3), (35, 2), (36, 2), (37, 2), (42, 2), (1043, 2)]⟩ (calls_cons (c_within (s.target) (0) ((↑p.arrays.length : Int) - 1)) calls_nil) ⟨(by assumption), (by kernel_rfl), (by kernel_rfl), (by assumption), trivial⟩ [(2, iA n), (3, .ptr 3 0), (4, .ptr 8 0), (5, .ptr 9 0), (8, bA false), (10, bA true), (11, bA true), (88, bA true)] [IntKind.i64.wrap ((↑p.arrays.length : Int) - (1 : Int)) = (↑p.arrays.length : Int) - (1 : Int)] ⟨(by exact w64 (by omega) (by omega)), trivial⟩ ?_
        clear G; intro ρ a w G
        refine th_n ?_
        refine rT G (true) (by kernel_rfl) ?_
        refine wp_seq ?_
        refine rs0s G [(2, iA n), (3, .ptr 3 0), (4, .ptr 8 0), (5, .ptr 9 0), (8, bA false), (10, bA true), (11, bA true)] ?_
        clear G; intro ρ a w G
        refine th_n ?_
        refine wp_ret ?_
        refine th_r ?_
        exact rx_ret (v := bA false) G [0, 1, 2, 3, 4, 5, 6, 7] (by kernel_rfl) (by kernel_rfl) (by have e1 : ((↑(stmtF p.vars.length p.arrays.length (d + 1) c s).snd : Int) : Int) = ((↑c : Int) + 1) := (by rw [stmtF_bad (by (rw [head2 (by omega), decide_eq_false (by omega)]; rfl))]; rfl); first | (rw [e1]; done) | (rw [e1]; rfl) | (simp only [e1]; done) | (simp only [e1]; rfl)) (by have e1 : ((stmtF p.vars.length p.arrays.length (d + 1) c s).fst : Bool) = (false) := (by rw [stmtF_bad (by (rw [head2 (by omega), decide_eq_false (by omega)]; rfl))]; done); first | (rw [e1]; done) | (rw [e1]; rfl) | (simp only [e1]; done) | (simp only [e1]; rfl))
      ·
       have q17 : (¬ (0 ≤ s.target)) ∨ (¬ (s.target ≤ (↑p.arrays.length : Int) - 1)) := (fun hq => Or.imp (fun hq => of_decide_eq_false (hq)) (fun hq => of_decide_eq_false (hq)) (Bool.and_eq_false_iff.1 (hq))) (Eq.mp (Bool.not_eq_true' _) h17)
       refine rs1s G ⟨[(4, _, [])], [(!(decide ((0 : Int) ≤ s.target) && decide (s.target ≤ (↑p.arrays.length : Int) - (1 : Int))), true), (true, true)], [(7, 0), (8, 0), (13, 0), (1014, 0), (16, 1), (17, 1), (18, 1), (22, 1), (1023, 1), (25, 1), (26, 1), (27, 1), (32, 1), (1033, 1), (35, 1), (36, 1), (37, 1), (42, 1), (1043, 1)]⟩ (calls_cons (c_within (s.target) (0) ((↑p.arrays.length : Int) - 1)) calls_nil) ⟨(by assumption), (by kernel_rfl), trivial⟩ [(2, iA n), (3, .ptr 3 0), (4, .ptr 8 0), (5, .ptr 9 0), (8, bA false), (10, bA true), (11, bA true), (88, bA true)] [IntKind.i64.wrap ((↑p.arrays.length : Int) - (1 : Int)) = (↑p.arrays.length : Int) - (1 : Int)] ⟨(by exact w64 (by omega) (by omega)), trivial⟩ ?_
       clear G; intro ρ a w G
       refine th_n ?_
       refine rT G (true) (by kernel_rfl) ?_
       refine wp_seq ?_
       refine rs0s G [(2, iA n), (3, .ptr 3 0), (4, .ptr 8 0), (5, .ptr 9 0), (8, bA false), (10, bA true), (11, bA true)] ?_
       clear G; intro ρ a w G
       refine th_n ?_
       refine wp_ret ?_
       refine th_r ?_
       exact rx_ret (v := bA false) G [0, 1, 2, 3, 4, 5, 6, 7] (by kernel_rfl) (by kernel_rfl) (by have e1 : ((↑(stmtF p.vars.length p.arrays.length (d + 1) c s).snd : Int) : Int) = ((↑c : Int) + 1) := (by rw [stmtF_bad (by (rw [head2 (by omega), decide_eq_false (by omega)]; rfl))]; rfl); first | (rw [e1]; done) | (rw [e1]; rfl) | (simp only [e1]; done) | (simp only [e1]; rfl)) (by have e1 : ((stmtF p.vars.length p.arrays.length (d + 1) c s).fst : Bool) = (false) := (by rw [stmtF_bad (by (rw [head2 (by omega), decide_eq_false (by omega)]; rfl))]; done); first | (rw [e1]; done) | (rw [e1]; rfl) | (simp only [e1]; done) | (simp only [e1]; rfl))
    ·
     have q2 : s.kind = 5 := eq_of_beq h2
     refine rT G (s.kind == (5 : Int)) (by assumption) ?_
     refine rs0s G [(2, iA n), (3, .ptr 3 0), (4, .ptr 8 0), (5, .ptr 9 0), (8, bA false), (9, iA (↑p.vars.length : Int)), (10, bA false), (11, bA true), (12, bA false), (13, bA false), (14, bA false)] ?_
     clear G; intro ρ a w G
     refine bl_n ?_
     refine th_n ?_
     refine wp_seq ?_
     refine wp_seq ?_
     cases h25 : (!(decide ((0 : Int) ≤ s.target) && decide (s.target ≤ (↑p.vars.length : Int) - (1 : Int))))
     ·
      have q25 : (0 ≤ s.target) ∧ (s.target ≤ (↑p.vars.length : Int) - 1) := (fun hq => And.imp (fun hq => of_decide_eq_true (hq)) (fun hq => of_decide_eq_true (hq)) (Bool.and_eq_true_iff.1 (hq))) (Eq.mp (Bool.not_eq_false' _) h25)
      cases h26 : (s.count != (0 : Int))
      ·
       have q26 : s.count = 0 := (by simpa using h26)
       cases h27 : (decide ((↑s.body.length : Int) > (0 : Int)))
       ·
        have q27 : ¬ ((↑s.body.length : Int) > 0) := of_decide_eq_false h27
        refine rs1s G ⟨[(4, _, [])], [(!(decide ((0 : Int) ≤ s.target) && decide (s.target ≤ (↑p.vars.length : Int) - (1 : Int))), false), (false, false), (true, true), (s.count != (0 : Int), false), (decide ((↑s.body.length : Int) > (0 : Int)), false)], [(7, 0), (8, 0), (9, 1), (10, 1), (11, 1), (12, 1), (13, 0), (1013, 1), (1014, 0), (16, 1), (17, 1), (18, 1), (19, 2), (20, 2), (21, 2), (22, 1), (1022, 2), (1023, 1), (25, 3), (26, 3), (27, 3), (28, 2), (29, 2), (30, 2), (31, 2), (32, 3), (1032, 2), (1033, 3), (35, 4), (36, 4), (37, 4), (38, 2), (39, 2), (40, 2), (41, 2), (42, 4), (1042, 2), (1043, 4)]⟩ (calls_cons (c_within (s.target) (0) ((↑p.vars.length : Int) - 1)) calls_nil) ⟨(by assumption), (by kernel_rfl), (by kernel_rfl), (by assumption), (by assumption), trivial⟩ [(2, iA n), (3, .ptr 3 0), (4, .ptr 8 0), (5, .ptr 9 0), (8, bA false), (10, bA false), (11, bA true), (88, bA (decide ((↑s.els.length : Int) > 0)))] [IntKind.i64.wrap ((↑p.vars.length : Int) - (1 : Int)) = (↑p.vars.length : Int) - (1 : Int)] ⟨(by exact w64 (by omega) (by omega)), trivial⟩ ?_
        clear G; intro ρ a w G
        refine th_n ?_
        cases h28 : (decide ((↑s.els.length : Int) > (0 : Int)))
        ·
         have q28 : ¬ ((↑s.els.length : Int) > 0) := of_decide_eq_false h28
         refine rF G (decide ((↑s.els.length : Int) > (0 : Int))) (by assumption) ?_
         refine wp_skip ?_
         refine th_n ?_
         refine wp_seq ?_
         refine wp_seq ?_
         cases h29 : (!noneB s.index)
         ·
          have q29 : (noneB s.index) = true := (fun hq => (hq)) (Eq.mp (Bool.not_eq_false' _) h29)
          cases h30 : (!rightB p.vars.length p.arrays.length s.value)
          ·
           have q30 : (rightB p.vars.length p.arrays.length s.value) = true := (fun hq => (hq)) (Eq.mp (Bool.not_eq_false' _) h30)
           refine rs1s G ⟨[(20, _, [4]), (30, _, [0, 1, 2, 5])], [(false, false), (true, true), (!noneB s.index, false), (!rightB p.vars.length p.arrays.length s.value, false)], [(2, 0), (3, 0), (4, 0), (5, 0), (6, 0), (7, 0), (12, 0), (1013, 0), (15, 0), (16, 0), (17, 0), (18, 1), (19, 1), (20, 1), (21, 1), (22, 0), (1022, 1), (1023, 0), (25, 2), (26, 2), (27, 1), (28, 1), (29, 1), (30, 1), (31, 1), (32, 2), (1032, 1), (1033, 2), (35, 3), (36, 3), (37, 3), (38, 0), (39, 0), (40, 0), (41, 0), (42, 3), (1042, 0), (1043, 3)]⟩ (calls_cons (c_isNone (s.index)) (calls_cons (c_expr (p) (s.value)) calls_nil)) ⟨(by kernel_rfl), (by kernel_rfl), (by assumption), (by assumption), trivial⟩ [(2, iA n), (3, .ptr 3 0), (4, .ptr 8 0), (5, .ptr 9 0), (8, bA false), (132, bA false)] [] trivial ?_
           clear G; intro ρ a w G
           refine th_n ?_
           refine rF G (false) (by kernel_rfl) ?_
           refine wp_skip ?_
           refine th_n ?_
           refine wp_seq ?_
           cases h31 : ((stmtsF p.vars.length p.arrays.length d (c + (1 : Nat)) s.body).fst)
           ·
            refine rs1 (dk := dkP) G ⟨[(6, _, [0, 1, 2, 3, 6])], [((stmtsF p.vars.length p.arrays.length d (c + (1 : Nat)) s.body).fst, false)], [(8, 0), (9, 0), (10, 0), (11, 0), (12, 0), (13, 0), (14, 0), (1015, 0)]⟩ (calls_cons (ih (s.body) (c + 1) (n + 1) (by simp; omega) (by omega)) calls_nil) ⟨(by assumption), trivial⟩ [0, 1, 2, 3, 4, 5, 6, 7] [dI p.vars, dI p.arrays, dT p.body, .box [iA (↑(stmtsF p.vars.length p.arrays.length d (c + 1) s.body).snd : Int)], dE s.index.kids, dE s.value.kids, dT s.body, dT s.els] [(8, bA false)] [IntKind.i64.wrap (n + (1 : Int)) = n + (1 : Int)] ⟨(by exact w64 (by omega) (by omega)), trivial⟩ ?_
            clear G; intro ρ a w G
            refine th_n ?_
            refine wp_ret ?_
            exact rx_ret (v := bA false) G [0, 1, 2, 3, 4, 5, 6, 7] (by kernel_rfl) (by kernel_rfl) (by have e1 : ((↑(stmtF p.vars.length p.arrays.length (d + 1) c s).snd : Int) : Int) = ((↑(stmtsF p.vars.length p.arrays.length d (c + 1) s.body).snd : Int)) := (by rw [stmtF_body (by omega) (by (rw [head1 (by omega)]; exact and_t (by omega) (by assumption) (by assumption))) (by assumption)]; done); first | (rw [e1]; done) | (rw [e1]; rfl) | (simp only [e1]; done) | (simp only [e1]; rfl)) (by have e1 : ((stmtF p.vars.length p.arrays.length (d + 1) c s).fst : Bool) = (false) := (by rw [stmtF_body (by omega) (by (rw [head1 (by omega)]; exact and_t (by omega) (by assumption) (by assumption))) (by assumption)]; assumption); first | (rw [e1]; done) | (rw [e1]; rfl) | (simp only [e1]; done) | (simp only [e1]; rfl))
           ·
            refine rs1 (dk := dkP) G ⟨[(6, _, [0, 1, 2, 3, 6]), (14, _, [0, 1, 2, 3, 7])], [((stmtsF p.vars.length p.arrays.length d (c + (1 : Nat)) s.body).fst, true)], [(8, 0), (9, 0), (10, 0), (11, 0), (12, 0), (13, 0), (14, 0), (1015, 0)]⟩ (calls_cons (ih (s.body) (c + 1) (n + 1) (by simp; omega) (by omega)) (calls_cons (ih (s.els) ((stmtsF p.vars.length p.arrays.length d (c + 1) s.body).snd) (n + 1) (by exact stmtsF_le (by omega) (by assumption)) (by omega)) calls_nil)) ⟨(by assumption), trivial⟩ [0, 1, 2, 3, 4, 5, 6, 7] [dI p.vars, dI p.arrays, dT p.body, .box [iA (↑(stmtsF p.vars.length p.arrays.length d (stmtsF p.vars.length p.arrays.length d (c + 1) s.body).snd s.els).snd : Int)], dE s.index.kids, dE s.value.kids, dT s.body, dT s.els] [(8, bA (stmtsF p.vars.length p.arrays.length d (stmtsF p.vars.length p.arrays.length d (c + 1) s.body).snd s.els).fst)] [IntKind.i64.wrap (n + (1 : Int)) = n + (1 : Int), IntKind.i64.wrap (n + (1 : Int)) = n + (1 : Int)] ⟨(by exact w64 (by omega) (by omega)), (by exact w64 (by omega) (by omega)), trivial⟩ ?_
            clear G; intro ρ a w G
            refine th_n ?_
            refine wp_ret ?_
            exact rx_ret (v := bA (stmtsF p.vars.length p.arrays.length d (stmtsF p.vars.length p.arrays.length d (c + 1) s.body).snd s.els).fst) G [0, 1, 2, 3, 4, 5, 6, 7] (by kernel_rfl) (by kernel_rfl) (by have e1 : ((↑(stmtF p.vars.length p.arrays.length (d + 1) c s).snd : Int) : Int) = ((↑(stmtsF p.vars.length p.arrays.length d (stmtsF p.vars.length p.arrays.length d (c + 1) s.body).snd s.els).snd : Int)) := (by rw [stmtF_els (by omega) (by (rw [head1 (by omega)]; exact and_t (by omega) (by assumption) (by assumption))) (by assumption)]; done); first | (rw [e1]; done) | (rw [e1]; rfl) | (simp only [e1]; done) | (simp only [e1]; rfl)) (by have e1 : ((stmtF p.vars.length p.arrays.length (d + 1) c s).fst : Bool) = ((stmtsF p.vars.length p.arrays.length d (stmtsF p.vars.length p.arrays.length d (c + 1) s.body).snd s.els).fst) := (by rw [stmtF_els (by omega) (by (rw [head1 (by omega)]; exact and_t (by omega) (by assumption) (by assumption))) (by assumption)]; done); first | (rw [e1]; done) | (rw [e1]; rfl) | (simp only [e1]; done) | (simp only [e1]; rfl))
          ·
           have q30 : (rightB p.vars.length p.arrays.length s.value) = false := (fun hq => (hq)) (Eq.mp (Bool.not_eq_true' _) h30)
           refine rs1s G ⟨[(20, _, [4]), (30, _, [0, 1, 2, 5])], [(false, false), (true, true), (!noneB s.index, false), (!rightB p.vars.length p.arrays.length s.value, true)], [(2, 0), (3, 0), (4, 0), (5, 0), (6, 0), (7, 0), (12, 0), (1013, 0), (15, 0), (16, 0), (17, 0), (18, 1), (19, 1), (20, 1), (21, 1), (22, 0), (1022, 1), (1023, 0), (25, 2), (26, 2), (27, 1), (28, 1), (29, 1), (30, 1), (31, 1), (32, 2), (1032, 1), (1033, 2), (35, 3), (36, 3), (37, 3), (42, 3), (1043, 3)]⟩ (calls_cons (c_isNone (s.index)) (calls_cons (c_expr (p) (s.value)) calls_nil)) ⟨(by kernel_rfl), (by kernel_rfl), (by assumption), (by assumption), trivial⟩ [(2, iA n), (3, .ptr 3 0), (4, .ptr 8 0), (5, .ptr 9 0), (8, bA false), (132, bA true)] [] trivial ?_
           clear G; intro ρ a w G
           refine th_n ?_
           refine rT G (true) (by kernel_rfl) ?_
           refine wp_seq ?_
           refine rs0s G [(2, iA n), (3, .ptr 3 0), (4, .ptr 8 0), (5, .ptr 9 0), (8, bA false)] ?_
           clear G; intro ρ a w G
           refine th_n ?_
           refine wp_ret ?_
           refine th_r ?_
           exact rx_ret (v := bA false) G [0, 1, 2, 3, 4, 5, 6, 7] (by kernel_rfl) (by kernel_rfl) (by have e1 : ((↑(stmtF p.vars.length p.arrays.length (d + 1) c s).snd : Int) : Int) = ((↑c : Int) + 1) := (by rw [stmtF_bad (by (rw [head1 (by omega)]; simp [h100, h0, q0, h1, q1, h2, q2, h25, q25, h26, q26, h27, q27, h28, q28, h29, q29, h30, q30]; done))]; rfl); first | (rw [e1]; done) | (rw [e1]; rfl) | (simp only [e1]; done) | (simp only [e1]; rfl)) (by have e1 : ((stmtF p.vars.length p.arrays.length (d + 1) c s).fst : Bool) = (false) := (by rw [stmtF_bad (by (rw [head1 (by omega)]; simp [h100, h0, q0, h1, q1, h2, q2, h25, q25, h26, q26, h27, q27, h28, q28, h29, q29, h30, q30]; done))]; done); first | (rw [e1]; done) | (rw [e1]; rfl) | (simp only [e1]; done) | (simp only [e1]; rfl))
         ·
          have q29 : (noneB s.index) = false := (fun hq => (hq)) (Eq.mp (Bool.not_eq_true' _) h29)
          refine rs1s G ⟨[(20, _, [4])], [(false, false), (true, true), (!noneB s.index, true)], [(2, 0), (3, 0), (4, 0), (5, 0), (6, 0), (7, 0), (12, 0), (1013, 0), (15, 0), (16, 0), (17, 0), (18, 1), (19, 1), (20, 1), (21, 1), (22, 0), (1022, 1), (1023, 0), (25, 2), (26, 2), (32, 2), (1033, 2), (35, 1), (36, 1), (37, 1), (42, 1), (1043, 1)]⟩ (calls_cons (c_isNone (s.index)) calls_nil) ⟨(by kernel_rfl), (by kernel_rfl), (by assumption), trivial⟩ [(2, iA n), (3, .ptr 3 0), (4, .ptr 8 0), (5, .ptr 9 0), (8, bA false), (132, bA true)] [] trivial ?_
          clear G; intro ρ a w G
          refine th_n ?_
          refine rT G (true) (by kernel_rfl) ?_
          refine wp_seq ?_
          refine rs0s G [(2, iA n), (3, .ptr 3 0), (4, .ptr 8 0), (5, .ptr 9 0), (8, bA false)] ?_
          clear G; intro ρ a w G
          refine th_n ?_
          refine wp_ret ?_
          refine th_r ?_
          exact rx_ret (v := bA false) G [0, 1, 2, 3, 4, 5, 6, 7] (by kernel_rfl) (by kernel_rfl) (by have e1 : ((↑(stmtF p.vars.length p.arrays.length (d + 1) c s).snd : Int) : Int) = ((↑c : Int) + 1) := (by rw [stmtF_bad (by (rw [head1 (by omega)]; simp [h100, h0, q0, h1, q1, h2, q2, h25, q25, h26, q26, h27, q27, h28, q28, h29, q29]; done))]; rfl); first | (rw [e1]; done) | (rw [e1]; rfl) | (simp only [e1]; done) | (simp only [e1]; rfl)) (by have e1 : ((stmtF p.vars.length p.arrays.length (d + 1) c s).fst : Bool) = (false) := (by rw [stmtF_bad (by (rw [head1 (by omega)]; simp [h100, h0, q0, h1, q1, h2, q2, h25, q25, h26, q26, h27, q27, h28, q28, h29, q29]; done))]; done); first | (rw [e1]; done) | (rw [e1]; rfl) | (simp only [e1]; done) | (simp only [e1]; rfl))
        ·
         have q28 : (↑s.els.length : Int) > 0 := of_decide_eq_true h28
         refine rT G (decide ((↑s.els.length : Int) > (0 : Int))) (by assumption) ?_
         refine wp_seq ?_
         refine rs0s G [(2, iA n), (3, .ptr 3 0), (4, .ptr 8 0), (5, .ptr 9 0), (8, bA false), (10, bA false), (11, bA true)] ?_
         clear G; intro ρ a w G
         refine th_n ?_
         refine wp_ret ?_
         refine th_r ?_
         exact rx_ret (v := bA false) G [0, 1, 2, 3, 4, 5, 6, 7] (by kernel_rfl) (by kernel_rfl) (by have e1 : ((↑(stmtF p.vars.length p.arrays.length (d + 1) c s).snd : Int) : Int) = ((↑c : Int) + 1) := (by rw [stmtF_bad (by (rw [head1 (by omega), decide_eq_false (by omega)]; rfl))]; rfl); first | (rw [e1]; done) | (rw [e1]; rfl) | (simp only [e1]; done) | (simp only [e1]; rfl)) (by have e1 : ((stmtF p.vars.length p.arrays.length (d + 1) c s).fst : Bool) = (false) := (by rw [stmtF_bad (by (rw [head1 (by omega), decide_eq_false (by omega)]; rfl))]; done); first | (rw [e1]; done) | (rw [e1]; rfl) | (simp only [e1]; done) | (simp only [e1]; rfl))
       ·
        have q27 : (↑s.body.length : Int) > 0 := of_decide_eq_true h27
        refine rs1s G ⟨[(4, _, [])], [(!(decide ((0 : Int) ≤ s.target) && decide (s.target ≤ (↑p.vars.length : Int) - (1 : Int))), false), (false, false), (true, true), (s.count != (0 : Int), false), (decide ((↑s.body.length : Int) > (0 : Int)), true)], [(7, 0), (8, 0), (9, 1), (10, 1), (11, 1), (12, 1), (13, 0), (1013, 1), (1014, 0), (16, 1), (17, 1), (18, 1), (19, 2), (20, 2), (21, 2), (22, 1), (1022, 2), (1023, 1), (25, 3), (26, 3), (27, 3), (28, 2), (29, 2), (30, 2), (31, 2), (32, 3), (1032, 2), (1033, 3), (35, 4), (36, 4), (37, 4), (42, 4), (1043, 4)]⟩ (calls_cons (c_within (s.target) (0) ((↑p.vars.length : Int) - 1)) calls_nil) ⟨(by assumption), (by kernel_rfl), (by kernel_rfl), (by assumption), (by assumption), trivial⟩ [(2, iA n), (3, .ptr 3 0), (4, .ptr 8 0), (5, .ptr 9 0), (8, bA false), (10, bA false), (11, bA true), (88, bA true)] [IntKind.i64.wrap ((↑p.vars.length : Int) - (1 : Int)) = (↑p.vars.length : Int) - (1 : Int)] ⟨(by exact w64 (by omega) (by omega)), trivial⟩ ?_
        clear G; intro ρ a w G
        refine th_n ?_
        refine rT G (true) (by kernel_rfl) ?_
        refine wp_seq ?_
        refine rs0s G [(2, iA n), (3, .ptr 3 0), (4, .ptr 8 0), (5, .ptr 9 0), (8, bA false), (10, bA false), (11, bA true)] ?_
        clear G; intro ρ a w G
        refine th_n ?_
        refine wp_ret ?_
        refine th_r ?_
        exact rx_ret (v := bA false) G [0, 1, 2, 3, 4, 5, 6, 7] (by kernel_rfl) (by kernel_rfl) (by have e1 : ((↑(stmtF p.vars.length p.arrays.length (d + 1) c s).snd : Int) : Int) = ((↑c : Int) + 1) := (by rw [stmtF_bad (by (rw [head1 (by omega), decide_eq_false (by omega)]; rfl))]; rfl); first | (rw [e1]; done) | (rw [e1]; rfl) | (simp only [e1]; done) | (simp only [e1]; rfl)) (by have e1 : ((stmtF p.vars.length p.arrays.length (d + 1) c s).fst : Bool) = (false) := (by rw [stmtF_bad (by (rw [head1 (by omega), decide_eq_false (by omega)]; rfl))]; done); first | (rw [e1]; done) | (rw [e1]; rfl) | (simp only [e1]; done) | (simp only [e1]; rfl))
      ·
       have q26 : ¬ (s.count = 0) := bne_iff_ne.1 h26
       refine rs1s G ⟨[(4, _, [])], [(!(decide ((0 : Int) ≤ s.target) && decide (s.target ≤ (↑p.vars.length : Int) - (1 : Int))), false), (false, false), (true, true), (s.count != (0 : Int), true)], [(7, 0), (8, 0), (9, 1), (10, 1), (11, 1), (12, 1), (13, 0), (1013, 1), (1014, 0), (16, 1), (17, 1), (18, 1), (19, 2), (20, 2), (21, 2), (22, 1), (1022, 2), (1023, 1), (25, 3), (26, 3), (27, 3), (32, 3), (1033, 3), (35, 2), (36, 2), (37, 2), (42, 2), (1043, 2)]⟩ (calls_cons (c_within (s.target) (0) ((↑p.vars.length : Int) - 1)) calls_nil) ⟨(by assumption), (by kernel_rfl), (by kernel_rfl), (by assumption), trivial⟩ [(2, iA n), (3, .ptr 3 0), (4, .ptr 8 0), (5, .ptr 9 0), (8, bA false), (10, bA false), (11, bA true), (88, bA true)] [IntKind.i64.wrap ((↑p.vars.length : Int) - (1 : Int)) = (↑p.vars.length : Int) - (1 : Int)] ⟨(by exact w64 (by omega) (by omega)), trivial⟩ ?_
       clear G; intro ρ a w G
       refine th_n ?_
       refine rT G (true) (by kernel_rfl) ?_
       refine wp_seq ?_
       refine rs0s G [(2, iA n), (3, .ptr 3 0), (4, .ptr 8 0), (5, .ptr 9 0), (8, bA false), (10, bA false), (11, bA true)] ?_
       clear G; intro ρ a w G
       refine th_n ?_
       refine wp_ret ?_
       refine th_r ?_
       exact rx_ret (v := bA false) G [0, 1, 2, 3, 4, 5, 6, 7] (by kernel_rfl) (by kernel_rfl) (by have e1 : ((↑(stmtF p.vars.length p.arrays.length (d + 1) c s).snd : Int) : Int) = ((↑c : Int) + 1) := (by rw [stmtF_bad (by (rw [head1 (by omega), decide_eq_false (by omega)]; rfl))]; rfl); first | (rw [e1]; done) | (rw [e1]; rfl) | (simp only [e1]; done) | (simp only [e1]; rfl)) (by have e1 : ((stmtF p.vars.length p.arrays.length (d + 1) c s).fst : Bool) = (false) := (by rw [stmtF_bad (by (rw [head1 (by omega), decide_eq_false (by omega)]; rfl))]; done); first | (rw [e1]; done) | (rw [e1]; rfl) | (simp only [e1]; done) | (simp only [e1]; rfl))
     ·
      have q25 : (¬ (0 ≤ s.target)) ∨ (¬ (s.target ≤ (↑p.vars.length : Int) - 1)) := (fun hq => Or.imp (fun hq => of_decide_eq_false (hq)) (fun hq => of_decide_eq_false (hq)) (Bool.and_eq_false_iff.1 (hq))) (Eq.mp (Bool.not_eq_true' _) h25)
      refine rs1s G ⟨[(4, _, [])], [(!(decide ((0 : Int) ≤ s.target) && decide (s.target ≤ (↑p.vars.length : Int) - (1 : Int))), true), (true, true)], [(7, 0), (8, 0), (13, 0), (1014, 0), (16, 1), (17, 1), (18, 1), (22, 1), (1023, 1), (25, 1), (26, 1), (27, 1), (32, 1), (1033, 1), (35, 1), (36, 1), (37, 1), (42, 1), (1043, 1)]⟩ (calls_cons (c_within (s.target) (0) ((↑p.vars.length : Int) - 1)) calls_nil) ⟨(by assumption), (by kernel_rfl), trivial⟩ [(2, iA n), (3, .ptr 3 0), (4, .ptr 8 0), (5, .ptr 9 0), (8, bA false), (10, bA false), (11, bA true), (88, bA true)] [IntKind.i64.wrap ((↑p.vars.length : Int) - (1 : Int)) = (↑p.vars.length : Int) - (1 : Int)] ⟨(by exact w64 (by omega) (by omega)), trivial⟩ ?_
      clear G; intro ρ a w G
      refine th_n ?_
      refine rT G (true) (by kernel_rfl) ?_
      refine wp_seq ?_
      refine rs0s G [(2, iA n), (3, .ptr 3 0), (4, .ptr 8 0), (5, .ptr 9 0), (8, bA false), (10, bA false), (11, bA true)] ?_
      clear G; intro ρ a w G
      refine th_n ?_
      refine wp_ret ?_
      refine th_r ?_
      exact rx_ret (v := bA false) G [0, 1, 2, 3, 4, 5, 6, 7] (by kernel_rfl) (by kernel_rfl) (by have e1 : ((↑(stmtF p.vars.length p.arrays.length (d + 1) c s).snd : Int) : Int) = ((↑c : Int) + 1) := (by rw [stmtF_bad (by (rw [head1 (by omega), decide_eq_false (by omega)]; rfl))]; rfl); first | (rw [e1]; done) | (rw [e1]; rfl) | (simp only [e1]; done) | (simp only [e1]; rfl)) (by have e1 : ((stmtF p.vars.length p.arrays.length (d + 1) c s).fst : Bool) = (false) := (by rw [stmtF_bad (by (rw [head1 (by omega), decide_eq_false (by omega)]; rfl))]; done); first | (rw [e1]; done) | (rw [e1]; rfl) | (simp only [e1]; done) | (simp only [e1]; rfl))
   ·
    have q1 : s.kind = 1 := eq_of_beq h1
    refine rT G (s.kind == (1 : Int)) (by assumption) ?_
    refine wp_skip ?_
    refine th_n ?_
    refine rT G (s.kind == (1 : Int)) (by assumption) ?_
    refine rs0s G [(2, iA n), (3, .ptr 3 0), (4, .ptr 8 0), (5, .ptr 9 0), (8, bA false), (9, iA (↑p.vars.length : Int)), (10, bA false), (11, bA true), (12, bA false), (13, bA false), (14, bA false)] ?_
    clear G; intro ρ a w G
    refine bl_n ?_
    refine th_n ?_
    refine wp_seq ?_
    refine wp_seq ?_
    cases h32 : (!(decide ((0 : Int) ≤ s.target) && decide (s.target ≤ (↑p.vars.length : Int) - (1 : Int))))
    ·
     have q32 : (0 ≤ s.target) ∧ (s.target ≤ (↑p.vars.length : Int) - 1) := (fun hq => And.imp (fun hq => of_decide_eq_true (hq)) (fun hq => of_decide_eq_true (hq)) (Bool.and_eq_true_iff.1 (hq))) (Eq.mp (Bool.not_eq_false' _) h32)
     cases h33 : (s.count != (0 : Int))
     ·
      have q33 : s.count = 0 := (by simpa using h33)
      cases h34 : (decide ((↑s.body.length : Int) > (0 : Int)))
      ·
       have q34 : ¬ ((↑s.body.length : Int) > 0) := of_decide_eq_false h34
       refine rs1s G ⟨[(4, _, [])], [(!(decide ((0 : Int) ≤ s.target) && decide (s.target ≤ (↑p.vars.length : Int) - (1 : Int))), false), (false, false), (true, true), (s.count != (0 : Int), false), (decide ((↑s.body.length : Int) > (0 : Int)), false)], [(7, 0), (8, 0), (9, 1), (10, 1), (11, 1), (12, 1), (13, 0), (1013, 1), (1014, 0), (16, 1), (17, 1), (18, 1), (19, 2), (20, 2), (21, 2), (22, 1), (1022, 2), (1023, 1), (25, 3), (26, 3), (27, 3), (28, 2), (29, 2), (30, 2), (31, 2), (32, 3), (1032, 2), (1033, 3), (35, 4), (36, 4), (37, 4), (38, 2), (39, 2), (40, 2), (41, 2), (42, 4), (1042, 2), (1043, 4)]⟩ (calls_cons (c_within (s.target) (0) ((↑p.vars.length : Int) - 1)) calls_nil) ⟨(by assumption), (by kernel_rfl), (by kernel_rfl), (by assumption), (by assumption), trivial⟩ [(2, iA n), (3, .ptr 3 0), (4, .ptr 8 0), (5, .ptr 9 0), (8, bA false), (10, bA false), (11, bA true), (88, bA (decide ((↑s.els.length : Int) > 0)))] [IntKind.i64.wrap ((↑p.vars.length : Int) - (1 : Int)) = (↑p.vars.length : Int) - (1 : Int)] ⟨(by exact w64 (by omega) (by omega)), trivial⟩ ?_
       clear G; intro ρ a w G
       refine th_n ?_
       cases h35 : (decide ((↑s.els.length : Int) > (0 : Int)))
       ·
        have q35 : ¬ ((↑s.els.length : Int) > 0) := of_decide_eq_false h35
        refine rF G (decide ((↑s.els.length : Int) > (0 : Int))) (by assumption) ?_
        refine wp_skip ?_
        refine th_n ?_
        refine wp_seq ?_
        refine wp_seq ?_
        cases h36 : (!noneB s.index)
        ·
         have q36 : (noneB s.index) = true := (fun hq => (hq)) (Eq.mp (Bool.not_eq_false' _) h36)
         cases h37 : (!rightB p.vars.length p.arrays.length s.value)
         ·
          have q37 : (rightB p.vars.length p.arrays.length s.value) = true := (fun hq => (hq)) (Eq.mp (Bool.not_eq_false' _) h37)
          refine rs1s G ⟨[(20, _, [4]), (30, _, [0, 1, 2, 5])], [(false, false), (true, true), (!noneB s.index, false), (!rightB p.vars.length p.arrays.length s.value, false)], [(2, 0), (3, 0), (4, 0), (5, 0), (6, 0), (7, 0), (12, 0), (1013, 0), (15, 0), (16, 0), (17, 0), (18, 1), (19, 1), (20, 1), (21, 1), (22, 0), (1022, 1), (1023, 0), (25, 2), (26, 2), (27, 1), (28, 1), (29, 1), (30, 1), (31, 1), (32, 2), (1032, 1), (1033, 2), (35, 3), (36, 3), (37, 3), (38, 0), (39, 0), (40, 0), (41, 0), (42, 3), (1042, 0), (1043, 3)]⟩ (calls_cons (c_isNone (s.index)) (calls_cons (c_expr (p) (s.value)) calls_nil)) ⟨(by kernel_rfl), (by kernel_rfl), (by assumption), (by assumption), trivial⟩ [(2, iA n), (3, .ptr 3 0), (4, .ptr 8 0), (5, .ptr 9 0), (8, bA false), (132, bA false)] [] trivial ?_
          clear G; intro ρ a w G
          refine th_n ?_
          refine rF G (false) (by kernel_rfl) ?_
          refine wp_skip ?_
          refine th_n ?_
          refine wp_seq ?_
          cases h38 : ((stmtsF p.vars.length p.arrays.length d (c + (1 : Nat)) s.body).fst)
          ·
           refine rs1 (dk := dkP) G ⟨[(6, _, [0, 1, 2, 3, 6])], [((stmtsF p.vars.length p.arrays.length d (c + (1 : Nat)) s.body).fst, false)], [(8, 0), (9, 0), (10, 0), (11, 0), (12, 0), (13, 0), (14, 0), (1015, 0)]⟩ (calls_cons (ih (s.body) (c + 1) (n + 1) (by simp; omega) (by omega)) calls_nil) ⟨(by assumption), trivial⟩ [0, 1, 2, 3, 4, 5, 6, 7] [dI p.vars, dI p.arrays, dT p.body, .box [iA (↑(stmtsF p.vars.length p.arrays.length d (c + 1) s.body).snd : Int)], dE s.index.kids, dE s.value.kids, dT s.body, dT s.els] [(8, bA false)] [IntKind.i64.wrap (n + (1 : Int)) = n + (1 : Int)] ⟨(by exact w64 (by omega) (by omega)), trivial⟩ ?_
           clear G; intro ρ a w G
           refine th_n ?_
           refine wp_ret ?_
           exact rx_ret (v := bA false) G [0, 1, 2, 3, 4, 5, 6, 7] (by kernel_rfl) (by kernel_rfl) (by have e1 : ((↑(stmtF p.vars.length p.arrays.length (d + 1) c s).snd : Int) : Int) = ((↑(stmtsF p.vars.length p.arrays.length d (c + 1) s.body).snd : Int)) := (by rw [stmtF_body (by omega) (by (rw [head1 (by omega)]; exact and_t (by omega) (by assumption) (by assumption))) (by assumption)]; done); first | (rw [e1]; done) | (rw [e1]; rfl) | (simp only [e1]; done) | (simp only [e1]; rfl)) (by have e1 : ((stmtF p.vars.length p.arrays.length (d + 1) c s).fst : Bool) = (false) := (by rw [stmtF_body (by omega) (by (rw [head1 (by omega)]; exact and_t (by omega) (by assumption) (by assumption))) (by assumption)]; assumption); first | (rw [e1]; done) | (rw [e1]; rfl) | (simp only [e1]; done) | (simp only [e1]; rfl))
          ·
           refine rs1 (dk := dkP) G ⟨[(6, _, [0, 1, 2, 3, 6]), (14, _, [0, 1, 2, 3, 7])], [((stmtsF p.vars.length p.arrays.length d (c + (1 : Nat)) s.body).fst, true)], [(8, 0), (9, 0), (10, 0), (11, 0), (12, 0), (13, 0), (14, 0), (1015, 0)]⟩ (calls_cons (ih (s.body) (c + 1) (n + 1) (by simp; omega) (by omega)) (calls_cons (ih (s.els) ((stmtsF p.vars.length p.arrays.length d (c + 1) s.body).snd) (n + 1) (by exact stmtsF_le (by omega) (by assumption)) (by omega)) calls_nil)) ⟨(by assumption), trivial⟩ [0, 1, 2, 3, 4, 5, 6, 7] [dI p.vars, dI p.arrays, dT p.body, .box [iA (↑(stmtsF p.vars.length p.arrays.length d (stmtsF p.vars.length p.arrays.length d (c + 1) s.body).snd s.els).snd : Int)], dE s.index.kids, dE s.value.kids, dT s.body, dT s.els] [(8, bA (stmtsF p.vars.length p.arrays.length d (stmtsF p.vars.length p.arrays.length d (c + 1) s.body).snd s.els).fst)] [IntKind.i64.wrap (n + (1 : Int)) = n + (1 : Int), IntKind.i64.wrap (n + (1 : Int)) = n + (1 : Int)] ⟨(by exact w64 (by omega) (by omega)), (by exact w64 (by omega) (by omega)), trivial⟩ ?_
           clear G; intro ρ a w G
           refine th_n ?_
           refine wp_ret ?_
           exact rx_ret (v := bA (stmtsF p.vars.length p.arrays.length d (stmtsF p.vars.length p.arrays.length d (c + 1) s.body).snd s.els).fst) G [0, 1, 2, 3, 4, 5, 6, 7] (by kernel_rfl) (by kernel_rfl) (by have e1 : ((↑(stmtF p.vars.length p.arrays.length (d + 1) c s).snd : Int) : Int) = ((↑(stmtsF p.vars.length p.arrays.length d (stmtsF p.vars.length p.arrays.length d (c + 1) s.body).snd s.els).snd : Int)) := (by rw [stmtF_els (by omega) (by (rw [head1 (by omega)]; exact and_t (by omega) (by assumption) (by assumption))) (by assumption)]; done); first | (rw [e1]; done) | (rw [e1]; rfl) | (simp only [e1]; done) | (simp only [e1]; rfl)) (by have e1 : ((stmtF p.vars.length p.arrays.length (d + 1) c s).fst : Bool) = ((stmtsF p.vars.length p.arrays.length d (stmtsF p.vars.length p.arrays.length d (c + 1) s.body).snd s.els).fst) := (by rw [stmtF_els (by omega) (by (rw [head1 (by omega)]; exact and_t (by omega) (by assumption) (by assumption))) (by assumption)]; done); first | (rw [e1]; done) | (rw [e1]; rfl) | (simp only [e1]; done) | (simp only [e1]; rfl))
         ·
          have q37 : (rightB p.vars.length p.arrays.length s.value) = false := (fun hq => (hq)) (Eq.mp (Bool.not_eq_true' _) h37)
          refine rs1s G ⟨[(20, _, [4]), (30, _, [0, 1, 2, 5])], [(false, false), (true, true), (!noneB s.index, false), (!rightB p.vars.length p.arrays.length s.value, true)], [(2, 0), (3, 0), (4, 0), (5, 0), (6, 0), (7, 0), (12, 0), (1013, 0), (15, 0), (16, 0), (17, 0), (18, 1), (19, 1), (20, 1), (21, 1), (22, 0), (1022, 1), (1023, 0), (25, 2), (26, 2), (27, 1), (28, 1), (29, 1), (30, 1), (31, 1), (32, 2), (1032, 1), (1033, 2), (35, 3), (36, 3), (37, 3), (42, 3), (1043, 3)]⟩ (calls_cons (c_isNone (s.index)) (calls_cons (c_expr (p) (s.value)) calls_nil)) ⟨(by kernel_rfl), (by kernel_rfl), (by assumption), (by assumption), trivial⟩ [(2, iA n), (3, .ptr 3 0), (4, .ptr 8 0), (5, .ptr 9 0), (8, bA false), (132, bA true)] [] trivial ?_
          clear G; intro ρ a w G
          refine th_n ?_
          refine rT G (true) (by kernel_rfl) ?_
          refine wp_seq ?_
          refine rs0s G [(2, iA n), (3, .ptr 3 0), (4, .ptr 8 0), (5, .ptr 9 0), (8, bA false)] ?_
          clear G; intro ρ a w G
          refine th_n ?_
          refine wp_ret ?_
          refine th_r ?_
          exact rx_ret (v := bA false) G [0, 1, 2, 3, 4, 5, 6, 7] (by kernel_rfl) (by kernel_rfl) (by have e1 : ((↑(stmtF p.vars.length p.arrays.length (d + 1) c s).snd : Int) : Int) = ((↑c : Int) + 1) := (by rw [stmtF_bad (by (rw [head1 (by omega)]; simp [h100, h0, q0, h1, q1, h32, q32, h33, q33, h34, q34, h35, q35, h36, q36, h37, q37]; done))]; rfl); first | (rw [e1]; done) | (rw [e1]; rfl) | (simp only [e1]; done) | (simp only [e1]; rfl)) (by have e1 : ((stmtF p.vars.length p.arrays.length (d + 1) c s).fst : Bool) = (false) := (by rw [stmtF_bad (by (rw [head1 (by omega)]; simp [h100, h0, q0, h1, q1, h32, q32, h33, q33, h34, q34, h35, q35, h36, q36, h37, q37]; done))]; done); first | (rw [e1]; done) | (rw [e1]; rfl) | (simp only [e1]; done) | (simp only [e1]; rfl))
        ·
         have q36 : (noneB s.index) = false := (fun hq => (hq)) (Eq.mp (Bool.not_eq_true' _) h36)
         refine rs1s G ⟨[(20, _, [4])], [(false, false), (true, true), (!noneB s.index, true)], [(2, 0), (3, 0), (4, 0), (5, 0), (6, 0), (7, 0), (12, 0), (1013, 0), (15, 0), (16, 0), (17, 0), (18, 1), (19, 1), (20, 1), (21, 1), (22, 0), (1022, 1), (1023, 0), (25, 2), (26, 2), (32, 2), (1033, 2), (35, 1), (36, 1), (37, 1), (42, 1), (1043, 1)]⟩ (calls_cons (c_isNone (s.index)) calls_nil) ⟨(by kernel_rfl), (by kernel_rfl), (by assumption), trivial⟩ [(2, iA n), (3, .ptr 3 0), (4, .ptr 8 0), (5, .ptr 9 0), (8, bA false), (132, bA true)] [] trivial ?_
         clear G; intro ρ a w G
         refine th_n ?_
         refine rT G (true) (by kernel_rfl) ?_
         refine wp_seq ?_
         refine rs0s G [(2, iA n), (3, .ptr 3 0), (4, .ptr 8 0), (5, .ptr 9 0), (8, bA false)] ?_
         clear G; intro ρ a w G
         refine th_n ?_
         refine wp_ret ?_
         refine th_r ?_
         exact rx_ret (v := bA false) G [0, 1, 2, 3, 4, 5, 6, 7] (by kernel_rfl) (by kernel_rfl) (by have e1 : ((↑(stmtF p.vars.length p.arrays.length (d + 1) c s).snd : Int) : Int) = ((↑c : Int) + 1) := (by rw [stmtF_bad (by (rw [head1 (by omega)]; simp [h100, h0, q0, h1, q1, h32, q32, h33, q33, h34, q34, h35, q35, h36, q36]; done))]; rfl); first | (rw [e1]; done) | (rw [e1]; rfl) | (simp only [e1]; done) | (simp only [e1]; rfl)) (by have e1 : ((stmtF p.vars.length p.arrays.length (d + 1) c s).fst : Bool) = (false) := (by rw [stmtF_bad (by (rw [head1 (by omega)]; simp [h100, h0, q0, h1, q1, h32, q32, h33, q33, h34, q34, h35, q35, h36, q36]; done))]; done); first | (rw [e1]; done) | (rw [e1]; rfl) | (simp only [e1]; done) | (simp only [e1]; rfl))
       ·
        have q35 : (↑s.els.length : Int) > 0 := of_decide_eq_true h35
        refine rT G (decide ((↑s.els.length : Int) > (0 : Int))) (by assumption) ?_
        refine wp_seq ?_
        refine rs0s G [(2, iA n), (3, .ptr 3 0), (4, .ptr 8 0), (5, .ptr 9 0), (8, bA false), (10, bA false), (11, bA true)] ?_
        clear G; intro ρ a w G
        refine th_n ?_
        refine wp_ret ?_
        refine th_r ?_
        exact rx_ret (v := bA false) G [0, 1, 2, 3, 4, 5, 6, 7] (by kernel_rfl) (by kernel_rfl) (by have e1 : ((↑(stmtF p.vars.length p.arrays.length (d + 1) c s).snd : Int) : Int) = ((↑c : Int) + 1) := (by rw [stmtF_bad (by (rw [head1 (by omega), decide_eq_false (by omega)]; rfl))]; rfl); first | (rw [e1]; done) | (rw [e1]; rfl) | (simp only [e1]; done) | (simp only [e1]; rfl)) (by have e1 : ((stmtF p.vars.length p.arrays.length (d + 1) c s).fst : Bool) = (false) := (by rw [stmtF_bad (by (rw [head1 (by omega), decide_eq_false (by omega)]; rfl))]; done); first | (rw [e1]; done) | (rw [e1]; rfl) | (simp only [e1]; done) | (simp only [e1]; rfl))
      ·
       have q34 : (↑s.body.length : Int) > 0 := of_decide_eq_true h34
       refine rs1s G ⟨[(4, _, [])], [(!(decide ((0 : Int) ≤ s.target) && decide (s.target ≤ (↑p.vars.length : Int) - (1 : Int))), false), (false, false), (true, true), (s.count != (0 : Int), false), (decide ((↑s.body.length : Int) > (0 : Int)), true)], [(7, 0), (8, 0), (9, 1), (10, 1), (11, 1), (12, 1), (13, 0), (1013, 1), (1014, 0), (16, 1), (17, 1), (18, 1), (19, 2), (20, 2), (21, 2), (22, 1), (1022, 2), (1023, 1), (25, 3), (26, 3), (27, 3), (28, 2), (29, 2), (30, 2), (31, 2), (32, 3), (1032, 2), (1033, 3), (35, 4), (36, 4), (37, 4), (42, 4), (1043, 4)]⟩ (calls_cons (c_within (s.target) (0) ((↑p.vars.length : Int) - 1)) calls_nil) ⟨(by assumption), (by kernel_rfl), (by kernel_rfl), (by assumption), (by assumption), trivial⟩ [(2, iA n), (3, .ptr 3 0), (4, .ptr 8 0), (5, .ptr 9 0), (8, bA false), (10, bA false), (11, bA true), (88, bA true)] [IntKind.i64.wrap ((↑p.vars.length : Int) - (1 : Int)) = (↑p.vars.length : Int) - (1 : Int)] ⟨(by exact w64 (by omega) (by omega)), trivial⟩ ?_
       clear G; intro ρ a w G
       refine th_n ?_
       refine rT G (true) (by kernel_rfl) ?_
       refine wp_seq ?_
       refine rs0s G [(2, iA n), (3, .ptr 3 0), (4, .ptr 8 0), (5, .ptr 9 0), (8, bA false), (10, bA false), (11, bA true)] ?_
       clear G; intro ρ a w G
       refine th_n ?_
       refine wp_ret ?_
       refine th_r ?_
       exact rx_ret (v := bA false) G [0, 1, 2, 3, 4, 5, 6, 7] (by kernel_rfl) (by kernel_rfl) (by have e1 : ((↑(stmtF p.vars.length p.arrays.length (d + 1) c s).snd : Int) : Int) = ((↑c : Int) + 1) := (by rw [stmtF_bad (by (rw [head1 (by omega), decide_eq_false (by omega)]; rfl))]; rfl); first | (rw [e1]; done) | (rw [e1]; rfl) | (simp only [e1]; done) | (simp only [e1]; rfl)) (by have e1 : ((stmtF p.vars.length p.arrays.length (d + 1) c s).fst : Bool) = (false) := (by rw [stmtF_bad (by (rw [head1 (by omega), decide_eq_false (by omega)]; rfl))]; done); first | (rw [e1]; done) | (rw [e1]; rfl) | (simp only [e1]; done) | (simp only [e1]; rfl))
     ·
      have q33 : ¬ (s.count = 0) := bne_iff_ne.1 h33
      refine rs1s G ⟨[(4, _, [])], [(!(decide ((0 : Int) ≤ s.target) && decide (s.target ≤ (↑p.vars.length : Int) - (1 : Int))), false), (false, false), (true, true), (s.count != (0 : Int), true)], [(7, 0), (8, 0), (9, 1), (10, 1), (11, 1), (12, 1), (13, 0), (1013, 1), (1014, 0), (16, 1), (17, 1), (18, 1), (19, 2), (20, 2), (21, 2), (22, 1), (1022, 2), (1023, 1), (25, 3), (26, 3), (27, 3), (32, 3), (1033, 3), (35, 2), (36, 2), (37, 2), (42, 2), (1043, 2)]⟩ (calls_cons (c_within (s.target) (0) ((↑p.vars.length : Int) - 1)) calls_nil) ⟨(by assumption), (by kernel_rfl), (by kernel_rfl), (by assumption), trivial⟩ [(2, iA n), (3, .ptr 3 0), (4, .ptr 8 0), (5, .ptr 9 0), (8, bA false), (10, bA false), (11, bA true), (88, bA true)] [IntKind.i64.wrap ((↑p.vars.length : Int) - (1 : Int)) = (↑p.vars.length : Int) - (1 : Int)] ⟨(by exact w64 (by omega) (by omega)), trivial⟩ ?_
      clear G; intro ρ a w G
      refine th_n ?_
      refine rT G (true) (by kernel_rfl) ?_
      refine wp_seq ?_
      refine rs0s G [(2, iA n), (3, .ptr 3 0), (4, .ptr 8 0), (5, .ptr 9 0), (8, bA false), (10, bA false), (11, bA true)] ?_
      clear G; intro ρ a w G
      refine th_n ?_
      refine wp_ret ?_
      refine th_r ?_
      exact rx_ret (v := bA false) G [0, 1, 2, 3, 4, 5, 6, 7] (by kernel_rfl) (by kernel_rfl) (by have e1 : ((↑(stmtF p.vars.length p.arrays.length (d + 1) c s).snd : Int) : Int) = ((↑c : Int) + 1) := (by rw [stmtF_bad (by (rw [head1 (by omega), decide_eq_false (by omega)]; rfl))]; rfl); first | (rw [e1]; done) | (rw [e1]; rfl) | (simp only [e1]; done) | (simp only [e1]; rfl)) (by have e1 : ((stmtF p.vars.length p.arrays.length (d + 1) c s).fst : Bool) = (false) := (by rw [stmtF_bad (by (rw [head1 (by omega), decide_eq_false (by omega)]; rfl))]; done); first | (rw [e1]; done) | (rw [e1]; rfl) | (simp only [e1]; done) | (simp only [e1]; rfl))
    ·
     have q32 : (¬ (0 ≤ s.target)) ∨ (¬ (s.target ≤ (↑p.vars.length : Int) - 1)) := (fun hq => Or.imp (fun hq => of_decide_eq_false (hq)) (fun hq => of_decide_eq_false (hq)) (Bool.and_eq_false_iff.1 (hq))) (Eq.mp (Bool.not_eq_true' _) h32)
     refine rs1s G ⟨[(4, _, [])], [(!(decide ((0 : Int) ≤ s.target) && decide (s.target ≤ (↑p.vars.length : Int) - (1 : Int))), true), (true, true)], [(7, 0), (8, 0), (13, 0), (1014, 0), (16, 1), (17, 1), (18, 1), (22, 1), (1023, 1), (25, 1), (26, 1), (27, 1), (32, 1), (1033, 1), (35, 1), (36, 1), (37, 1), (42, 1), (1043, 1)]⟩ (calls_cons (c_within (s.target) (0) ((↑p.vars.length : Int) - 1)) calls_nil) ⟨(by assumption), (by kernel_rfl), trivial⟩ [(2, iA n), (3, .ptr 3 0), (4, .ptr 8 0), (5, .ptr 9 0), (8, bA false), (10, bA false), (11, bA true), (88, bA true)] [IntKind.i64.wrap ((↑p.vars.length : Int) - (1 : Int)) = (↑p.vars.length : Int) - (1 : Int)] ⟨(by exact w64 (by omega) (by omega)), trivial⟩ ?_
     clear G; intro ρ a w G
     refine th_n ?_
     refine rT G (true) (by kernel_rfl) ?_
     refine wp_seq ?_
     refine rs0s G [(2, iA n), (3, .ptr 3 0), (4, .ptr 8 0), (5, .ptr 9 0), (8, bA false), (10, bA false), (11, bA true)] ?_
     clear G; intro ρ a w G
     refine th_n ?_
     refine wp_ret ?_
     refine th_r ?_
     exact rx_ret (v := bA false) G [0, 1, 2, 3, 4, 5, 6, 7] (by kernel_rfl) (by kernel_rfl) (by have e1 : ((↑(stmtF p.vars.length p.arrays.length (d + 1) c s).snd : Int) : Int) = ((↑c : Int) + 1) := (by rw [stmtF_bad (by (rw [head1 (by omega), decide_eq_false (by omega)]; rfl))]; rfl); first | (rw [e1]; done) | (rw [e1]; rfl) | (simp only [e1]; done) | (simp only [e1]; rfl)) (by have e1 : ((stmtF p.vars.length p.arrays.length (d + 1) c s).fst : Bool) = (false) := (by rw [stmtF_bad (by (rw [head1 (by omega), decide_eq_false (by omega)]; rfl))]; done); first | (rw [e1]; done) | (rw [e1]; rfl) | (simp only [e1]; done) | (simp only [e1]; rfl))
  ·
   have q0 : (↑c : Int) + 1 > 60 := of_decide_eq_true h0
   refine rs1s G ⟨[], [(decide ((↑c : Int) + (1 : Int) > (60 : Int)), true)], [(5, 0), (6, 0), (1007, 0)]⟩ calls_nil ⟨(by assumption), trivial⟩ [(2, iA n), (3, .ptr 3 0), (4, .ptr 8 0), (5, .ptr 9 0), (8, bA false), (27, bA true)] [] trivial ?_
   clear G; intro ρ a w G
   refine th_n ?_
   refine rT G (true) (by kernel_rfl) ?_
   refine wp_seq ?_
   refine rs0s G [(2, iA n), (3, .ptr 3 0), (4, .ptr 8 0), (5, .ptr 9 0), (8, bA false)] ?_
   clear G; intro ρ a w G
   refine th_n ?_
   refine wp_ret ?_
   refine th_r ?_
   exact rx_ret (v := bA false) G [0, 1, 2, 3, 4, 5, 6, 7] (by kernel_rfl) (by kernel_rfl) (by have e1 : ((↑(stmtF p.vars.length p.arrays.length (d + 1) c s).snd : Int) : Int) = ((↑c : Int) + 1) := (by simp [stmtF_over (d := d + 1) (s := s) (show 60 < c + 1 by omega)]; done); first | (rw [e1]; done) | (rw [e1]; rfl) | (simp only [e1]; done) | (simp only [e1]; rfl)) (by have e1 : ((stmtF p.vars.length p.arrays.length (d + 1) c s).fst : Bool) = (false) := (by simp [stmtF_over (d := d + 1) (s := s) (show 60 < c + 1 by omega)]; done); first | (rw [e1]; done) | (rw [e1]; rfl) | (simp only [e1]; done) | (simp only [e1]; rfl))

end Go.Proofs.Ytgpkdfefgcpbiaa

namespace Go.Proofs.Ytgpkdfefgcpbiaa
set_option linter.unusedVariables false
set_option linter.unusedSimpArgs false
open Go Go.RowKit

theorem c_stmtsD (p : LProg) : ∀ (d : Nat), d ≤ 5 → ∀ (ss : List LStmt) (c : Nat) (n : Int), c ≤ 60 → n = 6 - (d : Int) → Ctr.ok Try.prog (stmtsC p d c ss n) := by
  intro d
  induction d with
  | zero => intro hd ss c n hc hn; exact c_stmtsS p 0 hd (fun s c n hc hn => c_stmt0 p s c hc n (by omega)) ss c n hc hn
  | succ d ih => intro hd ss c n hc hn; exact c_stmtsS p (d + 1) hd (fun s c n hc hn => c_stmtS p d (by omega) (ih (by omega)) s c n hc (by omega)) ss c n hc hn
theorem c_stmtsBody (p : LProg) (n : Int) (hn : n = 1) : Ctr.ok Try.prog ⟨147, [pA 0, .ref 2, iA n, .ptr 3 0], pS p ++ [.box [iA 0]], pS p ++ [.box [iA (stmtsF p.vars.length p.arrays.length 5 0 p.body).2]], bA (stmtsF p.vars.length p.arrays.length 5 0 p.body).1⟩ :=
  Ctr.dup (S := pS p ++ [.box [iA 0]]) (S' := pS p ++ [.box [iA (stmtsF p.vars.length p.arrays.length 5 0 p.body).2]]) (d := .stmts p.body) (i := 2) (c_stmtsD p 5 (by omega) p.body 0 n (by omega) (by omega)) rfl rfl rfl (fun ρ h => by simp only [AV.vals, AV.val]; rw [show ρ 4 = ρ 2 from h]) rfl

set_option maxRecDepth 100000 in
theorem c_iProgramValid (p : LProg) : Ctr.ok Try.prog (fnC 85 [pA 0] (pS p) (bA (progB p))) := by
  refine rx_enter 15 Try.func85 (by rfl) (by kernel_rfl) (by kernel_rfl) ?_
  intro ι φ ψ w0 w F ρ0 ρ a G
  replace G := Gam.at G [dI p.vars, dI p.arrays, dT p.body] [(0, pA 0)]
  refine wp_seq ?_
  refine rs0 G [0, 1, 2, 3] [dI p.vars, dI p.arrays, dT p.body, .box (pL 0)] [(1, .ptr 3 0), (2, bA false)] ?_
  clear G; intro ρ a w G
  refine th_n ?_
  refine wp_seq ?_
  refine rs0 G [0, 1, 2, 3, 4] [dI p.vars, dI p.arrays, dT p.body, .box (pL 0), .box [iA 0]] [(1, .ptr 3 0), (2, bA false), (3, .ptr 4 0)] ?_
  clear G; intro ρ a w G
  refine th_n ?_
  refine wp_seq ?_
  cases h0 : (headsB p.vars p.arrays)
  ·
   refine rs1 (dk := dkP) G ⟨[(4, _, [0, 1])], [(headsB p.vars p.arrays, false)], [(6, 0), (7, 0), (8, 0), (9, 0), (1010, 0)]⟩ (calls_cons (c_declared (p.vars) (p.arrays)) calls_nil) ⟨(by assumption), trivial⟩ [0, 1, 2] [dI p.vars, dI p.arrays, dT p.body] [(2, bA false)] [] trivial ?_
   clear G; intro ρ a w G
   refine th_n ?_
   refine wp_ret ?_
   exact rx_ret (v := bA false) G [0, 1, 2] (by kernel_rfl) (by kernel_rfl) (by kernel_rfl) (by have e1 : (progB p : Bool) = (false) := (by exact progB_heads (by assumption)); first | (rw [e1]; done) | (rw [e1]; rfl) | (simp only [e1]; done) | (simp only [e1]; rfl))
  ·
   refine rs1 (dk := dkP) G ⟨[(4, _, [0, 1]), (9, _, [0, 1, 2, 4])], [(headsB p.vars p.arrays, true)], [(6, 0), (7, 0), (8, 0), (9, 0), (1010, 0)]⟩ (calls_cons (c_declared (p.vars) (p.arrays)) (calls_cons (c_stmtsBody (p) (1) (by kernel_rfl)) calls_nil)) ⟨(by assumption), trivial⟩ [0, 1, 2] [dI p.vars, dI p.arrays, dT p.body] [(2, bA (stmtsF p.vars.length p.arrays.length 5 0 p.body).fst)] [] trivial ?_
   clear G; intro ρ a w G
   refine th_n ?_
   refine wp_ret ?_
   exact rx_ret (v := bA (stmtsF p.vars.length p.arrays.length 5 0 p.body).fst) G [0, 1, 2] (by kernel_rfl) (by kernel_rfl) (by kernel_rfl) (by have e1 : (progB p : Bool) = ((stmtsF p.vars.length p.arrays.length 5 0 p.body).fst) := (by rw [← stmtsF_prog (p := p) (by assumption)]); first | (rw [e1]; done) | (rw [e1]; rfl) | (simp only [e1]; done) | (simp only [e1]; rfl))

end Go.Proofs.Ytgpkdfefgcpbiaa

namespace Go.Proofs.Ytgpkdfefgcpbiaa
set_option linter.unusedVariables false
set_option linter.unusedSimpArgs false
open Go Go.RowKit

theorem takeE {l : List LExpr} {k : Nat} (hk : k < l.length) : l.take k ++ [⟨(l.getD k default).kind, (l.getD k default).value, (l.getD k default).kids⟩] = l.take (k + 1) := by
  rw [LExpr.eta, take_succ_get _ _ hk, getD_lt hk]
theorem takeS {l : List LStmt} {k : Nat} (hk : k < l.length) : l.take k ++ [⟨(l.getD k default).kind, (l.getD k default).target, ⟨(l.getD k default).index.kind, (l.getD k default).index.value, (l.getD k default).index.kids⟩, ⟨(l.getD k default).value.kind, (l.getD k default).value.value, (l.getD k default).value.kids⟩, (l.getD k default).count, (l.getD k default).body, (l.getD k default).els⟩] = l.take (k + 1) := by
  rw [LExpr.eta, LExpr.eta, LStmt.eta, take_succ_get _ _ hk, getD_lt hk]
theorem take_is {α : Type} {l : List α} {k : Nat} (h1 : k ≤ l.length) (h2 : ¬ (k : Int) < l.length) : l.take k = l := by rw [List.take_of_length_le (by omega)]
theorem len_take {α : Type} {l : List α} {k n : Nat} (h1 : k ≤ l.length) (h : l.length ≤ n) : (l.take k).length ≤ n := by rw [List.length_take]; omega
theorem kids_fit {e : LExpr} (h : szE e ≤ 1048576) : e.kids.length ≤ 1048576 := by
  have h1 := szEs_len e.kids
  have h2 : szE e = szEs e.kids := by cases e; rfl
  omega
theorem block_fit {l : List LStmt} (h : szSs l ≤ 1048576) : l.length ≤ 1048576 := Nat.le_trans (szSs_len l) h
theorem len1 {α : Type} {l : List α} {x : α} {k : Nat} (h1 : k ≤ l.length) (h : l.length ≤ 1048576) : (l.take k).length + [x].length ≤ 1048577 := by
  have := len_take (k := k) h1 h
  simp only [List.length_cons, List.length_nil]; omega
theorem fitB {a b : Nat} (ha : a ≤ 1048577) (hb : Nat.ble b 1000 = true) : a * b ≤ 140737488355328 := by
  have h1 := Nat.le_of_ble_eq_true hb
  have h2 := Nat.mul_le_mul ha h1
  omega
theorem getE_mem {l : List LExpr} {k : Nat} (h : (k : Int) < l.length) : l.getD k default ∈ l := by rw [getD_lt (by omega)]; exact List.getElem_mem (by omega)
theorem getS_mem {l : List LStmt} {k : Nat} (h : (k : Int) < l.length) : l.getD k default ∈ l := by rw [getD_lt (by omega)]; exact List.getElem_mem (by omega)

abbrev cpC (e : LExpr) : Ctr := ⟨168, [eA e 0], eS e, eS e ++ [.tree (.exprs e.kids)], .agg [iA e.kind, iA e.value, .tref 1]⟩
set_option maxRecDepth 100000 in
theorem s_copyES (e : LExpr) (hb : szE e ≤ 1048576) (ih : ∀ (x : LExpr), x ∈ e.kids → Ctr.ok Try.prog (cpC x)) : Ctr.ok Try.prog (cpC e) := by
  refine rx_enter 29 Try.func168 (by rfl) (by kernel_rfl) (by kernel_rfl) ?_
  intro ι φ ψ w0 w F ρ0 ρ a G
  replace G := Gam.at G [dE e.kids] [(0, eA e 0)]
  have hl := kids_fit hb
  refine wp_seq ?_
  refine rs0 G [0, 1, 9] [dE e.kids, .box (eL e 0), .box [iA 0, iA 0, .v (.slice none 0 0)]] [(1, .ptr 1 0), (2, .ptr 2 0)] ?_
  clear G; intro ρ a w G
  refine th_n ?_
  refine wp_seq ?_
  refine rs0 G [0, 1, 2, 43] [dE e.kids, .box (eL e 0), .box [iA 0, iA 0, .v (.slice none 0 0)], .box [iA e.kind, iA e.value, .v (.slice none 0 0)]] [(1, .ptr 1 0), (2, .ptr 2 0), (3, .ptr 3 0)] ?_
  clear G; intro ρ a w G
  refine th_n ?_
  refine wp_seq ?_
  refine wp_seq ?_
  refine rs0s G [(1, .ptr 1 0), (2, .ptr 2 0), (3, .ptr 3 0), (4, iA 0)] ?_
  clear G; intro ρ a w G
  refine th_n ?_
  refine wp_block ?_
  have Gx := G.nilT 4 (.exprs []) [dE e.kids, .box (eL e 0), .box [iA 0, iA 0, .v (.slice none 0 0)], .box [iA e.kind, iA e.value, .tref 4]] [(1, .ptr 1 0), (2, .ptr 2 0), (3, .ptr 3 0), (4, iA 0)]
  clear G
  obtain ⟨ρ, G⟩ := Gx
  replace G := Gam.at G [dE e.kids, .box (eL e 0), .box [iA 0, iA 0, .v (.slice none 0 0)], .box [iA e.kind, iA e.value, .tref 4], .tree (D.exprs [])] [(1, .ptr 1 0), (2, .ptr 2 0), (3, .ptr 3 0), (4, iA 0)]
  refine rx_for (κ := Nat) (fun k => k ≤ e.kids.length) (fun k => e.kids.length - k) (fun k => [dE e.kids, .box (eL e 0), .box [iA 0, iA 0, .v (.slice none 0 0)], .box [iA e.kind, iA e.value, .tref 4], .tree (.exprs (e.kids.take k))]) (fun k => [(1, .ptr 1 0), (2, .ptr 2 0), (3, .ptr 3 0), (4, iA k)]) (0) (by omega) (Gam.at G _ _) ?_
  clear G
  intro k ρ a w hp G
  replace G := Gam.at G [dE e.kids, .box (eL e 0), .box [iA 0, iA 0, .v (.slice none 0 0)], .box [iA e.kind, iA e.value, .tref 4], .tree (D.exprs (List.take k e.kids))] [(1, .ptr 1 0), (2, .ptr 2 0), (3, .ptr 3 0), (4, iA (↑k : Int))]
  refine wp_seq ?_
  refine wp_seq ?_
  refine rs0s G [(1, .ptr 1 0), (2, .ptr 2 0), (3, .ptr 3 0), (4, iA (↑k : Int)), (14, bA (decide ((↑k : Int) < (↑e.kids.length : Int))))] ?_
  clear G; intro ρ a w G
  refine th_n ?_
  cases h0 : (decide ((↑k : Int) < (↑e.kids.length : Int)))
  ·
   have q0 : ¬ ((↑k : Int) < (↑e.kids.length : Int)) := of_decide_eq_false h0
   refine rF G (decide ((↑k : Int) < (↑e.kids.length : Int))) (by assumption) ?_
   refine wp_exit ?_
   refine th_e ?_
   refine th_e ?_
   refine bl_hit ?_
   refine th_n ?_
   refine wp_seq ?_
   refine rs0 G [0, 2, 4] [dE e.kids, .box [iA e.kind, iA e.value, .tref 2], .tree (D.exprs (List.take k e.kids))] [(2, .ptr 1 0)] ?_
   clear G; intro ρ a w G
   refine th_n ?_
   refine wp_ret ?_
   exact rx_ret (v := .agg [iA e.kind, iA e.value, .tref 2]) G [0, 2] (by kernel_rfl) (by kernel_rfl) (by show _ = List.map (It.ren (nth [0, 2])) [dE e.kids, .tree (D.exprs e.kids)]; have e1 : (List.take k e.kids : List LExpr) = (e.kids) := (by exact take_is hp (by assumption)); first | (rw [e1]; done) | (rw [e1]; rfl) | (simp only [e1]; done) | (simp only [e1]; rfl)) (by kernel_rfl)
  ·
   have q0 : (↑k : Int) < (↑e.kids.length : Int) := of_decide_eq_true h0
   refine rT G (decide ((↑k : Int) < (↑e.kids.length : Int))) (by assumption) ?_
   refine wp_skip ?_
   refine th_n ?_
   refine wp_seq ?_
   refine wp_block ?_
   refine rd1 (dk := dkP) G ⟨[(7, _, [53])], [], []⟩ (calls_cons (ih (e.kids.getD k default) (by exact getE_mem (by assumption))) calls_nil) trivial [0, 1, 0, 4, 0, 28, 60, 124, 252, 511, 1023, 2047] [0, 1, 2, 3, 77] [dE e.kids, .box (eL e 0), .box [iA 0, iA 0, .v (.slice none 0 0)], .box [iA e.kind, iA e.value, .tref 4], .tree (D.exprs (List.take k e.kids ++ [LExpr.mk (e.kids.getD k default).kind (e.kids.getD k default).value (e.kids.getD k default).kids]))] [(1, .ptr 1 0), (2, .ptr 2 0), (3, .ptr 3 0), (4, iA (↑k : Int))] [(0 : Int) ≤ (↑k : Int), (↑k : Int) < (↑e.kids.length : Int), k < e.kids.length, (List.take k e.kids).length + [LExpr.mk (e.kids.getD k default).kind (e.kids.getD k default).value (e.kids.getD k default).kids].length ≤ (9223372036854775807 : Nat), ((List.take k e.kids).length + [LExpr.mk (e.kids.getD k default).kind (e.kids.getD k default).value (e.kids.getD k default).kids].length) * (40 : Nat) ≤ (140737488355328 : Nat)] ⟨(by simp [h0]), (by assumption), (by have := len1 (x := (default : LExpr)) hp hl; simp only [List.length_cons, List.length_nil] at this ⊢; omega), (by have := len1 (x := (default : LExpr)) hp hl; simp only [List.length_cons, List.length_nil] at this ⊢; omega), (by exact fitB (len1 hp hl) (by kernel_rfl)), trivial⟩ ?_
   clear G; intro ρ a w G
   refine bl_n ?_
   refine th_n ?_
   refine rs1s G ⟨[], [], []⟩ calls_nil trivial [(1, .ptr 1 0), (2, .ptr 2 0), (3, .ptr 3 0), (4, iA ((↑k : Int) + 1))] [IntKind.i64.wrap ((↑k : Int) + (1 : Int)) = (↑k : Int) + (1 : Int)] ⟨(by exact w64 (by omega) (by omega)), trivial⟩ ?_
   clear G; intro ρ a w G
   refine th_n ?_
   exact rx_next G (k + 1) (by have := len1 (x := (default : LExpr)) hp hl; simp only [List.length_cons, List.length_nil] at this ⊢; omega) (by have := len1 (x := (default : LExpr)) hp hl; simp only [List.length_cons, List.length_nil] at this ⊢; omega) [0, 1, 2, 3, 4] [dE e.kids, .box (eL e 0), .box [iA 0, iA 0, .v (.slice none 0 0)], .box [iA e.kind, iA e.value, .tref 4], .tree (D.exprs (List.take (k + 1) e.kids))] [(1, .ptr 1 0), (2, .ptr 2 0), (3, .ptr 3 0), (4, iA (↑(k + 1) : Int))] (by kernel_rfl) (by kernel_rfl) (by kernel_rfl) (by have e1 : (List.take (k + 1) e.kids : List LExpr) = (List.take k e.kids ++ [LExpr.mk (e.kids.getD k default).kind (e.kids.getD k default).value (e.kids.getD k default).kids]) := (by exact (takeE (by omega)).symm); first | (rw [e1]; done) | (rw [e1]; rfl) | (simp only [e1]; done) | (simp only [e1]; rfl)) (by kernel_rfl)

theorem c_copyE (e : LExpr) : szE e ≤ 1048576 → Ctr.ok Try.prog (cpC e) :=
  LExpr.ind (P := fun e => szE e ≤ 1048576 → Ctr.ok Try.prog (cpC e)) (fun k n ks ih hb => s_copyES ⟨k, n, ks⟩ hb fun x hx => ih x hx (by
    have h1 := szE_mem (show x ∈ ks from hx)
    have h2 : szE ⟨k, n, ks⟩ = szEs ks := rfl
    omega)) e

theorem fit_sub {l : List LStmt} {k : Nat} (hb : szSs l ≤ 1048576) (h : (k : Int) < l.length) : szE (l.getD k default).index ≤ 1048576 ∧ szE (l.getD k default).value ≤ 1048576 ∧ szSs (l.getD k default).body ≤ 1048576 ∧ szSs (l.getD k default).els ≤ 1048576 := by
  have h1 := szS_mem (getS_mem h)
  generalize l.getD k default = s at *
  rcases s with ⟨_, _, i, v, _, b, e⟩
  simp only [szS] at h1
  simp only [LStmt.index, LStmt.value, LStmt.body, LStmt.els]
  omega

end Go.Proofs.Ytgpkdfefgcpbiaa

namespace Go.Proofs.Ytgpkdfefgcpbiaa
set_option linter.unusedVariables false
set_option linter.unusedSimpArgs false
open Go Go.RowKit

mutual
def foldS1 : LStmt → List LStmt
  | ⟨k, t, i, v, c, b, e⟩ =>
    if k = 4 then
      if c = 1 then foldSs b
      else if (foldSs b).length = 0 then []
      else [⟨k, t, i, v, c, foldSs b, foldSs e⟩]
    else if k = 3 ∧ (foldE v).kind = 1 then
      if (foldE v).value ≠ 0 then foldSs b else foldSs e
    else [⟨k, t, i, foldE v, c, foldSs b, foldSs e⟩]
def foldSs : List LStmt → List LStmt
  | [] => []
  | s :: r => foldS1 s ++ foldSs r
end
theorem foldSs_append (l m : List LStmt) : foldSs (l ++ m) = foldSs l ++ foldSs m := by
  induction l with
  | nil => simp [foldSs]
  | cons x r ih => simp [foldSs, ih]
theorem foldS1_def (s : LStmt) : foldS1 s = if s.kind = 4 then (if s.count = 1 then foldSs s.body else if (foldSs s.body).length = 0 then [] else [⟨s.kind, s.target, s.index, s.value, s.count, foldSs s.body, foldSs s.els⟩])
    else if s.kind = 3 ∧ (foldE s.value).kind = 1 then (if (foldE s.value).value ≠ 0 then foldSs s.body else foldSs s.els) else [⟨s.kind, s.target, s.index, foldE s.value, s.count, foldSs s.body, foldSs s.els⟩] := by
  cases s; rw [foldS1]; rfl
theorem fo_next {ss : List LStmt} {k : Nat} (hk : k < ss.length) : foldSs (ss.take (k + 1)) = foldSs (ss.take k) ++ foldS1 (ss.getD k default) := by
  rw [take_succ_get _ _ hk, foldSs_append, getD_lt hk]
  simp [foldSs]
section
variable {ss : List LStmt} {k : Nat}
theorem fo1 (hk : k < ss.length) (h1 : (ss.getD k default).kind = 3) (h2 : (foldE (ss.getD k default).value).kind = 1) (h3 : ¬ (foldE (ss.getD k default).value).value = 0) : foldSs (ss.take (k + 1)) = foldSs (ss.take k) ++ foldSs (ss.getD k default).body := by
  rw [fo_next hk, foldS1_def, if_neg (by omega), if_pos ⟨h1, h2⟩, if_pos h3]
theorem fo2 (hk : k < ss.length) (h1 : (ss.getD k default).kind = 3) (h2 : (foldE (ss.getD k default).value).kind = 1) (h3 : (foldE (ss.getD k default).value).value = 0) : foldSs (ss.take (k + 1)) = foldSs (ss.take k) ++ foldSs (ss.getD k default).els := by
  rw [fo_next hk, foldS1_def, if_neg (by omega), if_pos ⟨h1, h2⟩, if_neg (by simpa using h3)]
theorem fo3 (hk : k < ss.length) (h1 : (ss.getD k default).kind = 4) (h2 : (ss.getD k default).count = 1) : foldSs (ss.take (k + 1)) = foldSs (ss.take k) ++ foldSs (ss.getD k default).body := by
  rw [fo_next hk, foldS1_def, if_pos h1, if_pos h2]
theorem fo4 (hk : k < ss.length) (h1 : (ss.getD k default).kind = 4) (h2 : ¬ (ss.getD k default).count = 1) (h3 : (foldSs (ss.getD k default).body).length = 0) : foldSs (ss.take (k + 1)) = foldSs (ss.take k) := by
  rw [fo_next hk, foldS1_def, if_pos h1, if_neg h2, if_pos h3, List.append_nil]
theorem fo5 (hk : k < ss.length) (h1 : (ss.getD k default).kind = 4) (h2 : ¬ (ss.getD k default).count = 1) (h3 : ¬ (foldSs (ss.getD k default).body).length = 0) : foldSs (ss.take (k + 1)) = foldSs (ss.take k) ++ [⟨(ss.getD k default).kind, (ss.getD k default).target, ⟨(ss.getD k default).index.kind, (ss.getD k default).index.value, (ss.getD k default).index.kids⟩, ⟨(ss.getD k default).value.kind, (ss.getD k default).value.value, (ss.getD k default).value.kids⟩, (ss.getD k default).count, foldSs (ss.getD k default).body, foldSs (ss.getD k default).els⟩] := by
  rw [fo_next hk, foldS1_def, if_pos h1, if_neg h2, if_neg h3, LExpr.eta, LExpr.eta]
theorem fo6 (hk : k < ss.length) (h1 : ¬ (ss.getD k default).kind = 4) (h2 : ¬ (ss.getD k default).kind = 3 ∨ ¬ (foldE (ss.getD k default).value).kind = 1) : foldSs (ss.take (k + 1)) = foldSs (ss.take k) ++ [⟨(ss.getD k default).kind, (ss.getD k default).target, ⟨(ss.getD k default).index.kind, (ss.getD k default).index.value, (ss.getD k default).index.kids⟩, ⟨(foldE (ss.getD k default).value).kind, (foldE (ss.getD k default).value).value, (foldE (ss.getD k default).value).kids⟩, (ss.getD k default).count, foldSs (ss.getD k default).body, foldSs (ss.getD k default).els⟩] := by
  rw [fo_next hk, foldS1_def, if_neg h1, if_neg (by rintro ⟨a, b⟩; rcases h2 with h | h; exact h a; exact h b), LExpr.eta, LExpr.eta]
end
mutual
theorem foldS1_sz : ∀ s : LStmt, szSs (foldS1 s) ≤ 1 + szS s
  | ⟨k, t, i, v, c, b, e⟩ => by
    have h1 := foldSs_sz b
    have h2 := foldSs_sz e
    have h3 := foldE_sz v
    rw [foldS1]
    simp only [szS]
    split
    · split
      · omega
      · split
        · simp [szSs]
        · simp only [szSs, szS]; omega
    · split
      · split <;> omega
      · simp only [szSs, szS]; omega
theorem foldSs_sz : ∀ ss : List LStmt, szSs (foldSs ss) ≤ szSs ss
  | [] => by simp [foldSs]
  | s :: r => by
    have h1 := foldS1_sz s
    have h2 := foldSs_sz r
    rw [foldSs, szSs_append, szSs]; omega
end
theorem szSs_take (ss : List LStmt) (k : Nat) : szSs (ss.take k) ≤ szSs ss := by
  have := szSs_append (ss.take k) (ss.drop k)
  rw [List.take_append_drop] at this
  omega
theorem fo_len {ss : List LStmt} {k : Nat} (hb : szSs ss ≤ 1048576) : (foldSs (ss.take k)).length ≤ 1048576 := by
  have h1 := szSs_len (foldSs (ss.take k))
  have h2 := foldSs_sz (ss.take k)
  have h3 := szSs_take ss k
  omega
theorem fo_lenB {l : List LStmt} (hb : szSs l ≤ 1048576) : (foldSs l).length ≤ 1048576 := by
  have h1 := szSs_len (foldSs l)
  have h2 := foldSs_sz l
  omega
def foldP (p : LProg) : LProg := if progB p = true then ⟨p.vars, p.arrays, foldSs p.body⟩ else ⟨[], [], []⟩
theorem foldP_yes {p : LProg} (h : progB p = true) : foldP p = ⟨p.vars, p.arrays, foldSs p.body⟩ := if_pos h
theorem foldP_no {p : LProg} (h : progB p = false) : foldP p = ⟨[], [], []⟩ := by unfold foldP; rw [h]; rfl
theorem foldP_sz (p : LProg) : (foldP p).size ≤ p.size := by
  cases h : progB p
  · rw [foldP_no h]; simp [LProg.size, szSs]
  · rw [foldP_yes h]
    have := foldSs_sz p.body
    simp only [LProg.size]; omega
end Go.Proofs.Ytgpkdfefgcpbiaa

namespace Go.Proofs.Ytgpkdfefgcpbiaa
set_option linter.unusedVariables false
set_option linter.unusedSimpArgs false
open Go Go.RowKit

abbrev loE (e : LExpr) : Ctr := ⟨206, [eA e 0], eS e, eS e ++ [.tree (.exprs e.kids)], .agg [iA e.kind, iA e.value, .tref 1]⟩
abbrev loL (l : List LExpr) : Ctr := ⟨209, [.ref 0], [dE l], [dE l, .tree (.exprs l)], .tref 1⟩
set_option maxRecDepth 100000 in
theorem s_loE (e : LExpr) (ih : Ctr.ok Try.prog (loL e.kids)) : Ctr.ok Try.prog (loE e) := by
  refine rx_enter 8 Try.func206 (by rfl) (by kernel_rfl) (by kernel_rfl) ?_
  intro ι φ ψ w0 w F ρ0 ρ a G
  replace G := Gam.at G [dE e.kids] [(0, eA e 0)]
  refine wp_seq ?_
  refine rs0 G [0, 1, 9] [dE e.kids, .box (eL e 0), .box [iA 0, iA 0, .v (.slice none 0 0)]] [(1, .ptr 1 0), (2, .ptr 2 0)] ?_
  clear G; intro ρ a w G
  refine th_n ?_
  refine wp_seq ?_
  refine rs1 (dk := dkP) G ⟨[(2, _, [0])], [], []⟩ (calls_cons (ih) calls_nil) trivial [0, 1, 2, 19] [dE e.kids, .box [iA e.kind, iA e.value, .tref 3], .box [iA 0, iA 0, .v (.slice none 0 0)], .tree (D.exprs e.kids)] [(1, .ptr 1 0), (2, .ptr 2 0)] [] trivial ?_
  clear G; intro ρ a w G
  refine th_n ?_
  refine wp_seq ?_
  refine rs0 G [0, 2, 3] [dE e.kids, .box [iA e.kind, iA e.value, .tref 2], .tree (D.exprs e.kids)] [(2, .ptr 1 0)] ?_
  clear G; intro ρ a w G
  refine th_n ?_
  refine wp_ret ?_
  exact rx_ret (v := .agg [iA e.kind, iA e.value, .tref 2]) G [0, 2] (by kernel_rfl) (by kernel_rfl) (by kernel_rfl) (by kernel_rfl)

set_option maxRecDepth 100000 in
theorem s_loL (l : List LExpr) (hl : l.length ≤ 1048576) (ih : ∀ (x : LExpr), x ∈ l → Ctr.ok Try.prog (loE x)) : Ctr.ok Try.prog (loL l) := by
  refine rx_enter 20 Try.func209 (by rfl) (by kernel_rfl) (by kernel_rfl) ?_
  intro ι φ ψ w0 w F ρ0 ρ a G
  replace G := Gam.at G [dE l] [(0, .ref 0)]
  refine wp_seq ?_
  refine rs0s G [(0, .ref 0), (2, .v (.slice none 0 0))] ?_
  clear G; intro ρ a w G
  refine th_n ?_
  refine wp_seq ?_
  refine rs0 G [0, 1] [dE l, .tree (D.exprs [])] [(0, .ref 0), (2, .v (.slice none 0 0)), (3, .tref 1)] ?_
  clear G; intro ρ a w G
  refine th_n ?_
  refine wp_seq ?_
  refine wp_seq ?_
  refine rs0s G [(2, .v (.slice none 0 0)), (3, .tref 1), (7, .ref 0), (8, iA (↑l.length : Int)), (9, iA 0)] ?_
  clear G; intro ρ a w G
  refine th_n ?_
  refine wp_block ?_
  refine rx_for (κ := Nat) (fun k => k ≤ l.length) (fun k => l.length - k) (fun k => [dE l, .tree (.exprs (l.take k))]) (fun k => [(2, .v (.slice none 0 0)), (3, .tref 1), (7, .ref 0), (8, iA (↑l.length : Int)), (9, iA k)]) (0) (by omega) (Gam.at G _ _) ?_
  clear G
  intro k ρ a w hp G
  replace G := Gam.at G [dE l, .tree (D.exprs (List.take k l))] [(2, .v (.slice none 0 0)), (3, .tref 1), (7, .ref 0), (8, iA (↑l.length : Int)), (9, iA (↑k : Int))]
  refine wp_seq ?_
  refine rs0s G [(2, .v (.slice none 0 0)), (3, .tref 1), (7, .ref 0), (8, iA (↑l.length : Int)), (9, iA (↑k : Int)), (10, bA (decide ((↑k : Int) < (↑l.length : Int))))] ?_
  clear G; intro ρ a w G
  refine th_n ?_
  refine wp_seq ?_
  cases h0 : (decide ((↑k : Int) < (↑l.length : Int)))
  ·
   have q0 : ¬ ((↑k : Int) < (↑l.length : Int)) := of_decide_eq_false h0
   refine rF G (decide ((↑k : Int) < (↑l.length : Int))) (by assumption) ?_
   refine wp_exit ?_
   refine th_e ?_
   refine th_e ?_
   refine bl_hit ?_
   refine th_n ?_
   refine wp_seq ?_
   refine rs0s G [(2, .tref 1)] ?_
   clear G; intro ρ a w G
   refine th_n ?_
   refine wp_ret ?_
   exact rx_ret (v := .tref 1) G [0, 1] (by kernel_rfl) (by kernel_rfl) (by show _ = List.map (It.ren (nth [0, 1])) [dE l, .tree (D.exprs l)]; have e1 : (List.take k l : List LExpr) = (l) := (by exact take_is hp (by assumption)); first | (rw [e1]; done) | (rw [e1]; rfl) | (simp only [e1]; done) | (simp only [e1]; rfl)) (by kernel_rfl)
  ·
   have q0 : (↑k : Int) < (↑l.length : Int) := of_decide_eq_true h0
   refine rT G (decide ((↑k : Int) < (↑l.length : Int))) (by assumption) ?_
   refine wp_skip ?_
   refine th_n ?_
   refine wp_seq ?_
   refine wp_block ?_
   refine wp_seq ?_
   refine rs1 (dk := dkP) G ⟨[], [], []⟩ calls_nil trivial [0, 1, 10, 18] [dE l, .tree (D.exprs (List.take k l)), dE (l.getD k default).kids, .box (eL (l.getD k default) 2)] [(2, .v (.slice none 0 0)), (3, .tref 1), (5, .ptr 3 0), (7, .ref 0), (8, iA (↑l.length : Int)), (9, iA (↑k : Int))] [(0 : Int) ≤ (↑k : Int), (↑k : Int) < (↑l.length : Int), k < l.length] ⟨(by simp [h0]), (by assumption), (by have := len1 (x := (default : LExpr)) hp hl; simp only [List.length_cons, List.length_nil] at this ⊢; omega), trivial⟩ ?_
   clear G; intro ρ a w G
   refine th_n ?_
   refine rs1 (dk := dkP) G ⟨[(2, _, [2])], [], []⟩ (calls_cons (ih (l.getD k default) (by exact getE_mem (by assumption))) calls_nil) trivial [0, 36] [dE l, .tree (D.exprs (List.take k l ++ [LExpr.mk (l.getD k default).kind (l.getD k default).value (l.getD k default).kids]))] [(2, .v (.slice none 0 0)), (3, .tref 1), (7, .ref 0), (8, iA (↑l.length : Int)), (9, iA (↑k : Int))] [(List.take k l).length + [LExpr.mk (l.getD k default).kind (l.getD k default).value (l.getD k default).kids].length ≤ (9223372036854775807 : Nat), ((List.take k l).length + [LExpr.mk (l.getD k default).kind (l.getD k default).value (l.getD k default).kids].length) * (40 : Nat) ≤ (140737488355328 : Nat)] ⟨(by have := len1 (x := (default : LExpr)) hp hl; simp only [List.length_cons, List.length_nil] at this ⊢; omega), (by exact fitB (len1 hp hl) (by kernel_rfl)), trivial⟩ ?_
   clear G; intro ρ a w G
   refine bl_n ?_
   refine th_n ?_
   refine rs1s G ⟨[], [], []⟩ calls_nil trivial [(2, .v (.slice none 0 0)), (3, .tref 1), (7, .ref 0), (8, iA (↑l.length : Int)), (9, iA ((↑k : Int) + 1))] [IntKind.i64.wrap ((↑k : Int) + (1 : Int)) = (↑k : Int) + (1 : Int)] ⟨(by exact w64 (by omega) (by omega)), trivial⟩ ?_
   clear G; intro ρ a w G
   refine th_n ?_
   exact rx_next G (k + 1) (by have := len1 (x := (default : LExpr)) hp hl; simp only [List.length_cons, List.length_nil] at this ⊢; omega) (by have := len1 (x := (default : LExpr)) hp hl; simp only [List.length_cons, List.length_nil] at this ⊢; omega) [0, 1] [dE l, .tree (D.exprs (List.take (k + 1) l))] [(2, .v (.slice none 0 0)), (3, .tref 1), (7, .ref 0), (8, iA (↑l.length : Int)), (9, iA (↑(k + 1) : Int))] (by kernel_rfl) (by kernel_rfl) (by kernel_rfl) (by have e1 : (List.take (k + 1) l : List LExpr) = (List.take k l ++ [LExpr.mk (l.getD k default).kind (l.getD k default).value (l.getD k default).kids]) := (by exact (takeE (by omega)).symm); first | (rw [e1]; done) | (rw [e1]; rfl) | (simp only [e1]; done) | (simp only [e1]; rfl)) (by kernel_rfl)

theorem c_loE (e : LExpr) : szE e ≤ 1048576 → Ctr.ok Try.prog (loE e) :=
  LExpr.ind (P := fun e => szE e ≤ 1048576 → Ctr.ok Try.prog (loE e)) (fun k n ks ih hb => s_loE ⟨k, n, ks⟩ (s_loL ks (kids_fit (e := ⟨k, n, ks⟩) hb) fun x hx => ih x hx (by
    have h1 := szE_mem hx
    have h2 : szE ⟨k, n, ks⟩ = szEs ks := rfl
    omega))) e
abbrev loS (s : LStmt) : Ctr := ⟨194, [sA s 0], sS s, sS s ++ [.tree (.exprs s.index.kids), .tree (.exprs s.value.kids), .tree (.stmts s.body), .tree (.stmts s.els)], .agg [iA s.kind, iA s.target, iA s.index.kind, iA s.index.value, .tref 4, iA s.value.kind, iA s.value.value, .tref 5, iA s.count, .tref 6, .tref 7]⟩
abbrev loB (l : List LStmt) : Ctr := ⟨167, [.ref 0], [dT l], [dT l, .tree (.stmts l)], .tref 1⟩
set_option maxRecDepth 100000 in
theorem s_loS (s : LStmt) (h1 : szE s.index ≤ 1048576) (h2 : szE s.value ≤ 1048576) (ih1 : Ctr.ok Try.prog (loB s.body)) (ih2 : Ctr.ok Try.prog (loB s.els)) : Ctr.ok Try.prog (loS s) := by
  refine rx_enter 20 Try.func194 (by rfl) (by kernel_rfl) (by kernel_rfl) ?_
  intro ι φ ψ w0 w F ρ0 ρ a G
  replace G := Gam.at G [dE s.index.kids, dE s.value.kids, dT s.body, dT s.els] [(0, sA s 0)]
  refine wp_seq ?_
  refine rs0 G [0, 1, 2, 3, 4, 12] [dE s.index.kids, dE s.value.kids, dT s.body, dT s.els, .box (sL s 0), .box [iA 0, iA 0, iA 0, iA 0, .v (.slice none 0 0), iA 0, iA 0, .v (.slice none 0 0), iA 0, .v (.slice none 0 0), .v (.slice none 0 0)]] [(1, .ptr 4 0), (2, .ptr 5 0)] ?_
  clear G; intro ρ a w G
  refine th_n ?_
  refine wp_seq ?_
  refine rs1 (dk := dkP) G ⟨[(2, _, [0])], [], []⟩ (calls_cons (c_loE (s.index) (by assumption)) calls_nil) trivial [0, 1, 2, 3, 4, 5, 22] [dE s.index.kids, dE s.value.kids, dT s.body, dT s.els, .box [iA s.kind, iA s.target, iA s.index.kind, iA s.index.value, .tref 6, iA s.value.kind, iA s.value.value, .ref 1, iA s.count, .ref 2, .ref 3], .box [iA 0, iA 0, iA 0, iA 0, .v (.slice none 0 0), iA 0, iA 0, .v (.slice none 0 0), iA 0, .v (.slice none 0 0), .v (.slice none 0 0)], .tree (D.exprs s.index.kids)] [(1, .ptr 4 0), (2, .ptr 5 0)] [] trivial ?_
  clear G; intro ρ a w G
  refine th_n ?_
  refine wp_seq ?_
  refine rs1 (dk := dkP) G ⟨[(2, _, [1])], [], []⟩ (calls_cons (c_loE (s.value) (by assumption)) calls_nil) trivial [0, 1, 2, 3, 4, 5, 6, 23] [dE s.index.kids, dE s.value.kids, dT s.body, dT s.els, .box [iA s.kind, iA s.target, iA s.index.kind, iA s.index.value, .tref 6, iA s.value.kind, iA s.value.value, .tref 7, iA s.count, .ref 2, .ref 3], .box [iA 0, iA 0, iA 0, iA 0, .v (.slice none 0 0), iA 0, iA 0, .v (.slice none 0 0), iA 0, .v (.slice none 0 0), .v (.slice none 0 0)], .tree (D.exprs s.index.kids), .tree (D.exprs s.value.kids)] [(1, .ptr 4 0), (2, .ptr 5 0)] [] trivial ?_
  clear G; intro ρ a w G
  refine th_n ?_
  refine wp_seq ?_
  refine rs1 (dk := dkP) G ⟨[(2, _, [2])], [], []⟩ (calls_cons (ih1) calls_nil) trivial [0, 1, 2, 3, 4, 5, 6, 7, 24] [dE s.index.kids, dE s.value.kids, dT s.body, dT s.els, .box [iA s.kind, iA s.target, iA s.index.kind, iA s.index.value, .tref 6, iA s.value.kind, iA s.value.value, .tref 7, iA s.count, .tref 8, .ref 3], .box [iA 0, iA 0, iA 0, iA 0, .v (.slice none 0 0), iA 0, iA 0, .v (.slice none 0 0), iA 0, .v (.slice none 0 0), .v (.slice none 0 0)], .tree (D.exprs s.index.kids), .tree (D.exprs s.value.kids), .tree (D.stmts s.body)] [(1, .ptr 4 0), (2, .ptr 5 0)] [] trivial ?_
  clear G; intro ρ a w G
  refine th_n ?_
  refine wp_seq ?_
  refine rs1 (dk := dkP) G ⟨[(2, _, [3])], [], []⟩ (calls_cons (ih2) calls_nil) trivial [0, 1, 2, 3, 4, 5, 6, 7, 8, 25] [dE s.index.kids, dE s.value.kids, dT s.body, dT s.els, .box [iA s.kind, iA s.target, iA s.index.kind, iA s.index.value, .tref 6, iA s.value.kind, iA s.value.value, .tref 7, iA s.count, .tref 8, .tref 9], .box [iA 0, iA 0, iA 0, iA 0, .v (.slice none 0 0), iA 0, iA 0, .v (.slice none 0 0), iA 0, .v (.slice none 0 0), .v (.slice none 0 0)], .tree (D.exprs s.index.kids), .tree (D.exprs s.value.kids), .tree (D.stmts s.body), .tree (D.stmts s.els)] [(1, .ptr 4 0), (2, .ptr 5 0)] [] trivial ?_
  clear G; intro ρ a w G
  refine th_n ?_
  refine wp_seq ?_
  refine rs0 G [0, 1, 2, 3, 5, 6, 7, 8, 9] [dE s.index.kids, dE s.value.kids, dT s.body, dT s.els, .box [iA s.kind, iA s.target, iA s.index.kind, iA s.index.value, .tref 5, iA s.value.kind, iA s.value.value, .tref 6, iA s.count, .tref 7, .tref 8], .tree (D.exprs s.index.kids), .tree (D.exprs s.value.kids), .tree (D.stmts s.body), .tree (D.stmts s.els)] [(2, .ptr 4 0)] ?_
  clear G; intro ρ a w G
  refine th_n ?_
  refine wp_ret ?_
  exact rx_ret (v := .agg [iA s.kind, iA s.target, iA s.index.kind, iA s.index.value, .tref 5, iA s.value.kind, iA s.value.value, .tref 6, iA s.count, .tref 7, .tref 8]) G [0, 1, 2, 3, 5, 6, 7, 8] (by kernel_rfl) (by kernel_rfl) (by kernel_rfl) (by kernel_rfl)

set_option maxRecDepth 100000 in
theorem s_loB (l : List LStmt) (hl : l.length ≤ 1048576) (ih : ∀ (s : LStmt), s ∈ l → Ctr.ok Try.prog (loS s)) : Ctr.ok Try.prog (loB l) := by
  refine rx_enter 20 Try.func167 (by rfl) (by kernel_rfl) (by kernel_rfl) ?_
  intro ι φ ψ w0 w F ρ0 ρ a G
  replace G := Gam.at G [dT l] [(0, .ref 0)]
  refine wp_seq ?_
  refine rs0s G [(0, .ref 0), (2, .v (.slice none 0 0))] ?_
  clear G; intro ρ a w G
  refine th_n ?_
  refine wp_seq ?_
  refine rs0 G [0, 1] [dT l, .tree (D.stmts [])] [(0, .ref 0), (2, .v (.slice none 0 0)), (3, .tref 1)] ?_
  clear G; intro ρ a w G
  refine th_n ?_
  refine wp_seq ?_
  refine wp_seq ?_
  refine rs0s G [(2, .v (.slice none 0 0)), (3, .tref 1), (7, .ref 0), (8, iA (↑l.length : Int)), (9, iA 0)] ?_
  clear G; intro ρ a w G
  refine th_n ?_
  refine wp_block ?_
  refine rx_for (κ := Nat) (fun k => k ≤ l.length) (fun k => l.length - k) (fun k => [dT l, .tree (.stmts (l.take k))]) (fun k => [(2, .v (.slice none 0 0)), (3, .tref 1), (7, .ref 0), (8, iA (↑l.length : Int)), (9, iA k)]) (0) (by omega) (Gam.at G _ _) ?_
  clear G
  intro k ρ a w hp G
  replace G := Gam.at G [dT l, .tree (D.stmts (List.take k l))] [(2, .v (.slice none 0 0)), (3, .tref 1), (7, .ref 0), (8, iA (↑l.length : Int)), (9, iA (↑k : Int))]
  refine wp_seq ?_
  refine rs0s G [(2, .v (.slice none 0 0)), (3, .tref 1), (7, .ref 0), (8, iA (↑l.length : Int)), (9, iA (↑k : Int)), (10, bA (decide ((↑k : Int) < (↑l.length : Int))))] ?_
  clear G; intro ρ a w G
  refine th_n ?_
  refine wp_seq ?_
  cases h0 : (decide ((↑k : Int) < (↑l.length : Int)))
  ·
   have q0 : ¬ ((↑k : Int) < (↑l.length : Int)) := of_decide_eq_false h0
   refine rF G (decide ((↑k : Int) < (↑l.length : Int))) (by assumption) ?_
   refine wp_exit ?_
   refine th_e ?_
   refine th_e ?_
   refine bl_hit ?_
   refine th_n ?_
   refine wp_seq ?_
   refine rs0s G [(2, .tref 1)] ?_
   clear G; intro ρ a w G
   refine th_n ?_
   refine wp_ret ?_
   exact rx_ret (v := .tref 1) G [0, 1] (by kernel_rfl) (by kernel_rfl) (by show _ = List.map (It.ren (nth [0, 1])) [dT l, .tree (D.stmts l)]; have e1 : (List.take k l : List LStmt) = (l) := (by exact take_is hp (by assumption)); first | (rw [e1]; done) | (rw [e1]; rfl) | (simp only [e1]; done) | (simp only [e1]; rfl)) (by kernel_rfl)
  ·
   have q0 : (↑k : Int) < (↑l.length : Int) := of_decide_eq_true h0
   refine rT G (decide ((↑k : Int) < (↑l.length : Int))) (by assumption) ?_
   refine wp_skip ?_
   refine th_n ?_
   refine wp_seq ?_
   refine wp_block ?_
   refine wp_seq ?_
   refine rs1 (dk := dkP) G ⟨[], [], []⟩ calls_nil trivial [0, 1, 10, 11, 12, 13, 18] [dT l, .tree (D.stmts (List.take k l)), dE (l.getD k default).index.kids, dE (l.getD k default).value.kids, dT (l.getD k default).body, dT (l.getD k default).els, .box (sL (l.getD k default) 2)] [(2, .v (.slice none 0 0)), (3, .tref 1), (5, .ptr 6 0), (7, .ref 0), (8, iA (↑l.length : Int)), (9, iA (↑k : Int))] [(0 : Int) ≤ (↑k : Int), (↑k : Int) < (↑l.length : Int), k < l.length] ⟨(by simp [h0]), (by assumption), (by have := len1 (x := (default : LStmt)) hp hl; simp only [List.length_cons, List.length_nil] at this ⊢; omega), trivial⟩ ?_
   clear G; intro ρ a w G
   refine th_n ?_
   refine rs1 (dk := dkP) G ⟨[(2, _, [2, 3, 4, 5])], [], []⟩ (calls_cons (ih (l.getD k default) (by exact getS_mem (by assumption))) calls_nil) trivial [0, 39] [dT l, .tree (D.stmts (List.take k l ++ [LStmt.mk (l.getD k default).kind (l.getD k default).target (LExpr.mk (l.getD k default).index.kind (l.getD k default).index.value (l.getD k default).index.kids) (LExpr.mk (l.getD k default).value.kind (l.getD k default).value.value (l.getD k default).value.kids) (l.getD k default).count (l.getD k default).body (l.getD k default).els]))] [(2, .v (.slice none 0 0)), (3, .tref 1), (7, .ref 0), (8, iA (↑l.length : Int)), (9, iA (↑k : Int))] [(List.take k l).length + [LStmt.mk (l.getD k default).kind (l.getD k default).target (LExpr.mk (l.getD k default).index.kind (l.getD k default).index.value (l.getD k default).index.kids) (LExpr.mk (l.getD k default).value.kind (l.getD k default).value.value (l.getD k default).value.kids) (l.getD k default).count (l.getD k default).body (l.getD k default).els].length ≤ (9223372036854775807 : Nat), ((List.take k l).length + [LStmt.mk (l.getD k default).kind (l.getD k default).target (LExpr.mk (l.getD k default).index.kind (l.getD k default).index.value (l.getD k default).index.kids) (LExpr.mk (l.getD k default).value.kind (l.getD k default).value.value (l.getD k default).value.kids) (l.getD k default).count (l.getD k default).body (l.getD k default).els].length) * (152 : Nat) ≤ (140737488355328 : Nat)] ⟨(by have := len1 (x := (default : LStmt)) hp hl; simp only [List.length_cons, List.length_nil] at this ⊢; omega), (by exact fitB (len1 hp hl) (by kernel_rfl)), trivial⟩ ?_
   clear G; intro ρ a w G
   refine bl_n ?_
   refine th_n ?_
   refine rs1s G ⟨[], [], []⟩ calls_nil trivial [(2, .v (.slice none 0 0)), (3, .tref 1), (7, .ref 0), (8, iA (↑l.length : Int)), (9, iA ((↑k : Int) + 1))] [IntKind.i64.wrap ((↑k : Int) + (1 : Int)) = (↑k : Int) + (1 : Int)] ⟨(by exact w64 (by omega) (by omega)), trivial⟩ ?_
   clear G; intro ρ a w G
   refine th_n ?_
   exact rx_next G (k + 1) (by have := len1 (x := (default : LStmt)) hp hl; simp only [List.length_cons, List.length_nil] at this ⊢; omega) (by have := len1 (x := (default : LStmt)) hp hl; simp only [List.length_cons, List.length_nil] at this ⊢; omega) [0, 1] [dT l, .tree (D.stmts (List.take (k + 1) l))] [(2, .v (.slice none 0 0)), (3, .tref 1), (7, .ref 0), (8, iA (↑l.length : Int)), (9, iA (↑(k + 1) : Int))] (by kernel_rfl) (by kernel_rfl) (by kernel_rfl) (by have e1 : (List.take (k + 1) l : List LStmt) = (List.take k l ++ [LStmt.mk (l.getD k default).kind (l.getD k default).target (LExpr.mk (l.getD k default).index.kind (l.getD k default).index.value (l.getD k default).index.kids) (LExpr.mk (l.getD k default).value.kind (l.getD k default).value.value (l.getD k default).value.kids) (l.getD k default).count (l.getD k default).body (l.getD k default).els]) := (by exact (takeS (by omega)).symm); first | (rw [e1]; done) | (rw [e1]; rfl) | (simp only [e1]; done) | (simp only [e1]; rfl)) (by kernel_rfl)

theorem loS2 (s : LStmt) : szS s ≤ 1048576 → Ctr.ok Try.prog (loS s) :=
  LStmt.ind (P := fun s => szS s ≤ 1048576 → Ctr.ok Try.prog (loS s)) (fun k t i v c b e h1 h2 hb => by
    have hz : szS ⟨k, t, i, v, c, b, e⟩ = szE i + szE v + szSs b + szSs e := rfl
    refine s_loS ⟨k, t, i, v, c, b, e⟩ (show szE i ≤ _ by omega) (show szE v ≤ _ by omega) (s_loB b (block_fit (by omega)) fun s hs => h1 s hs ?_) (s_loB e (block_fit (by omega)) fun s hs => h2 s hs ?_)
    · have := szS_mem hs; omega
    · have := szS_mem hs; omega) s
theorem c_loB (l : List LStmt) (hb : szSs l ≤ 1048576) : Ctr.ok Try.prog (loB l) := s_loB l (block_fit hb) fun s hs => loS2 s (by have := szS_mem hs; omega)
set_option maxRecDepth 100000 in
theorem c_loP (p : LProg) (hb : p.size ≤ 1048576) : Ctr.ok Try.prog ⟨118, [pA 0], pS p, pS p ++ oP p, oA 3⟩ := by
  refine rx_enter 18 Try.func118 (by rfl) (by kernel_rfl) (by kernel_rfl) ?_
  intro ι φ ψ w0 w F ρ0 ρ a G
  replace G := Gam.at G [dI p.vars, dI p.arrays, dT p.body] [(0, pA 0)]
  have hb1 : p.vars.length ≤ 1048576 ∧ p.arrays.length ≤ 1048576 ∧ szSs p.body ≤ 1048576 := by unfold LProg.size at hb; omega
  refine wp_seq ?_
  refine rs0 G [0, 1, 2, 3, 11] [dI p.vars, dI p.arrays, dT p.body, .box (pL 0), .box [.v (.slice none 0 0), .v (.slice none 0 0), .v (.slice none 0 0)]] [(1, .ptr 3 0), (2, .ptr 4 0)] ?_
  clear G; intro ρ a w G
  refine th_n ?_
  refine wp_seq ?_
  refine rs1 (dk := dkP) G ⟨[], [], []⟩ calls_nil trivial [0, 1, 2, 3, 4, 29] [dI p.vars, dI p.arrays, dT p.body, .box [.ref 5, .ref 1, .ref 2], .box [.v (.slice none 0 0), .v (.slice none 0 0), .v (.slice none 0 0)], .row 3 (D.ints ([] ++ p.vars))] [(1, .ptr 3 0), (2, .ptr 4 0)] [(0 : Nat) + p.vars.length ≤ (9223372036854775807 : Nat), ((0 : Nat) + p.vars.length) * (8 : Nat) ≤ (140737488355328 : Nat)] ⟨(by omega), (by omega), trivial⟩ ?_
  clear G; intro ρ a w G
  refine th_n ?_
  refine wp_seq ?_
  refine rs1 (dk := dkP) G ⟨[], [], []⟩ calls_nil trivial [0, 1, 2, 3, 4, 5, 30] [dI p.vars, dI p.arrays, dT p.body, .box [.ref 5, .ref 6, .ref 2], .box [.v (.slice none 0 0), .v (.slice none 0 0), .v (.slice none 0 0)], .row 3 (D.ints ([] ++ p.vars)), .row 3 (D.ints ([] ++ p.arrays))] [(1, .ptr 3 0), (2, .ptr 4 0)] [(0 : Nat) + p.arrays.length ≤ (9223372036854775807 : Nat), ((0 : Nat) + p.arrays.length) * (8 : Nat) ≤ (140737488355328 : Nat)] ⟨(by omega), (by omega), trivial⟩ ?_
  clear G; intro ρ a w G
  refine th_n ?_
  refine wp_seq ?_
  refine rs1 (dk := dkP) G ⟨[(2, _, [2])], [], []⟩ (calls_cons (c_loB (p.body) (by exact hb1.2.2)) calls_nil) trivial [0, 1, 2, 3, 4, 5, 6, 23] [dI p.vars, dI p.arrays, dT p.body, .box [.ref 5, .ref 6, .tref 7], .box [.v (.slice none 0 0), .v (.slice none 0 0), .v (.slice none 0 0)], .row 3 (D.ints ([] ++ p.vars)), .row 3 (D.ints ([] ++ p.arrays)), .tree (D.stmts p.body)] [(1, .ptr 3 0), (2, .ptr 4 0)] [] trivial ?_
  clear G; intro ρ a w G
  refine th_n ?_
  refine wp_seq ?_
  refine rs0 G [0, 1, 2, 4, 5, 6, 7] [dI p.vars, dI p.arrays, dT p.body, .box [.ref 4, .ref 5, .tref 6], .row 3 (D.ints ([] ++ p.vars)), .row 3 (D.ints ([] ++ p.arrays)), .tree (D.stmts p.body)] [(2, .ptr 3 0)] ?_
  clear G; intro ρ a w G
  refine th_n ?_
  refine wp_ret ?_
  exact rx_ret (v := .agg [.ref 4, .ref 5, .tref 6]) G [0, 1, 2, 4, 5, 6] (by kernel_rfl) (by kernel_rfl) (by kernel_rfl) (by kernel_rfl)

end Go.Proofs.Ytgpkdfefgcpbiaa

namespace Go.Proofs.Ytgpkdfefgcpbiaa
set_option linter.unusedVariables false
set_option linter.unusedSimpArgs false
open Go Go.RowKit

section
variable {P : Program} {ι κ : Type} {φ ψ : Nat → Prop} {w0 w : World} {F : ι → Rs} {ρ ρ0 : Nat → Value} {N m n : Nat} {S : List It} {tm : List (Nat × AV)} {a : Act}
theorem MemF.shrink {L L' : κ → Rs} (M : MemF φ ψ w0 w L) (h : ∀ k, L' k = L k ∨ ((∀ b, (L' k).blk b → (L k).blk b) ∧ ∀ φ', (∀ b, FrF φ L b → φ' b) → (∀ b, (L k).blk b → ¬ (L' k).blk b → φ' b) → (L' k).holds w φ')) : MemF φ ψ w0 w L' := by
  have old : ∀ k b, (L' k).blk b → (L k).blk b := fun k b hb => by
    rcases h k with e | ⟨h1, _⟩
    · rw [e] at hb; exact hb
    · exact h1 b hb
  have hfr : ∀ b, FrF φ L b → FrF φ L' b := fun b hb => ⟨hb.1, fun k hk => hb.2 k (old k b hk)⟩
  refine ⟨M.kept, M.fresh, fun k => ?_, fun i j g hij h1 h2 => M.dis i j g hij (old i g h1) (old j g h2), fun i b hb => M.ge i b (old i b hb), fun i b hb => M.ph i b (old i b hb)⟩
  rcases h k with e | ⟨h1, h2⟩
  · rw [e]; exact Rs.keep (M.holds k) (Agr.mono fun b _ hf => hfr b hf) fun _ _ => rfl
  · refine h2 _ hfr fun b hb hn => ⟨M.ph k b hb, fun j hj => ?_⟩
    by_cases e : j = k
    · subst e; exact hn hj
    · exact M.dis j k b e (old j b hj) hb

/-- The number n, lent with all that hangs on it. -/
def oneLn (n : Nat) : List Ln := List.replicate n .no ++ [.tree]
theorem oneLn_at (n i : Nat) : lnAt (oneLn n) i = if i = n then .tree else .no := by
  unfold lnAt oneLn
  rw [List.getD_eq_getElem?_getD]
  rcases Nat.lt_trichotomy i n with h | h | h
  · rw [List.getElem?_append_left (by simpa using h), if_neg (by omega)]
    simp [List.getElem?_replicate, h]
  · subst h; simp
  · rw [List.getElem?_eq_none (by simp; omega), if_neg (by omega)]; rfl
theorem Ctr.datPost {f : FuncId} {args : List AV} {S0 S : List It} {d : D} {res : AV} (hc : Ctr.ok P ⟨f, args, S0, S ++ [.tree d], res⟩) (res1 : AV) (hr : res = res1.tr (oneLn S.length) := by kernel_rfl) (hk : (decide (S0.length ≤ S.length) && (res1.trOk (oneLn S.length) && S.all fun x => x.ids.isEmpty)) = true := by kernel_rfl) : Ctr.ok P ⟨f, args, S0, S ++ [.dat d], res1⟩ := by
  simp only [Bool.and_eq_true, decide_eq_true_eq] at hk
  obtain ⟨hl0, hk⟩ := hk
  subst hr
  intro ι φ ψ w0 w F ρ M
  refine (hc ι φ ψ w0 w F ρ M).mono ?_
  rintro x w' ⟨ρ', h1, rfl, M2⟩
  let ρ1 : Nat → Value := fun i => if (lnAt (oneLn S.length) i).isT then valOf (ρ' i) else ρ' i
  have hρ1 : ∀ i, ρ1 i = if (lnAt (oneLn S.length) i).isT then valOf (ρ' i) else ρ' i := fun _ => rfl
  have hne : ∀ i, i ≠ S.length → ρ1 i = ρ' i := fun i hi => by rw [hρ1, oneLn_at, if_neg hi]; rfl
  have heq : ρ1 S.length = valOf (ρ' S.length) := by rw [hρ1, oneLn_at, if_pos rfl]; rfl
  refine ⟨ρ1, fun i hi => by rw [hne i (by simp only at hi; omega)]; exact h1 i hi, by rw [AV.val_tr hρ1 res1 hk.1], ?_⟩
  refine M2.release fun k => ?_
  cases k with
  | inl i => exact .inl rfl
  | inr j =>
    simp only [lay]
    rcases Nat.lt_trichotomy j S.length with hj | hj | hj
    · have e1 : lst (S ++ [.dat d]) j = lst S j := by simp [lst, List.getD_eq_getElem?_getD, List.getElem?_append_left hj]
      have e2 : lst (S ++ [.tree d]) j = lst S j := by simp [lst, List.getD_eq_getElem?_getD, List.getElem?_append_left hj]
      rw [e1, e2]
      left
      have h2 : (lst S j).ids = [] := by
        have h3 := List.all_eq_true.1 hk.2 _ (List.getElem_mem hj)
        rw [lst_at hj]
        simpa using h3
      exact It.res_congr _ (fun i hi => by rw [h2] at hi; cases hi) (.inr (.inr (hne j (by omega))))
    · subst hj
      have e1 : lst (S ++ [.dat d]) S.length = .dat d := by simp [lst, List.getD_eq_getElem?_getD]
      have e2 : lst (S ++ [.tree d]) S.length = .tree d := by simp [lst, List.getD_eq_getElem?_getD]
      rw [e1, e2]
      refine .inr ⟨fun b hb => hb, fun φ' hf hown => ⟨RD.nice _ _, ?_⟩⟩
      have hh := M2.holds (.inr S.length)
      simp only [lay] at hh
      rw [e2] at hh
      rw [heq]
      exact TreeO.read hh.2.1 fun b hb => hown b (by rw [show (It.tree d).res ρ' S.length = Rs.own (blksOf (ρ' S.length)) _ from rfl]; exact hb)
    · rw [lst_out (by simp; omega), lst_out (by simp; omega)]; exact .inl rfl

def rowB (i m : Nat) (e : TypeId) (d : D) (S1 : List It) (tm1 : List (Nat × AV)) : Bool :=
  decide (m ≤ i) && decide (i < S1.length) && natEq d.len 0 && treeIs d e && (List.range S1.length).all (fun j => match lst S1 j with
    | .box cs => AV.trOkL (oneLn i) cs
    | _ => true) && (match lst S1 i with | .row _ _ => true | _ => false) && tm1.all fun p => p.2.trOk (oneLn i)
theorem Gam.treeRow (G : Gam φ ψ w0 F N m ρ0 ρ S tm a w) (i : Nat) (e : TypeId) (d : D) (S1 : List It) (tm1 : List (Nat × AV)) (hb : rowB i m e d S1 tm1 = true := by kernel_rfl) (hi : lst S1 i = .row e d := by kernel_rfl) (hS : S = (lendL (oneLn i) S1).set i (.tree d) := by kernel_rfl) (ht : tm = tm1.map (fun p => (p.1, p.2.tr (oneLn i))) := by kernel_rfl) :
    ∃ ρ', Gam φ ψ w0 F N m ρ0 ρ' S1 tm1 a w := by
  subst hS
  subst ht
  simp only [rowB, Bool.and_eq_true, decide_eq_true_eq, natEq, beq_iff_eq] at hb
  obtain ⟨⟨⟨⟨⟨⟨hm, hil⟩, hd0⟩, hte⟩, hall⟩, -⟩, htm⟩ := hb
  have hte := treeIs_ok hte
  have hlen : ((lendL (oneLn i) S1).set i (.tree d)).length = S1.length := by simp [lendL]
  have hlen0 : (lendL (oneLn i) S1).length = S1.length := by simp [lendL]
  have hat : ∀ j, lst ((lendL (oneLn i) S1).set i (.tree d)) j = if j = i then .tree d else lendIt (oneLn i) .no (lst S1 j) := fun j => by
    by_cases e : j = i
    · subst e
      rw [if_pos rfl]
      simp [lst, List.getD_eq_getElem?_getD, hlen0, hil]
    · rw [if_neg e]
      have h1 : lst ((lendL (oneLn i) S1).set i (.tree d)) j = lst (lendL (oneLn i) S1) j := by
        simp only [lst, List.getD_eq_getElem?_getD]
        rw [List.getElem?_set_ne (fun h => e h.symm)]
      rw [h1, lst_lend, oneLn_at, if_neg e]
  have hbox : ∀ j cs, lst S1 j = .box cs → AV.trOkL (oneLn i) cs = true := fun j cs h => by
    rcases Nat.lt_or_ge j S1.length with hj | hj
    · have h2 := List.all_eq_true.1 hall j (List.mem_range.2 hj)
      rw [h] at h2; exact h2
    · rw [lst_out hj] at h; cases h
  let ρ1 : Nat → Value := fun j => if (lnAt (oneLn i) j).isT then valOf (ρ j) else ρ j
  have hρ1 : ∀ j, ρ1 j = if (lnAt (oneLn i) j).isT then valOf (ρ j) else ρ j := fun _ => rfl
  have hne : ∀ j, j ≠ i → ρ1 j = ρ j := fun j hj => by rw [hρ1, oneLn_at, if_neg hj]; rfl
  have heq : ρ1 i = valOf (ρ i) := by rw [hρ1, oneLn_at, if_pos rfl]; rfl
  refine ⟨ρ1, G.size, G.defs, fun t x hx => ?_, fun t x hx j hj => ?_, fun j => ⟨fun q hq => ?_, fun hj => lst_out hj⟩, ?_, ?_, fun j hj => ?_⟩
  · obtain ⟨h1, p, h2, h3⟩ := look_tr (M := oneLn i) hx
    rw [G.tmv t _ h1, AV.val_tr hρ1 x (by rw [← h3]; exact List.all_eq_true.1 htm p h2)]
  · obtain ⟨h1, _⟩ := look_tr (M := oneLn i) hx
    have := G.tmi t _ h1 j (by rw [AV.ids_tr]; exact hj)
    rw [hlen] at this; exact this
  · by_cases e : j = i
    · subst e; rw [hi] at hq; cases hq
    · have h1 := (G.bd j).1 q
      rw [hat, if_neg e, hlen] at h1
      rcases It.ids_lend (oneLn i) .no (lst S1 j) with h | h
      · rw [h] at hq; cases hq
      · exact h1 (by rw [h]; exact hq)
  · refine G.mem.shrink fun k => ?_
    cases k with
    | inl q => exact .inl rfl
    | inr j =>
      simp only [lay]
      rw [hat]
      by_cases e1 : j = i
      · subst e1
        rw [if_pos rfl, hi]
        have hh := G.mem.holds (.inr j)
        simp only [lay] at hh
        rw [hat, if_pos rfl] at hh
        obtain ⟨_, ⟨e', xs, S', h0, h1, h2, h3, h4⟩, _⟩ := hh
        rw [hte] at h0; cases h0
        refine .inr ⟨fun b hb => ?_, fun φ' _ _ => ?_⟩
        · simp only [It.res, Rs.blk] at hb ⊢
          rw [heq] at hb
          exact (h2 b hb).1
        · simp only [It.res]
          rw [heq]
          exact ⟨fun xs => RW.nice d xs, xs, h1, RW.nil hd0 _⟩
      · rw [if_neg e1]
        left
        cases hx : lst S1 j with
        | box cs =>
          simp only [lendIt, It.res]
          rw [hne j e1, AV.vals_tr hρ1 cs (hbox j cs hx)]
        | none => rfl
        | dead => rfl
        | dat d => simp only [lendIt, It.res]; rw [hne j e1]
        | row e' d => simp only [lendIt, It.res]; rw [hne j e1]
        | tree d => simp only [lendIt, It.res]; rw [hne j e1]
        | kept e' d => cases e' <;> (simp only [lendIt, It.res]; rw [hne j e1])
  · have := G.le; rw [hlen] at this; exact this
  · rw [hne j (by omega)]; exact G.old j hj
end
end Go.Proofs.Ytgpkdfefgcpbiaa
