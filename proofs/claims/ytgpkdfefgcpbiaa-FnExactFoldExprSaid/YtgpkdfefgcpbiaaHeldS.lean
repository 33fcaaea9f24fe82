/-
  Marks found again on statements and programs: the laws' helpers heldStmtS, heldProgram, markProgram. Conditions: the argument reads as marked; is owned.
-/
import Derived.Test.YtgpkdfefgcpbiaaMarkS
namespace Go.Proofs.Ytgpkdfefgcpbiaa
set_option linter.unusedVariables false
set_option linter.unusedSimpArgs false
open Go Go.RowKit

def HeldSs (ss : List LStmt) : Prop := ∀ (φ : Nat → Prop) (v : Value) (k : Int) (w : World), BlockV w φ v (mkSs ss k) → 0 ≤ k → k + mkN ss ≤ 9000000000000000000 →
  Calls Try.prog 88 #[v, .int .i64 k] w fun x w' => x = .returned (.int .i64 (k + mkN ss)) ∧ Below w.heap.size w w'

set_option maxRecDepth 100000 in
set_option maxHeartbeats 4000000 in
theorem heldStmtS_of (ks : List LStmt) (ih : ∀ s ∈ ks, HeldSs s.body ∧ HeldSs s.els) : HeldSs ks := by
  intro φ v k0 w h hk0 hkb
  obtain ⟨a, cap, rfl, -, hn, -, hc⟩ := h.open
  rw [mkSs_len] at hn ⊢
  have HC := show Hid _ from hc
  have HKB := show Hid _ from hkb
  clear hc h hkb
  go_enter Try.func88, Try.ntmps88
  go_wp2_with fail
  go_loopw [1, 5] (fun q i wr => ∃ (j : Nat) (y : Int), j ≤ ks.length ∧ i = .int .i64 j ∧ q = .int .i64 y ∧ y = k0 + mkN (ks.take j) ∧ Below w.heap.size w wr) (fun _ i _ => ks.length - (intOf i).toNat)
  case atStart => exact ⟨0, k0, Nat.zero_le _, rfl, rfl, by simp [mkN], Below.refl _ _⟩
  case round =>
    obtain ⟨j, y, hj, rfl, rfl, hy, hb⟩ := hrel
    have HY := show Hid _ from hy
    have HB := show Hid _ from hb
    clear hy hb
    by_cases hlt : j < ks.length
    · obtain ⟨b, off, iv, vv, bv, ev, rfl, hbk, hf, hcell, g1, g2, g3, g4⟩ := HC.out j (by rw [mkSs_len]; exact hlt)
      have hge := mkSs_get ks k0 j hlt
      rw [← HY.out, List.getElem?_eq_getElem (by rw [mkSs_len]; exact hlt)] at hge
      rw [Option.some.inj hge] at hcell g1 g2 g3 g4
      have hih := ih _ (List.getElem_mem hlt)
      have ht1 := mkN_take1 hlt
      have hdr := mkN_drop ks (j + 1)
      obtain ⟨s, hsj⟩ : ∃ s, s = ks[j] := ⟨_, rfl⟩
      rw [← hsj] at hcell g1 g2 g3 g4 hih ht1
      have hdef := mkN1_def s
      have hnb := (mkN_nonneg s.body).1
      have hne := (mkN_nonneg s.els).1
      have hnt := (mkN_nonneg (ks.take j)).1
      have hnd := (mkN_nonneg (ks.drop (j + 1))).1
      obtain ⟨A, hA⟩ : ∃ A : Int, A = 2 * szEs s.index.kids := ⟨_, rfl⟩
      obtain ⟨B, hB⟩ : ∃ B : Int, B = 2 * szEs s.value.kids := ⟨_, rfl⟩
      obtain ⟨C, hC⟩ : ∃ C : Int, C = mkN s.body := ⟨_, rfl⟩
      obtain ⟨D, hD⟩ : ∃ D : Int, D = mkN s.els := ⟨_, rfl⟩
      have hA0 : 0 ≤ A := by omega
      have hB0 : 0 ≤ B := by omega
      have hC0 : 0 ≤ C := by omega
      have hD0 : 0 ≤ D := by omega
      have hy0 : 0 ≤ y := by have := HY.out; omega
      have hy1 : y + 7 + A + B + C + D ≤ 9000000000000000000 := by have := HY.out; have := HKB.out; omega
      have hyn : y + 7 + A + B + C + D = k0 + mkN (ks.take (j + 1)) := by have := HY.out; omega
      rw [mkS_def s y A B hA hB, ← hC] at hcell g1 g2 g3 g4
      simp only [LStmt.kind, LStmt.target, LStmt.index, LStmt.value, LStmt.count, LStmt.body, LStmt.els, LExpr.kind, LExpr.value, LExpr.kids] at hcell g1 g2 g3 g4
      have HCC := show Hid (∀ W, Below w.heap.size w W → ∀ o, W.cell? ⟨b, o, none⟩ = w.cell? ⟨b, o, none⟩) from fun W hW o => (bcell hW).1 _ _ hbk
      have HG := show Hid _ from And.intro g1 (And.intro g2 (And.intro g3 g4))
      have HE := show Hid _ from And.intro hA (And.intro hB (And.intro hC hD))
      have HIH := show Hid _ from hih
      have HYN := show Hid _ from hyn
      have HCE := show Hid _ from hcell
      clear hih hA hB hC hD hcell g1 g2 g3 g4 hge ht1 hdr hdef hnb hne hnt hnd hsj hyn
      obtain ⟨c0, c1, c2, c3, c4, c5, c6, c7, c8, c9, c10⟩ := HCE.out
      rw [← HCC.out _ HB.out] at c0 c1 c2 c3 c4
      clear c5 c6 c7 c8 c9 c10
      go_wp2_with fail
      clear c0 c1 c2 c3 c4
      refine (heldExprS_all s.index.kids φ iv (y + 1 + 1 + 1 + 1) _ (KidsV.nice _ _ _ _ _ _ (Agr.below HB.out) HG.out.1) (by omega) (by have := HE.out.1; omega)).mono ?_
      rintro x w1 ⟨rfl, b1⟩
      rw [← HE.out.1]
      have B1 := show Hid _ from HB.out.trans (b1.mono HB.out.size)
      clear b1
      obtain ⟨c0, c1, c2, c3, c4, c5, c6, c7, c8, c9, c10⟩ := HCE.out
      rw [← HCC.out _ B1.out] at c5 c6 c7
      clear c0 c1 c2 c3 c4 c8 c9 c10
      go_wp2_with fail
      clear c5 c6 c7
      refine (heldExprS_all s.value.kids φ vv (y + 1 + 1 + 1 + 1 + A + 1 + 1) _ (KidsV.nice _ _ _ _ _ _ (Agr.below B1.out) HG.out.2.1) (by omega) (by have := HE.out.2.1; omega)).mono ?_
      rintro x w2 ⟨rfl, b1⟩
      rw [← HE.out.2.1]
      have B2 := show Hid _ from B1.out.trans (b1.mono B1.out.size)
      clear b1
      obtain ⟨c0, c1, c2, c3, c4, c5, c6, c7, c8, c9, c10⟩ := HCE.out
      rw [← HCC.out _ B2.out] at c8 c9
      clear c0 c1 c2 c3 c4 c5 c6 c7 c10
      go_wp2_with fail
      clear c8 c9
      refine (HIH.out.1 φ bv (y + 1 + 1 + 1 + 1 + A + 1 + 1 + B + 1) _ (BlockV.nice _ _ _ _ _ _ (Agr.below B2.out) HG.out.2.2.1) (by omega) (by have := HE.out.2.2.1; omega)).mono ?_
      rintro x w3 ⟨rfl, b1⟩
      rw [← HE.out.2.2.1]
      have B3 := show Hid _ from B2.out.trans (b1.mono B2.out.size)
      clear b1
      obtain ⟨c0, c1, c2, c3, c4, c5, c6, c7, c8, c9, c10⟩ := HCE.out
      rw [← HCC.out _ B3.out] at c10
      clear c0 c1 c2 c3 c4 c5 c6 c7 c8 c9
      go_wp2_with fail
      clear c10
      refine (HIH.out.2 φ ev (y + 1 + 1 + 1 + 1 + A + 1 + 1 + B + 1 + C) _ (BlockV.nice _ _ _ _ _ _ (Agr.below B3.out) HG.out.2.2.2) (by omega) (by have := HE.out.2.2.2; omega)).mono ?_
      rintro x w4 ⟨rfl, b1⟩
      rw [← HE.out.2.2.2]
      have B4 := show Hid _ from B3.out.trans (b1.mono B3.out.size)
      clear b1
      obtain ⟨z, hz⟩ : ∃ z : Int, z = y + 1 + 1 + 1 + 1 + A + 1 + 1 + B + 1 + C + D := ⟨_, rfl⟩
      have HZ := show Hid _ from hz
      rw [← hz]
      have hz0 : 0 ≤ z := by omega
      have hz1 : z ≤ 9000000000000000000 := by omega
      clear hz hy1
      go_wp2_with fail
      exact ⟨⟨j + 1, _, by omega, by go_num, rfl, by have := HZ.out; have := HYN.out; omega, B4.out⟩, by simp [intOf]; omega⟩
    · have hjn : j = ks.length := by omega
      subst hjn
      go_wp2_with fail
      go_ret
      exact ⟨ret_int (by have := HY.out; rw [List.take_of_length_le (Nat.le_refl _)] at this; exact this), HB.out⟩
theorem heldStmtS_all (s : LStmt) : HeldSs s.body ∧ HeldSs s.els :=
  LStmt.ind (P := fun s => HeldSs s.body ∧ HeldSs s.els) (fun _ _ _ _ _ b e ihb ihe => ⟨heldStmtS_of b ihb, heldStmtS_of e ihe⟩) s
theorem heldStmtS_any (ks : List LStmt) : HeldSs ks := heldStmtS_of ks fun s _ => heldStmtS_all s

theorem markIntS_row (v : Value) (xs : List Int) (K : Nat) (w : World) (h : w.ownsRow 0 3 1 v xs.length (ints xs)) (hK : K + xs.length ≤ 9000000000000000000) :
    Calls Try.prog 34 #[v, .int .i64 K] w fun e w' => e = .returned (.int .i64 (K + xs.length : Nat)) ∧ w'.ownsRow 0 3 1 v xs.length (ints (marksI K xs.length)) ∧ Kept (fun b => ¬ v.ownBlock = some b) w w' := by
  obtain ⟨lo, hi, _, _, ho, hb⟩ := (Own.mk' h).tight
  refine (markIntS_any v xs K lo hi w ho hK).mono ?_
  rintro e w1 ⟨rfl, h1, h2⟩
  refine ⟨rfl, owns_base h1.1 (Nat.zero_le _), h2.os, h2.tape, h2.output, h2.size, fun b hb1 hb2 => h2.block b hb1 ?_⟩
  rcases Nat.lt_or_ge b lo with h3 | h3
  · exact .inl h3
  · rcases Nat.lt_or_ge b hi with h4 | h4
    · exact absurd (hb b h3 h4) hb2
    · exact .inr h4
/-- A call that turns a row of ints. -/
theorem Mem.turnRow {φ ψ : Nat → Prop} {w0 w w' : World} {L : List Res} (M : Mem φ ψ w0 w L) (i : Nat) {e : TypeId} {sz : Nat} {v : Value} {n : Nat} {xs xs' : List Value} (hi : L[i]? = some (.row e sz v n xs)) (hk : Kept (fun b => ¬ v.ownBlock = some b) w w') (h : w'.ownsRow 0 e sz v n xs') : Mem φ ψ w0 w' (L.set i (.row e sz v n xs')) :=
  M.put hi _ hk h fun _ hg => .inl hg

/-- The marks of a program. -/
def mkP (p : LProg) (k : Nat) : LProg := ⟨marksI k p.vars.length, marksI (k + p.vars.length) p.arrays.length, mkSs p.body ((k + p.vars.length + p.arrays.length : Nat) : Int)⟩
def mkPN (p : LProg) : Int := p.vars.length + p.arrays.length + mkN p.body

set_option maxHeartbeats 1000000 in
theorem markProgram_any (v : Value) (p : LProg) (k : Nat) (w : World) (S : Nat → Prop) (h : ProgO w v p S) (hb : k + mkPN p ≤ 9000000000000000000) :
    Calls Try.prog 25 #[v, .int .i64 k] w fun x w' => x = .returned (.int .i64 (k + mkPN p)) ∧ ProgO w' v (mkP p k) S ∧ Kept (fun b => ¬ S b) w w' := by
  obtain ⟨v1, v2, v3, S3, rfl, h1, h2, h3, d1, d2, d3⟩ := h
  have hnn := (mkN_nonneg p.body).1
  have hbb : (k : Int) + p.vars.length + p.arrays.length + mkN p.body ≤ 9000000000000000000 := by unfold mkPN at hb; omega
  obtain ⟨W, hW, M⟩ : ∃ W, W = w.alloc (.cells #[v1, v2, v3] 31) ∧ Mem (fun _ => True) (fun b => ¬ S b) w W [.box w.heap.size [v1, v2, v3], .row 3 1 v1 p.vars.length (ints p.vars), .row 3 1 v2 p.arrays.length (ints p.arrays), .own (fun b => S3 b ∧ b < w.heap.size) (fun w' => BlockO w' v3 p.body (fun b => S3 b ∧ b < w.heap.size))] := by
    refine ⟨_, rfl, (((((Mem.start fun _ _ => trivial).box [v1, v2, v3] 31).adopt (.row 3 1 v1 p.vars.length (ints p.vars)) ?_ trivial (owns_same h1 fun g hg => ?_) ?_ ?_).adopt (.row 3 1 v2 p.arrays.length (ints p.arrays)) ?_ trivial (owns_same h2 fun g hg => ?_) ?_ ?_).adopt (.own (fun b => S3 b ∧ b < w.heap.size) (fun w' => BlockO w' v3 p.body (fun b => S3 b ∧ b < w.heap.size))) ?_ trivial ⟨fun _ _ h hs => BlockO.same h hs, h3.cut.same fun b hb hl => ?_, fun b hb => ?_⟩ ?_ ?_)⟩
    · intro a ha; simp at ha; subst ha; trivial
    · exact (Below.refl _ _ |>.alloc (Nat.le_refl _) _).block g (World.ownsRow.lt h1 g hg).2
    · intro a ha g hg h; simp at ha; subst ha; cases h; have := (World.ownsRow.lt h1 _ hg).2; omega
    · intro g hg hn; exact hn (d1 g hg).1
    · intro a ha; simp at ha; rcases ha with rfl | rfl <;> trivial
    · exact (Below.refl _ _ |>.alloc (Nat.le_refl _) _).block g (World.ownsRow.lt h2 g hg).2
    · intro a ha g hg h; simp at ha; rcases ha with rfl | rfl
      · cases h; have := (World.ownsRow.lt h2 _ hg).2; omega
      · exact (d1 g h).2.2 hg
    · intro g hg hn; exact hn (d2 g hg).1
    · intro a ha; simp at ha; rcases ha with rfl | rfl | rfl <;> trivial
    · exact (Below.refl _ _ |>.alloc (Nat.le_refl _) _).block b hb.2
    · simp; have := hb.2; omega
    · intro a ha g hg h; simp at ha; rcases ha with rfl | rfl | rfl
      · cases h; have := hg.2; omega
      · exact (d1 g h).2.1 hg.1
      · exact (d2 g h).2 hg.1
    · intro g hg hn; exact hn (d3 g hg.1)
  have HD := show Hid _ from And.intro d1 (And.intro d2 d3)
  clear h1 h2 h3 d1 d2 d3
  have c0 := M.c 0 0 rfl rfl
  rw [hW] at c0
  go_enter Try.func25, Try.ntmps25
  go_wp2_with fail
  rw [← hW]
  clear hW c0
  refine (markIntS_row v1 p.vars k _ (M.r 1 rfl) (by omega)).mono ?_
  rintro x w1 ⟨rfl, k1, kp1⟩
  replace M := M.turnRow 1 rfl kp1 k1
  clear k1 kp1
  have c1 := M.c 0 1 rfl rfl
  have HM := show Hid _ from M
  clear M
  go_wp2_with fail
  have M := HM.out
  clear HM c1
  refine (markIntS_row v2 p.arrays (k + p.vars.length) _ (M.r 2 rfl) (by omega)).mono ?_
  rintro x w2 ⟨rfl, k1, kp1⟩
  replace M := M.turnRow 2 rfl kp1 k1
  clear k1 kp1
  have c2 := M.c 0 2 rfl rfl
  have HM := show Hid _ from M
  clear M
  go_wp2_with fail
  have M := HM.out
  clear HM c2
  refine (markStmtS_any p.body v3 ((k + p.vars.length + p.arrays.length : Nat) : Int) _ _ (M.o 3 rfl) (by omega) (by omega)).mono ?_
  rintro x w3 ⟨rfl, k1, kp1⟩
  replace M := M.turn 3 rfl kp1 (fun _ _ h hs => BlockO.same h hs) k1
  clear k1 kp1
  have HM := show Hid _ from M
  clear M
  go_wp2_with fail
  go_ret
  have M := HM.out
  obtain ⟨d1, d2, d3⟩ := HD.out
  refine ⟨ret_int (by unfold mkPN; omega), ⟨v1, v2, v3, S3, rfl, ?_, ?_, (show BlockO _ v3 (mkSs p.body _) _ from M.o 3 rfl).mono fun _ h => h.1, d1, d2, d3⟩, M.kept⟩
  · rw [show (mkP p k).vars = marksI k p.vars.length from rfl, marksI_len]; exact M.r 1 rfl
  · rw [show (mkP p k).arrays = marksI (k + p.vars.length) p.arrays.length from rfl, marksI_len]; exact M.r 2 rfl

set_option maxHeartbeats 1000000 in
theorem heldProgram_any (φ : Nat → Prop) (v : Value) (p : LProg) (k : Nat) (w : World) (h : ProgV w φ v (mkP p k)) (hb : k + mkPN p ≤ 9000000000000000000) :
    Calls Try.prog 30 #[v, .int .i64 k] w fun x w' => x = .returned (.int .i64 (k + mkPN p)) ∧ Below w.heap.size w w' := by
  obtain ⟨v1, v2, v3, rfl, h1, h2, h3⟩ := h
  rw [show (mkP p k).vars = marksI k p.vars.length from rfl, marksI_len] at h1
  rw [show (mkP p k).arrays = marksI (k + p.vars.length) p.arrays.length from rfl, marksI_len] at h2
  have hnn := (mkN_nonneg p.body).1
  have hbb : (k : Int) + p.vars.length + p.arrays.length + mkN p.body ≤ 9000000000000000000 := by unfold mkPN at hb; omega
  obtain ⟨W, hW, M⟩ : ∃ W, W = w.alloc (.cells #[v1, v2, v3] 31) ∧ Mem (fun _ => True) (fun _ => True) w W [.box w.heap.size [v1, v2, v3]] :=
    ⟨_, rfl, (Mem.start fun _ _ => trivial).box _ _⟩
  have HG := show Hid (∀ W', Below w.heap.size w W' → Row W' v1 p.vars.length 1 (ints (marksI k p.vars.length)) ∧ Row W' v2 p.arrays.length 1 (ints (marksI (k + p.vars.length) p.arrays.length)) ∧ BlockV W' φ v3 (mkSs p.body ((k + p.vars.length + p.arrays.length : Nat) : Int))) from fun W' k =>
    ⟨h1.row.below k, h2.row.below k, BlockV.nice _ _ _ _ _ _ (Agr.below k) h3⟩
  clear h1 h2 h3
  have c0 := M.c 0 0 rfl rfl
  have c1 := M.c 0 1 rfl rfl
  have c2 := M.c 0 2 rfl rfl
  have HB0 := show Hid _ from M.below fun _ _ => trivial
  clear M
  rw [hW] at c0
  go_enter Try.func30, Try.ntmps30
  go_wp2_with fail
  rw [← hW]
  clear hW c0
  refine (heldIntS_any v1 p.vars.length k _ (HG.out _ HB0.out).1 (by omega)).mono ?_
  rintro x w1 ⟨rfl, n1, rfl⟩
  go_wp2_with fail
  have B1 := show Hid _ from below_drewN HB0.out n1
  refine (heldIntS_any v2 p.arrays.length (k + p.vars.length) _ (HG.out _ B1.out).2.1 (by omega)).mono ?_
  rintro x w2 ⟨rfl, n2, rfl⟩
  go_wp2_with fail
  have B2 := show Hid _ from below_drewN HB0.out (n1 + n2)
  have hcast : ((k + p.vars.length + p.arrays.length : Nat) : Int) = (k : Int) + p.vars.length + p.arrays.length := by omega
  have HBB : BlockV (W.drewN (n1 + n2)) φ v3 (mkSs p.body ((k : Int) + p.vars.length + p.arrays.length)) := by rw [← hcast]; exact (HG.out _ B2.out).2.2
  clear hcast
  refine (heldStmtS_any p.body φ v3 ((k : Int) + p.vars.length + p.arrays.length) _ HBB (by omega) (by omega)).mono ?_
  rintro x w3 ⟨rfl, b1⟩
  have HB := show Hid _ from B2.out.trans (b1.mono B2.out.size)
  clear b1 HBB
  have hn1 : ¬ ((k : Int) + p.vars.length + p.arrays.length + mkN p.body < 0) := by omega
  go_wp2_with fail
  go_ret
  exact ⟨ret_int (by unfold mkPN; omega), HB.out⟩

end Go.Proofs.Ytgpkdfefgcpbiaa
