/-
  OptimizeCode, the program's. Conditions: the argument is code.
-/
import Derived.Test.YtjlnaiifegjneaaOpt1
namespace Go.Proofs.Ytjlnaiifegjneaa
open Go Go.RowKit

theorem CodeOwn.codeF {w : World} {lo hi : Nat} {v : Value} {c : LCode} (h : CodeOwn w lo hi v c) {φ : Nat → Prop} (hf : ∀ b, lo ≤ b → b < hi → φ b) : CodeF w φ v c := by
  obtain ⟨v1, v2, v3, rfl, h1, h2, h3, -⟩ := h
  exact ⟨v1, v2, v3, rfl, owns_rowF h1.1 fun g hg => hf g (h1.lt g hg).1 (h1.lt g hg).2.1, owns_rowF h2.1 fun g hg => hf g (h2.lt g hg).1 (h2.lt g hg).2.1, owns_rowF h3.1 fun g hg => hf g (h3.lt g hg).1 (h3.lt g hg).2.1⟩
/-- Owned code as data. -/
def OwnC (lo hi : Nat) (v : Value) (c : LCode) : World → (Nat → Prop) → Prop := fun w φ => CodeOwn w lo hi v c ∧ hi ≤ w.heap.size ∧ ∀ b, lo ≤ b → b < hi → φ b
theorem OwnC.nice (lo hi : Nat) (v : Value) (c : LCode) : Nice (OwnC lo hi v c) := by
  rintro w w' φ φ' ha ⟨⟨v1, v2, v3, rfl, h1, h2, h3, hd⟩, hh, hf⟩
  have key : ∀ g, lo ≤ g → g < hi → w'.heap[g]? = w.heap[g]? := fun g a b => (ha.2 g (by omega) (hf g a b)).2
  exact ⟨⟨v1, v2, v3, rfl, h1.same fun g hg => key g (h1.lt g hg).1 (h1.lt g hg).2.1, h2.same fun g hg => key g (h2.lt g hg).1 (h2.lt g hg).2.1, h3.same fun g hg => key g (h3.lt g hg).1 (h3.lt g hg).2.1, hd⟩, Nat.le_trans hh ha.1, fun b a c => (ha.2 b (by omega) (hf b a c)).1⟩

set_option maxRecDepth 100000 in
set_option maxHeartbeats 4000000 in
theorem impl_OptimizeCode (v : Value) (c : LCode) (w : World) (h : CodeRow w v c) :
    Calls Try.prog 42 #[v] w fun e w' => ∃ u, e = .returned (.tuple #[u, .bool (codeOk c)]) ∧ CodeOwn w' w.heap.size w'.heap.size u (optC c) ∧ Below w.heap.size w w' := by
  obtain ⟨v1, v2, v3, rfl, h1, h2, h3⟩ := h
  have HT : Hid (optC c = if codeOk c = true then optF c else ⟨[], [], []⟩) := rfl
  obtain ⟨W, hW, M⟩ : ∃ W, W = (w.alloc (.cells #[v1, v2, v3] 36)).alloc (.cells #[.slice none 0 0, .slice none 0 0, .slice none 0 0] 36) ∧ Mem (fun _ => True) (fun _ => True) w W [.dat fun w φ => CodeF w φ (.agg #[v1, v2, v3]) c, .box w.heap.size [v1, v2, v3], .box (w.heap.size + 1) [.slice none 0 0, .slice none 0 0, .slice none 0 0]] :=
    ⟨_, rfl, (((Mem.start (fun _ _ => trivial)).dat (CodeF.nice (.agg #[v1, v2, v3]) c) ⟨_, _, _, rfl, h1.rowF fun _ _ => ⟨trivial, fun r hr => by cases hr⟩, Row.rowF h2 fun _ _ => ⟨trivial, fun r hr => by cases hr⟩, Row.rowF h3 fun _ _ => ⟨trivial, fun r hr => by cases hr⟩⟩).box _ _).box' _ _ (by simp)⟩
  clear h1 h2 h3
  have x0 := M.c 1 0 rfl rfl
  have x1 := M.c 1 1 rfl rfl
  have x2 := M.c 1 2 rfl rfl
  rw [hW] at x0 x1 x2
  go_enter Try.func42, Try.ntmps42
  go_wp2_with fail
  rw [← hW]
  clear hW x0 x1 x2
  refine (impl_CodeValid _ c _ (M.d 0 rfl).row).mono ?_
  rintro e w1 ⟨rfl, b1⟩
  replace M := M.call b1
  clear b1
  cases hc : codeOk c
  · have HC := show Hid (optC c = ⟨[], [], []⟩) from by unfold Hid; rw [HT.out, hc]; simp
    have HO := show Hid _ from hc
    clear hc
    have z0 := M.c 2 0 rfl rfl
    have z1 := M.c 2 1 rfl rfl
    have z2 := M.c 2 2 rfl rfl
    have fz := M.f 2 rfl
    have M2 := ((M.set 2 rfl 0 (.slice none 0 0)).set 2 rfl 1 (.slice none 0 0)).set 2 rfl 2 (.slice none 0 0)
    have HM2 := show Hid _ from M2
    clear M M2
    go_wp2_with fail
    have M2 := HM2.out
    have r0 : World.cell? _ ⟨w.heap.size + 1, 0, none⟩ = some (.slice none 0 0) := M2.c 2 0 rfl rfl
    have r1 : World.cell? _ ⟨w.heap.size + 1, 1, none⟩ = some (.slice none 0 0) := M2.c 2 1 rfl rfl
    have r2 : World.cell? _ ⟨w.heap.size + 1, 2, none⟩ = some (.slice none 0 0) := M2.c 2 2 rfl rfl
    exact bodyPost_ret (v := .tuple #[.agg #[.slice none 0 0, .slice none 0 0, .slice none 0 0], .bool false]) (by simp [results, Try.results42, go_sem, r0, r1, r2]) rfl ⟨_, by rw [HO.out], by rw [HC.out]; exact code_zero _ _ _, M2.below fun _ _ => trivial⟩
  · have HC := show Hid (optC c = optF c) from by unfold Hid; rw [HT.out, hc]; simp
    have HO := show Hid _ from hc
    clear hc
    have x0 : World.cell? _ ⟨w.heap.size, 0, none⟩ = some v1 := M.c 1 0 rfl rfl
    have x1 : World.cell? _ ⟨w.heap.size, 1, none⟩ = some v2 := M.c 1 1 rfl rfl
    have x2 : World.cell? _ ⟨w.heap.size, 2, none⟩ = some v3 := M.c 1 2 rfl rfl
    go_wp2_with fail
    clear x0 x1 x2
    refine (impl_own _ c _ (M.d 0 rfl).row (codeOk_size HO.out)).mono ?_
    rintro e w2 ⟨u2, rfl, o2, b2⟩
    have hfr := M.frFresh
    have M2 := M.callD b2 (R := fun w' φ => CodeF w' φ u2 c) (CodeF.nice _ _) (o2.codeF fun b hb _ => hfr b hb)
    obtain ⟨d1, d2, d3, rfl, -⟩ := id o2
    obtain ⟨a1, k1, a2, k2, a3, k3, rfl, rfl, rfl⟩ := Code.rowOf o2
    have M4 := M2.box [.slice a1 c.vars.length k1, .slice a2 c.arrays.length k2, .slice a3 c.list.length k3] 36
    have HM4 := show Hid _ from M4
    clear M M2 M4 o2 b2 hfr
    go_wp2_with fail
    have M4 := HM4.out
    clear HM4
    obtain ⟨X0, hX0⟩ : ∃ X0, X0 = w2.heap.size := ⟨_, rfl⟩
    rw [← hX0] at M4 ⊢
    clear hX0
    generalize w2.alloc (.cells #[.slice a1 c.vars.length k1, .slice a2 c.arrays.length k2, .slice a3 c.list.length k3] 36) = wa at *
    have M := M4.sel [3, 4, 2] [.dat fun w φ => CodeF w φ (.agg #[.slice a1 c.vars.length k1, .slice a2 c.arrays.length k2, .slice a3 c.list.length k3]) c, .box X0 [.slice a1 c.vars.length k1, .slice a2 c.arrays.length k2, .slice a3 c.list.length k3], .box (w.heap.size + 1) [.slice none 0 0, .slice none 0 0, .slice none 0 0]] rfl (by decide)
    clear M4
    go_loopg [5] (optM c) (fun m _ wr => ∃ (c1 c2 c3 : Value) (cur : LCode), optM cur ≤ m ∧ codeOk cur = true ∧ optF cur = optF c ∧ Mem (fun _ => True) (fun _ => True) w wr [.dat fun w φ => CodeF w φ (.agg #[c1, c2, c3]) cur, .box X0 [c1, c2, c3], .box (w.heap.size + 1) [.slice none 0 0, .slice none 0 0, .slice none 0 0]])
    case atStart => exact ⟨_, _, _, c, Nat.le_refl _, HO.out, rfl, M⟩
    case round =>
      clear M
      obtain ⟨c1, c2, c3, cur, hm, hok, hcur, M⟩ := hrel
      have HM := show Hid _ from hm
      have HK := show Hid _ from hok
      have HU := show Hid _ from hcur
      clear hm hok hcur
      have x0 := M.c 1 0 rfl rfl
      have x1 := M.c 1 1 rfl rfl
      have x2 := M.c 1 2 rfl rfl
      go_wp2_with fail
      refine (impl_threaded _ cur HK.out _ (M.d 0 rfl).row).mono ?_
      rintro e w2 ⟨u2, rfl, o2, b2⟩
      replace M := M.call b2
      clear x0 x1 x2 b2
      go_wp2_with fail
      refine (impl_trimmed _ (thrF cur) (thr_ok HK.out) _ o2.row).mono ?_
      rintro e w3 ⟨u3, rfl, o3, b3⟩
      obtain ⟨nx, hnx⟩ : ∃ nx, nx = optG cur := ⟨_, rfl⟩
      have HNX := show Hid _ from hnx
      rw [show trimF (thrF cur) = nx from hnx.symm] at o3
      clear hnx
      have s2 := M.size
      have hfr := M.frFresh
      replace M := M.callD b3 (R := OwnC w2.heap.size w3.heap.size u3 nx) (OwnC.nice _ _ _ _) ⟨o3, Nat.le_refl _, fun b hb _ => hfr b hb⟩
      obtain ⟨y1, y2, y3, rfl, -⟩ := id o3
      obtain ⟨a1, k1, a2, k2, a3, k3, rfl, rfl, rfl⟩ := Code.rowOf o3
      clear b3 o3 o2 hfr
      have M4 := M.box [.slice a1 nx.vars.length k1, .slice a2 nx.arrays.length k2, .slice a3 nx.list.length k3] 36
      have x0 : World.cell? _ ⟨X0, 0, none⟩ = some c1 := M4.c 1 0 rfl rfl
      have x1 : World.cell? _ ⟨X0, 1, none⟩ = some c2 := M4.c 1 1 rfl rfl
      have x2 : World.cell? _ ⟨X0, 2, none⟩ = some c3 := M4.c 1 2 rfl rfl
      have HM4 := show Hid _ from M4
      clear M M4
      go_wp2_with fail
      clear x0 x1 x2
      have M := HM4.out
      clear HM4
      obtain ⟨X1, hX1⟩ : ∃ X1, X1 = w3.heap.size := ⟨_, rfl⟩
      rw [← hX1] at M ⊢
      clear hX1
      refine (impl_CodeSame _ _ nx cur _ (M.d 3 rfl).1.row (M.d 0 rfl).row).mono ?_
      rintro e w5 ⟨rfl, b5⟩
      replace M := M.call b5
      clear b5
      have y0 : World.cell? _ ⟨X1, 0, none⟩ = some (.slice a1 nx.vars.length k1) := M.c 4 0 rfl rfl
      have y1 : World.cell? _ ⟨X1, 1, none⟩ = some (.slice a2 nx.arrays.length k2) := M.c 4 1 rfl rfl
      have y2 : World.cell? _ ⟨X1, 2, none⟩ = some (.slice a3 nx.list.length k3) := M.c 4 2 rfl rfl
      have z0 : World.cell? _ ⟨w.heap.size + 1, 0, none⟩ = some (.slice none 0 0) := M.c 2 0 rfl rfl
      have z1 : World.cell? _ ⟨w.heap.size + 1, 1, none⟩ = some (.slice none 0 0) := M.c 2 1 rfl rfl
      have z2 : World.cell? _ ⟨w.heap.size + 1, 2, none⟩ = some (.slice none 0 0) := M.c 2 2 rfl rfl
      have fz := M.f 2 rfl
      have x0 : World.cell? _ ⟨X0, 0, none⟩ = some c1 := M.c 1 0 rfl rfl
      have x1 : World.cell? _ ⟨X0, 1, none⟩ = some c2 := M.c 1 1 rfl rfl
      have x2 : World.cell? _ ⟨X0, 2, none⟩ = some c3 := M.c 1 2 rfl rfl
      have fx := M.f 1 rfl
      rcases same_dec nx cur with ⟨hs, he⟩ | ⟨hs, he⟩
      · rw [hs]
        have M2 := ((M.set 2 rfl 0 (.slice a1 nx.vars.length k1)).set 2 rfl 1 (.slice a2 nx.arrays.length k2)).set 2 rfl 2 (.slice a3 nx.list.length k3)
        have HM2 := show Hid _ from M2
        have HE := show Hid _ from he
        clear M M2 hs he
        go_wp2_with fail
        have M2 := HM2.out
        have r0 : World.cell? _ ⟨w.heap.size + 1, 0, none⟩ = some (.slice a1 nx.vars.length k1) := M2.c 2 0 rfl rfl
        have r1 : World.cell? _ ⟨w.heap.size + 1, 1, none⟩ = some (.slice a2 nx.arrays.length k2) := M2.c 2 1 rfl rfl
        have r2 : World.cell? _ ⟨w.heap.size + 1, 2, none⟩ = some (.slice a3 nx.list.length k3) := M2.c 2 2 rfl rfl
        have hres : optC c = nx := by
          rw [HC.out, ← HU.out, optF_stop HK.out (by rw [← HNX.out]; exact HE.out)]
          exact HE.out.symm
        refine bodyPost_ret (v := .tuple #[.agg #[.slice a1 nx.vars.length k1, .slice a2 nx.arrays.length k2, .slice a3 nx.list.length k3], .bool true]) (by simp [results, Try.results42, go_sem, r0, r1, r2]) rfl ⟨_, by rw [HO.out], ?_, M2.below fun _ _ => trivial⟩
        rw [hres]
        have ho := M2.out 3 rfl
        exact ho.1.wide s2 ho.2.1
      · rw [hs]
        have M1 := (((M.dat (CodeF.nice _ nx) ((M.d 3 rfl).1.codeF (M.d 3 rfl).2.2)).set 1 rfl 0 (.slice a1 nx.vars.length k1)).set 1 rfl 1 (.slice a2 nx.arrays.length k2)).set 1 rfl 2 (.slice a3 nx.list.length k3)
        have M2 := M1.sel [5, 1, 2] [.dat fun w φ => CodeF w φ (.agg #[.slice a1 nx.vars.length k1, .slice a2 nx.arrays.length k2, .slice a3 nx.list.length k3]) nx, .box X0 [.slice a1 nx.vars.length k1, .slice a2 nx.arrays.length k2, .slice a3 nx.list.length k3], .box (w.heap.size + 1) [.slice none 0 0, .slice none 0 0, .slice none 0 0]] rfl (by decide)
        have HM2 := show Hid _ from M2
        have HE := show Hid _ from he
        clear M M1 M2 hs he
        go_wp2_with fail
        have hne : optG cur ≠ cur := by rw [← HNX.out]; exact HE.out
        go_roundg (optM nx)
        case measure => rw [HNX.out]; have := optM_lt HK.out hne; have := HM.out; omega
        case rel => exact ⟨_, _, _, nx, Nat.le_refl _, by rw [HNX.out]; exact optG_ok HK.out, by rw [HNX.out, optF_step HK.out hne]; exact HU.out, HM2.out⟩

end Go.Proofs.Ytjlnaiifegjneaa
