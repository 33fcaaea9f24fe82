/-
  Trees copied into the program's types: the laws' helpers toExpr, toStmt, toProgram. Conditions: the argument reads as a tree; bounded.
-/
import Derived.Test.YtgpkdfefgcpbiaaTreeSz
import Derived.Test.YtgpkdfefgcpbiaaTree2
namespace Go.Proofs.Ytgpkdfefgcpbiaa
set_option linter.unusedVariables false
set_option linter.unusedSimpArgs false
open Go Go.RowKit

theorem infoE : (Try.prog.info? 41).map (fun i => (i.zero, i.size, i.bytes)) = some (some (.agg #[.int .i64 0, .int .i64 0, .slice none 0 0]), 3, 40) := by kernel_rfl
theorem setFrom_same {w : World} {g p : Nat} {us : List Value} {b : Nat} (hb : b < w.heap.size) (hne : b ≠ g) : (World.setFrom w g p us).heap[b]? = w.heap[b]? :=
  (Out.setFrom us (Out.refl g (g + 1) w) (Nat.le_refl _) (Nat.lt_succ_self _)).block b hb (by omega)

def ToE (e : LExpr) : Prop := ∀ (φ : Nat → Prop) (v : Value) (w : World), ExprV w φ v e → szE e ≤ 1048576 →
  Calls Try.prog 22 #[v] w fun x w' => ∃ a c S, x = .returned (.agg #[.int .i64 e.kind, .int .i64 e.value, .slice a e.kids.length c]) ∧ KidsO w' (.slice a e.kids.length c) e.kids S ∧ (∀ b, S b → w.heap.size ≤ b ∧ b < w'.heap.size) ∧ Below w.heap.size w w'

set_option maxHeartbeats 1000000 in
theorem toExprS_of (ks : List LExpr) (ih : ∀ e ∈ ks, ToE e) (φ : Nat → Prop) (v : Value) (w : World) (h : KidsV w φ v ks) (hb : szEs ks ≤ 1048576) :
    Calls Try.prog 75 #[v] w fun x w' => ∃ a c S, x = .returned (.slice a ks.length c) ∧ KidsO w' (.slice a ks.length c) ks S ∧ (∀ b, S b → w.heap.size ≤ b ∧ b < w'.heap.size) ∧ Below w.heap.size w w' := by
  obtain ⟨a1, c1, rfl, -, hm1, -, hc1⟩ := h.open
  have hlen := szEs_len ks
  have HC := show Hid _ from hc1
  clear h hc1
  have hmk := make_run (P := Try.prog) (t := 39) Try.underlying39 infoE rfl (by omega) ks.length (by omega) hm1
  have hown := own_made w (Value.agg #[.int .i64 0, .int .i64 0, .slice none 0 0]).cells.toList ks.length 3 41 rfl hm1
  have HB := show Hid _ from hb
  have HLN := show Hid _ from hlen
  clear hb hlen
  go_enter Try.func75, Try.ntmps75
  go_wp2_with fail
  clear hmk
  go_loopw [4] (fun i wr => ∃ (k : Nat) (ys : List Value), k ≤ ks.length ∧ i = .int .i64 k ∧ Own wr w.heap.size (w.heap.size + 1) 41 3 (.slice (some ⟨w.heap.size, 0, none⟩) ks.length ks.length) ks.length ys ∧ ExprsO wr (ks.take k) (fun b => w.heap.size < b ∧ b < wr.heap.size) (ys.take (k * 3)) ∧ Below w.heap.size w wr) (fun i _ => ks.length - (intOf i).toNat)
  case atStart => exact ⟨0, _, Nat.zero_le _, rfl, hown, by simp [ExprsO], (Below.refl _ _).alloc (Nat.le_refl _) _⟩
  case round =>
    obtain ⟨k, ys, hk, rfl, ho, ht, hbw⟩ := hrel
    have HT := show Hid _ from ht
    clear ht hown
    by_cases hlt : k < ks.length
    · obtain ⟨b1, o1, kv, rfl, hb1, hf, x0, x1, x2, hkv⟩ := HC.out k hlt
      rw [← (bcell hbw).1 _ _ hb1] at x0 x1 x2
      have HY := show Hid (ys.length = ks.length * 3) from ho.1.1
      have HE := show Hid (ExprV wr φ (.agg #[.int .i64 ks[k].kind, .int .i64 ks[k].value, kv]) ks[k]) from ⟨kv, rfl, KidsV.nice _ _ _ _ _ _ (Agr.below hbw) hkv⟩
      clear hkv
      go_wp2_with fail
      refine (ih _ (List.getElem_mem hlt) φ _ _ HE.out (by have h1 := szE_mem (List.getElem_mem hlt); have h2 := HB.out; omega)).mono ?_
      rintro e w1 ⟨ra, rc, S1, rfl, hO, hS, hbc⟩
      have ho1 := ho.keep hbc (by have := ho.lt _ rfl; omega)
      have hin : ∀ j, j < 3 → k * 3 + j < ys.length := fun j hj => by rw [HY.out]; omega
      obtain ⟨g, cap, hv, hg1, hg2, hg3, f0, u0, y0⟩ := ho1.at (hin 0 (by omega))
      cases hv
      obtain ⟨g, cap, hv, -, -, -, f1, u1, y1⟩ := ho1.at (hin 1 (by omega))
      cases hv
      obtain ⟨g, cap, hv, -, -, -, f2, u2, y2⟩ := ho1.at (hin 2 (by omega))
      cases hv
      simp only [Nat.add_zero] at f0 y0
      have hg4 : w.heap.size < w1.heap.size := hg3
      have HO := show Hid _ from hO
      have HS := show Hid _ from hS
      have hsz0 := hbw.size
      have hszr := hbc.size
      have hgr : w.heap.size < wr.heap.size := (ho.lt _ rfl).2.2
      clear hin hO hS
      go_wp2_with fail
      have hb3 := below_setFrom (p := k * 3) [.int .i64 ks[k].kind, .int .i64 ks[k].value, (.slice ra ks[k].kids.length rc)] (hbw.trans (hbc.mono hbw.size)) (Nat.le_refl w.heap.size)
      have hsz := (Out.setFrom (p := k * 3) [.int .i64 ks[k].kind, .int .i64 ks[k].value, (.slice ra ks[k].kids.length rc)] (Out.refl w.heap.size (w.heap.size + 1) w1) (Nat.le_refl _) (Nat.lt_succ_self _)).size
      refine ⟨⟨k + 1, _, by omega, by go_num, ho1.setFrom [.int .i64 ks[k].kind, .int .i64 ks[k].value, (.slice ra ks[k].kids.length rc)] (by simp; rw [HY.out]; omega), ?_, hb3⟩, by simp [intOf]; omega⟩
      rw [Nat.succ_mul, take_succ_get _ _ hlt]
      rw [show (setFrom ys (k * 3) [.int .i64 ks[k].kind, .int .i64 ks[k].value, (.slice ra ks[k].kids.length rc)]).take (k * 3 + 3) = ys.take (k * 3) ++ [.int .i64 ks[k].kind, .int .i64 ks[k].value, (.slice ra ks[k].kids.length rc)] from setFrom_take [_, _, _] _ _ (by simp; rw [HY.out]; omega)]
      refine ExprsO.snoc (S := fun b => w.heap.size < b ∧ b < wr.heap.size) (T := S1) (ExprsO.same _ _ _ HT.out fun b hbb hlt' => ?_) ((ExprO.iff _ _ _).2 ⟨.slice ra ks[k].kids.length rc, rfl, KidsO.same HO.out fun b hbb hlt' => ?_⟩) (fun b hbb => ⟨⟨hbb.1, ?_⟩, fun h1 => ?_⟩) fun b hbb => ⟨?_, ?_⟩
      · obtain ⟨p1, p2⟩ : w.heap.size < b ∧ b < wr.heap.size := hbb
        exact (setFrom_same (p := k * 3) (us := [.int .i64 ks[k].kind, .int .i64 ks[k].value, (.slice ra ks[k].kids.length rc)]) (by omega) (by omega)).trans (hbc.block b p2)
      · obtain ⟨p1, p2⟩ : wr.heap.size ≤ b ∧ b < w1.heap.size := HS.out b hbb
        exact setFrom_same (p := k * 3) (us := [.int .i64 ks[k].kind, .int .i64 ks[k].value, (.slice ra ks[k].kids.length rc)]) hlt' (by omega)
      · exact Nat.lt_of_lt_of_le (Nat.lt_of_lt_of_le hbb.2 hszr) hsz
      · have h2 : wr.heap.size ≤ b ∧ b < w1.heap.size := HS.out b h1
        have h3 : b < wr.heap.size := hbb.2
        omega
      · have h2 : wr.heap.size ≤ b ∧ b < w1.heap.size := HS.out b hbb
        show w.heap.size < b
        omega
      · exact Nat.lt_of_lt_of_le (HS.out b hbb).2 hsz
    · have hkn : k = ks.length := by omega
      subst hkn
      go_wp2_with fail
      go_ret
      have hl : ys.take (ks.length * 3) = ys := List.take_of_length_le (by rw [ho.1.1]; exact Nat.le_refl _)
      have ht := HT.out
      rw [hl, List.take_of_length_le (Nat.le_refl _)] at ht
      exact ⟨_, _, fun b => w.heap.size ≤ b ∧ b < wr.heap.size, rfl, ⟨ys, fun b => w.heap.size < b ∧ b < wr.heap.size, owns_base ho.1 (Nat.zero_le _), fun g hg => by cases hg; exact ⟨⟨Nat.le_refl _, (ho.lt _ rfl).2.2⟩, fun h => absurd h.1 (Nat.lt_irrefl _)⟩, fun b hb => ⟨by omega, hb.2⟩, ht⟩, fun b hb => hb, hbw⟩

set_option maxHeartbeats 1000000 in
theorem toExpr_all (e : LExpr) : ToE e := by
  refine LExpr.ind (P := ToE) (fun k n ks ih => ?_) e
  intro φ v w h hb
  obtain ⟨kv, rfl, hk⟩ := h
  simp only [LExpr.kind, LExpr.value, LExpr.kids] at hk ⊢
  obtain ⟨W, hW, M⟩ : ∃ W, W = (((w.alloc (.cells #[.int .i64 k, .int .i64 n, kv] 37)).alloc (.cells #[.int .i64 0, .int .i64 0, .slice none 0 0] 41)).alloc (.cells #[.int .i64 k, .int .i64 n, .slice none 0 0] 41)) ∧ Mem (fun _ => True) (fun _ => True) w W [.box w.heap.size [.int .i64 k, .int .i64 n, kv], .box (w.heap.size + 1) [.int .i64 0, .int .i64 0, .slice none 0 0], .box (w.heap.size + 1 + 1) [.int .i64 k, .int .i64 n, .slice none 0 0]] :=
    ⟨_, rfl, (((Mem.start fun _ _ => trivial).box _ _).box' _ _ (by simp)).box' _ _ (by simp)⟩
  have HK := show Hid _ from KidsV.nice _ _ _ _ _ _ (Agr.below (M.below fun _ _ => trivial)) hk
  have sW : W.heap.size = w.heap.size + 1 + 1 + 1 := by rw [hW]; simp
  have HM := show Hid _ from M
  have HS := show Hid _ from sW
  clear hk M sW
  go_enter Try.func22, Try.ntmps22
  go_wp2_with fail
  rw [← hW]
  clear hW
  refine (toExprS_of ks ih φ kv _ HK.out hb).mono ?_
  rintro x w1 ⟨ra, rc, S1, rfl, hO, hS, b1⟩
  have M := HM.out.callO b1 (S := S1) (R := fun w => KidsO w (.slice ra ks.length rc) ks S1) (fun w w' h hs => KidsO.same h hs) hO hS
  clear HM b1 hO
  have c0 := M.c 2 0 rfl rfl
  have c1 := M.c 2 1 rfl rfl
  have c2 := M.c 2 2 rfl rfl
  have d0 := M.c 1 0 rfl rfl
  have d1 := M.c 1 1 rfl rfl
  have d2 := M.c 1 2 rfl rfl
  have f1 := M.f 1 rfl
  have f2 := M.f 2 rfl
  have M2 := (((M.set 2 rfl 2 (.slice ra ks.length rc)).set 1 rfl 0 (.int .i64 k)).set 1 rfl 1 (.int .i64 n)).set 1 rfl 2 (.slice ra ks.length rc)
  have HM2 := show Hid _ from M2
  have HSS := show Hid _ from hS
  clear M M2 hS
  go_wp2_with fail
  have M2 := HM2.out
  have r0 : World.cell? _ ⟨w.heap.size + 1, 0, none⟩ = some (.int .i64 k) := M2.c 1 0 rfl rfl
  have r1 : World.cell? _ ⟨w.heap.size + 1, 1, none⟩ = some (.int .i64 n) := M2.c 1 1 rfl rfl
  have r2 : World.cell? _ ⟨w.heap.size + 1, 2, none⟩ = some (.slice ra ks.length rc) := M2.c 1 2 rfl rfl
  refine bodyPost_ret (v := .agg #[.int .i64 k, .int .i64 n, .slice ra ks.length rc]) (by simp [results, Try.results22, go_sem, r0, r1, r2]) rfl ⟨ra, rc, S1, rfl, M2.o 3 rfl, fun b hbb => ⟨?_, M2.lt (List.mem_of_getElem? (i := 3) rfl) hbb⟩, M2.below fun _ _ => trivial⟩
  have := HSS.out b hbb
  have := HS.out
  omega

theorem infoS : (Try.prog.info? 135).map (fun i => (i.zero, i.size, i.bytes)) = some (some (.agg #[.int .i64 0, .int .i64 0, .int .i64 0, .int .i64 0, .slice none 0 0, .int .i64 0, .int .i64 0, .slice none 0 0, .int .i64 0, .slice none 0 0, .slice none 0 0]), 11, 152) := by kernel_rfl
def stCells (s : LStmt) (ai : Option Addr) (ci : Nat) (av : Option Addr) (cv : Nat) (ab : Option Addr) (cb : Nat) (ae : Option Addr) (ce : Nat) : List Value :=
  [.int .i64 s.kind, .int .i64 s.target, .int .i64 s.index.kind, .int .i64 s.index.value, .slice ai s.index.kids.length ci, .int .i64 s.value.kind, .int .i64 s.value.value, .slice av s.value.kids.length cv, .int .i64 s.count, .slice ab s.body.length cb, .slice ae s.els.length ce]
def ToS (s : LStmt) : Prop := ∀ (φ : Nat → Prop) (v : Value) (w : World), StmtV w φ v s → szS s ≤ 1048576 →
  Calls Try.prog 130 #[v] w fun x w' => ∃ ai ci av cv ab cb ae ce S, x = .returned (.agg #[.int .i64 s.kind, .int .i64 s.target, .int .i64 s.index.kind, .int .i64 s.index.value, .slice ai s.index.kids.length ci, .int .i64 s.value.kind, .int .i64 s.value.value, .slice av s.value.kids.length cv, .int .i64 s.count, .slice ab s.body.length cb, .slice ae s.els.length ce]) ∧
    StmtO w' s S (stCells s ai ci av cv ab cb ae ce) ∧ (∀ b, S b → w.heap.size ≤ b ∧ b < w'.heap.size) ∧ Below w.heap.size w w'

set_option maxHeartbeats 1000000 in
theorem toStmtS_of (ks : List LStmt) (ih : ∀ e ∈ ks, ToS e) (φ : Nat → Prop) (v : Value) (w : World) (h : BlockV w φ v ks) (hb : szSs ks ≤ 1048576) :
    Calls Try.prog 67 #[v] w fun x w' => ∃ a c S, x = .returned (.slice a ks.length c) ∧ BlockO w' (.slice a ks.length c) ks S ∧ (∀ b, S b → w.heap.size ≤ b ∧ b < w'.heap.size) ∧ Below w.heap.size w w' := by
  obtain ⟨a1, c1, rfl, -, hm1, -, hc1⟩ := h.open
  have hlen := szSs_len ks
  have HC := show Hid _ from hc1
  clear h hc1
  have hmk := make_run (P := Try.prog) (t := 29) Try.underlying29 infoS rfl (by omega) ks.length (by omega) hm1
  have hown := own_made w (Value.agg #[.int .i64 0, .int .i64 0, .int .i64 0, .int .i64 0, .slice none 0 0, .int .i64 0, .int .i64 0, .slice none 0 0, .int .i64 0, .slice none 0 0, .slice none 0 0]).cells.toList ks.length 11 135 rfl hm1
  have HB := show Hid _ from hb
  have HLN := show Hid _ from hlen
  clear hb hlen
  go_enter Try.func67, Try.ntmps67
  go_wp2_with fail
  clear hmk
  go_loopw [4] (fun i wr => ∃ (k : Nat) (ys : List Value), k ≤ ks.length ∧ i = .int .i64 k ∧ Own wr w.heap.size (w.heap.size + 1) 135 11 (.slice (some ⟨w.heap.size, 0, none⟩) ks.length ks.length) ks.length ys ∧ StmtsO wr (ks.take k) (fun b => w.heap.size < b ∧ b < wr.heap.size) (ys.take (k * 11)) ∧ Below w.heap.size w wr) (fun i _ => ks.length - (intOf i).toNat)
  case atStart => exact ⟨0, _, Nat.zero_le _, rfl, hown, by simp [StmtsO], (Below.refl _ _).alloc (Nat.le_refl _) _⟩
  case round =>
    obtain ⟨k, ys, hk, rfl, ho, ht, hbw⟩ := hrel
    have HT := show Hid _ from ht
    clear ht hown
    by_cases hlt : k < ks.length
    · obtain ⟨b1, o1, iv, vv, bv, ev, rfl, hb1, hf, ⟨x0, x1, x2, x3, x4, x5, x6, x7, x8, x9, x10⟩, k1, k2, k3, k4⟩ := HC.out k hlt
      rw [← (bcell hbw).1 _ _ hb1] at x0 x1 x2 x3 x4 x5 x6 x7 x8 x9 x10
      have HY := show Hid (ys.length = ks.length * 11) from ho.1.1
      have HE := show Hid (StmtV wr φ (.agg #[.int .i64 ks[k].kind, .int .i64 ks[k].target, .int .i64 ks[k].index.kind, .int .i64 ks[k].index.value, iv, .int .i64 ks[k].value.kind, .int .i64 ks[k].value.value, vv, .int .i64 ks[k].count, bv, ev]) ks[k]) from StmtV.nice _ _ _ _ _ _ (Agr.below hbw) ⟨iv, vv, bv, ev, rfl, k1, k2, k3, k4⟩
      clear k1 k2 k3 k4
      go_wp2_with fail
      refine (ih _ (List.getElem_mem hlt) φ _ _ HE.out (by have h1 := szS_mem (List.getElem_mem hlt); have h2 := HB.out; omega)).mono ?_
      rintro e w1 ⟨ai, ci, av, cv, ab, cb, ae, ce, S1, rfl, hO, hS, hbc⟩
      have ho1 := ho.keep hbc (by have := ho.lt _ rfl; omega)
      have hin : ∀ j, j < 11 → k * 11 + j < ys.length := fun j hj => by rw [HY.out]; omega
      obtain ⟨g, cap, hv, hg1, hg2, hg3, f0, u0, y0⟩ := ho1.at (hin 0 (by omega))
      cases hv
      obtain ⟨g, cap, hv, -, -, -, f1, u1, y1⟩ := ho1.at (hin 1 (by omega))
      cases hv
      obtain ⟨g, cap, hv, -, -, -, f2, u2, y2⟩ := ho1.at (hin 2 (by omega))
      cases hv
      obtain ⟨g, cap, hv, -, -, -, f3, u3, y3⟩ := ho1.at (hin 3 (by omega))
      cases hv
      obtain ⟨g, cap, hv, -, -, -, f4, u4, y4⟩ := ho1.at (hin 4 (by omega))
      cases hv
      obtain ⟨g, cap, hv, -, -, -, f5, u5, y5⟩ := ho1.at (hin 5 (by omega))
      cases hv
      obtain ⟨g, cap, hv, -, -, -, f6, u6, y6⟩ := ho1.at (hin 6 (by omega))
      cases hv
      obtain ⟨g, cap, hv, -, -, -, f7, u7, y7⟩ := ho1.at (hin 7 (by omega))
      cases hv
      obtain ⟨g, cap, hv, -, -, -, f8, u8, y8⟩ := ho1.at (hin 8 (by omega))
      cases hv
      obtain ⟨g, cap, hv, -, -, -, f9, u9, y9⟩ := ho1.at (hin 9 (by omega))
      cases hv
      obtain ⟨g, cap, hv, -, -, -, f10, u10, y10⟩ := ho1.at (hin 10 (by omega))
      cases hv
      simp only [Nat.add_zero] at f0 y0
      have hg4 : w.heap.size < w1.heap.size := hg3
      have HO := show Hid _ from hO
      have HS := show Hid _ from hS
      have hsz0 := hbw.size
      have hszr := hbc.size
      have hgr : w.heap.size < wr.heap.size := (ho.lt _ rfl).2.2
      clear hin hO hS
      go_wp2_with fail
      have hb3 := below_setFrom (p := k * 11) [.int .i64 ks[k].kind, .int .i64 ks[k].target, .int .i64 ks[k].index.kind, .int .i64 ks[k].index.value, .slice ai ks[k].index.kids.length ci, .int .i64 ks[k].value.kind, .int .i64 ks[k].value.value, .slice av ks[k].value.kids.length cv, .int .i64 ks[k].count, .slice ab ks[k].body.length cb, .slice ae ks[k].els.length ce] (hbw.trans (hbc.mono hbw.size)) (Nat.le_refl w.heap.size)
      have hsz := (Out.setFrom (p := k * 11) [.int .i64 ks[k].kind, .int .i64 ks[k].target, .int .i64 ks[k].index.kind, .int .i64 ks[k].index.value, .slice ai ks[k].index.kids.length ci, .int .i64 ks[k].value.kind, .int .i64 ks[k].value.value, .slice av ks[k].value.kids.length cv, .int .i64 ks[k].count, .slice ab ks[k].body.length cb, .slice ae ks[k].els.length ce] (Out.refl w.heap.size (w.heap.size + 1) w1) (Nat.le_refl _) (Nat.lt_succ_self _)).size
      refine ⟨⟨k + 1, _, by omega, by go_num, ho1.setFrom [.int .i64 ks[k].kind, .int .i64 ks[k].target, .int .i64 ks[k].index.kind, .int .i64 ks[k].index.value, .slice ai ks[k].index.kids.length ci, .int .i64 ks[k].value.kind, .int .i64 ks[k].value.value, .slice av ks[k].value.kids.length cv, .int .i64 ks[k].count, .slice ab ks[k].body.length cb, .slice ae ks[k].els.length ce] (by simp; rw [HY.out]; omega), ?_, hb3⟩, by simp [intOf]; omega⟩
      rw [Nat.succ_mul, take_succ_get _ _ hlt]
      rw [show (setFrom ys (k * 11) [.int .i64 ks[k].kind, .int .i64 ks[k].target, .int .i64 ks[k].index.kind, .int .i64 ks[k].index.value, .slice ai ks[k].index.kids.length ci, .int .i64 ks[k].value.kind, .int .i64 ks[k].value.value, .slice av ks[k].value.kids.length cv, .int .i64 ks[k].count, .slice ab ks[k].body.length cb, .slice ae ks[k].els.length ce]).take (k * 11 + 11) = ys.take (k * 11) ++ [.int .i64 ks[k].kind, .int .i64 ks[k].target, .int .i64 ks[k].index.kind, .int .i64 ks[k].index.value, .slice ai ks[k].index.kids.length ci, .int .i64 ks[k].value.kind, .int .i64 ks[k].value.value, .slice av ks[k].value.kids.length cv, .int .i64 ks[k].count, .slice ab ks[k].body.length cb, .slice ae ks[k].els.length ce] from setFrom_take [_, _, _, _, _, _, _, _, _, _, _] _ _ (by simp; rw [HY.out]; omega)]
      refine StmtsO.snoc (S := fun b => w.heap.size < b ∧ b < wr.heap.size) (T := S1) (StmtsO.same _ _ _ HT.out fun b hbb hlt' => ?_) (StmtO.same _ _ _ HO.out fun b hbb hlt' => ?_) (fun b hbb => ⟨⟨hbb.1, ?_⟩, fun h1 => ?_⟩) fun b hbb => ⟨?_, ?_⟩
      · obtain ⟨p1, p2⟩ : w.heap.size < b ∧ b < wr.heap.size := hbb
        exact (setFrom_same (p := k * 11) (us := [.int .i64 ks[k].kind, .int .i64 ks[k].target, .int .i64 ks[k].index.kind, .int .i64 ks[k].index.value, .slice ai ks[k].index.kids.length ci, .int .i64 ks[k].value.kind, .int .i64 ks[k].value.value, .slice av ks[k].value.kids.length cv, .int .i64 ks[k].count, .slice ab ks[k].body.length cb, .slice ae ks[k].els.length ce]) (by omega) (by omega)).trans (hbc.block b p2)
      · obtain ⟨p1, p2⟩ : wr.heap.size ≤ b ∧ b < w1.heap.size := HS.out b hbb
        exact setFrom_same (p := k * 11) (us := [.int .i64 ks[k].kind, .int .i64 ks[k].target, .int .i64 ks[k].index.kind, .int .i64 ks[k].index.value, .slice ai ks[k].index.kids.length ci, .int .i64 ks[k].value.kind, .int .i64 ks[k].value.value, .slice av ks[k].value.kids.length cv, .int .i64 ks[k].count, .slice ab ks[k].body.length cb, .slice ae ks[k].els.length ce]) hlt' (by omega)
      · exact Nat.lt_of_lt_of_le (Nat.lt_of_lt_of_le hbb.2 hszr) hsz
      · have h2 : wr.heap.size ≤ b ∧ b < w1.heap.size := HS.out b h1
        have h3 : b < wr.heap.size := hbb.2
        omega
      · have h2 : wr.heap.size ≤ b ∧ b < w1.heap.size := HS.out b hbb
        show w.heap.size < b
        omega
      · exact Nat.lt_of_lt_of_le (HS.out b hbb).2 hsz
    · have hkn : k = ks.length := by omega
      subst hkn
      go_wp2_with fail
      go_ret
      have hl : ys.take (ks.length * 11) = ys := List.take_of_length_le (by rw [ho.1.1]; exact Nat.le_refl _)
      have ht := HT.out
      rw [hl, List.take_of_length_le (Nat.le_refl _)] at ht
      exact ⟨_, _, fun b => w.heap.size ≤ b ∧ b < wr.heap.size, rfl, ⟨ys, fun b => w.heap.size < b ∧ b < wr.heap.size, owns_base ho.1 (Nat.zero_le _), fun g hg => by cases hg; exact ⟨⟨Nat.le_refl _, (ho.lt _ rfl).2.2⟩, fun h => absurd h.1 (Nat.lt_irrefl _)⟩, fun b hb => ⟨by omega, hb.2⟩, ht⟩, fun b hb => hb, hbw⟩

set_option maxHeartbeats 4000000 in
theorem toStmt_all (s : LStmt) : ToS s := by
  refine LStmt.ind (P := ToS) (fun k t i v c b e ihb ihe => ?_) s
  intro φ u w h hb
  obtain ⟨iv, vv, bv, ev, rfl, g1, g2, g3, g4⟩ := h
  have hsz : szE i + szE v + szSs b + szSs e ≤ 1048576 := hb
  simp only [LStmt.index, LStmt.value, LStmt.body, LStmt.els, LStmt.kind, LStmt.target, LStmt.count, stCells] at g1 g2 g3 g4 ⊢
  obtain ⟨W, hW, M⟩ : ∃ W, W = (((w.alloc (.cells #[.int .i64 k, .int .i64 t, .int .i64 i.kind, .int .i64 i.value, iv, .int .i64 v.kind, .int .i64 v.value, vv, .int .i64 c, bv, ev] 139)).alloc (.cells #[.int .i64 0, .int .i64 0, .int .i64 0, .int .i64 0, .slice none 0 0, .int .i64 0, .int .i64 0, .slice none 0 0, .int .i64 0, .slice none 0 0, .slice none 0 0] 135)).alloc (.cells #[.int .i64 k, .int .i64 t, .int .i64 0, .int .i64 0, .slice none 0 0, .int .i64 0, .int .i64 0, .slice none 0 0, .int .i64 0, .slice none 0 0, .slice none 0 0] 135)) ∧ Mem (fun _ => True) (fun _ => True) w W [.box w.heap.size [.int .i64 k, .int .i64 t, .int .i64 i.kind, .int .i64 i.value, iv, .int .i64 v.kind, .int .i64 v.value, vv, .int .i64 c, bv, ev], .box (w.heap.size + 1) [.int .i64 0, .int .i64 0, .int .i64 0, .int .i64 0, .slice none 0 0, .int .i64 0, .int .i64 0, .slice none 0 0, .int .i64 0, .slice none 0 0, .slice none 0 0], .box (w.heap.size + 1 + 1) [.int .i64 k, .int .i64 t, .int .i64 0, .int .i64 0, .slice none 0 0, .int .i64 0, .int .i64 0, .slice none 0 0, .int .i64 0, .slice none 0 0, .slice none 0 0]] :=
    ⟨_, rfl, (((Mem.start fun _ _ => trivial).box _ _).box' _ _ (by simp)).box' _ _ (by simp)⟩
  have HG := show Hid (∀ W', Below w.heap.size w W' → ExprV W' φ (.agg #[.int .i64 i.kind, .int .i64 i.value, iv]) i ∧ ExprV W' φ (.agg #[.int .i64 v.kind, .int .i64 v.value, vv]) v ∧ BlockV W' φ bv b ∧ BlockV W' φ ev e) from fun W' k =>
    ⟨⟨iv, rfl, KidsV.nice _ _ _ _ _ _ (Agr.below k) g1⟩, ⟨vv, rfl, KidsV.nice _ _ _ _ _ _ (Agr.below k) g2⟩, BlockV.nice _ _ _ _ _ _ (Agr.below k) g3, BlockV.nice _ _ _ _ _ _ (Agr.below k) g4⟩
  clear g1 g2 g3 g4
  have c2 := M.c 0 2 rfl rfl
  have c3 := M.c 0 3 rfl rfl
  have c4 := M.c 0 4 rfl rfl
  rw [hW] at c2 c3 c4
  have HZ := show Hid _ from hsz
  have HM := show Hid _ from M
  clear M hsz hb
  go_enter Try.func130, Try.ntmps130
  go_wp2_with fail
  rw [← hW]
  have M := HM.out
  clear hW HM c2 c3 c4
  refine (toExpr_all i φ _ _ (HG.out _ (M.below fun _ _ => trivial)).1 (by have := HZ.out; omega)).mono ?_
  rintro x w1 ⟨ai, ci, S1, rfl, hO, hS, b1⟩
  replace M := M.callO b1 (S := S1) (R := fun w => KidsO w (.slice ai i.kids.length ci) i.kids S1) (fun w w' h hs => KidsO.same h hs) hO (fun b hb => hS b hb)
  clear hO hS b1
  have q2_2 := M.c 2 2 rfl rfl
  have q2_3 := M.c 2 3 rfl rfl
  have q2_4 := M.c 2 4 rfl rfl
  have q0_5 := M.c 0 5 rfl rfl
  have q0_6 := M.c 0 6 rfl rfl
  have q0_7 := M.c 0 7 rfl rfl
  have fo := M.f 2 rfl
  have M2 := (((M.set 2 rfl 2 (.int .i64 i.kind)).set 2 rfl 3 (.int .i64 i.value)).set 2 rfl 4 (.slice ai i.kids.length ci))
  have HM2 := show Hid _ from M2
  clear M M2
  go_wp2_with fail
  have M := HM2.out
  clear HM2 fo q2_2 q2_3 q2_4 q0_5 q0_6 q0_7
  refine (toExpr_all v φ _ _ (HG.out _ (M.below fun _ _ => trivial)).2.1 (by have := HZ.out; omega)).mono ?_
  rintro x w1 ⟨av, cv, S2, rfl, hO, hS, b1⟩
  replace M := M.callO b1 (S := S2) (R := fun w => KidsO w (.slice av v.kids.length cv) v.kids S2) (fun w w' h hs => KidsO.same h hs) hO (fun b hb => hS b hb)
  clear hO hS b1
  have q2_5 := M.c 2 5 rfl rfl
  have q2_6 := M.c 2 6 rfl rfl
  have q2_7 := M.c 2 7 rfl rfl
  have q0_8 := M.c 0 8 rfl rfl
  have q2_8 := M.c 2 8 rfl rfl
  have q0_9 := M.c 0 9 rfl rfl
  have fo := M.f 2 rfl
  have M2 := ((((M.set 2 rfl 5 (.int .i64 v.kind)).set 2 rfl 6 (.int .i64 v.value)).set 2 rfl 7 (.slice av v.kids.length cv)).set 2 rfl 8 (.int .i64 c))
  have HM2 := show Hid _ from M2
  clear M M2
  go_wp2_with fail
  have M := HM2.out
  clear HM2 fo q2_5 q2_6 q2_7 q0_8 q2_8 q0_9
  refine (toStmtS_of b ihb φ _ _ (HG.out _ (M.below fun _ _ => trivial)).2.2.1 (by have := HZ.out; omega)).mono ?_
  rintro x w1 ⟨ab, cb, S3, rfl, hO, hS, b1⟩
  replace M := M.callO b1 (S := S3) (R := fun w => BlockO w (.slice ab b.length cb) b S3) (fun w w' h hs => BlockO.same h hs) hO (fun b hb => hS b hb)
  clear hO hS b1
  have q2_9 := M.c 2 9 rfl rfl
  have q0_10 := M.c 0 10 rfl rfl
  have fo := M.f 2 rfl
  have M2 := (M.set 2 rfl 9 (.slice ab b.length cb))
  have HM2 := show Hid _ from M2
  clear M M2
  go_wp2_with fail
  have M := HM2.out
  clear HM2 fo q2_9 q0_10
  refine (toStmtS_of e ihe φ _ _ (HG.out _ (M.below fun _ _ => trivial)).2.2.2 (by have := HZ.out; omega)).mono ?_
  rintro x w1 ⟨ae, ce, S4, rfl, hO, hS, b1⟩
  replace M := M.callO b1 (S := S4) (R := fun w => BlockO w (.slice ae e.length ce) e S4) (fun w w' h hs => BlockO.same h hs) hO (fun b hb => hS b hb)
  clear hO hS b1
  replace M := M.as [.box w.heap.size [.int .i64 k, .int .i64 t, .int .i64 i.kind, .int .i64 i.value, iv, .int .i64 v.kind, .int .i64 v.value, vv, .int .i64 c, bv, ev], .box (w.heap.size + 1) [.int .i64 0, .int .i64 0, .int .i64 0, .int .i64 0, .slice none 0 0, .int .i64 0, .int .i64 0, .slice none 0 0, .int .i64 0, .slice none 0 0, .slice none 0 0], .box (w.heap.size + 1 + 1) [.int .i64 k, .int .i64 t, .int .i64 i.kind, .int .i64 i.value, .slice ai i.kids.length ci, .int .i64 v.kind, .int .i64 v.value, .slice av v.kids.length cv, .int .i64 c, .slice ab b.length cb, .slice none 0 0], .own S1 (fun w => KidsO w (.slice ai i.kids.length ci) i.kids S1), .own S2 (fun w => KidsO w (.slice av v.kids.length cv) v.kids S2), .own S3 (fun w => BlockO w (.slice ab b.length cb) b S3), .own S4 (fun w => BlockO w (.slice ae e.length ce) e S4)] rfl
  have o0 : World.cell? _ ⟨w.heap.size + 1 + 1, 0, none⟩ = some (.int .i64 k) := M.c 2 0 rfl rfl
  have o1 : World.cell? _ ⟨w.heap.size + 1 + 1, 1, none⟩ = some (.int .i64 t) := M.c 2 1 rfl rfl
  have o2 : World.cell? _ ⟨w.heap.size + 1 + 1, 2, none⟩ = some (.int .i64 i.kind) := M.c 2 2 rfl rfl
  have o3 : World.cell? _ ⟨w.heap.size + 1 + 1, 3, none⟩ = some (.int .i64 i.value) := M.c 2 3 rfl rfl
  have o4 : World.cell? _ ⟨w.heap.size + 1 + 1, 4, none⟩ = some (.slice ai i.kids.length ci) := M.c 2 4 rfl rfl
  have o5 : World.cell? _ ⟨w.heap.size + 1 + 1, 5, none⟩ = some (.int .i64 v.kind) := M.c 2 5 rfl rfl
  have o6 : World.cell? _ ⟨w.heap.size + 1 + 1, 6, none⟩ = some (.int .i64 v.value) := M.c 2 6 rfl rfl
  have o7 : World.cell? _ ⟨w.heap.size + 1 + 1, 7, none⟩ = some (.slice av v.kids.length cv) := M.c 2 7 rfl rfl
  have o8 : World.cell? _ ⟨w.heap.size + 1 + 1, 8, none⟩ = some (.int .i64 c) := M.c 2 8 rfl rfl
  have o9 : World.cell? _ ⟨w.heap.size + 1 + 1, 9, none⟩ = some (.slice ab b.length cb) := M.c 2 9 rfl rfl
  have o10 : World.cell? _ ⟨w.heap.size + 1 + 1, 10, none⟩ = some (.slice none 0 0) := M.c 2 10 rfl rfl
  have z0 : World.cell? _ ⟨w.heap.size + 1, 0, none⟩ = some (.int .i64 0) := M.c 1 0 rfl rfl
  have z1 : World.cell? _ ⟨w.heap.size + 1, 1, none⟩ = some (.int .i64 0) := M.c 1 1 rfl rfl
  have z2 : World.cell? _ ⟨w.heap.size + 1, 2, none⟩ = some (.int .i64 0) := M.c 1 2 rfl rfl
  have z3 : World.cell? _ ⟨w.heap.size + 1, 3, none⟩ = some (.int .i64 0) := M.c 1 3 rfl rfl
  have z4 : World.cell? _ ⟨w.heap.size + 1, 4, none⟩ = some (.slice none 0 0) := M.c 1 4 rfl rfl
  have z5 : World.cell? _ ⟨w.heap.size + 1, 5, none⟩ = some (.int .i64 0) := M.c 1 5 rfl rfl
  have z6 : World.cell? _ ⟨w.heap.size + 1, 6, none⟩ = some (.int .i64 0) := M.c 1 6 rfl rfl
  have z7 : World.cell? _ ⟨w.heap.size + 1, 7, none⟩ = some (.slice none 0 0) := M.c 1 7 rfl rfl
  have z8 : World.cell? _ ⟨w.heap.size + 1, 8, none⟩ = some (.int .i64 0) := M.c 1 8 rfl rfl
  have z9 : World.cell? _ ⟨w.heap.size + 1, 9, none⟩ = some (.slice none 0 0) := M.c 1 9 rfl rfl
  have z10 : World.cell? _ ⟨w.heap.size + 1, 10, none⟩ = some (.slice none 0 0) := M.c 1 10 rfl rfl
  have fo := M.f 2 rfl
  have fz := M.f 1 rfl
  have M2 := ((M.set 2 rfl 10 (.slice ae e.length ce)).fill 1 rfl [.int .i64 k, .int .i64 t, .int .i64 i.kind, .int .i64 i.value, .slice ai i.kids.length ci, .int .i64 v.kind, .int .i64 v.value, .slice av v.kids.length cv, .int .i64 c, .slice ab b.length cb, .slice ae e.length ce] rfl).as [.box w.heap.size [.int .i64 k, .int .i64 t, .int .i64 i.kind, .int .i64 i.value, iv, .int .i64 v.kind, .int .i64 v.value, vv, .int .i64 c, bv, ev], .box (w.heap.size + 1) [.int .i64 k, .int .i64 t, .int .i64 i.kind, .int .i64 i.value, .slice ai i.kids.length ci, .int .i64 v.kind, .int .i64 v.value, .slice av v.kids.length cv, .int .i64 c, .slice ab b.length cb, .slice ae e.length ce], .box (w.heap.size + 1 + 1) [.int .i64 k, .int .i64 t, .int .i64 i.kind, .int .i64 i.value, .slice ai i.kids.length ci, .int .i64 v.kind, .int .i64 v.value, .slice av v.kids.length cv, .int .i64 c, .slice ab b.length cb, .slice ae e.length ce], .own S1 (fun w => KidsO w (.slice ai i.kids.length ci) i.kids S1), .own S2 (fun w => KidsO w (.slice av v.kids.length cv) v.kids S2), .own S3 (fun w => BlockO w (.slice ab b.length cb) b S3), .own S4 (fun w => BlockO w (.slice ae e.length ce) e S4)] rfl
  simp only [World.setFrom] at M2
  have HM2 := show Hid _ from M2
  clear M M2
  go_wp2_with fail
  have M2 := HM2.out
  have r0 : World.cell? _ ⟨w.heap.size + 1, 0, none⟩ = some (.int .i64 k) := M2.c 1 0 rfl rfl
  have r1 : World.cell? _ ⟨w.heap.size + 1, 1, none⟩ = some (.int .i64 t) := M2.c 1 1 rfl rfl
  have r2 : World.cell? _ ⟨w.heap.size + 1, 2, none⟩ = some (.int .i64 i.kind) := M2.c 1 2 rfl rfl
  have r3 : World.cell? _ ⟨w.heap.size + 1, 3, none⟩ = some (.int .i64 i.value) := M2.c 1 3 rfl rfl
  have r4 : World.cell? _ ⟨w.heap.size + 1, 4, none⟩ = some (.slice ai i.kids.length ci) := M2.c 1 4 rfl rfl
  have r5 : World.cell? _ ⟨w.heap.size + 1, 5, none⟩ = some (.int .i64 v.kind) := M2.c 1 5 rfl rfl
  have r6 : World.cell? _ ⟨w.heap.size + 1, 6, none⟩ = some (.int .i64 v.value) := M2.c 1 6 rfl rfl
  have r7 : World.cell? _ ⟨w.heap.size + 1, 7, none⟩ = some (.slice av v.kids.length cv) := M2.c 1 7 rfl rfl
  have r8 : World.cell? _ ⟨w.heap.size + 1, 8, none⟩ = some (.int .i64 c) := M2.c 1 8 rfl rfl
  have r9 : World.cell? _ ⟨w.heap.size + 1, 9, none⟩ = some (.slice ab b.length cb) := M2.c 1 9 rfl rfl
  have r10 : World.cell? _ ⟨w.heap.size + 1, 10, none⟩ = some (.slice ae e.length ce) := M2.c 1 10 rfl rfl
  have e1 := fun b (h1 : S1 b) => M2.dis 3 4 _ _ b rfl rfl (by omega) h1
  have e2 := fun b (h1 : S1 b) => M2.dis 3 5 _ _ b rfl rfl (by omega) h1
  have e3 := fun b (h1 : S1 b) => M2.dis 3 6 _ _ b rfl rfl (by omega) h1
  have e4 := fun b (h1 : S2 b) => M2.dis 4 5 _ _ b rfl rfl (by omega) h1
  have e5 := fun b (h1 : S2 b) => M2.dis 4 6 _ _ b rfl rfl (by omega) h1
  have e6 := fun b (h1 : S3 b) => M2.dis 5 6 _ _ b rfl rfl (by omega) h1
  refine bodyPost_ret (v := .agg #[.int .i64 k, .int .i64 t, .int .i64 i.kind, .int .i64 i.value, .slice ai i.kids.length ci, .int .i64 v.kind, .int .i64 v.value, .slice av v.kids.length cv, .int .i64 c, .slice ab b.length cb, .slice ae e.length ce]) (by simp [results, Try.results130, go_sem, r0, r1, r2, r3, r4, r5, r6, r7, r8, r9, r10]) rfl ⟨ai, ci, av, cv, ab, cb, ae, ce, fun b => S1 b ∨ S2 b ∨ S3 b ∨ S4 b, rfl, (StmtO.iff ⟨k, t, i, v, c, b, e⟩ _ _).2 ⟨_, _, _, _, S1, S2, S3, S4, rfl, ⟨fun b hb => ⟨.inl hb, e1 b hb, e2 b hb, e3 b hb⟩, fun b hb => ⟨.inr (.inl hb), e4 b hb, e5 b hb⟩, fun b hb => ⟨.inr (.inr (.inl hb)), e6 b hb⟩, fun b hb => .inr (.inr (.inr hb))⟩, M2.o 3 rfl, M2.o 4 rfl, M2.o 5 rfl, M2.o 6 rfl⟩, fun b hb => ?_, M2.below fun _ _ => trivial⟩
  have fin : ∀ (j : Nat) (S : Nat → Prop) (R : World → Prop) (L : List Res) (W : World), Mem (fun _ => True) (fun _ => True) w W L → L[j]? = some (.own S R) → S b → w.heap.size ≤ b ∧ b < W.heap.size := fun j S R L W M hj hs =>
    ⟨(M.ge _ b (List.mem_of_getElem? hj) hs).elim (fun h => h) fun h => absurd trivial h, M.lt (List.mem_of_getElem? hj) hs⟩
  rcases hb with hb | hb | hb | hb
  · exact fin 3 _ _ _ _ M2 rfl hb
  · exact fin 4 _ _ _ _ M2 rfl hb
  · exact fin 5 _ _ _ _ M2 rfl hb
  · exact fin 6 _ _ _ _ M2 rfl hb

set_option maxHeartbeats 2000000 in
theorem toProgram_any (φ : Nat → Prop) (u : Value) (p : LProg) (w : World) (h : ProgV w φ u p) (hb : p.size ≤ 1048576) :
    Calls Try.prog 17 #[u] w fun x w' => ∃ a1 k1 a2 k2 a3 k3 S, x = .returned (.agg #[.slice a1 p.vars.length k1, .slice a2 p.arrays.length k2, .slice a3 p.body.length k3]) ∧ ProgO w' (.agg #[.slice a1 p.vars.length k1, .slice a2 p.arrays.length k2, .slice a3 p.body.length k3]) p S ∧ (∀ b, S b → w.heap.size ≤ b ∧ b < w'.heap.size) ∧ Below w.heap.size w w' := by
  obtain ⟨v1, v2, v3, rfl, h1, h2, h3⟩ := h
  have hsz : p.vars.length + p.arrays.length + szSs p.body ≤ 1048576 := hb
  obtain ⟨W, hW, M⟩ : ∃ W, W = (((w.alloc (.cells #[v1, v2, v3] 25)).alloc (.cells #[.slice none 0 0, .slice none 0 0, .slice none 0 0] 31)).alloc (.cells #[.slice none 0 0, .slice none 0 0, .slice none 0 0] 31)) ∧ Mem (fun _ => True) (fun _ => True) w W [.box w.heap.size [v1, v2, v3], .box (w.heap.size + 1) [.slice none 0 0, .slice none 0 0, .slice none 0 0], .box (w.heap.size + 1 + 1) [.slice none 0 0, .slice none 0 0, .slice none 0 0]] :=
    ⟨_, rfl, (((Mem.start fun _ _ => trivial).box _ _).box' _ _ (by simp)).box' _ _ (by simp)⟩
  have HG := show Hid (∀ W', Below w.heap.size w W' → Row W' v1 p.vars.length 1 (ints p.vars) ∧ Row W' v2 p.arrays.length 1 (ints p.arrays) ∧ BlockV W' φ v3 p.body) from fun W' k =>
    ⟨h1.row.below k, h2.row.below k, BlockV.nice _ _ _ _ _ _ (Agr.below k) h3⟩
  clear h1 h2 h3 hb
  have c0 := M.c 0 0 rfl rfl
  rw [hW] at c0
  have HZ := show Hid _ from hsz
  have HM := show Hid _ from M
  clear M hsz
  go_enter Try.func17, Try.ntmps17
  go_wp2_with fail
  rw [← hW]
  have M := HM.out
  clear hW HM c0
  refine (toIntS_any v1 p.vars _ (HG.out _ (M.below fun _ _ => trivial)).1 (by have := HZ.out; omega)).mono ?_
  rintro x w1 ⟨u1, rfl, o1, b1⟩
  obtain ⟨a1, k1, rfl⟩ := o1.form
  replace M := M.callR b1 o1.1
  clear o1 b1
  have x1 := M.c 0 1 rfl rfl
  have y0 := M.c 2 0 rfl rfl
  have fo := M.f 2 rfl
  have M2 := (M.set 2 rfl 0 (.slice a1 p.vars.length k1))
  have HM := show Hid _ from M2
  clear M M2
  go_wp2_with fail
  have M := HM.out
  clear HM x1 y0 fo
  refine (toIntS_any v2 p.arrays _ (HG.out _ (M.below fun _ _ => trivial)).2.1 (by have := HZ.out; omega)).mono ?_
  rintro x w2 ⟨u2, rfl, o2, b2⟩
  obtain ⟨a2, k2, rfl⟩ := o2.form
  replace M := M.callR b2 o2.1
  clear o2 b2
  have x2 := M.c 0 2 rfl rfl
  have y1 := M.c 2 1 rfl rfl
  have fo := M.f 2 rfl
  have M2 := (M.set 2 rfl 1 (.slice a2 p.arrays.length k2))
  have HM := show Hid _ from M2
  clear M M2
  go_wp2_with fail
  have M := HM.out
  clear HM x2 y1 fo
  refine (toStmtS_of p.body (fun s _ => toStmt_all s) φ v3 _ (HG.out _ (M.below fun _ _ => trivial)).2.2 (by have := HZ.out; omega)).mono ?_
  rintro x w3 ⟨a3, k3, S3, rfl, hO, hS, b3⟩
  replace M := M.callO b3 (S := S3) (R := fun w => BlockO w (.slice a3 p.body.length k3) p.body S3) (fun w w' h hs => BlockO.same h hs) hO (fun b hb => hS b hb)
  clear hO hS b3
  have y0 : World.cell? _ ⟨w.heap.size + 1 + 1, 0, none⟩ = some (.slice a1 p.vars.length k1) := M.c 2 0 rfl rfl
  have y1 : World.cell? _ ⟨w.heap.size + 1 + 1, 1, none⟩ = some (.slice a2 p.arrays.length k2) := M.c 2 1 rfl rfl
  have y2 : World.cell? _ ⟨w.heap.size + 1 + 1, 2, none⟩ = some (.slice none 0 0) := M.c 2 2 rfl rfl
  have z0 := M.c 1 0 rfl rfl
  have z1 := M.c 1 1 rfl rfl
  have z2 := M.c 1 2 rfl rfl
  have fo := M.f 2 rfl
  have fz := M.f 1 rfl
  have M2 := (M.set 2 rfl 2 (.slice a3 p.body.length k3)).fill 1 rfl [.slice a1 p.vars.length k1, .slice a2 p.arrays.length k2, .slice a3 p.body.length k3] rfl
  simp only [World.setFrom] at M2
  have HM2 := show Hid _ from M2
  clear M M2
  go_wp2_with fail
  have M2 := HM2.out
  have r0 : World.cell? _ ⟨w.heap.size + 1, 0, none⟩ = some (.slice a1 p.vars.length k1) := M2.c 1 0 rfl rfl
  have r1 : World.cell? _ ⟨w.heap.size + 1, 1, none⟩ = some (.slice a2 p.arrays.length k2) := M2.c 1 1 rfl rfl
  have r2 : World.cell? _ ⟨w.heap.size + 1, 2, none⟩ = some (.slice a3 p.body.length k3) := M2.c 1 2 rfl rfl
  have fin : ∀ (b j : Nat) (r : Res) (L : List Res) (W : World), Mem (fun _ => True) (fun _ => True) w W L → L[j]? = some r → r.blk b → w.heap.size ≤ b ∧ b < W.heap.size := fun b j r L W M hj hs =>
    ⟨(M.ge _ b (List.mem_of_getElem? hj) hs).elim (fun h => h) fun h => absurd trivial h, M.lt (List.mem_of_getElem? hj) hs⟩
  have e1 := fun b => M2.dis 3 4 _ _ b rfl rfl (by omega)
  have e2 := fun b => M2.dis 3 5 _ _ b rfl rfl (by omega)
  have e3 := fun b => M2.dis 4 5 _ _ b rfl rfl (by omega)
  refine bodyPost_ret (v := .agg #[.slice a1 p.vars.length k1, .slice a2 p.arrays.length k2, .slice a3 p.body.length k3]) (by simp [results, Try.results17, go_sem, r0, r1, r2]) rfl ⟨a1, k1, a2, k2, a3, k3, fun b => (Value.slice a1 p.vars.length k1).ownBlock = some b ∨ (Value.slice a2 p.arrays.length k2).ownBlock = some b ∨ S3 b, rfl,
    ⟨_, _, _, S3, rfl, M2.r 3 rfl, M2.r 4 rfl, M2.o 5 rfl, fun g hg => ⟨.inl hg, e2 g hg, e1 g hg⟩, fun g hg => ⟨.inr (.inl hg), e3 g hg⟩, fun b hb => .inr (.inr hb)⟩, fun b hb => ?_, M2.below fun _ _ => trivial⟩
  rcases hb with hb | hb | hb
  · exact fin b 3 _ _ _ M2 rfl hb
  · exact fin b 4 _ _ _ M2 rfl hb
  · exact fin b 5 _ _ _ M2 rfl hb

end Go.Proofs.Ytgpkdfefgcpbiaa
