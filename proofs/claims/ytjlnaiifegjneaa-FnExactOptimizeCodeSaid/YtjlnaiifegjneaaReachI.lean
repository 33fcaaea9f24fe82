/-
  The program's search over code. Conditions: valid code.
-/
import Derived.Test.YtjlnaiifegjneaaReach
import Derived.Test.YtjlnaiifegjneaaLawBool
namespace Go.Proofs.Ytjlnaiifegjneaa
open Go Go.RowKit

/-- How many of the first n cells of a block hold false. -/
def falsesAt (w : World) (B n : Nat) : Nat := (List.range n).countP fun j => match w.cell? ⟨B, j, none⟩ with | some (.bool false) => true | _ => false

theorem falses_own {w : World} {lo hi : Nat} {e : TypeId} {B n cap : Nat} {bs : List Bool} (h : Own w lo hi e 1 (.slice (some ⟨B, 0, none⟩) n cap) n (bools bs)) (hn : 0 < n) : falsesAt w B n = bs.count false := by
  obtain ⟨g, cap', hv, -, -, -, -, -, -, hc⟩ := h.open hn
  cases hv
  have hl : bs.length = n := by have := h.1.1; simpa [bools] using this
  have e1 : bs = (List.range n).map fun j => bs.getD j true := by
    apply List.ext_getElem
    · simp [hl]
    · intro j h1 h2; simp [h1]
  unfold falsesAt
  rw [List.count, e1, List.countP_map]
  refine List.countP_congr fun j hj => ?_
  rw [List.mem_range] at hj
  have hjl : j < bs.length := by omega
  rw [hc j (.bool bs[j]) (by simp [bools, hjl])]
  simp [hjl]
  cases bs[j] <;> simp

set_option maxHeartbeats 2000000 in
theorem impl_reachable (v : Value) (c : LCode) (hc : codeOk c = true) (w : World) (h : CodeRow w v c) :
    Calls Try.prog 59 #[v] w fun e w' => ∃ u, e = .returned u ∧ Own w' w.heap.size w'.heap.size 4 1 u c.list.length (bools (reachB c)) ∧ Below w.heap.size w w' := by
  have hrow := h
  obtain ⟨v1, v2, v3, rfl, h1, h2, h3⟩ := h
  obtain ⟨a3, k3, rfl, -, hm3, -, -⟩ := h3.open
  obtain ⟨W, hW⟩ : ∃ W, W = (w.alloc (.cells #[v1, v2, .slice a3 c.list.length k3] 36)) := ⟨_, rfl⟩
  have B0 : Below w.heap.size w W := by rw [hW]; go_grown
  have sW : W.heap.size = w.heap.size + 1 := by rw [hW]; simp
  have L1 : Blk W w.heap.size [v1, v2, .slice a3 c.list.length k3] := by rw [hW]; exact (Blk.new w [v1, v2, .slice a3 c.list.length k3] _)
  obtain ⟨-, hn1, hn2, -, -⟩ := codeOk_parts hc
  have hmk := make_run (P := Try.prog) (t := 40) Try.underlying40 infoB rfl (by omega) c.list.length (by omega) hm3
  have hown := own_made W (Value.bool false).cells.toList c.list.length 1 4 rfl hm3
  rw [show (Value.bool false).cells.toList = [Value.bool false] from rfl, zeroRow_one, sW] at hown
  have hown0 : Own (W.alloc (.cells (List.replicate c.list.length (Value.bool false)).toArray 4)) (w.heap.size + 1) (w.heap.size + 1 + 1) 4 1 (.slice (some ⟨w.heap.size + 1, 0, none⟩) c.list.length c.list.length) c.list.length (bools (List.replicate c.list.length false)) := by
    rw [bools, List.map_replicate]; exact hown
  have x2 := L1.cell 2
  simp at x2
  rw [show (Value.bool false).cells.toList = [Value.bool false] from rfl, zeroRow_one] at hmk
  have eR : (List.replicate c.list.length (Value.bool false)).toArray = Array.replicate c.list.length (Value.bool false) := by simp
  rw [eR] at hmk hown0
  clear hown eR
  go_enter Try.func59, Try.ntmps59
  rw [hW] at x2
  go_wp2_with fail
  rw [← hW]
  clear x2 hmk hW
  have B1 : Below w.heap.size w (W.alloc (.cells (Array.replicate c.list.length (Value.bool false)) 4)) := B0.trans (Below.mono (by go_grown : Below W.heap.size W _) B0.size)
  have s1 : (W.alloc (.cells (Array.replicate c.list.length (Value.bool false)) 4)).heap.size = w.heap.size + 1 + 1 := by simp [sW]
  replace L1 := L1.alloc (.cells (Array.replicate c.list.length (Value.bool false)) 4)
  generalize W.alloc (.cells (Array.replicate c.list.length (Value.bool false)) 4) = W1 at *
  have hq := own_built W1 #[.int .i64 0] 1 1 3 s1.symm rfl (by omega)
  rw [s1] at hq
  have B2 := B1.trans (Below.mono (by go_grown : Below W1.heap.size W1 (W1.alloc (.cells #[.int .i64 0] 3))) B1.size)
  replace hown0 := hown0.keep (by go_grown : Below W1.heap.size W1 (W1.alloc (.cells #[.int .i64 0] 3))) (by omega)
  replace L1 := L1.alloc (.cells #[.int .i64 0] 3)
  generalize W1.alloc (.cells #[.int .i64 0] 3) = W2 at *
  clear B0 B1 s1 sW
  go_loopw [4] (fun q wr => ∃ (ls : List Int) (bs : List Bool) (a : Option Addr) (k : Nat), q = .slice a ls.length k ∧ wr.ownsRow (w.heap.size + 1 + 1) 3 1 q ls.length (ints ls) ∧
    Own wr (w.heap.size + 1) (w.heap.size + 1 + 1) 4 1 (.slice (some ⟨w.heap.size + 1, 0, none⟩) c.list.length c.list.length) c.list.length (bools bs) ∧ IInv c ls bs ∧
    Blk wr w.heap.size [v1, v2, .slice a3 c.list.length k3] ∧ Below w.heap.size w wr)
    (fun q wr => (match q with | .slice _ n _ => n | _ => 0) + 3 * falsesAt wr (w.heap.size + 1) c.list.length)
  case atStart => exact ⟨[0], _, _, _, rfl, hq.1, hown0, IInv.start hc, L1, B2⟩
  case round =>
    obtain ⟨ls, bs, a, k, rfl, hq, ho, hi, hL, hb⟩ := hrel
    have HI := show Hid _ from hi
    have hf := falses_own ho (by omega)
    have HF := show Hid _ from hf
    clear hi hf hown0 B2 L1
    by_cases hlt : 0 < ls.length
    · obtain ⟨ls', i, hls⟩ : ∃ ls' i, ls = ls' ++ [i] := ⟨ls.dropLast, ls.getLast (by intro h; rw [h] at hlt; simp at hlt), (List.dropLast_concat_getLast _).symm⟩
      have hlen : ls.length = ls'.length + 1 := by rw [hls]; simp
      have hI := HI.out
      rw [hls] at hI
      have hir := hI.l i (by simp)
      obtain ⟨m, rfl⟩ : ∃ m : Nat, i = m := ⟨i.toNat, by omega⟩
      have hmn : m < c.list.length := by omega
      have hmb : m < bs.length := by rw [hI.len]; exact hmn
      obtain ⟨g, cap, hv, hg1, hg2, hg3, hf, u0, hcb⟩ := ho.at (j := m) (by simpa [bools] using hmb)
      cases hv
      have p1 : wr.cell? ⟨w.heap.size + 1, m, none⟩ = some (.bool bs[m]) := by
        obtain ⟨g, cap', hv, -, -, -, -, -, -, hcc⟩ := ho.open (by omega)
        cases hv
        exact hcc m _ (by simp [bools, hmb])
      obtain ⟨gq, hgq, p0⟩ : ∃ gq, a = some ⟨gq, 0, none⟩ ∧ wr.cell? ⟨gq, ls'.length, none⟩ = some (.int .i64 m) := by
        have hoq : Own wr (w.heap.size + 1 + 1) wr.heap.size 3 1 (.slice a ls.length k) ls.length (ints ls) := Own.mk' hq
        obtain ⟨g, cap', hv, -, -, -, -, -, -, hcc⟩ := hoq.open hlt
        cases hv
        exact ⟨g, rfl, hcc ls'.length _ (by rw [hls]; simp [ints])⟩
      subst hgq
      have hkc : ls.length ≤ k := by
        rcases hq.2 with ⟨hv, _⟩ | ⟨g, cap', cur, hv, _, _, hnc, _⟩
        · cases hv
        · cases hv; exact hnc
      have hcut : wr.ownsRow (w.heap.size + 1 + 1) 3 1 (.slice (some ⟨gq, 0, none⟩) ls'.length k) ls'.length (ints ls') := by
        have hq' := hq
        rw [show ints ls = ints ls' ++ [.int .i64 m] by rw [hls]; simp [ints]] at hq'
        exact owns_cut hq' (by omega) hlt (by simp [ints])
      rw [hlen] at hq hkc ⊢
      have HLS := show Hid _ from hls
      have HLEN := show Hid _ from hlen
      clear hls hlen hlt u0 hcb
      have hbq : bs[(m : Int).toNat]? = some bs[m] := by rw [Int.toNat_natCast, List.getElem?_eq_getElem hmb]
      have hll : ls'.length ≤ 1000 := by have := hI.cnt; simp at this; omega
      have HI2 := show Hid _ from hI
      have HIR := show Hid (Rc c m) from hir.2.2
      clear hI hir
      have hL2 := hL.other (p := ⟨w.heap.size + 1, m, none⟩) (by show w.heap.size ≠ w.heap.size + 1; omega) (.bool true)
      have y0 := hL2.cell 0
      have y1 := hL2.cell 1
      have y2 := hL2.cell 2
      simp only [List.getElem?_cons_zero, List.getElem?_cons_succ] at y0 y1 y2
      cases hbm : bs[m]
      all_goals
        rw [hbm] at p1
        rw [hbm] at hbq
        have HB := show Hid _ from hbq
        clear hbm hbq
        go_wp2_with fail
      · have hbx : Below w.heap.size w (wr.setCell ⟨w.heap.size + 1, m, none⟩ (.bool true)) := hb.setCell (p := ⟨w.heap.size + 1, m, none⟩) (by show w.heap.size ≤ w.heap.size + 1; omega) _
        have hox := ho.setCell (j := m) (by simpa [bools] using hmb) (.bool true)
        have hqx := ((Own.mk' hcut).other (b := w.heap.size + 1) (by omega) m (.bool true)).1
        rw [show (bools bs).set m (.bool true) = bools (bs.set m true) by simp [bools]] at hox
        have hsx : (wr.setCell ⟨w.heap.size + 1, m, none⟩ (.bool true)).heap.size = wr.heap.size := by simp
        clear y0 y1 y2 hL hf p1 p0 hg1 hg2
        generalize wr.setCell ⟨w.heap.size + 1, m, none⟩ (.bool true) = W3 at *
        refine (impl_follows _ c hc m _ (hrow.below hbx) (by omega) (by omega)).mono ?_
        rintro e w2 ⟨u, ns, rfl, hnl, hnm, hru, b2⟩
        obtain ⟨a2, q2, rfl⟩ := hru.form
        have s2 := b2.size
        have hq3 := owns_below hqx b2 (Nat.le_refl _)
        have hox3 := hox.keep b2 (by omega)
        have hL3 := hL2.below b2 hL2.lt
        have hb3 := hbx.trans (b2.mono hbx.size)
        clear hqx hox hL2
        go_wp2_with (at_builtin; refine wpList_app rfl _ _ rfl Try.underlying28 infoI rfl (by omega) rfl hq3 rfl hru ints_one (by omega) (by omega) (by omega) ?_; rintro a4 q4 w4 o4 b4 - -)
        have hox4 := hox3.keep b4 (by omega)
        have hm4 := HI2.out.mark hc HB.out hnl hnm
        rw [Int.toNat_natCast] at hm4
        have hcs := count_set (bs := bs) (k := m) (by have := HB.out; rwa [Int.toNat_natCast] at this)
        have hf4 := falses_own hox4 (by omega)
        refine ⟨⟨ls' ++ ns, bs.set m true, a4, q4, by simp, by simpa [ints] using o4, hox4, hm4, hL3.below b4 (by omega), hb3.trans (b4.mono (by omega))⟩, ?_⟩
        rw [hf4, HF.out]
        simp
        omega
      · exact ⟨⟨ls', bs, _, _, rfl, hcut, ho, HI2.out.skip HB.out, hL, hb⟩, by simp⟩
    · have hl0 : ls = [] := List.eq_nil_of_length_eq_zero (by omega)
      subst hl0
      go_wp2_with fail
      go_ret
      exact ⟨_, rfl, by rw [← HI.out.done hc]; exact ho.wide (by omega) (by have := ho.lt _ rfl; omega), hb⟩

end Go.Proofs.Ytjlnaiifegjneaa
