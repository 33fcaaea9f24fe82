/- Part 2: functions on the way, plain laws. Conditions: as said. -/
import Derived.Test.YtcahndjigkledaaDoorRows
import Derived.OpenShut
import Derived.ChangeOld
import Derived.Deep.Slices
import Derived.Lib.SmallJoins
import Derived.Lib.ItoaNum
import Derived.Laws.DeepStrings4
import Derived.Laws.IdiomStrings
import Derived.Deep.RegionHeld3
import Derived.BigQuiet
import Derived.Deep.QuietTactic
import Derived.Shelf.Strconv.Itoa3
import Derived.Lib.AppendIntMem
import Derived.Shelf.Strings.Builder1
import Derived.Lib.LaidTab
import Derived.LaidSub
import Derived.LaidMore
import Derived.Lay
import Derived.Test.YtcahndjigkledaaDoorK1
set_option maxRecDepth 100000
set_option maxHeartbeats 16000000
set_option linter.unusedVariables false
set_option linter.unusedSimpArgs false
open Bool renaming and_eq_true → bk0
open List renaming getD_eq_getElem?_getD → bk3, getElem?_append_left → bn6, getElem?_cons_zero → bn4, getElem?_eq_getElem → bk1, getElem?_eq_some_iff → bk5, getElem?_map → bm9, getElem_mem → bk8, length_append → bl6, length_cons → bk4, length_nil → bk7, mem_of_getElem? → bl8, range → bm3, replicate → bl4
open Nat renaming le_refl → bl5, le_trans → bk9, lt_or_ge → bn0, mul_le_mul_right → bn3, succ_mul → bm5
open Option renaming map_eq_some_iff → bk2, map_some → bn5

namespace Go.Proofs.YtcahndjigkledaaDoor
open Go Go.RowKit Go.ChangeShapes Go.WideShapes Go.Deep
theorem own : ownKnob Tryd.prog.godebug = none := by kernel_rfl
theorem aZ4 : laidOutB Tryd.prog = true := by kernel_rfl
section
variable {H : Type} {enc : TypeId × Value -> H} {W : World}
theorem aS9 {C : Nat -> List Value} {sz : Nat} (hC : ∀ i, (C i).length = sz) : ∀ (n i j : Nat), i < n -> j < sz -> ((bm3 n).flatMap C)[i * sz + j]? = (C i)[j]? := by
 intro n
 induction n with
 | zero => intro i j h; omega
 | succ n ih =>
  intro i j h hj
  have hlen : ((bm3 n).flatMap C).length = n * sz := by
   clear ih h
   induction n with
   | zero => simp
   | succ n ih2 => rw [List.range_succ, List.flatMap_append, bl6, ih2]; simp [hC, bm5]
  rw [List.range_succ, List.flatMap_append]
  by_cases hin : i < n
  ·rw [bn6 (by rw [hlen]; have := bn3 sz (Nat.succ_le_of_lt hin); rw [bm5] at this; omega)]
   exact ih i j hin hj
  obtain rfl : i = n := by omega
  rw [List.getElem?_append_right (by omega), hlen]
  simp
theorem aw0 {C : Nat -> List Value} {sz : Nat} (hC : ∀ i, (C i).length = sz) (n : Nat) : ((bm3 n).flatMap C).length = n * sz := by
 induction n with
 | zero => simp
 | succ n ih2 => rw [List.range_succ, List.flatMap_append, bl6, ih2]; simp [hC, bm5]
theorem au2 {t e : TypeId} {fuel : Nat} {v : Value} {x : DataW H × List MemPlace} {sz : Nat} (ht : Tryd.prog.underlying t = some (.slice e)) (hc : Tryd.prog.cellsOf e = sz) (hsz : 0 < sz)
  (h : DataW.trod enc Tryd.prog W 0 (fun _ => true) true fuel t [v] = some x) :
  ∃ (n m : Nat) (C : Nat -> List Value), L0 W v n sz ((bm3 n).flatMap C) /\ (∀ i, (C i).length = sz) /\ ∀ i, i < n -> ∃ y, DataW.trod enc Tryd.prog W 0 (fun _ => true) true m e (C i) = some y := by
 rcases open_slice ht h with ⟨hcs, _⟩ | ⟨a, len, cap, m, k, D, Pl, hcs, _, hl, hm, hmm, _, hx⟩
 ·cases hcs
  exact ⟨0, 0, fun _ => bl4 sz undef, L0.nil _ _, by simp, fun i hi => by omega⟩
 cases hcs
 rw [hc] at hx
 have hmc : len <= m := by rw [hmm]; simp; omega
 obtain ⟨C, hC⟩ := choose_lt (α := List Value) (n := len) (p := fun i cs => cs.length = sz /\ (∀ j, j < sz -> W.cell? (a.add (i * sz + j)) = cs[j]?) /\ ∃ y, DataW.trod enc Tryd.prog W 0 (fun _ => true) true k e cs = some y) (fun i hi => by
  obtain ⟨cs', h1, h2⟩ := hx i (by omega)
  obtain ⟨_, hlen, hcell⟩ := World.cells?_some h1
  exact ⟨cs', hlen, fun j hj => by rw [<- add_add]; exact hcell j hj, _, h2⟩)
 let C' : Nat -> List Value := fun i => if i < len then C i else bl4 sz undef
 have hC' : ∀ i, (C' i).length = sz := fun i => by
  by_cases hi : i < len
  ·simp only [C', if_pos hi]; exact (hC i hi).1
  simp [C', if_neg hi]
 refine ⟨len, k, C', ⟨aw0 hC' len, some a, cap, rfl, hl, hm, fun hn => ?_⟩, hC', fun i hi => ?_⟩
 ·obtain ⟨b, off, spot⟩ := a
  have h00 := (hC 0 hn).2.1 0 hsz
  have hlen0 := (hC 0 hn).1
  rw [bk1 (by omega)] at h00
  have hs : spot = none := by
   simpa [Addr.add] using World.cell?_spot h00
  subst hs
  have hb : b < W.heap.size := by simpa [Addr.add] using World.block_lt_of_cell? W _ h00
  refine ⟨b, off, rfl, hb, fun j u hj => ?_⟩
  have hjl : j < len * sz := by have := (bk5.1 hj).1; rw [aw0 hC'] at this; exact this
  have hi : j / sz < len := Nat.div_lt_of_lt_mul (by rw [Nat.mul_comm]; exact hjl)
  have hr : j % sz < sz := Nat.mod_lt _ hsz
  have hjj : j / sz * sz + j % sz = j := Nat.div_add_mod' j sz
  have hg := aS9 hC' len (j / sz) (j % sz) hi hr
  rw [hjj, hj] at hg
  have hcc := (hC _ hi).2.1 _ hr
  simp only [C', if_pos hi] at hg
  rw [hjj, <- hg] at hcc
  have hadd : (⟨b, off, none⟩ : Addr).add j = ⟨b, off + j, none⟩ := by unfold Addr.add; split <;> simp_all
  rw [hadd] at hcc
  exact hcc
 obtain ⟨y, hy⟩ := (hC i hi).2.2
 exact ⟨y, by simp only [C', if_pos hi]; exact hy⟩
theorem ah8 {α : Type} (n : Nat) (C : Nat -> List Value) (f : α -> Value) (g : Nat -> α) (h : ∀ i, i < n -> C i = [f (g i)]) : (bm3 n).flatMap C = ((bm3 n).map g).map f := by
 rw [List.map_map, List.flatMap_def]
 rw [List.map_congr_left (g := fun i => [f (g i)]) (fun i hi => h i (by simpa using hi))]
 induction n with
 | zero => simp
 | succ n ih =>
  rw [List.range_succ, List.map_append, List.flatten_append, List.map_append, ih (fun i hi => h i (by omega))]
  simp
end
end Go.Proofs.YtcahndjigkledaaDoor

namespace Go.Proofs.YtcahndjigkledaaDoor
open Go
def s9 (k : Int) : UInt8 := [43, 45, 42, 38, 94, 61, 60].getD (k - 4).toNat 0
def av0 (k n : Int) (ts : List (List UInt8)) : List UInt8 :=
 if k = 1 then Lib.decDigits n.toNat else if k = 2 then [UInt8.ofNat (97 + n.toNat)] else if k = 3 then [UInt8.ofNat (80 + n.toNat)] ++ [91] ++ ts.getD 0 [] ++ [93]
 else if k = 11 then [40] ++ ts.getD 0 [] ++ [63] ++ ts.getD 1 [] ++ [58] ++ ts.getD 2 [] ++ [41] else [40] ++ ts.getD 0 [] ++ [s9 k] ++ ts.getD 1 [] ++ [41]
mutual
def c6 : b6 -> List UInt8
 | ⟨k, n, ks⟩ => av0 k n (aF0 ks)
def aF0 : List b6 -> List (List UInt8)
 | [] => []
 | e :: r => c6 e :: aF0 r
end
theorem al6 : ∀ ks : List b6, aF0 ks = ks.map c6
 | [] => rfl
 | e :: r => by rw [aF0, al6 r]; rfl
theorem ag0 (e : b6) : c6 e = av0 e.kind e.value (e.kids.map c6) := by
 cases e
 rw [c6, al6]
 rfl
theorem aa7 {n : Nat} (h : n < 1000) : (Lib.decDigits n).length <= 3 := by
 rw [Lib.decDigits]
 split
 ·simp
 rw [Lib.decDigits]
 split
 ·simp
 rw [Lib.decDigits, dif_pos (by omega)]
 simp
theorem n7 (nv na : Nat) : ∀ (d : Nat) (e : b6), d7 nv na d e = true -> (c6 e).length <= 8 * 4 ^ d
 | 0, e, h => by simp [d7] at h
 | d + 1, e, h => by
  have hk := (F4 h).2
  have ih : ∀ i, ((e.kids.map c6).getD i []).length <= 8 * 4 ^ d := by
   intro i
   rw [bk3, bm9]
   cases hi : e.kids[i]? with
   | none => simp
   | some x => exact n7 nv na d x (hk x (bl8 hi))
  have h0 := ih 0
  have h1 := ih 1
  have h2 := ih 2
  have hv : e.kind = 1 -> e.value < 256 := by
   intro h1
   have hn : s5 nv na e = true := by
    unfold d7 at h
    simp only [bk0] at h
    exact h.1.1
   have := (K1 hn).2.2
   rw [h1] at this
   simpa [v8] using this
  rw [ag0]
  unfold av0
  have hp : 1 <= 4 ^ d := Nat.one_le_pow _ _ (by omega)
  have hq : 4 ^ (d + 1) = 4 * 4 ^ d := by rw [Nat.pow_succ]; omega
  repeat' split
  ·rename_i hk1
   have := hv hk1
   have := aa7 (n := e.value.toNat) (by omega)
   omega
  all_goals
   simp only [bl6, bk4, bk7]
   omega
end Go.Proofs.YtcahndjigkledaaDoor

namespace Go.Proofs.YtcahndjigkledaaDoor
open Go Go.RowKit
theorem j6 (l m : List UInt8) : (⟨l.toArray⟩ : ByteArray) ++ ⟨m.toArray⟩ = ⟨(l ++ m).toArray⟩ := by
 apply ByteArray.ext; simp
theorem aw9 (w : World) (z : Int) (x : Nat) (hz : z = (x : Int)) (hx : x < 256) :
  (convert 34 9 (.slice (some ⟨w.heap.size, 0, none⟩) 1 1)).run Tryd.prog (w.alloc (.cells #[.int .u8 z] 5)) = .ok (.string ⟨#[UInt8.ofNat x]⟩) (w.alloc (.cells #[.int .u8 z] 5)) := by
 refine run_convert_bytes_back _ _ _ 5 ⟨w.heap.size, 0, none⟩ 1 [UInt8.ofNat x] Tryd.underlying34 Tryd.underlying5 Tryd.underlying9 fun j hj => ?_
 have h0 : j = 0 := by simp at hj; omega
 subst h0
 rw [hz]
 simp [Addr.add, Nat.mod_eq_of_lt hx]
theorem aW0 {nv na d : Nat} {e : b6} (h : d7 nv na (d + 1) e = true) : s5 nv na e = true /\ ∀ x ∈ e.kids, d7 nv na d x = true := by
 refine ⟨?_, (F4 h).2⟩
 unfold d7 at h
 simp only [bk0] at h
 exact h.1.1
theorem Y4 (v : Nat) (hv : v < 12) (w : World) :
  Calls Tryd.prog 62 #[.int .i64 v] w fun e w' => e = .returned (.string ⟨[UInt8.ofNat (97 + v)].toArray⟩) /\ Below w.heap.size w w' := by
 have hconv := aw9 w (97 + (v : Int)) (97 + v) (by omega) (by omega)
 obtain ⟨c, hc⟩ : ∃ c : UInt8, c = UInt8.ofNat (97 + v) := ⟨_, rfl⟩
 rw [<- hc] at hconv ⊢
 clear hc
 go_enter Tryd.func62, Tryd.ntmps62
 go_wp2_with fail
 go_ret
 exact ⟨rfl, (Below.refl _ _).alloc (bl5 _) _⟩
theorem Q6 (v : Nat) (hv : v < 2) (w : World) :
  Calls Tryd.prog 63 #[.int .i64 v] w fun e w' => e = .returned (.string ⟨[UInt8.ofNat (80 + v)].toArray⟩) /\ Below w.heap.size w w' := by
 have hconv := aw9 w (80 + (v : Int)) (80 + v) (by omega) (by omega)
 obtain ⟨c, hc⟩ : ∃ c : UInt8, c = UInt8.ofNat (80 + v) := ⟨_, rfl⟩
 rw [<- hc] at hconv ⊢
 clear hc
 go_enter Tryd.func63, Tryd.ntmps63
 go_wp2_with fail
 go_ret
 exact ⟨rfl, (Below.refl _ _).alloc (bl5 _) _⟩
end Go.Proofs.YtcahndjigkledaaDoor

namespace Go.Proofs.YtcahndjigkledaaDoor
open Go Go.RowKit Go.Shelf Go.Lib
def ad2 : Go.Shelf.Ren := ⟨fun | 129 => 111 | 171 => 61 | 243 => 86 | 246 => 103 | 283 => 106 | 284 => 107 | 285 => 108 | 286 => 109 | 317 => 110 | 318 => 112 | 319 => 113 | 320 => 114 | 337 => 115 | 338 => 116 | n => n, fun | 0 => 0 | 2 => 2 | 3 => 3 | 4 => 4 | 5 => 5 | 9 => 9 | 20 => 20 | 37 => 34 | 46 => 128 | 51 => 126 | 53 => 119 | 171 => 118 | 173 => 122 | 212 => 125 | 213 => 127 | 232 => 131 | 233 => 132 | n => n, fun | 17 => 0 | 18 => 1 | 19 => 2 | n => n⟩
theorem aZ2 : Go.Proofs.Lays.n171 Tryd.prog ad2 := {
 mixed := by kernel_rfl
 f129 := Tryd.func111.trans (congrArg some (by kernel_rfl))
 f171 := Tryd.func61.trans (congrArg some (by kernel_rfl))
 f243 := Tryd.func86.trans (congrArg some (by kernel_rfl))
 f246 := Tryd.func103.trans (congrArg some (by kernel_rfl))
 f283 := Tryd.func106.trans (congrArg some (by kernel_rfl))
 f284 := Tryd.func107.trans (congrArg some (by kernel_rfl))
 f285 := Tryd.func108.trans (congrArg some (by kernel_rfl))
 f286 := Tryd.func109.trans (congrArg some (by kernel_rfl))
 f317 := Tryd.func110.trans (congrArg some (by kernel_rfl))
 f318 := Tryd.func112.trans (congrArg some (by kernel_rfl))
 f319 := Tryd.func113.trans (congrArg some (by kernel_rfl))
 f320 := Tryd.func114.trans (congrArg some (by kernel_rfl))
 f337 := Tryd.func115.trans (congrArg some (by kernel_rfl))
 f338 := Tryd.func116.trans (congrArg some (by kernel_rfl))
 t0 := Tryd.underlying0
 a0 := Tryd.isAgg0
 z0 := Tryd.sizeOf0
 v0 := Tryd.zeroValue0
 t2 := Tryd.underlying2
 a2 := Tryd.isAgg2
 z2 := Tryd.sizeOf2
 v2 := Tryd.zeroValue2
 t3 := Tryd.underlying3
 a3 := Tryd.isAgg3
 z3 := Tryd.sizeOf3
 v3 := Tryd.zeroValue3
 t4 := Tryd.underlying4
 a4 := Tryd.isAgg4
 z4 := Tryd.sizeOf4
 v4 := Tryd.zeroValue4
 t5 := Tryd.underlying5
 a5 := Tryd.isAgg5
 z5 := Tryd.sizeOf5
 v5 := Tryd.zeroValue5
 t9 := Tryd.underlying9
 a9 := Tryd.isAgg9
 z9 := Tryd.sizeOf9
 v9 := Tryd.zeroValue9
 t20 := Tryd.underlying20
 a20 := Tryd.isAgg20
 z20 := Tryd.sizeOf20
 v20 := Tryd.zeroValue20
 t37 := Tryd.underlying34
 a37 := Tryd.isAgg34
 z37 := Tryd.sizeOf34
 v37 := Tryd.zeroValue34
 t46 := Tryd.underlying128
 a46 := Tryd.isAgg128
 z46 := Tryd.sizeOf128
 v46 := Tryd.zeroValue128
 t51 := Tryd.underlying126
 a51 := Tryd.isAgg126
 z51 := Tryd.sizeOf126
 v51 := Tryd.zeroValue126
 t53 := Tryd.underlying119
 a53 := Tryd.isAgg119
 z53 := Tryd.sizeOf119
 v53 := Tryd.zeroValue119
 t171 := Tryd.underlying118
 a171 := Tryd.isAgg118
 z171 := Tryd.sizeOf118
 v171 := Tryd.zeroValue118
 t173 := Tryd.underlying122
 a173 := Tryd.isAgg122
 z173 := Tryd.sizeOf122
 v173 := Tryd.zeroValue122
 t212 := Tryd.underlying125
 a212 := Tryd.isAgg125
 z212 := Tryd.sizeOf125
 v212 := Tryd.zeroValue125
 t213 := Tryd.underlying127
 a213 := Tryd.isAgg127
 z213 := Tryd.sizeOf127
 t232 := Tryd.underlying131
 a232 := Tryd.isAgg131
 z232 := Tryd.sizeOf131
 v232 := Tryd.zeroValue131
 t233 := Tryd.underlying132
 a233 := Tryd.isAgg132
 z233 := Tryd.sizeOf132
 v233 := Tryd.zeroValue132
 g17 := by kernel_rfl
 g18 := by kernel_rfl
 g19 := by kernel_rfl }
theorem aR4 : Go.Proofs.LaysM.n171 Tryd.prog ad2 := { aZ2 with
 i0 := by kernel_rfl
 i2 := by kernel_rfl
 i3 := by kernel_rfl
 i4 := by kernel_rfl
 i5 := by kernel_rfl
 i9 := by kernel_rfl
 i20 := by kernel_rfl
 i37 := by kernel_rfl
 i46 := by kernel_rfl
 i51 := by kernel_rfl
 i53 := by kernel_rfl
 i171 := by kernel_rfl
 i173 := by kernel_rfl
 i212 := by kernel_rfl
 i232 := by kernel_rfl
 i233 := by kernel_rfl
 m17 := by kernel_rfl
 m18 := by kernel_rfl
 m19 := by kernel_rfl }
theorem aH0 (n : Nat) (hn : n < 1000000) (w : World) (htab : Lib.TabIs Tryd.prog w "internal/strconv.uint64pow10" .u64 Lib.pow10Tab) :
  Calls Tryd.prog 61 #[.int .i64 n] w fun e w' => e = .returned (.string ⟨(Lib.decDigits n).toArray⟩) /\ Below w.heap.size w w' := by
 have e : Lib.itoa (n : Int) = Lib.decDigits n := by
  unfold Lib.itoa
  rw [if_neg (by omega)]
  rfl
 have h := Any.strconv_Itoa aR4 (n : Int) (by omega) (by omega) w htab
 rw [e] at h
 exact h.mono fun e w' ⟨he, k, os, hw⟩ => ⟨he, by rw [hw]; exact Lib.below_grow _ _ (bl5 _) k os⟩
end Go.Proofs.YtcahndjigkledaaDoor

namespace Go.Proofs.YtcahndjigkledaaDoor
open Go Go.RowKit
def ar9 (w : World) : Prop := ∃ B, B <= w.heap.size /\ Lib.TabBelow Tryd.prog B w "internal/strconv.uint64pow10" .u64 Lib.pow10Tab
theorem ar9.on {w w' : World} (h : ar9 w) (hb : Below w.heap.size w w') : ar9 w' := by
 obtain ⟨B, h1, h2⟩ := h
 exact ⟨B, bk9 h1 hb.size, h2.on (hb.mono h1)⟩
theorem ar9.is {w : World} (h : ar9 w) : Lib.TabIs Tryd.prog w "internal/strconv.uint64pow10" .u64 Lib.pow10Tab := by
 obtain ⟨B, _, h2⟩ := h
 exact h2.here
theorem ak7 (nv na : Nat) (hnv : nv <= 12) (hna : na <= 2) : ∀ d : Nat, d <= 5 -> ∀ (e : b6) (φ : Nat -> Prop) (v : Value) (w : World), A2 w φ v e -> d7 nv na d e = true -> ar9 w ->
  Calls Tryd.prog 32 #[v] w fun x w' => x = .returned (.string ⟨(c6 e).toArray⟩) /\ Below w.heap.size w w' := by
 intro d
 induction d with
 | zero => intro _ e φ v w _ hs _; simp [d7] at hs
 | succ d ih =>
  intro hd5 e φ v w h hs ht
  have HTB : Hid (ar9 w) := ht
  clear ht
  obtain ⟨kv, rfl, hk⟩ := h
  obtain ⟨ak, ck, rfl, -, -, -, hc⟩ := hk.open
  obtain ⟨hn, hsk⟩ := aW0 hs
  obtain ⟨hl, hv0, hvl⟩ := K1 hn
  have HT := show Hid _ from ag0 e
  obtain ⟨n, hn'⟩ : ∃ n : Nat, e.value = n := ⟨e.value.toNat, by omega⟩
  rw [hn'] at hvl HT ⊢
  obtain ⟨K, hK⟩ : ∃ K, K = e.kind := ⟨_, rfl⟩
  rw [<- hK] at hvl hl HT ⊢
  clear hn hs hv0 hn' hK hk
  have hK : K = 1 \/ K = 2 \/ K = 3 \/ (4 <= K /\ K <= 10) \/ K = 11 := by
   unfold e7 at hl
   split at hl
   ·omega
   split at hl
   ·omega
   split at hl
   ·omega
   split at hl <;> omega
  obtain ⟨W, hW⟩ : ∃ W, W = w.alloc (.cells #[.int .i64 K, .int .i64 n, .slice ak e.kids.length ck] 37) := ⟨_, rfl⟩
  have B0 : Below w.heap.size w W := by rw [hW]; go_grown
  have L := K8.new w [.int .i64 K, .int .i64 n, .slice ak e.kids.length ck] 37
  have sW : W.heap.size = w.heap.size + 1 := by rw [hW]; simp
  rw [show w.alloc (.cells [.int .i64 K, .int .i64 n, .slice ak e.kids.length ck].toArray 37) = W from hW.symm] at L
  have s0 := B0.size
  have HB0 := show Hid _ from B0
  rcases hK with rfl | rfl | rfl | hK | rfl
  ·have hn : n < 256 := by simp [v8] at hvl; omega
   have HT1 : Hid (c6 e = Lib.decDigits n) := HT.out
   have x0 := L.cell 0
   have x1 := L.cell 1
   simp only [bn4, List.getElem?_cons_succ] at x0 x1
   clear hc hl hvl hsk HT
   go_enter Tryd.func32, Tryd.ntmps32
   go_wp2_with fail
   rw [<- hW]
   clear hW
   go_wp2_with fail
   refine (aH0 n (by omega) _ (HTB.out.on HB0.out).is).mono ?_
   rintro x w2 ⟨rfl, b2⟩
   go_wp2_with fail
   go_ret
   rw [HT1.out]
   exact ⟨rfl, HB0.out.trans (b2.mono s0)⟩
  ·have hn : n < 12 := by simp [v8] at hvl; omega
   have HT1 : Hid (c6 e = [UInt8.ofNat (97 + n)]) := HT.out
   have x0 := L.cell 0
   have x1 := L.cell 1
   simp only [bn4, List.getElem?_cons_succ] at x0 x1
   clear hc hl hvl hsk HT
   go_enter Tryd.func32, Tryd.ntmps32
   go_wp2_with fail
   rw [<- hW]
   clear hW
   go_wp2_with fail
   refine (Y4 n hn _).mono ?_
   rintro x w2 ⟨rfl, b2⟩
   go_wp2_with fail
   go_ret
   rw [HT1.out]
   refine ⟨?_, HB0.out.trans (b2.mono s0)⟩
   rw [UInt8.ofNat_add]
   rfl
  ·have hl1 : e.kids.length = 1 := by simp [e7] at hl; omega
   have hp0 : 0 < e.kids.length := by omega
   have hn : n < 2 := by simp [v8] at hvl; omega
   obtain ⟨b, off, k0, rfl, hbk, hf, c00, c01, c02, hk0⟩ := hc 0 hp0
   rw [<- (C6 B0).1 _ _ hbk] at c00 c01 c02
   have HE0 : ∀ W', Below W.heap.size W W' -> A2 W' φ (.agg #[.int .i64 e.kids[0].kind, .int .i64 e.kids[0].value, k0]) e.kids[0] := fun W' hb => ⟨k0, rfl, j3.nice _ _ _ _ _ _ (G2.below (B0.trans (hb.mono s0))) hk0⟩
   have HH0 := hsk _ (bk8 hp0)
   have ln0 := n7 nv na d _ HH0
   have ix0 := fun W' hb => ih (by omega) e.kids[0] φ _ W' (HE0 W' hb) HH0 ((HTB.out.on HB0.out).on hb)
   have ixa := fun W' => Q6 n hn W'
   obtain ⟨q0, hq0⟩ : ∃ q : ByteArray, q = ⟨(c6 e.kids[0]).toArray⟩ := ⟨_, rfl⟩
   obtain ⟨qa, hqa⟩ : ∃ q : ByteArray, q = ⟨[UInt8.ofNat (80 + n)].toArray⟩ := ⟨_, rfl⟩
   have h4 : 8 * 4 ^ d <= 8192 := by
    have := Nat.pow_le_pow_right (show 0 < 4 by omega) (show d <= 5 by omega)
    omega
   have z0 : q0.size <= 8192 := by rw [hq0]; exact bk9 ln0 h4
   have za : qa.size <= 1 := by rw [hqa]; exact bl5 1
   rw [<- hq0] at ix0
   rw [<- hqa] at ixa
   have HQ0 := show Hid _ from hq0
   have HQa := show Hid _ from hqa
   have HI0 := show Hid _ from ix0
   have HIa := show Hid _ from ixa
   have HT1 : Hid (c6 e = ([UInt8.ofNat (80 + n)] ++ [(91 : UInt8)] ++ c6 e.kids[0] ++ [(93 : UInt8)] : List UInt8)) := by
    have h := HT.out
    rw [h]
    show ([UInt8.ofNat (80 + n)] ++ [(91 : UInt8)] ++ (e.kids.map c6).getD 0 [] ++ [(93 : UInt8)] : List UInt8) = _
    simp only [bk3, bm9, bk1 hp0, bn5, Option.getD_some]
   have x0 := L.cell 0
   have x1 := L.cell 1
   have x2 := L.cell 2
   simp only [bn4, List.getElem?_cons_succ] at x0 x1 x2
   have y0 := fun X => b7 x0 X
   have y1 := fun X => b7 x1 X
   have y2 := fun X => b7 x2 X
   have u00 : ∀ X, (W.ext X).cell? ⟨b, off, none⟩ = some (.int .i64 e.kids[0].kind) := fun X => b7 (by simpa using c00) X
   have u01 : ∀ X, (W.ext X).cell? ⟨b, off + 1, none⟩ = some (.int .i64 e.kids[0].value) := fun X => b7 (by simpa using c01) X
   have u02 : ∀ X, (W.ext X).cell? ⟨b, off + 2, none⟩ = some (k0) := fun X => b7 (by simpa using c02) X
   have HC0 := show Hid (∀ X, Calls Tryd.prog 32 #[.agg #[.int .i64 e.kids[0].kind, .int .i64 e.kids[0].value, k0]] (W.ext X) fun e w'' => e = .returned (.string q0) /\ ∃ Y, w'' = W.ext Y) from fun X => Calls.ext_of' (HI0.out _ (e6 W X))
   have HCa := show Hid (∀ X, Calls Tryd.prog 63 #[.int .i64 n] (W.ext X) fun e w'' => e = .returned (.string qa) /\ ∃ Y, w'' = W.ext Y) from fun X => Calls.ext_of' (HIa.out _)
   have hpi0 : (0 : Int) < (e.kids.length : Int) := by omega
   have hs1 : ¬ 9223372036854775807 < qa.size + 1 := by omega
   have hs2 : ¬ 9223372036854775807 < qa.size + 1 + q0.size := by omega
   have hs3 : ¬ 9223372036854775807 < qa.size + 1 + q0.size + 1 := by omega
   clear hc hl hvl hsk HT hl1 h4 x1 x2 HE0 ln0 ix0 ixa hq0 hqa hk0 c00 c01 c02
   go_enter Tryd.func32, Tryd.ntmps32
   go_wp2_with fail
   rw [<- hW]
   clear hW
   go_wp2_with fail
   refine l6 (by kernel_rfl) (by kernel_rfl) ?_
   repeat (any_goals (first | go_big_quiet_step ((first | (go_at_call 32; with_reducible exact HC0.out _) | (go_at_call 63; with_reducible exact HCa.out _))) | quiet_step ((first | (go_at_call 32; with_reducible exact HC0.out _) | (go_at_call 63; with_reducible exact HCa.out _)))))
   refine wpQuiet_nil ?_
   rintro w' ⟨X, rfl⟩
   have hbX := e6 W X
   all_goals
    go_wp2_with fail
    go_ret
    refine ⟨?_, HB0.out.trans (hbX.mono s0)⟩
    rw [HT1.out]
    show Ending.returned (.string (qa ++ ⟨[91].toArray⟩ ++ q0 ++ ⟨[93].toArray⟩ : ByteArray)) = _
    rw [HQ0.out, HQa.out, j6, j6, j6]
  ·have hKK : K = 4 \/ K = 5 \/ K = 6 \/ K = 7 \/ K = 8 \/ K = 9 \/ K = 10 := by omega
   clear hK
   rcases hKK with rfl | rfl | rfl | rfl | rfl | rfl | rfl
   ·have hlm : e.kids.length = 2 := by simp [e7] at hl; omega
    have hp0 : 0 < e.kids.length := by omega
    have hp1 : 1 < e.kids.length := by omega
    obtain ⟨b, off, k0, rfl, hbk, hf, c00, c01, c02, hk0⟩ := hc 0 hp0
    obtain ⟨b1, o1, k1, he1, -, -, c10, c11, c12, hk1⟩ := hc 1 hp1
    cases he1
    rw [<- (C6 B0).1 _ _ hbk] at c00 c01 c02
    have HE0 : ∀ W', Below W.heap.size W W' -> A2 W' φ (.agg #[.int .i64 e.kids[0].kind, .int .i64 e.kids[0].value, k0]) e.kids[0] := fun W' hb => ⟨k0, rfl, j3.nice _ _ _ _ _ _ (G2.below (B0.trans (hb.mono s0))) hk0⟩
    have HH0 := hsk _ (bk8 hp0)
    have ln0 := n7 nv na d _ HH0
    have ix0 := fun W' hb => ih (by omega) e.kids[0] φ _ W' (HE0 W' hb) HH0 ((HTB.out.on HB0.out).on hb)
    obtain ⟨q0, hq0⟩ : ∃ q : ByteArray, q = ⟨(c6 e.kids[0]).toArray⟩ := ⟨_, rfl⟩
    rw [<- (C6 B0).1 _ _ hbk] at c10 c11 c12
    have HE1 : ∀ W', Below W.heap.size W W' -> A2 W' φ (.agg #[.int .i64 e.kids[1].kind, .int .i64 e.kids[1].value, k1]) e.kids[1] := fun W' hb => ⟨k1, rfl, j3.nice _ _ _ _ _ _ (G2.below (B0.trans (hb.mono s0))) hk1⟩
    have HH1 := hsk _ (bk8 hp1)
    have ln1 := n7 nv na d _ HH1
    have ix1 := fun W' hb => ih (by omega) e.kids[1] φ _ W' (HE1 W' hb) HH1 ((HTB.out.on HB0.out).on hb)
    obtain ⟨q1, hq1⟩ : ∃ q : ByteArray, q = ⟨(c6 e.kids[1]).toArray⟩ := ⟨_, rfl⟩
    have h4 : 8 * 4 ^ d <= 8192 := by
     have := Nat.pow_le_pow_right (show 0 < 4 by omega) (show d <= 5 by omega)
     omega
    have z0 : q0.size <= 8192 := by rw [hq0]; exact bk9 ln0 h4
    rw [<- hq0] at ix0
    have HQ0 := show Hid _ from hq0
    have HI0 := show Hid _ from ix0
    have z1 : q1.size <= 8192 := by rw [hq1]; exact bk9 ln1 h4
    rw [<- hq1] at ix1
    have HQ1 := show Hid _ from hq1
    have HI1 := show Hid _ from ix1
    have HT1 : Hid (c6 e = ([(40 : UInt8)] ++ c6 e.kids[0] ++ [s9 4] ++ c6 e.kids[1] ++ [(41 : UInt8)] : List UInt8)) := by
     have h := HT.out
     rw [h]
     show ([(40 : UInt8)] ++ (e.kids.map c6).getD 0 [] ++ [s9 4] ++ (e.kids.map c6).getD 1 [] ++ [(41 : UInt8)] : List UInt8) = _
     simp only [bk3, bm9, bk1 hp0, bk1 hp1, bn5, Option.getD_some]
    have x0 := L.cell 0
    have x1 := L.cell 1
    have x2 := L.cell 2
    simp only [bn4, List.getElem?_cons_succ] at x0 x1 x2
    have y0 := fun X => b7 x0 X
    have y1 := fun X => b7 x1 X
    have y2 := fun X => b7 x2 X
    have u00 : ∀ X, (W.ext X).cell? ⟨b, off, none⟩ = some (.int .i64 e.kids[0].kind) := fun X => b7 (by simpa using c00) X
    have u01 : ∀ X, (W.ext X).cell? ⟨b, off + 1, none⟩ = some (.int .i64 e.kids[0].value) := fun X => b7 (by simpa using c01) X
    have u02 : ∀ X, (W.ext X).cell? ⟨b, off + 2, none⟩ = some (k0) := fun X => b7 (by simpa using c02) X
    have HC0 := show Hid (∀ X, Calls Tryd.prog 32 #[.agg #[.int .i64 e.kids[0].kind, .int .i64 e.kids[0].value, k0]] (W.ext X) fun e w'' => e = .returned (.string q0) /\ ∃ Y, w'' = W.ext Y) from fun X => Calls.ext_of' (HI0.out _ (e6 W X))
    have u10 : ∀ X, (W.ext X).cell? ⟨b, off + 3, none⟩ = some (.int .i64 e.kids[1].kind) := fun X => b7 (by simpa using c10) X
    have u11 : ∀ X, (W.ext X).cell? ⟨b, off + 3 + 1, none⟩ = some (.int .i64 e.kids[1].value) := fun X => b7 (by simpa using c11) X
    have u12 : ∀ X, (W.ext X).cell? ⟨b, off + 3 + 2, none⟩ = some (k1) := fun X => b7 (by simpa using c12) X
    have HC1 := show Hid (∀ X, Calls Tryd.prog 32 #[.agg #[.int .i64 e.kids[1].kind, .int .i64 e.kids[1].value, k1]] (W.ext X) fun e w'' => e = .returned (.string q1) /\ ∃ Y, w'' = W.ext Y) from fun X => Calls.ext_of' (HI1.out _ (e6 W X))
    have hpi0 : (0 : Int) < (e.kids.length : Int) := by omega
    have hpi1 : (1 : Int) < (e.kids.length : Int) := by omega
    have hs1 : ¬ 9223372036854775807 < 1 + q0.size := by omega
    have hs2 : ¬ 9223372036854775807 < 1 + q0.size + 1 := by omega
    have hs3 : ¬ 9223372036854775807 < 1 + q0.size + 1 + q1.size := by omega
    have hs4 : ¬ 9223372036854775807 < 1 + q0.size + 1 + q1.size + 1 := by omega
    clear hc hl hvl hsk HT hlm h4 x1 x2 HE0 ln0 ix0 hq0 hk0 HE1 ln1 ix1 hq1 hk1 c00 c01 c02 c10 c11 c12
    go_enter Tryd.func32, Tryd.ntmps32
    go_wp2_with fail
    rw [<- hW]
    clear hW
    go_wp2_with fail
    refine l6 (by kernel_rfl) (by kernel_rfl) ?_
    repeat (any_goals (first | go_big_quiet_step ((go_at_call 32; first | with_reducible exact HC0.out _ | with_reducible exact HC1.out _)) | quiet_step ((go_at_call 32; first | with_reducible exact HC0.out _ | with_reducible exact HC1.out _))))
    refine wpQuiet_nil ?_
    rintro w' ⟨X, rfl⟩
    have hbX := e6 W X
    all_goals
     go_wp2_with fail
     go_ret
     refine ⟨?_, HB0.out.trans (hbX.mono s0)⟩
     rw [HT1.out]
     show Ending.returned (.string (⟨[40].toArray⟩ ++ q0 ++ ⟨[s9 4].toArray⟩ ++ q1 ++ ⟨[41].toArray⟩ : ByteArray)) = _
     rw [HQ0.out, HQ1.out, j6, j6, j6, j6]
   ·have hlm : e.kids.length = 2 := by simp [e7] at hl; omega
    have hp0 : 0 < e.kids.length := by omega
    have hp1 : 1 < e.kids.length := by omega
    obtain ⟨b, off, k0, rfl, hbk, hf, c00, c01, c02, hk0⟩ := hc 0 hp0
    obtain ⟨b1, o1, k1, he1, -, -, c10, c11, c12, hk1⟩ := hc 1 hp1
    cases he1
    rw [<- (C6 B0).1 _ _ hbk] at c00 c01 c02
    have HE0 : ∀ W', Below W.heap.size W W' -> A2 W' φ (.agg #[.int .i64 e.kids[0].kind, .int .i64 e.kids[0].value, k0]) e.kids[0] := fun W' hb => ⟨k0, rfl, j3.nice _ _ _ _ _ _ (G2.below (B0.trans (hb.mono s0))) hk0⟩
    have HH0 := hsk _ (bk8 hp0)
    have ln0 := n7 nv na d _ HH0
    have ix0 := fun W' hb => ih (by omega) e.kids[0] φ _ W' (HE0 W' hb) HH0 ((HTB.out.on HB0.out).on hb)
    obtain ⟨q0, hq0⟩ : ∃ q : ByteArray, q = ⟨(c6 e.kids[0]).toArray⟩ := ⟨_, rfl⟩
    rw [<- (C6 B0).1 _ _ hbk] at c10 c11 c12
    have HE1 : ∀ W', Below W.heap.size W W' -> A2 W' φ (.agg #[.int .i64 e.kids[1].kind, .int .i64 e.kids[1].value, k1]) e.kids[1] := fun W' hb => ⟨k1, rfl, j3.nice _ _ _ _ _ _ (G2.below (B0.trans (hb.mono s0))) hk1⟩
    have HH1 := hsk _ (bk8 hp1)
    have ln1 := n7 nv na d _ HH1
    have ix1 := fun W' hb => ih (by omega) e.kids[1] φ _ W' (HE1 W' hb) HH1 ((HTB.out.on HB0.out).on hb)
    obtain ⟨q1, hq1⟩ : ∃ q : ByteArray, q = ⟨(c6 e.kids[1]).toArray⟩ := ⟨_, rfl⟩
    have h4 : 8 * 4 ^ d <= 8192 := by
     have := Nat.pow_le_pow_right (show 0 < 4 by omega) (show d <= 5 by omega)
     omega
    have z0 : q0.size <= 8192 := by rw [hq0]; exact bk9 ln0 h4
    rw [<- hq0] at ix0
    have HQ0 := show Hid _ from hq0
    have HI0 := show Hid _ from ix0
    have z1 : q1.size <= 8192 := by rw [hq1]; exact bk9 ln1 h4
    rw [<- hq1] at ix1
    have HQ1 := show Hid _ from hq1
    have HI1 := show Hid _ from ix1
    have HT1 : Hid (c6 e = ([(40 : UInt8)] ++ c6 e.kids[0] ++ [s9 5] ++ c6 e.kids[1] ++ [(41 : UInt8)] : List UInt8)) := by
     have h := HT.out
     rw [h]
     show ([(40 : UInt8)] ++ (e.kids.map c6).getD 0 [] ++ [s9 5] ++ (e.kids.map c6).getD 1 [] ++ [(41 : UInt8)] : List UInt8) = _
     simp only [bk3, bm9, bk1 hp0, bk1 hp1, bn5, Option.getD_some]
    have x0 := L.cell 0
    have x1 := L.cell 1
    have x2 := L.cell 2
    simp only [bn4, List.getElem?_cons_succ] at x0 x1 x2
    have y0 := fun X => b7 x0 X
    have y1 := fun X => b7 x1 X
    have y2 := fun X => b7 x2 X
    have u00 : ∀ X, (W.ext X).cell? ⟨b, off, none⟩ = some (.int .i64 e.kids[0].kind) := fun X => b7 (by simpa using c00) X
    have u01 : ∀ X, (W.ext X).cell? ⟨b, off + 1, none⟩ = some (.int .i64 e.kids[0].value) := fun X => b7 (by simpa using c01) X
    have u02 : ∀ X, (W.ext X).cell? ⟨b, off + 2, none⟩ = some (k0) := fun X => b7 (by simpa using c02) X
    have HC0 := show Hid (∀ X, Calls Tryd.prog 32 #[.agg #[.int .i64 e.kids[0].kind, .int .i64 e.kids[0].value, k0]] (W.ext X) fun e w'' => e = .returned (.string q0) /\ ∃ Y, w'' = W.ext Y) from fun X => Calls.ext_of' (HI0.out _ (e6 W X))
    have u10 : ∀ X, (W.ext X).cell? ⟨b, off + 3, none⟩ = some (.int .i64 e.kids[1].kind) := fun X => b7 (by simpa using c10) X
    have u11 : ∀ X, (W.ext X).cell? ⟨b, off + 3 + 1, none⟩ = some (.int .i64 e.kids[1].value) := fun X => b7 (by simpa using c11) X
    have u12 : ∀ X, (W.ext X).cell? ⟨b, off + 3 + 2, none⟩ = some (k1) := fun X => b7 (by simpa using c12) X
    have HC1 := show Hid (∀ X, Calls Tryd.prog 32 #[.agg #[.int .i64 e.kids[1].kind, .int .i64 e.kids[1].value, k1]] (W.ext X) fun e w'' => e = .returned (.string q1) /\ ∃ Y, w'' = W.ext Y) from fun X => Calls.ext_of' (HI1.out _ (e6 W X))
    have hpi0 : (0 : Int) < (e.kids.length : Int) := by omega
    have hpi1 : (1 : Int) < (e.kids.length : Int) := by omega
    have hs1 : ¬ 9223372036854775807 < 1 + q0.size := by omega
    have hs2 : ¬ 9223372036854775807 < 1 + q0.size + 1 := by omega
    have hs3 : ¬ 9223372036854775807 < 1 + q0.size + 1 + q1.size := by omega
    have hs4 : ¬ 9223372036854775807 < 1 + q0.size + 1 + q1.size + 1 := by omega
    clear hc hl hvl hsk HT hlm h4 x1 x2 HE0 ln0 ix0 hq0 hk0 HE1 ln1 ix1 hq1 hk1 c00 c01 c02 c10 c11 c12
    go_enter Tryd.func32, Tryd.ntmps32
    go_wp2_with fail
    rw [<- hW]
    clear hW
    go_wp2_with fail
    refine l6 (by kernel_rfl) (by kernel_rfl) ?_
    repeat (any_goals (first | go_big_quiet_step ((go_at_call 32; first | with_reducible exact HC0.out _ | with_reducible exact HC1.out _)) | quiet_step ((go_at_call 32; first | with_reducible exact HC0.out _ | with_reducible exact HC1.out _))))
    refine wpQuiet_nil ?_
    rintro w' ⟨X, rfl⟩
    have hbX := e6 W X
    all_goals
     go_wp2_with fail
     go_ret
     refine ⟨?_, HB0.out.trans (hbX.mono s0)⟩
     rw [HT1.out]
     show Ending.returned (.string (⟨[40].toArray⟩ ++ q0 ++ ⟨[s9 5].toArray⟩ ++ q1 ++ ⟨[41].toArray⟩ : ByteArray)) = _
     rw [HQ0.out, HQ1.out, j6, j6, j6, j6]
   ·have hlm : e.kids.length = 2 := by simp [e7] at hl; omega
    have hp0 : 0 < e.kids.length := by omega
    have hp1 : 1 < e.kids.length := by omega
    obtain ⟨b, off, k0, rfl, hbk, hf, c00, c01, c02, hk0⟩ := hc 0 hp0
    obtain ⟨b1, o1, k1, he1, -, -, c10, c11, c12, hk1⟩ := hc 1 hp1
    cases he1
    rw [<- (C6 B0).1 _ _ hbk] at c00 c01 c02
    have HE0 : ∀ W', Below W.heap.size W W' -> A2 W' φ (.agg #[.int .i64 e.kids[0].kind, .int .i64 e.kids[0].value, k0]) e.kids[0] := fun W' hb => ⟨k0, rfl, j3.nice _ _ _ _ _ _ (G2.below (B0.trans (hb.mono s0))) hk0⟩
    have HH0 := hsk _ (bk8 hp0)
    have ln0 := n7 nv na d _ HH0
    have ix0 := fun W' hb => ih (by omega) e.kids[0] φ _ W' (HE0 W' hb) HH0 ((HTB.out.on HB0.out).on hb)
    obtain ⟨q0, hq0⟩ : ∃ q : ByteArray, q = ⟨(c6 e.kids[0]).toArray⟩ := ⟨_, rfl⟩
    rw [<- (C6 B0).1 _ _ hbk] at c10 c11 c12
    have HE1 : ∀ W', Below W.heap.size W W' -> A2 W' φ (.agg #[.int .i64 e.kids[1].kind, .int .i64 e.kids[1].value, k1]) e.kids[1] := fun W' hb => ⟨k1, rfl, j3.nice _ _ _ _ _ _ (G2.below (B0.trans (hb.mono s0))) hk1⟩
    have HH1 := hsk _ (bk8 hp1)
    have ln1 := n7 nv na d _ HH1
    have ix1 := fun W' hb => ih (by omega) e.kids[1] φ _ W' (HE1 W' hb) HH1 ((HTB.out.on HB0.out).on hb)
    obtain ⟨q1, hq1⟩ : ∃ q : ByteArray, q = ⟨(c6 e.kids[1]).toArray⟩ := ⟨_, rfl⟩
    have h4 : 8 * 4 ^ d <= 8192 := by
     have := Nat.pow_le_pow_right (show 0 < 4 by omega) (show d <= 5 by omega)
     omega
    have z0 : q0.size <= 8192 := by rw [hq0]; exact bk9 ln0 h4
    rw [<- hq0] at ix0
    have HQ0 := show Hid _ from hq0
    have HI0 := show Hid _ from ix0
    have z1 : q1.size <= 8192 := by rw [hq1]; exact bk9 ln1 h4
    rw [<- hq1] at ix1
    have HQ1 := show Hid _ from hq1
    have HI1 := show Hid _ from ix1
    have HT1 : Hid (c6 e = ([(40 : UInt8)] ++ c6 e.kids[0] ++ [s9 6] ++ c6 e.kids[1] ++ [(41 : UInt8)] : List UInt8)) := by
     have h := HT.out
     rw [h]
     show ([(40 : UInt8)] ++ (e.kids.map c6).getD 0 [] ++ [s9 6] ++ (e.kids.map c6).getD 1 [] ++ [(41 : UInt8)] : List UInt8) = _
     simp only [bk3, bm9, bk1 hp0, bk1 hp1, bn5, Option.getD_some]
    have x0 := L.cell 0
    have x1 := L.cell 1
    have x2 := L.cell 2
    simp only [bn4, List.getElem?_cons_succ] at x0 x1 x2
    have y0 := fun X => b7 x0 X
    have y1 := fun X => b7 x1 X
    have y2 := fun X => b7 x2 X
    have u00 : ∀ X, (W.ext X).cell? ⟨b, off, none⟩ = some (.int .i64 e.kids[0].kind) := fun X => b7 (by simpa using c00) X
    have u01 : ∀ X, (W.ext X).cell? ⟨b, off + 1, none⟩ = some (.int .i64 e.kids[0].value) := fun X => b7 (by simpa using c01) X
    have u02 : ∀ X, (W.ext X).cell? ⟨b, off + 2, none⟩ = some (k0) := fun X => b7 (by simpa using c02) X
    have HC0 := show Hid (∀ X, Calls Tryd.prog 32 #[.agg #[.int .i64 e.kids[0].kind, .int .i64 e.kids[0].value, k0]] (W.ext X) fun e w'' => e = .returned (.string q0) /\ ∃ Y, w'' = W.ext Y) from fun X => Calls.ext_of' (HI0.out _ (e6 W X))
    have u10 : ∀ X, (W.ext X).cell? ⟨b, off + 3, none⟩ = some (.int .i64 e.kids[1].kind) := fun X => b7 (by simpa using c10) X
    have u11 : ∀ X, (W.ext X).cell? ⟨b, off + 3 + 1, none⟩ = some (.int .i64 e.kids[1].value) := fun X => b7 (by simpa using c11) X
    have u12 : ∀ X, (W.ext X).cell? ⟨b, off + 3 + 2, none⟩ = some (k1) := fun X => b7 (by simpa using c12) X
    have HC1 := show Hid (∀ X, Calls Tryd.prog 32 #[.agg #[.int .i64 e.kids[1].kind, .int .i64 e.kids[1].value, k1]] (W.ext X) fun e w'' => e = .returned (.string q1) /\ ∃ Y, w'' = W.ext Y) from fun X => Calls.ext_of' (HI1.out _ (e6 W X))
    have hpi0 : (0 : Int) < (e.kids.length : Int) := by omega
    have hpi1 : (1 : Int) < (e.kids.length : Int) := by omega
    have hs1 : ¬ 9223372036854775807 < 1 + q0.size := by omega
    have hs2 : ¬ 9223372036854775807 < 1 + q0.size + 1 := by omega
    have hs3 : ¬ 9223372036854775807 < 1 + q0.size + 1 + q1.size := by omega
    have hs4 : ¬ 9223372036854775807 < 1 + q0.size + 1 + q1.size + 1 := by omega
    clear hc hl hvl hsk HT hlm h4 x1 x2 HE0 ln0 ix0 hq0 hk0 HE1 ln1 ix1 hq1 hk1 c00 c01 c02 c10 c11 c12
    go_enter Tryd.func32, Tryd.ntmps32
    go_wp2_with fail
    rw [<- hW]
    clear hW
    go_wp2_with fail
    refine l6 (by kernel_rfl) (by kernel_rfl) ?_
    repeat (any_goals (first | go_big_quiet_step ((go_at_call 32; first | with_reducible exact HC0.out _ | with_reducible exact HC1.out _)) | quiet_step ((go_at_call 32; first | with_reducible exact HC0.out _ | with_reducible exact HC1.out _))))
    refine wpQuiet_nil ?_
    rintro w' ⟨X, rfl⟩
    have hbX := e6 W X
    all_goals
     go_wp2_with fail
     go_ret
     refine ⟨?_, HB0.out.trans (hbX.mono s0)⟩
     rw [HT1.out]
     show Ending.returned (.string (⟨[40].toArray⟩ ++ q0 ++ ⟨[s9 6].toArray⟩ ++ q1 ++ ⟨[41].toArray⟩ : ByteArray)) = _
     rw [HQ0.out, HQ1.out, j6, j6, j6, j6]
   ·have hlm : e.kids.length = 2 := by simp [e7] at hl; omega
    have hp0 : 0 < e.kids.length := by omega
    have hp1 : 1 < e.kids.length := by omega
    obtain ⟨b, off, k0, rfl, hbk, hf, c00, c01, c02, hk0⟩ := hc 0 hp0
    obtain ⟨b1, o1, k1, he1, -, -, c10, c11, c12, hk1⟩ := hc 1 hp1
    cases he1
    rw [<- (C6 B0).1 _ _ hbk] at c00 c01 c02
    have HE0 : ∀ W', Below W.heap.size W W' -> A2 W' φ (.agg #[.int .i64 e.kids[0].kind, .int .i64 e.kids[0].value, k0]) e.kids[0] := fun W' hb => ⟨k0, rfl, j3.nice _ _ _ _ _ _ (G2.below (B0.trans (hb.mono s0))) hk0⟩
    have HH0 := hsk _ (bk8 hp0)
    have ln0 := n7 nv na d _ HH0
    have ix0 := fun W' hb => ih (by omega) e.kids[0] φ _ W' (HE0 W' hb) HH0 ((HTB.out.on HB0.out).on hb)
    obtain ⟨q0, hq0⟩ : ∃ q : ByteArray, q = ⟨(c6 e.kids[0]).toArray⟩ := ⟨_, rfl⟩
    rw [<- (C6 B0).1 _ _ hbk] at c10 c11 c12
    have HE1 : ∀ W', Below W.heap.size W W' -> A2 W' φ (.agg #[.int .i64 e.kids[1].kind, .int .i64 e.kids[1].value, k1]) e.kids[1] := fun W' hb => ⟨k1, rfl, j3.nice _ _ _ _ _ _ (G2.below (B0.trans (hb.mono s0))) hk1⟩
    have HH1 := hsk _ (bk8 hp1)
    have ln1 := n7 nv na d _ HH1
    have ix1 := fun W' hb => ih (by omega) e.kids[1] φ _ W' (HE1 W' hb) HH1 ((HTB.out.on HB0.out).on hb)
    obtain ⟨q1, hq1⟩ : ∃ q : ByteArray, q = ⟨(c6 e.kids[1]).toArray⟩ := ⟨_, rfl⟩
    have h4 : 8 * 4 ^ d <= 8192 := by
     have := Nat.pow_le_pow_right (show 0 < 4 by omega) (show d <= 5 by omega)
     omega
    have z0 : q0.size <= 8192 := by rw [hq0]; exact bk9 ln0 h4
    rw [<- hq0] at ix0
    have HQ0 := show Hid _ from hq0
    have HI0 := show Hid _ from ix0
    have z1 : q1.size <= 8192 := by rw [hq1]; exact bk9 ln1 h4
    rw [<- hq1] at ix1
    have HQ1 := show Hid _ from hq1
    have HI1 := show Hid _ from ix1
    have HT1 : Hid (c6 e = ([(40 : UInt8)] ++ c6 e.kids[0] ++ [s9 7] ++ c6 e.kids[1] ++ [(41 : UInt8)] : List UInt8)) := by
     have h := HT.out
     rw [h]
     show ([(40 : UInt8)] ++ (e.kids.map c6).getD 0 [] ++ [s9 7] ++ (e.kids.map c6).getD 1 [] ++ [(41 : UInt8)] : List UInt8) = _
     simp only [bk3, bm9, bk1 hp0, bk1 hp1, bn5, Option.getD_some]
    have x0 := L.cell 0
    have x1 := L.cell 1
    have x2 := L.cell 2
    simp only [bn4, List.getElem?_cons_succ] at x0 x1 x2
    have y0 := fun X => b7 x0 X
    have y1 := fun X => b7 x1 X
    have y2 := fun X => b7 x2 X
    have u00 : ∀ X, (W.ext X).cell? ⟨b, off, none⟩ = some (.int .i64 e.kids[0].kind) := fun X => b7 (by simpa using c00) X
    have u01 : ∀ X, (W.ext X).cell? ⟨b, off + 1, none⟩ = some (.int .i64 e.kids[0].value) := fun X => b7 (by simpa using c01) X
    have u02 : ∀ X, (W.ext X).cell? ⟨b, off + 2, none⟩ = some (k0) := fun X => b7 (by simpa using c02) X
    have HC0 := show Hid (∀ X, Calls Tryd.prog 32 #[.agg #[.int .i64 e.kids[0].kind, .int .i64 e.kids[0].value, k0]] (W.ext X) fun e w'' => e = .returned (.string q0) /\ ∃ Y, w'' = W.ext Y) from fun X => Calls.ext_of' (HI0.out _ (e6 W X))
    have u10 : ∀ X, (W.ext X).cell? ⟨b, off + 3, none⟩ = some (.int .i64 e.kids[1].kind) := fun X => b7 (by simpa using c10) X
    have u11 : ∀ X, (W.ext X).cell? ⟨b, off + 3 + 1, none⟩ = some (.int .i64 e.kids[1].value) := fun X => b7 (by simpa using c11) X
    have u12 : ∀ X, (W.ext X).cell? ⟨b, off + 3 + 2, none⟩ = some (k1) := fun X => b7 (by simpa using c12) X
    have HC1 := show Hid (∀ X, Calls Tryd.prog 32 #[.agg #[.int .i64 e.kids[1].kind, .int .i64 e.kids[1].value, k1]] (W.ext X) fun e w'' => e = .returned (.string q1) /\ ∃ Y, w'' = W.ext Y) from fun X => Calls.ext_of' (HI1.out _ (e6 W X))
    have hpi0 : (0 : Int) < (e.kids.length : Int) := by omega
    have hpi1 : (1 : Int) < (e.kids.length : Int) := by omega
    have hs1 : ¬ 9223372036854775807 < 1 + q0.size := by omega
    have hs2 : ¬ 9223372036854775807 < 1 + q0.size + 1 := by omega
    have hs3 : ¬ 9223372036854775807 < 1 + q0.size + 1 + q1.size := by omega
    have hs4 : ¬ 9223372036854775807 < 1 + q0.size + 1 + q1.size + 1 := by omega
    clear hc hl hvl hsk HT hlm h4 x1 x2 HE0 ln0 ix0 hq0 hk0 HE1 ln1 ix1 hq1 hk1 c00 c01 c02 c10 c11 c12
    go_enter Tryd.func32, Tryd.ntmps32
    go_wp2_with fail
    rw [<- hW]
    clear hW
    go_wp2_with fail
    refine l6 (by kernel_rfl) (by kernel_rfl) ?_
    repeat (any_goals (first | go_big_quiet_step ((go_at_call 32; first | with_reducible exact HC0.out _ | with_reducible exact HC1.out _)) | quiet_step ((go_at_call 32; first | with_reducible exact HC0.out _ | with_reducible exact HC1.out _))))
    refine wpQuiet_nil ?_
    rintro w' ⟨X, rfl⟩
    have hbX := e6 W X
    all_goals
     go_wp2_with fail
     go_ret
     refine ⟨?_, HB0.out.trans (hbX.mono s0)⟩
     rw [HT1.out]
     show Ending.returned (.string (⟨[40].toArray⟩ ++ q0 ++ ⟨[s9 7].toArray⟩ ++ q1 ++ ⟨[41].toArray⟩ : ByteArray)) = _
     rw [HQ0.out, HQ1.out, j6, j6, j6, j6]
   ·have hlm : e.kids.length = 2 := by simp [e7] at hl; omega
    have hp0 : 0 < e.kids.length := by omega
    have hp1 : 1 < e.kids.length := by omega
    obtain ⟨b, off, k0, rfl, hbk, hf, c00, c01, c02, hk0⟩ := hc 0 hp0
    obtain ⟨b1, o1, k1, he1, -, -, c10, c11, c12, hk1⟩ := hc 1 hp1
    cases he1
    rw [<- (C6 B0).1 _ _ hbk] at c00 c01 c02
    have HE0 : ∀ W', Below W.heap.size W W' -> A2 W' φ (.agg #[.int .i64 e.kids[0].kind, .int .i64 e.kids[0].value, k0]) e.kids[0] := fun W' hb => ⟨k0, rfl, j3.nice _ _ _ _ _ _ (G2.below (B0.trans (hb.mono s0))) hk0⟩
    have HH0 := hsk _ (bk8 hp0)
    have ln0 := n7 nv na d _ HH0
    have ix0 := fun W' hb => ih (by omega) e.kids[0] φ _ W' (HE0 W' hb) HH0 ((HTB.out.on HB0.out).on hb)
    obtain ⟨q0, hq0⟩ : ∃ q : ByteArray, q = ⟨(c6 e.kids[0]).toArray⟩ := ⟨_, rfl⟩
    rw [<- (C6 B0).1 _ _ hbk] at c10 c11 c12
    have HE1 : ∀ W', Below W.heap.size W W' -> A2 W' φ (.agg #[.int .i64 e.kids[1].kind, .int .i64 e.kids[1].value, k1]) e.kids[1] := fun W' hb => ⟨k1, rfl, j3.nice _ _ _ _ _ _ (G2.below (B0.trans (hb.mono s0))) hk1⟩
    have HH1 := hsk _ (bk8 hp1)
    have ln1 := n7 nv na d _ HH1
    have ix1 := fun W' hb => ih (by omega) e.kids[1] φ _ W' (HE1 W' hb) HH1 ((HTB.out.on HB0.out).on hb)
    obtain ⟨q1, hq1⟩ : ∃ q : ByteArray, q = ⟨(c6 e.kids[1]).toArray⟩ := ⟨_, rfl⟩
    have h4 : 8 * 4 ^ d <= 8192 := by
     have := Nat.pow_le_pow_right (show 0 < 4 by omega) (show d <= 5 by omega)
     omega
    have z0 : q0.size <= 8192 := by rw [hq0]; exact bk9 ln0 h4
    rw [<- hq0] at ix0
    have HQ0 := show Hid _ from hq0
    have HI0 := show Hid _ from ix0
    have z1 : q1.size <= 8192 := by rw [hq1]; exact bk9 ln1 h4
    rw [<- hq1] at ix1
    have HQ1 := show Hid _ from hq1
    have HI1 := show Hid _ from ix1
    have HT1 : Hid (c6 e = ([(40 : UInt8)] ++ c6 e.kids[0] ++ [s9 8] ++ c6 e.kids[1] ++ [(41 : UInt8)] : List UInt8)) := by
     have h := HT.out
     rw [h]
     show ([(40 : UInt8)] ++ (e.kids.map c6).getD 0 [] ++ [s9 8] ++ (e.kids.map c6).getD 1 [] ++ [(41 : UInt8)] : List UInt8) = _
     simp only [bk3, bm9, bk1 hp0, bk1 hp1, bn5, Option.getD_some]
    have x0 := L.cell 0
    have x1 := L.cell 1
    have x2 := L.cell 2
    simp only [bn4, List.getElem?_cons_succ] at x0 x1 x2
    have y0 := fun X => b7 x0 X
    have y1 := fun X => b7 x1 X
    have y2 := fun X => b7 x2 X
    have u00 : ∀ X, (W.ext X).cell? ⟨b, off, none⟩ = some (.int .i64 e.kids[0].kind) := fun X => b7 (by simpa using c00) X
    have u01 : ∀ X, (W.ext X).cell? ⟨b, off + 1, none⟩ = some (.int .i64 e.kids[0].value) := fun X => b7 (by simpa using c01) X
    have u02 : ∀ X, (W.ext X).cell? ⟨b, off + 2, none⟩ = some (k0) := fun X => b7 (by simpa using c02) X
    have HC0 := show Hid (∀ X, Calls Tryd.prog 32 #[.agg #[.int .i64 e.kids[0].kind, .int .i64 e.kids[0].value, k0]] (W.ext X) fun e w'' => e = .returned (.string q0) /\ ∃ Y, w'' = W.ext Y) from fun X => Calls.ext_of' (HI0.out _ (e6 W X))
    have u10 : ∀ X, (W.ext X).cell? ⟨b, off + 3, none⟩ = some (.int .i64 e.kids[1].kind) := fun X => b7 (by simpa using c10) X
    have u11 : ∀ X, (W.ext X).cell? ⟨b, off + 3 + 1, none⟩ = some (.int .i64 e.kids[1].value) := fun X => b7 (by simpa using c11) X
    have u12 : ∀ X, (W.ext X).cell? ⟨b, off + 3 + 2, none⟩ = some (k1) := fun X => b7 (by simpa using c12) X
    have HC1 := show Hid (∀ X, Calls Tryd.prog 32 #[.agg #[.int .i64 e.kids[1].kind, .int .i64 e.kids[1].value, k1]] (W.ext X) fun e w'' => e = .returned (.string q1) /\ ∃ Y, w'' = W.ext Y) from fun X => Calls.ext_of' (HI1.out _ (e6 W X))
    have hpi0 : (0 : Int) < (e.kids.length : Int) := by omega
    have hpi1 : (1 : Int) < (e.kids.length : Int) := by omega
    have hs1 : ¬ 9223372036854775807 < 1 + q0.size := by omega
    have hs2 : ¬ 9223372036854775807 < 1 + q0.size + 1 := by omega
    have hs3 : ¬ 9223372036854775807 < 1 + q0.size + 1 + q1.size := by omega
    have hs4 : ¬ 9223372036854775807 < 1 + q0.size + 1 + q1.size + 1 := by omega
    clear hc hl hvl hsk HT hlm h4 x1 x2 HE0 ln0 ix0 hq0 hk0 HE1 ln1 ix1 hq1 hk1 c00 c01 c02 c10 c11 c12
    go_enter Tryd.func32, Tryd.ntmps32
    go_wp2_with fail
    rw [<- hW]
    clear hW
    go_wp2_with fail
    refine l6 (by kernel_rfl) (by kernel_rfl) ?_
    repeat (any_goals (first | go_big_quiet_step ((go_at_call 32; first | with_reducible exact HC0.out _ | with_reducible exact HC1.out _)) | quiet_step ((go_at_call 32; first | with_reducible exact HC0.out _ | with_reducible exact HC1.out _))))
    refine wpQuiet_nil ?_
    rintro w' ⟨X, rfl⟩
    have hbX := e6 W X
    all_goals
     go_wp2_with fail
     go_ret
     refine ⟨?_, HB0.out.trans (hbX.mono s0)⟩
     rw [HT1.out]
     show Ending.returned (.string (⟨[40].toArray⟩ ++ q0 ++ ⟨[s9 8].toArray⟩ ++ q1 ++ ⟨[41].toArray⟩ : ByteArray)) = _
     rw [HQ0.out, HQ1.out, j6, j6, j6, j6]
   ·have hlm : e.kids.length = 2 := by simp [e7] at hl; omega
    have hp0 : 0 < e.kids.length := by omega
    have hp1 : 1 < e.kids.length := by omega
    obtain ⟨b, off, k0, rfl, hbk, hf, c00, c01, c02, hk0⟩ := hc 0 hp0
    obtain ⟨b1, o1, k1, he1, -, -, c10, c11, c12, hk1⟩ := hc 1 hp1
    cases he1
    rw [<- (C6 B0).1 _ _ hbk] at c00 c01 c02
    have HE0 : ∀ W', Below W.heap.size W W' -> A2 W' φ (.agg #[.int .i64 e.kids[0].kind, .int .i64 e.kids[0].value, k0]) e.kids[0] := fun W' hb => ⟨k0, rfl, j3.nice _ _ _ _ _ _ (G2.below (B0.trans (hb.mono s0))) hk0⟩
    have HH0 := hsk _ (bk8 hp0)
    have ln0 := n7 nv na d _ HH0
    have ix0 := fun W' hb => ih (by omega) e.kids[0] φ _ W' (HE0 W' hb) HH0 ((HTB.out.on HB0.out).on hb)
    obtain ⟨q0, hq0⟩ : ∃ q : ByteArray, q = ⟨(c6 e.kids[0]).toArray⟩ := ⟨_, rfl⟩
    rw [<- (C6 B0).1 _ _ hbk] at c10 c11 c12
    have HE1 : ∀ W', Below W.heap.size W W' -> A2 W' φ (.agg #[.int .i64 e.kids[1].kind, .int .i64 e.kids[1].value, k1]) e.kids[1] := fun W' hb => ⟨k1, rfl, j3.nice _ _ _ _ _ _ (G2.below (B0.trans (hb.mono s0))) hk1⟩
    have HH1 := hsk _ (bk8 hp1)
    have ln1 := n7 nv na d _ HH1
    have ix1 := fun W' hb => ih (by omega) e.kids[1] φ _ W' (HE1 W' hb) HH1 ((HTB.out.on HB0.out).on hb)
    obtain ⟨q1, hq1⟩ : ∃ q : ByteArray, q = ⟨(c6 e.kids[1]).toArray⟩ := ⟨_, rfl⟩
    have h4 : 8 * 4 ^ d <= 8192 := by
     have := Nat.pow_le_pow_right (show 0 < 4 by omega) (show d <= 5 by omega)
     omega
    have z0 : q0.size <= 8192 := by rw [hq0]; exact bk9 ln0 h4
    rw [<- hq0] at ix0
    have HQ0 := show Hid _ from hq0
    have HI0 := show Hid _ from ix0
    have z1 : q1.size <= 8192 := by rw [hq1]; exact bk9 ln1 h4
    rw [<- hq1] at ix1
    have HQ1 := show Hid _ from hq1
    have HI1 := show Hid _ from ix1
    have HT1 : Hid (c6 e = ([(40 : UInt8)] ++ c6 e.kids[0] ++ [s9 9] ++ c6 e.kids[1] ++ [(41 : UInt8)] : List UInt8)) := by
     have h := HT.out
     rw [h]
     show ([(40 : UInt8)] ++ (e.kids.map c6).getD 0 [] ++ [s9 9] ++ (e.kids.map c6).getD 1 [] ++ [(41 : UInt8)] : List UInt8) = _
     simp only [bk3, bm9, bk1 hp0, bk1 hp1, bn5, Option.getD_some]
    have x0 := L.cell 0
    have x1 := L.cell 1
    have x2 := L.cell 2
    simp only [bn4, List.getElem?_cons_succ] at x0 x1 x2
    have y0 := fun X => b7 x0 X
    have y1 := fun X => b7 x1 X
    have y2 := fun X => b7 x2 X
    have u00 : ∀ X, (W.ext X).cell? ⟨b, off, none⟩ = some (.int .i64 e.kids[0].kind) := fun X => b7 (by simpa using c00) X
    have u01 : ∀ X, (W.ext X).cell? ⟨b, off + 1, none⟩ = some (.int .i64 e.kids[0].value) := fun X => b7 (by simpa using c01) X
    have u02 : ∀ X, (W.ext X).cell? ⟨b, off + 2, none⟩ = some (k0) := fun X => b7 (by simpa using c02) X
    have HC0 := show Hid (∀ X, Calls Tryd.prog 32 #[.agg #[.int .i64 e.kids[0].kind, .int .i64 e.kids[0].value, k0]] (W.ext X) fun e w'' => e = .returned (.string q0) /\ ∃ Y, w'' = W.ext Y) from fun X => Calls.ext_of' (HI0.out _ (e6 W X))
    have u10 : ∀ X, (W.ext X).cell? ⟨b, off + 3, none⟩ = some (.int .i64 e.kids[1].kind) := fun X => b7 (by simpa using c10) X
    have u11 : ∀ X, (W.ext X).cell? ⟨b, off + 3 + 1, none⟩ = some (.int .i64 e.kids[1].value) := fun X => b7 (by simpa using c11) X
    have u12 : ∀ X, (W.ext X).cell? ⟨b, off + 3 + 2, none⟩ = some (k1) := fun X => b7 (by simpa using c12) X
    have HC1 := show Hid (∀ X, Calls Tryd.prog 32 #[.agg #[.int .i64 e.kids[1].kind, .int .i64 e.kids[1].value, k1]] (W.ext X) fun e w'' => e = .returned (.string q1) /\ ∃ Y, w'' = W.ext Y) from fun X => Calls.ext_of' (HI1.out _ (e6 W X))
    have hpi0 : (0 : Int) < (e.kids.length : Int) := by omega
    have hpi1 : (1 : Int) < (e.kids.length : Int) := by omega
    have hs1 : ¬ 9223372036854775807 < 1 + q0.size := by omega
    have hs2 : ¬ 9223372036854775807 < 1 + q0.size + 1 := by omega
    have hs3 : ¬ 9223372036854775807 < 1 + q0.size + 1 + q1.size := by omega
    have hs4 : ¬ 9223372036854775807 < 1 + q0.size + 1 + q1.size + 1 := by omega
    clear hc hl hvl hsk HT hlm h4 x1 x2 HE0 ln0 ix0 hq0 hk0 HE1 ln1 ix1 hq1 hk1 c00 c01 c02 c10 c11 c12
    go_enter Tryd.func32, Tryd.ntmps32
    go_wp2_with fail
    rw [<- hW]
    clear hW
    go_wp2_with fail
    refine l6 (by kernel_rfl) (by kernel_rfl) ?_
    repeat (any_goals (first | go_big_quiet_step ((go_at_call 32; first | with_reducible exact HC0.out _ | with_reducible exact HC1.out _)) | quiet_step ((go_at_call 32; first | with_reducible exact HC0.out _ | with_reducible exact HC1.out _))))
    refine wpQuiet_nil ?_
    rintro w' ⟨X, rfl⟩
    have hbX := e6 W X
    all_goals
     go_wp2_with fail
     go_ret
     refine ⟨?_, HB0.out.trans (hbX.mono s0)⟩
     rw [HT1.out]
     show Ending.returned (.string (⟨[40].toArray⟩ ++ q0 ++ ⟨[s9 9].toArray⟩ ++ q1 ++ ⟨[41].toArray⟩ : ByteArray)) = _
     rw [HQ0.out, HQ1.out, j6, j6, j6, j6]
   have hlm : e.kids.length = 2 := by simp [e7] at hl; omega
   have hp0 : 0 < e.kids.length := by omega
   have hp1 : 1 < e.kids.length := by omega
   obtain ⟨b, off, k0, rfl, hbk, hf, c00, c01, c02, hk0⟩ := hc 0 hp0
   obtain ⟨b1, o1, k1, he1, -, -, c10, c11, c12, hk1⟩ := hc 1 hp1
   cases he1
   rw [<- (C6 B0).1 _ _ hbk] at c00 c01 c02
   have HE0 : ∀ W', Below W.heap.size W W' -> A2 W' φ (.agg #[.int .i64 e.kids[0].kind, .int .i64 e.kids[0].value, k0]) e.kids[0] := fun W' hb => ⟨k0, rfl, j3.nice _ _ _ _ _ _ (G2.below (B0.trans (hb.mono s0))) hk0⟩
   have HH0 := hsk _ (bk8 hp0)
   have ln0 := n7 nv na d _ HH0
   have ix0 := fun W' hb => ih (by omega) e.kids[0] φ _ W' (HE0 W' hb) HH0 ((HTB.out.on HB0.out).on hb)
   obtain ⟨q0, hq0⟩ : ∃ q : ByteArray, q = ⟨(c6 e.kids[0]).toArray⟩ := ⟨_, rfl⟩
   rw [<- (C6 B0).1 _ _ hbk] at c10 c11 c12
   have HE1 : ∀ W', Below W.heap.size W W' -> A2 W' φ (.agg #[.int .i64 e.kids[1].kind, .int .i64 e.kids[1].value, k1]) e.kids[1] := fun W' hb => ⟨k1, rfl, j3.nice _ _ _ _ _ _ (G2.below (B0.trans (hb.mono s0))) hk1⟩
   have HH1 := hsk _ (bk8 hp1)
   have ln1 := n7 nv na d _ HH1
   have ix1 := fun W' hb => ih (by omega) e.kids[1] φ _ W' (HE1 W' hb) HH1 ((HTB.out.on HB0.out).on hb)
   obtain ⟨q1, hq1⟩ : ∃ q : ByteArray, q = ⟨(c6 e.kids[1]).toArray⟩ := ⟨_, rfl⟩
   have h4 : 8 * 4 ^ d <= 8192 := by
    have := Nat.pow_le_pow_right (show 0 < 4 by omega) (show d <= 5 by omega)
    omega
   have z0 : q0.size <= 8192 := by rw [hq0]; exact bk9 ln0 h4
   rw [<- hq0] at ix0
   have HQ0 := show Hid _ from hq0
   have HI0 := show Hid _ from ix0
   have z1 : q1.size <= 8192 := by rw [hq1]; exact bk9 ln1 h4
   rw [<- hq1] at ix1
   have HQ1 := show Hid _ from hq1
   have HI1 := show Hid _ from ix1
   have HT1 : Hid (c6 e = ([(40 : UInt8)] ++ c6 e.kids[0] ++ [s9 10] ++ c6 e.kids[1] ++ [(41 : UInt8)] : List UInt8)) := by
    have h := HT.out
    rw [h]
    show ([(40 : UInt8)] ++ (e.kids.map c6).getD 0 [] ++ [s9 10] ++ (e.kids.map c6).getD 1 [] ++ [(41 : UInt8)] : List UInt8) = _
    simp only [bk3, bm9, bk1 hp0, bk1 hp1, bn5, Option.getD_some]
   have x0 := L.cell 0
   have x1 := L.cell 1
   have x2 := L.cell 2
   simp only [bn4, List.getElem?_cons_succ] at x0 x1 x2
   have y0 := fun X => b7 x0 X
   have y1 := fun X => b7 x1 X
   have y2 := fun X => b7 x2 X
   have u00 : ∀ X, (W.ext X).cell? ⟨b, off, none⟩ = some (.int .i64 e.kids[0].kind) := fun X => b7 (by simpa using c00) X
   have u01 : ∀ X, (W.ext X).cell? ⟨b, off + 1, none⟩ = some (.int .i64 e.kids[0].value) := fun X => b7 (by simpa using c01) X
   have u02 : ∀ X, (W.ext X).cell? ⟨b, off + 2, none⟩ = some (k0) := fun X => b7 (by simpa using c02) X
   have HC0 := show Hid (∀ X, Calls Tryd.prog 32 #[.agg #[.int .i64 e.kids[0].kind, .int .i64 e.kids[0].value, k0]] (W.ext X) fun e w'' => e = .returned (.string q0) /\ ∃ Y, w'' = W.ext Y) from fun X => Calls.ext_of' (HI0.out _ (e6 W X))
   have u10 : ∀ X, (W.ext X).cell? ⟨b, off + 3, none⟩ = some (.int .i64 e.kids[1].kind) := fun X => b7 (by simpa using c10) X
   have u11 : ∀ X, (W.ext X).cell? ⟨b, off + 3 + 1, none⟩ = some (.int .i64 e.kids[1].value) := fun X => b7 (by simpa using c11) X
   have u12 : ∀ X, (W.ext X).cell? ⟨b, off + 3 + 2, none⟩ = some (k1) := fun X => b7 (by simpa using c12) X
   have HC1 := show Hid (∀ X, Calls Tryd.prog 32 #[.agg #[.int .i64 e.kids[1].kind, .int .i64 e.kids[1].value, k1]] (W.ext X) fun e w'' => e = .returned (.string q1) /\ ∃ Y, w'' = W.ext Y) from fun X => Calls.ext_of' (HI1.out _ (e6 W X))
   have hpi0 : (0 : Int) < (e.kids.length : Int) := by omega
   have hpi1 : (1 : Int) < (e.kids.length : Int) := by omega
   have hs1 : ¬ 9223372036854775807 < 1 + q0.size := by omega
   have hs2 : ¬ 9223372036854775807 < 1 + q0.size + 1 := by omega
   have hs3 : ¬ 9223372036854775807 < 1 + q0.size + 1 + q1.size := by omega
   have hs4 : ¬ 9223372036854775807 < 1 + q0.size + 1 + q1.size + 1 := by omega
   clear hc hl hvl hsk HT hlm h4 x1 x2 HE0 ln0 ix0 hq0 hk0 HE1 ln1 ix1 hq1 hk1 c00 c01 c02 c10 c11 c12
   go_enter Tryd.func32, Tryd.ntmps32
   go_wp2_with fail
   rw [<- hW]
   clear hW
   go_wp2_with fail
   refine l6 (by kernel_rfl) (by kernel_rfl) ?_
   repeat (any_goals (first | go_big_quiet_step ((go_at_call 32; first | with_reducible exact HC0.out _ | with_reducible exact HC1.out _)) | quiet_step ((go_at_call 32; first | with_reducible exact HC0.out _ | with_reducible exact HC1.out _))))
   refine wpQuiet_nil ?_
   rintro w' ⟨X, rfl⟩
   have hbX := e6 W X
   all_goals
    go_wp2_with fail
    go_ret
    refine ⟨?_, HB0.out.trans (hbX.mono s0)⟩
    rw [HT1.out]
    show Ending.returned (.string (⟨[40].toArray⟩ ++ q0 ++ ⟨[s9 10].toArray⟩ ++ q1 ++ ⟨[41].toArray⟩ : ByteArray)) = _
    rw [HQ0.out, HQ1.out, j6, j6, j6, j6]
  have hlm : e.kids.length = 3 := by simp [e7] at hl; omega
  have hp0 : 0 < e.kids.length := by omega
  have hp1 : 1 < e.kids.length := by omega
  have hp2 : 2 < e.kids.length := by omega
  obtain ⟨b, off, k0, rfl, hbk, hf, c00, c01, c02, hk0⟩ := hc 0 hp0
  obtain ⟨b1, o1, k1, he1, -, -, c10, c11, c12, hk1⟩ := hc 1 hp1
  cases he1
  obtain ⟨b2, o2, k2, he2, -, -, c20, c21, c22, hk2⟩ := hc 2 hp2
  cases he2
  rw [<- (C6 B0).1 _ _ hbk] at c00 c01 c02
  have HE0 : ∀ W', Below W.heap.size W W' -> A2 W' φ (.agg #[.int .i64 e.kids[0].kind, .int .i64 e.kids[0].value, k0]) e.kids[0] := fun W' hb => ⟨k0, rfl, j3.nice _ _ _ _ _ _ (G2.below (B0.trans (hb.mono s0))) hk0⟩
  have HH0 := hsk _ (bk8 hp0)
  have ln0 := n7 nv na d _ HH0
  have ix0 := fun W' hb => ih (by omega) e.kids[0] φ _ W' (HE0 W' hb) HH0 ((HTB.out.on HB0.out).on hb)
  obtain ⟨q0, hq0⟩ : ∃ q : ByteArray, q = ⟨(c6 e.kids[0]).toArray⟩ := ⟨_, rfl⟩
  rw [<- (C6 B0).1 _ _ hbk] at c10 c11 c12
  have HE1 : ∀ W', Below W.heap.size W W' -> A2 W' φ (.agg #[.int .i64 e.kids[1].kind, .int .i64 e.kids[1].value, k1]) e.kids[1] := fun W' hb => ⟨k1, rfl, j3.nice _ _ _ _ _ _ (G2.below (B0.trans (hb.mono s0))) hk1⟩
  have HH1 := hsk _ (bk8 hp1)
  have ln1 := n7 nv na d _ HH1
  have ix1 := fun W' hb => ih (by omega) e.kids[1] φ _ W' (HE1 W' hb) HH1 ((HTB.out.on HB0.out).on hb)
  obtain ⟨q1, hq1⟩ : ∃ q : ByteArray, q = ⟨(c6 e.kids[1]).toArray⟩ := ⟨_, rfl⟩
  rw [<- (C6 B0).1 _ _ hbk] at c20 c21 c22
  have HE2 : ∀ W', Below W.heap.size W W' -> A2 W' φ (.agg #[.int .i64 e.kids[2].kind, .int .i64 e.kids[2].value, k2]) e.kids[2] := fun W' hb => ⟨k2, rfl, j3.nice _ _ _ _ _ _ (G2.below (B0.trans (hb.mono s0))) hk2⟩
  have HH2 := hsk _ (bk8 hp2)
  have ln2 := n7 nv na d _ HH2
  have ix2 := fun W' hb => ih (by omega) e.kids[2] φ _ W' (HE2 W' hb) HH2 ((HTB.out.on HB0.out).on hb)
  obtain ⟨q2, hq2⟩ : ∃ q : ByteArray, q = ⟨(c6 e.kids[2]).toArray⟩ := ⟨_, rfl⟩
  have h4 : 8 * 4 ^ d <= 8192 := by
   have := Nat.pow_le_pow_right (show 0 < 4 by omega) (show d <= 5 by omega)
   omega
  have z0 : q0.size <= 8192 := by rw [hq0]; exact bk9 ln0 h4
  rw [<- hq0] at ix0
  have HQ0 := show Hid _ from hq0
  have HI0 := show Hid _ from ix0
  have z1 : q1.size <= 8192 := by rw [hq1]; exact bk9 ln1 h4
  rw [<- hq1] at ix1
  have HQ1 := show Hid _ from hq1
  have HI1 := show Hid _ from ix1
  have z2 : q2.size <= 8192 := by rw [hq2]; exact bk9 ln2 h4
  rw [<- hq2] at ix2
  have HQ2 := show Hid _ from hq2
  have HI2 := show Hid _ from ix2
  have HT1 : Hid (c6 e = ([(40 : UInt8)] ++ c6 e.kids[0] ++ [(63 : UInt8)] ++ c6 e.kids[1] ++ [(58 : UInt8)] ++ c6 e.kids[2] ++ [(41 : UInt8)] : List UInt8)) := by
   have h := HT.out
   rw [h]
   show ([(40 : UInt8)] ++ (e.kids.map c6).getD 0 [] ++ [(63 : UInt8)] ++ (e.kids.map c6).getD 1 [] ++ [(58 : UInt8)] ++ (e.kids.map c6).getD 2 [] ++ [(41 : UInt8)] : List UInt8) = _
   simp only [bk3, bm9, bk1 hp0, bk1 hp1, bk1 hp2, bn5, Option.getD_some]
  have x0 := L.cell 0
  have x1 := L.cell 1
  have x2 := L.cell 2
  simp only [bn4, List.getElem?_cons_succ] at x0 x1 x2
  have y0 := fun X => b7 x0 X
  have y1 := fun X => b7 x1 X
  have y2 := fun X => b7 x2 X
  have u00 : ∀ X, (W.ext X).cell? ⟨b, off, none⟩ = some (.int .i64 e.kids[0].kind) := fun X => b7 (by simpa using c00) X
  have u01 : ∀ X, (W.ext X).cell? ⟨b, off + 1, none⟩ = some (.int .i64 e.kids[0].value) := fun X => b7 (by simpa using c01) X
  have u02 : ∀ X, (W.ext X).cell? ⟨b, off + 2, none⟩ = some (k0) := fun X => b7 (by simpa using c02) X
  have HC0 := show Hid (∀ X, Calls Tryd.prog 32 #[.agg #[.int .i64 e.kids[0].kind, .int .i64 e.kids[0].value, k0]] (W.ext X) fun e w'' => e = .returned (.string q0) /\ ∃ Y, w'' = W.ext Y) from fun X => Calls.ext_of' (HI0.out _ (e6 W X))
  have u10 : ∀ X, (W.ext X).cell? ⟨b, off + 3, none⟩ = some (.int .i64 e.kids[1].kind) := fun X => b7 (by simpa using c10) X
  have u11 : ∀ X, (W.ext X).cell? ⟨b, off + 3 + 1, none⟩ = some (.int .i64 e.kids[1].value) := fun X => b7 (by simpa using c11) X
  have u12 : ∀ X, (W.ext X).cell? ⟨b, off + 3 + 2, none⟩ = some (k1) := fun X => b7 (by simpa using c12) X
  have HC1 := show Hid (∀ X, Calls Tryd.prog 32 #[.agg #[.int .i64 e.kids[1].kind, .int .i64 e.kids[1].value, k1]] (W.ext X) fun e w'' => e = .returned (.string q1) /\ ∃ Y, w'' = W.ext Y) from fun X => Calls.ext_of' (HI1.out _ (e6 W X))
  have u20 : ∀ X, (W.ext X).cell? ⟨b, off + 6, none⟩ = some (.int .i64 e.kids[2].kind) := fun X => b7 (by simpa using c20) X
  have u21 : ∀ X, (W.ext X).cell? ⟨b, off + 6 + 1, none⟩ = some (.int .i64 e.kids[2].value) := fun X => b7 (by simpa using c21) X
  have u22 : ∀ X, (W.ext X).cell? ⟨b, off + 6 + 2, none⟩ = some (k2) := fun X => b7 (by simpa using c22) X
  have HC2 := show Hid (∀ X, Calls Tryd.prog 32 #[.agg #[.int .i64 e.kids[2].kind, .int .i64 e.kids[2].value, k2]] (W.ext X) fun e w'' => e = .returned (.string q2) /\ ∃ Y, w'' = W.ext Y) from fun X => Calls.ext_of' (HI2.out _ (e6 W X))
  have hpi0 : (0 : Int) < (e.kids.length : Int) := by omega
  have hpi1 : (1 : Int) < (e.kids.length : Int) := by omega
  have hpi2 : (2 : Int) < (e.kids.length : Int) := by omega
  have hs1 : ¬ 9223372036854775807 < 1 + q0.size := by omega
  have hs2 : ¬ 9223372036854775807 < 1 + q0.size + 1 := by omega
  have hs3 : ¬ 9223372036854775807 < 1 + q0.size + 1 + q1.size := by omega
  have hs4 : ¬ 9223372036854775807 < 1 + q0.size + 1 + q1.size + 1 := by omega
  have hs5 : ¬ 9223372036854775807 < 1 + q0.size + 1 + q1.size + 1 + q2.size := by omega
  have hs6 : ¬ 9223372036854775807 < 1 + q0.size + 1 + q1.size + 1 + q2.size + 1 := by omega
  clear hc hl hvl hsk HT hlm h4 x1 x2 HE0 ln0 ix0 hq0 hk0 HE1 ln1 ix1 hq1 hk1 HE2 ln2 ix2 hq2 hk2 c00 c01 c02 c10 c11 c12 c20 c21 c22
  go_enter Tryd.func32, Tryd.ntmps32
  go_wp2_with fail
  rw [<- hW]
  clear hW
  go_wp2_with fail
  refine l6 (by kernel_rfl) (by kernel_rfl) ?_
  repeat (any_goals (first | go_big_quiet_step ((go_at_call 32; first | with_reducible exact HC0.out _ | with_reducible exact HC1.out _ | with_reducible exact HC2.out _)) | quiet_step ((go_at_call 32; first | with_reducible exact HC0.out _ | with_reducible exact HC1.out _ | with_reducible exact HC2.out _))))
  refine wpQuiet_nil ?_
  rintro w' ⟨X, rfl⟩
  have hbX := e6 W X
  all_goals
   go_wp2_with fail
   go_ret
   refine ⟨?_, HB0.out.trans (hbX.mono s0)⟩
   rw [HT1.out]
   show Ending.returned (.string (⟨[40].toArray⟩ ++ q0 ++ ⟨[63].toArray⟩ ++ q1 ++ ⟨[58].toArray⟩ ++ q2 ++ ⟨[41].toArray⟩ : ByteArray)) = _
   rw [HQ0.out, HQ1.out, HQ2.out, j6, j6, j6, j6, j6, j6]
end Go.Proofs.YtcahndjigkledaaDoor

namespace Go.Proofs.YtcahndjigkledaaDoor
open Go Go.RowKit Go.Shelf
def ad3 : Go.Shelf.Ren := ⟨fun | 169 => 40 | n => n, fun | 70 => 59 | 9 => 9 | 0 => 0 | 72 => 61 | 37 => 34 | 127 => 92 | 3 => 3 | 5 => 5 | n => n, fun | n => n⟩
theorem aZ3 : Go.Proofs.Lays.n169 Tryd.prog ad3 := {
 mixed := by kernel_rfl
 f169 := Tryd.func40.trans (congrArg some (by kernel_rfl))
 t0 := Tryd.underlying0
 a0 := Tryd.isAgg0
 z0 := Tryd.sizeOf0
 v0 := Tryd.zeroValue0
 t3 := Tryd.underlying3
 a3 := Tryd.isAgg3
 z3 := Tryd.sizeOf3
 v3 := Tryd.zeroValue3
 t9 := Tryd.underlying9
 a9 := Tryd.isAgg9
 z9 := Tryd.sizeOf9
 v9 := Tryd.zeroValue9
 t37 := Tryd.underlying34
 a37 := Tryd.isAgg34
 z37 := Tryd.sizeOf34
 v37 := Tryd.zeroValue34
 t70 := Tryd.underlying59
 a70 := Tryd.isAgg59
 z70 := Tryd.sizeOf59
 v70 := Tryd.zeroValue59
 t72 := Tryd.underlying61
 a72 := Tryd.isAgg61
 z72 := Tryd.sizeOf61
 v72 := Tryd.zeroValue61
 t127 := Tryd.underlying92
 a127 := Tryd.isAgg92
 z127 := Tryd.sizeOf92
 v127 := Tryd.zeroValue92 }
theorem C5 : Builder.Extra Tryd.prog ad3 := {
 sizeBuilder := by kernel_rfl
 liesBuilder := by kernel_rfl
 t5 := Tryd.underlying5
 a5 := Tryd.isAgg5
 z5 := Tryd.sizeOf5
 v5 := Tryd.zeroValue5
 infoByte := by kernel_rfl
 cellsByte := by kernel_rfl
 sizeByte := by kernel_rfl
 neB5 := by decide }
theorem aj9 (B b : Nat) (l : List UInt8) (w : World) (h : Lib.IsBuilder 61 5 B b (Lib.byteCells l) w) (hBw : B <= w.heap.size) :
  Calls Tryd.prog 40 #[.pointer (some ⟨b, 0, none⟩)] w fun e w' => e = .returned (.string ⟨l.toArray⟩) /\ Below B w w' := Any.Builder_String_any aZ3 C5 B b l w h hBw
theorem O0 (b : Nat) (w : World) (h0 : w.cell? ⟨b, 0, none⟩ = some (.pointer (some ⟨b, 0, none⟩))) :
  Calls Tryd.prog 71 #[.pointer (some ⟨b, 0, none⟩)] w fun e w' => e = .returned (.tuple #[]) /\ w' = w := by
 obtain ⟨j, hj, _⟩ := bk2.1 C5.sizeBuilder
 go_enter Tryd.func71, Tryd.ntmps71
 go_wp2
 rw [Lib.run_neq_ptr_same w _ Tryd.underlying59 hj]
 go_wp2
 go_end0
 exact ⟨rfl, rfl⟩
theorem M6 (b : Nat) (w : World) (h0 : w.cell? ⟨b, 0, none⟩ = some (.pointer none)) (hsh : w.shape? b = some (61, 2)) (hfz : w.frozen? ⟨b, 0, none⟩ = false) :
  Calls Tryd.prog 71 #[.pointer (some ⟨b, 0, none⟩)] w fun e w' => e = .returned (.tuple #[]) /\ w' = w.setCell ⟨b, 0, none⟩ (.pointer (some ⟨b, 0, none⟩)) := by
 obtain ⟨j, hj, hjs⟩ := bk2.1 C5.sizeBuilder
 go_enter Tryd.func71, Tryd.ntmps71
 go_wp2
 rw [Lib.run_to_unsafe w ⟨b, 0, none⟩ Tryd.underlying59 Tryd.underlying107 hj (by rw [hjs]; decide) hsh (Nat.zero_lt_succ 1)]
 simp only [Result.andThen]
 rw [Oper.upon_value]
 go_wp2
 rw [run_callFunc_extern Tryd.func93 (by kernel_rfl) (by kernel_rfl) (by kernel_rfl) (e := Extern.AbiNoEscape.same) (by kernel_rfl)]
 rw [Lib.run_noEscape]
 simp only [Result.andThen]
 rw [Oper.upon_value]
 go_wp2
 rw [Lib.run_from_unsafe w ⟨b, 0, none⟩ Tryd.underlying107 Tryd.underlying59 hj hsh C5.liesBuilder]
 simp only [Result.andThen]
 rw [Oper.upon_value]
 go_wp2
 go_end0
 exact ⟨rfl, rfl⟩
theorem Z3 (B b : Nat) (bs : List Value) (w : World) (h : Lib.IsBuilder 61 5 B b bs w) :
  Calls Tryd.prog 71 #[.pointer (some ⟨b, 0, none⟩)] w fun e w' => e = .returned (.tuple #[]) /\ (Lib.BuilderAt 61 5 B b (.pointer (some ⟨b, 0, none⟩)) bs w' /\ Below B w w') := by
 rcases h with h | h
 ·refine (M6 b w h.cell0 h.shape h.frozen0).mono ?_
  rintro e w' ⟨rfl, rfl⟩
  exact ⟨rfl, h.used _, (Below.refl B w).setCell (p := ⟨b, 0, none⟩) h.1 _⟩
 refine (O0 b w h.cell0).mono ?_
 rintro e w' ⟨rfl, rfl⟩
 exact ⟨rfl, h, Below.refl B _⟩
theorem Z4 (B b : Nat) (bs : List Value) (c : Int) (w : World) (h : Lib.IsBuilder 61 5 B b bs w) (hlen : bs.length + 1 <= 140737488355328) (hBw : B <= w.heap.size) :
  Calls Tryd.prog 39 #[.pointer (some ⟨b, 0, none⟩), .int .u8 c] w fun e w' => e = .returned .nilIface /\ (Lib.BuilderAt 61 5 B b (.pointer (some ⟨b, 0, none⟩)) (bs ++ [.int .u8 c]) w' /\ Below B w w') := by
 obtain ⟨i0, hi, hz0, hz1, hz2⟩ := info_parts C5.infoByte
 go_enter Tryd.func39, Tryd.ntmps39
 go_wp2_with fail
 refine (Z3 B b bs _ h).mono ?_
 rintro e w1 ⟨rfl, h1, hb1⟩
 obtain ⟨hB, v, hbk, hown, hne⟩ := h1
 have c0 : w1.cell? ⟨b, 0, none⟩ = some (.pointer (some ⟨b, 0, none⟩)) := by rw [Lib.cell_of_heap hbk]; rfl
 have c1 : w1.cell? ⟨b, 1, none⟩ = some v := by rw [Lib.cell_of_heap hbk]; rfl
 go_wp2_with (at_builtin; refine wpList_append_own _ rfl _ _ 34 rfl B 5 i0 (.int .u8 0) 1 1 Tryd.underlying34 hi hz0 hz1 hz2 rfl (by decide) _ _ _ rfl (hown.alloc _) ⟨w1.heap.size, 0, none⟩ 1 1 [.int .u8 c] rfl rfl ?c1 ?c2 ?c3 ?c4 ?c5 ?_)
 case c1 =>
  intro j u hj
  match j, hj with
  | 0, hj => simp at hj; subst hj; simp [Addr.add]
 case c2 => intro u hu; simp at hu; subst hu; rfl
 case c3 => unfold maxLen; omega
 case c4 => omega
 case c5 => have := hb1.size; simp; omega
 intro v' w2 hown' hgrow _
 have hlt : b < w1.heap.size := by
  rcases bn0 b w1.heap.size with h' | h'
  ·exact h'
  simp [Array.getElem?_eq_none h'] at hbk
 have hb2 : w2.heap[b]? = some (.cells #[.pointer (some ⟨b, 0, none⟩), v] 61 (0, 0)) := by
  rw [hgrow.block b (by simp; omega) (fun e => hne e.symm), Lib.alloc_old w1 _ b hlt]
  exact hbk
 have d0 : w2.cell? ⟨b, 0, none⟩ = some (.pointer (some ⟨b, 0, none⟩)) := by rw [Lib.cell_of_heap hb2]; rfl
 have d1 : w2.cell? ⟨b, 1, none⟩ = some v := by rw [Lib.cell_of_heap hb2]; rfl
 have f1 : w2.frozen? ⟨b, 1, none⟩ = false := Lib.frozen_of_heap hb2 1
 obtain ⟨g, cap, rfl⟩ : ∃ g cap, v' = .slice (some ⟨g, 0, none⟩) (bs.length + 1) cap := by
  rcases hown'.2 with ⟨_, h0⟩ | ⟨g, cap, cur, hv, _⟩
  ·omega
  exact ⟨g, cap, hv⟩
 go_wp2_with fail
 go_ret
 refine ⟨rfl, ?_, ?_⟩
 ·exact Lib.BuilderAt.put (T := 61) (e := 5) hB hb2 (bs' := bs ++ [.int .u8 c]) (by simpa using hown') (by decide)
 exact ((hb1.alloc (by have := hb1.size; omega) _).grown hgrow (by have := hb1.size; simp; omega) (fun k hk => (hown.lt k hk).1)).setCell (p := ⟨b, 1, none⟩) hB _
end Go.Proofs.YtcahndjigkledaaDoor

namespace Go.Proofs.YtcahndjigkledaaDoor
open Go Go.RowKit Go.ChangeShapes Go.WideShapes Go.Deep
section
variable {H : Type} {enc : TypeId × Value -> H} {W : World}
theorem al1 {fuel : Nat} {t : TypeId} {v : Value} {x : DataW H × List MemPlace} (ht : Tryd.prog.underlying t = some (.slice 5))
  (h : DataW.trod enc Tryd.prog W 0 (fun _ => true) true fuel t [v] = some x) : ∃ l : List UInt8, L0 W v l.length 1 (l.map fun b => Value.int .u8 (b.toNat : Int)) := by
 obtain ⟨n, m, C, hr, hC, hx⟩ := au2 ht (sz := 1) (by kernel_rfl) (by omega) h
 obtain ⟨g, hg⟩ := choose_lt (α := UInt8) (n := n) (p := fun i b => C i = [.int .u8 (b.toNat : Int)]) (fun i hi => by
  obtain ⟨y, hy⟩ := hx i hi
  obtain ⟨z, hz, _, hw⟩ := DataW.trod_int Tryd.underlying5 hy
  simp only [Lit.wf, bk0, decide_eq_true_eq] at hw
  have h0 : (0 : Int) <= z := hw.1
  have h1 : z <= 255 := hw.2
  refine ⟨UInt8.ofNat z.toNat, ?_⟩
  rw [hz]
  have e : (UInt8.ofNat z.toNat).toNat = z.toNat := by
   rw [UInt8.toNat_ofNat']; omega
  rw [e, Int.toNat_of_nonneg h0])
 refine ⟨(bm3 n).map g, ?_⟩
 rw [List.length_map, List.length_range, <- ah8 n C (fun b => Value.int .u8 (b.toNat : Int)) g hg]
 exact hr
end
end Go.Proofs.YtcahndjigkledaaDoor

namespace Go.Proofs.YtcahndjigkledaaDoor
open Go Go.RowKit
theorem aT1 {W : World} (h : laidMetH Tryd.prog [("math/bits.deBruijn32tab", Rows.laid_math_bits_deBruijn32tab), ("math/bits.deBruijn64tab", Rows.laid_math_bits_deBruijn64tab), ("internal/strconv.uint64pow10", Rows.laid_internal_strconv_uint64pow10)] W) : aM3 (fun _ => True) W := by
 have h1 := h.filter fun x => x.1 == "internal/strconv.uint64pow10"
 have h2 : laidMetH Tryd.prog [("internal/strconv.uint64pow10", Lib.tabData .u64 Lib.pow10Tab)] W := h1
 rw [MakeChecks.laidMetH_plain _ _ _ (by kernel_rfl)] at h2
 have h3 := Lib.tabIs_of_head (t := 125) (e := 119) (n := 20) (show Tryd.prog.globalNamed "internal/strconv.uint64pow10" = some 0 by kernel_rfl) (by kernel_rfl) Tryd.underlying125 Tryd.underlying119 (by kernel_rfl) (by kernel_rfl) h2
 exact fun w' hk => Lib.tabBelow_of_tabIs h3 w' (hk.below fun _ _ => trivial)
end Go.Proofs.YtcahndjigkledaaDoor
