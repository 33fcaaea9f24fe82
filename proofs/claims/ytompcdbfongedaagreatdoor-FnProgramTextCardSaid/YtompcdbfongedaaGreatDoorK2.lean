/- Part 2: functions on the way, plain laws. Conditions: as said. -/
import Derived.Test.YtompcdbfongedaaGreatDoorRows
import Derived.OpenShut
import Derived.ChangeOld
import Derived.Deep.Slices
import Derived.Lib.SmallJoins
import Derived.Lib.ItoaNum
import Derived.Laws.DeepStrings4
import Derived.Laws.IdiomStrings
import Derived.Deep.RegionHeld3
import Derived.BigQuiet
import Derived.Deep.QuietTactic
import Derived.Shelf.Strconv.Itoa3
import Derived.Lib.AppendIntMem
import Derived.Shelf.Strings.Builder1
import Derived.Lib.LaidTab
import Derived.LaidSub
import Derived.LaidMore
import Derived.Lay
import Derived.Test.YtompcdbfongedaaGreatDoorK1
set_option maxRecDepth 100000
set_option maxHeartbeats 16000000
set_option linter.unusedVariables false
set_option linter.unusedSimpArgs false
open Bool renaming and_eq_true → b57
open List renaming append_assoc → b83, getD_eq_getElem?_getD → b59, getElem?_append_left → b95, getElem?_cons_succ → b81, getElem?_cons_zero → b74, getElem?_eq_getElem → b56, getElem?_eq_some_iff → b66, getElem?_map → b78, getElem_mem → b64, length_append → b69, length_cons → b58, length_nil → b60, mem_of_getElem? → b79, range → b82, replicate → b77
open Nat renaming le_refl → b71, le_trans → b54, lt_or_ge → b86, mul_le_mul_right → b96, pow_le_pow_right → b91, succ_mul → b90
open Option renaming getD_some → b93, map_eq_some_iff → b61, map_some → b85

namespace Go.Proofs.YtompcdbfongedaaGreatDoor
open Go Go.RowKit Go.ChangeShapes Go.WideShapes Go.Deep
theorem own : ownKnob Tryz.prog.godebug = none := by kernel_rfl
theorem a92 : laidOutB Tryz.prog = true := by kernel_rfl
section
variable {H : Type} {enc : TypeId × Value -> H} {W : World}
theorem bq8 {C : Nat -> List Value} {sz : Nat} (hC : ∀ i, (C i).length = sz) : ∀ (n i j : Nat), i < n -> j < sz -> ((b82 n).flatMap C)[i * sz + j]? = (C i)[j]? := by
 intro n
 induction n with
 | zero => intro i j h; omega
 | succ n ih =>
  intro i j h hj
  have hlen : ((b82 n).flatMap C).length = n * sz := by
   clear ih h
   induction n with
   | zero => simp
   | succ n ih2 => rw [List.range_succ, List.flatMap_append, b69, ih2]; simp [hC, b90]
  rw [List.range_succ, List.flatMap_append]
  by_cases hin : i < n
  ·rw [b95 (by rw [hlen]; have := b96 sz (Nat.succ_le_of_lt hin); rw [b90] at this; omega)]
   exact ih i j hin hj
  obtain rfl : i = n := by omega
  rw [List.getElem?_append_right (by omega), hlen]
  simp
theorem aT4 {C : Nat -> List Value} {sz : Nat} (hC : ∀ i, (C i).length = sz) (n : Nat) : ((b82 n).flatMap C).length = n * sz := by
 induction n with
 | zero => simp
 | succ n ih2 => rw [List.range_succ, List.flatMap_append, b69, ih2]; simp [hC, b90]
theorem aQ4 {t e : TypeId} {fuel : Nat} {v : Value} {x : DataW H × List MemPlace} {sz : Nat} (ht : Tryz.prog.underlying t = some (.slice e)) (hc : Tryz.prog.cellsOf e = sz) (hsz : 0 < sz)
  (h : DataW.trod enc Tryz.prog W 0 (fun _ => true) true fuel t [v] = some x) :
  ∃ (n m : Nat) (C : Nat -> List Value), V0 W v n sz ((b82 n).flatMap C) /\ (∀ i, (C i).length = sz) /\ ∀ i, i < n -> ∃ y, DataW.trod enc Tryz.prog W 0 (fun _ => true) true m e (C i) = some y := by
 rcases open_slice ht h with ⟨hcs, _⟩ | ⟨a, len, cap, m, k, D, Pl, hcs, _, hl, hm, hmm, _, hx⟩
 ·cases hcs
  exact ⟨0, 0, fun _ => b77 sz undef, V0.nil _ _, by simp, fun i hi => by omega⟩
 cases hcs
 rw [hc] at hx
 have hmc : len <= m := by rw [hmm]; simp; omega
 obtain ⟨C, hC⟩ := choose_lt (α := List Value) (n := len) (p := fun i cs => cs.length = sz /\ (∀ j, j < sz -> W.cell? (a.add (i * sz + j)) = cs[j]?) /\ ∃ y, DataW.trod enc Tryz.prog W 0 (fun _ => true) true k e cs = some y) (fun i hi => by
  obtain ⟨cs', h1, h2⟩ := hx i (by omega)
  obtain ⟨_, hlen, hcell⟩ := World.cells?_some h1
  exact ⟨cs', hlen, fun j hj => by rw [<- add_add]; exact hcell j hj, _, h2⟩)
 let C' : Nat -> List Value := fun i => if i < len then C i else b77 sz undef
 have hC' : ∀ i, (C' i).length = sz := fun i => by
  by_cases hi : i < len
  ·simp only [C', if_pos hi]; exact (hC i hi).1
  simp [C', if_neg hi]
 refine ⟨len, k, C', ⟨aT4 hC' len, some a, cap, rfl, hl, hm, fun hn => ?_⟩, hC', fun i hi => ?_⟩
 ·obtain ⟨b, off, spot⟩ := a
  have h00 := (hC 0 hn).2.1 0 hsz
  have hlen0 := (hC 0 hn).1
  rw [b56 (by omega)] at h00
  have hs : spot = none := by
   simpa [Addr.add] using World.cell?_spot h00
  subst hs
  have hb : b < W.heap.size := by simpa [Addr.add] using World.block_lt_of_cell? W _ h00
  refine ⟨b, off, rfl, hb, fun j u hj => ?_⟩
  have hjl : j < len * sz := by have := (b66.1 hj).1; rw [aT4 hC'] at this; exact this
  have hi : j / sz < len := Nat.div_lt_of_lt_mul (by rw [Nat.mul_comm]; exact hjl)
  have hr : j % sz < sz := Nat.mod_lt _ hsz
  have hjj : j / sz * sz + j % sz = j := Nat.div_add_mod' j sz
  have hg := bq8 hC' len (j / sz) (j % sz) hi hr
  rw [hjj, hj] at hg
  have hcc := (hC _ hi).2.1 _ hr
  simp only [C', if_pos hi] at hg
  rw [hjj, <- hg] at hcc
  have hadd : (⟨b, off, none⟩ : Addr).add j = ⟨b, off + j, none⟩ := by unfold Addr.add; split <;> simp_all
  rw [hadd] at hcc
  exact hcc
 obtain ⟨y, hy⟩ := (hC i hi).2.2
 exact ⟨y, by simp only [C', if_pos hi]; exact hy⟩
theorem ay0 {α : Type} (n : Nat) (C : Nat -> List Value) (f : α -> Value) (g : Nat -> α) (h : ∀ i, i < n -> C i = [f (g i)]) : (b82 n).flatMap C = ((b82 n).map g).map f := by
 rw [List.map_map, List.flatMap_def]
 rw [List.map_congr_left (g := fun i => [f (g i)]) (fun i hi => h i (by simpa using hi))]
 induction n with
 | zero => simp
 | succ n ih =>
  rw [List.range_succ, List.map_append, List.flatten_append, List.map_append, ih (fun i hi => h i (by omega))]
  simp
end
end Go.Proofs.YtompcdbfongedaaGreatDoor

namespace Go.Proofs.YtompcdbfongedaaGreatDoor
open Go
def s3 (k : Int) : UInt8 := [43, 45, 42, 38, 94, 61, 60].getD (k - 4).toNat 0
def as0 (k n : Int) (ts : List (List UInt8)) : List UInt8 :=
 if k = 1 then Lib.decDigits n.toNat else if k = 2 then [UInt8.ofNat (97 + n.toNat)] else if k = 3 then [UInt8.ofNat (80 + n.toNat)] ++ [91] ++ ts.getD 0 [] ++ [93]
 else if k = 11 then [40] ++ ts.getD 0 [] ++ [63] ++ ts.getD 1 [] ++ [58] ++ ts.getD 2 [] ++ [41] else [40] ++ ts.getD 0 [] ++ [s3 k] ++ ts.getD 1 [] ++ [41]
mutual
def c8 : b7 -> List UInt8
 | ⟨k, n, ks⟩ => as0 k n (a56 ks)
def a56 : List b7 -> List (List UInt8)
 | [] => []
 | e :: r => c8 e :: a56 r
end
theorem aE5 : ∀ ks : List b7, a56 ks = ks.map c8
 | [] => rfl
 | e :: r => by rw [a56, aE5 r]; rfl
theorem W2 (e : b7) : c8 e = as0 e.kind e.value (e.kids.map c8) := by
 cases e
 rw [c8, aE5]
 rfl
theorem ae5 {n : Nat} (h : n < 1000) : (Lib.decDigits n).length <= 3 := by
 rw [Lib.decDigits]
 split
 ·simp
 rw [Lib.decDigits]
 split
 ·simp
 rw [Lib.decDigits, dif_pos (by omega)]
 simp
theorem m0 (nv na : Nat) : ∀ (d : Nat) (e : b7), j6 nv na d e = true -> (c8 e).length <= 8 * 4 ^ d
 | 0, e, h => by simp [j6] at h
 | d + 1, e, h => by
  have hk := (J1 h).2
  have ih : ∀ i, ((e.kids.map c8).getD i []).length <= 8 * 4 ^ d := by
   intro i
   rw [b59, b78]
   cases hi : e.kids[i]? with
   | none => simp
   | some x => exact m0 nv na d x (hk x (b79 hi))
  have h0 := ih 0
  have h1 := ih 1
  have h2 := ih 2
  have hv : e.kind = 1 -> e.value < 256 := by
   intro h1
   have hn : B4 nv na e = true := by
    unfold j6 at h
    simp only [b57] at h
    exact h.1.1
   have := (I8 hn).2.2
   rw [h1] at this
   simpa [y6] using this
  rw [W2]
  unfold as0
  have hp : 1 <= 4 ^ d := Nat.one_le_pow _ _ (by omega)
  have hq : 4 ^ (d + 1) = 4 * 4 ^ d := by rw [Nat.pow_succ]; omega
  repeat' split
  ·rename_i hk1
   have := hv hk1
   have := ae5 (n := e.value.toNat) (by omega)
   omega
  all_goals
   simp only [b69, b58, b60]
   omega
end Go.Proofs.YtompcdbfongedaaGreatDoor

namespace Go.Proofs.YtompcdbfongedaaGreatDoor
open Go Go.RowKit
theorem i8 (l m : List UInt8) : (⟨l.toArray⟩ : ByteArray) ++ ⟨m.toArray⟩ = ⟨(l ++ m).toArray⟩ := by
 apply ByteArray.ext; simp
theorem al7 (w : World) (z : Int) (x : Nat) (hz : z = (x : Int)) (hx : x < 256) :
  (convert 31 9 (.slice (some ⟨w.heap.size, 0, none⟩) 1 1)).run Tryz.prog (w.alloc (.cells #[.int .u8 z] 5)) = .ok (.string ⟨#[UInt8.ofNat x]⟩) (w.alloc (.cells #[.int .u8 z] 5)) := by
 refine run_convert_bytes_back _ _ _ 5 ⟨w.heap.size, 0, none⟩ 1 [UInt8.ofNat x] Tryz.underlying31 Tryz.underlying5 Tryz.underlying9 fun j hj => ?_
 have h0 : j = 0 := by simp at hj; omega
 subst h0
 rw [hz]
 simp [Addr.add, Nat.mod_eq_of_lt hx]
theorem br9 {n : Nat} (h : 9 < n) : Lib.decDigits n = Lib.decDigits (n / 10) ++ [UInt8.ofNat (48 + n % 10)] := by
 conv => lhs; rw [Lib.decDigits]
 rw [dif_neg (by omega)]
theorem ar6 (n : Nat) (hn : n < 1000000) (w : World) :
  Calls Tryz.prog 60 #[.int .i64 n] w fun e w' => e = .returned (.string ⟨(Lib.decDigits n).toArray⟩) /\ Below w.heap.size w w' := by
 go_enter Tryz.func60, Tryz.ntmps60
 go_wp2_with fail
 go_loopw [0, 3] (fun i s wr => ∃ (k : Nat) (t : List UInt8), k <= n /\ t.length + k <= 10 + n /\ i = .int .i64 k /\ s = .string ⟨t.toArray⟩ /\ Lib.decDigits n = Lib.decDigits k ++ t /\ Below w.heap.size w wr) (fun i _ _ => (intOf i).toNat)
 case atStart => exact ⟨n, [], b71 _, by simp, rfl, rfl, by simp, Below.refl _ _⟩
 case round =>
  obtain ⟨k, t, hk, ht, rfl, rfl, hd, hb⟩ := hrel
  have HD := show Hid _ from hd
  obtain ⟨q, hq⟩ : ∃ q : ByteArray, q = ⟨t.toArray⟩ := ⟨_, rfl⟩
  have hqs : q.size = t.length := by rw [hq]; rfl
  rw [<- hq]
  have HQ := show Hid _ from hq
  have k0 : (0 : Int) <= (k : Int) := Int.natCast_nonneg _
  clear hd hq
  have sb := hb.size
  by_cases h9 : 9 < k
  ·have hconv := al7 wr (48 + (k : Int) % 10) (48 + k % 10) (by omega) (by omega)
   obtain ⟨c, hc⟩ : ∃ c : UInt8, c = UInt8.ofNat (48 + k % 10) := ⟨_, rfl⟩
   rw [<- hc] at hconv
   have HC := show Hid _ from hc
   clear hc
   go_wp2_with fail
   refine ⟨⟨k / 10, c :: t, by omega, by simp; omega, ?_, ?_, ?_, hb.alloc sb _⟩, by simp [intOf]; omega⟩
   ·rw [show ((k / 10 : Nat) : Int) = (k : Int) / 10 from by omega]
   ·rw [HQ.out]
    exact congrArg Value.string (i8 [c] t)
   rw [HD.out, br9 h9, <- HC.out, b83]
   rfl
  have hconv := al7 wr (48 + (k : Int)) (48 + k) (by omega) (by omega)
  obtain ⟨c, hc⟩ : ∃ c : UInt8, c = UInt8.ofNat (48 + k) := ⟨_, rfl⟩
  rw [<- hc] at hconv
  have HC := show Hid _ from hc
  clear hc
  go_wp2_with fail
  go_ret
  refine ⟨?_, hb.alloc sb _⟩
  rw [HD.out, Lib.decDigits, dif_pos (by omega), <- HC.out]
  show Ending.returned (.string (⟨#[c]⟩ ++ q)) = _
  rw [HQ.out]
  exact congrArg (fun x => Ending.returned (Value.string x)) (i8 [c] t)
theorem aw6 (v : Nat) (hv : v < 12) (w : World) :
  Calls Tryz.prog 58 #[.int .i64 v] w fun e w' => e = .returned (.string ⟨#[UInt8.ofNat (97 + v)]⟩) /\ Below w.heap.size w w' := by
 have : v = 0 \/ v = 1 \/ v = 2 \/ v = 3 \/ v = 4 \/ v = 5 \/ v = 6 \/ v = 7 \/ v = 8 \/ v = 9 \/ v = 10 \/ v = 11 := by omega
 rcases this with rfl | rfl | rfl | rfl | rfl | rfl | rfl | rfl | rfl | rfl | rfl | rfl
 all_goals
  go_enter Tryz.func58, Tryz.ntmps58
  go_wp2_with fail
  go_ret
  exact ⟨rfl, Below.refl _ _⟩
theorem a30 {B : Nat} {w w1 w2 : World} (k : Below w1.heap.size w1 w2) (h : Below B w w1) (hB : B <= w.heap.size) : Below B w w2 :=
 h.trans (k.mono (b54 hB h.size))
theorem bO0 {w : World} {b : Nat} {x y z : Value} (L : T9 w b [x, y, z]) : ∀ W', Below w.heap.size w W' -> W'.cell? ⟨b, 0, none⟩ = some x /\ W'.cell? ⟨b, 1, none⟩ = some y /\ W'.cell? ⟨b, 2, none⟩ = some z := by
 intro W' hb
 have L' := L.below hb L.lt
 exact ⟨by simpa using L'.cell 0, by simpa using L'.cell 1, by simpa using L'.cell 2⟩
theorem a57 {nv na d : Nat} {e : b7} (h : j6 nv na (d + 1) e = true) : B4 nv na e = true /\ ∀ x ∈ e.kids, j6 nv na d x = true := by
 refine ⟨?_, (J1 h).2⟩
 unfold j6 at h
 simp only [b57] at h
 exact h.1.1
theorem aP4 (nv na : Nat) (hnv : nv <= 12) (hna : na <= 2) : ∀ d : Nat, d <= 5 -> ∀ (e : b7) (φ : Nat -> Prop) (v : Value) (w : World), x3 w φ v e -> j6 nv na d e = true ->
  Calls Tryz.prog 59 #[v] w fun x w' => x = .returned (.string ⟨(c8 e).toArray⟩) /\ Below w.heap.size w w' := by
 intro d
 induction d with
 | zero => intro _ e φ v w _ hs; simp [j6] at hs
 | succ d ih =>
  intro hd5 e φ v w h hs
  obtain ⟨kv, rfl, hk⟩ := h
  obtain ⟨ak, ck, rfl, -, -, -, hc⟩ := hk.open
  obtain ⟨hn, hsk⟩ := a57 hs
  obtain ⟨hl, hv0, hvl⟩ := I8 hn
  have HT := show Hid _ from W2 e
  obtain ⟨n, hn'⟩ : ∃ n : Nat, e.value = n := ⟨e.value.toNat, by omega⟩
  rw [hn'] at hvl HT ⊢
  obtain ⟨K, hK⟩ : ∃ K, K = e.kind := ⟨_, rfl⟩
  rw [<- hK] at hvl hl HT ⊢
  clear hn hs hv0 hn' hK hk
  have hK : K = 1 \/ K = 2 \/ K = 3 \/ (4 <= K /\ K <= 10) \/ K = 11 := by
   unfold j9 at hl
   split at hl
   ·omega
   split at hl
   ·omega
   split at hl
   ·omega
   split at hl <;> omega
  obtain ⟨W, hW⟩ : ∃ W, W = w.alloc (.cells #[.int .i64 K, .int .i64 n, .slice ak e.kids.length ck] 67) := ⟨_, rfl⟩
  have B0 : Below w.heap.size w W := by rw [hW]; go_grown
  have L := T9.new w [.int .i64 K, .int .i64 n, .slice ak e.kids.length ck] 67
  have sW : W.heap.size = w.heap.size + 1 := by rw [hW]; simp
  rw [show w.alloc (.cells [.int .i64 K, .int .i64 n, .slice ak e.kids.length ck].toArray 67) = W from hW.symm] at L
  have s0 := B0.size
  have HB0 := show Hid _ from B0
  rcases hK with rfl | rfl | rfl | hK | rfl
  ·have hn : n < 256 := by simp [y6] at hvl; omega
   have HT1 : Hid (c8 e = Lib.decDigits n) := HT.out
   have x0 := L.cell 0
   have x1 := L.cell 1
   simp only [b74, b81] at x0 x1
   clear hc hl hvl hsk HT
   go_enter Tryz.func59, Tryz.ntmps59
   go_wp2_with fail
   rw [<- hW]
   clear hW
   go_wp2_with fail
   refine (ar6 n (by omega) _).mono ?_
   rintro x w2 ⟨rfl, b2⟩
   go_wp2_with fail
   go_ret
   rw [HT1.out]
   exact ⟨rfl, HB0.out.trans (b2.mono s0)⟩
  ·have hn : n < 12 := by simp [y6] at hvl; omega
   have HT1 : Hid (c8 e = [UInt8.ofNat (97 + n)]) := HT.out
   have x0 := L.cell 0
   have x1 := L.cell 1
   simp only [b74, b81] at x0 x1
   clear hc hl hvl hsk HT
   go_enter Tryz.func59, Tryz.ntmps59
   go_wp2_with fail
   rw [<- hW]
   clear hW
   go_wp2_with fail
   refine (aw6 n hn _).mono ?_
   rintro x w2 ⟨rfl, b2⟩
   go_wp2_with fail
   go_ret
   rw [HT1.out]
   refine ⟨?_, HB0.out.trans (b2.mono s0)⟩
   rw [UInt8.ofNat_add]
   rfl
  ·have hl1 : e.kids.length = 1 := by simp [j9] at hl; omega
   have hpos : 0 < e.kids.length := by omega
   have hn : n < 2 := by simp [y6] at hvl; omega
   obtain ⟨b, off, kv, rfl, hbk, hf, c0, c1, c2, hkv⟩ := hc 0 (by omega)
   rw [<- (x9 B0).1 _ _ hbk] at c0 c1 c2
   have HE : Hid (∀ W', Below W.heap.size W W' -> x3 W' φ (.agg #[.int .i64 e.kids[0].kind, .int .i64 e.kids[0].value, kv]) e.kids[0]) := fun W' hb => ⟨kv, rfl, l8.nice _ _ _ _ _ _ (I5.below (B0.trans (hb.mono s0))) hkv⟩
   have HS := show Hid _ from hsk _ (b64 hpos)
   have HT1 : Hid (c8 e = (([UInt8.ofNat (80 + n)] ++ [(91 : UInt8)] ++ c8 e.kids[0] ++ [(93 : UInt8)] : List UInt8))) := by
    have h := HT.out
    rw [h]
    show ([UInt8.ofNat (80 + n)] ++ [(91 : UInt8)] ++ (e.kids.map c8).getD 0 [] ++ [(93 : UInt8)] : List UInt8) = _
    rw [b59, b78, b56 (by omega)]
    rfl
   have hlen := m0 nv na d _ HS.out
   have h4 : 8 * 4 ^ d <= 8192 := by
    have := b91 (show 0 < 4 by omega) (show d <= 5 by omega)
    omega
   have ihk := fun W' hb => ih (by omega) e.kids[0] φ _ W' (HE.out W' hb) HS.out
   obtain ⟨q, hq⟩ : ∃ q : ByteArray, q = ⟨(c8 e.kids[0]).toArray⟩ := ⟨_, rfl⟩
   have hqs : q.size <= 8192 := by rw [hq]; exact b54 hlen h4
   rw [<- hq] at ihk
   have HQ := show Hid _ from hq
   have HI := show Hid _ from ihk
   have hS : ∀ W', Below W.heap.size W W' -> Below W.heap.size W W' /\ (W'.cell? ⟨w.heap.size, 0, none⟩ = some (.int .i64 3) /\ W'.cell? ⟨w.heap.size, 1, none⟩ = some (.int .i64 n) /\ W'.cell? ⟨w.heap.size, 2, none⟩ = some (.slice (some ⟨b, off, none⟩) e.kids.length ck)) /\
     (W'.cell? ⟨b, off, none⟩ = some (.int .i64 e.kids[0].kind) /\ W'.cell? ⟨b, off + 1, none⟩ = some (.int .i64 e.kids[0].value) /\ W'.cell? ⟨b, off + 2, none⟩ = some kv) := by
    intro W' hb
    refine ⟨hb, bO0 L W' hb, ?_, ?_, ?_⟩
    ·rw [(x9 hb).1 _ _ (by omega)]; simpa using c0
    ·rw [(x9 hb).1 _ _ (by omega)]; simpa using c1
    rw [(x9 hb).1 _ _ (by omega)]; simpa using c2
   have HSS := show Hid _ from hS
   have x0 := L.cell 0
   simp only [b74] at x0
   have hb0 := (Below.refl W.heap.size W).drew
   clear hc hl hvl hsk HT c0 c1 c2 hkv HE hlen h4 ihk hq hS
   have hposI : (0 : Int) < (e.kids.length : Int) := by omega
   have hnI : (n : Int) + 1 <= 2 := by omega
   have hnJ : (n : Int) <= n + 1 := by omega
   have hnK : (0 : Int) <= n := by omega
   have hnL : (0 : Int) <= (n : Int) + 1 := by omega
   have hnM : n <= 1 := by omega
   have hnN : (n : Int) <= 1 := by omega
   have hnO : n + 1 <= 2 := by omega
   have hnP : (0 : Int) <= (n : Int) + 1 /\ (n : Int) + 1 <= ((⟨#[80, 81]⟩ : ByteArray).size : Int) := ⟨by omega, by show (n : Int) + 1 <= 2; omega⟩
   have hnW : IntKind.i64.wrap ((n : Int) + 1) = (n : Int) + 1 := by
    have h01 : n = 0 \/ n = 1 := by omega
    rcases h01 with rfl | rfl <;> rfl
   have hq1 : ¬ 9223372036854775807 < 2 + q.size := by omega
   have hq2 : ¬ 9223372036854775807 < 2 + q.size + 1 := by omega
   have hnQ : (0 : Int) <= (n : Int) /\ (n : Int) <= (n : Int) + 1 := ⟨by omega, by omega⟩
   clear hl1
   go_enter Tryz.func59, Tryz.ntmps59
   go_wp2_with fail
   rw [<- hW]
   clear hW
   go_wp2_with fail
   go_region_held3 (fun W' => Below W.heap.size W W' /\ (W'.cell? ⟨w.heap.size, 0, none⟩ = some (.int .i64 3) /\ W'.cell? ⟨w.heap.size, 1, none⟩ = some (.int .i64 n) /\ W'.cell? ⟨w.heap.size, 2, none⟩ = some (.slice (some ⟨b, off, none⟩) e.kids.length ck)) /\
     (W'.cell? ⟨b, off, none⟩ = some (.int .i64 e.kids[0].kind) /\ W'.cell? ⟨b, off + 1, none⟩ = some (.int .i64 e.kids[0].value) /\ W'.cell? ⟨b, off + 2, none⟩ = some kv))
    (exact HSS.out _ (by assumption))
    ((go_at_call 59; refine (HI.out _ (by assumption)).mono ?_; rintro x w8 ⟨rfl, b8⟩; have q8 := a30 b8 hb0 (b71 _)))
   all_goals
    go_wp2_with fail
    go_ret
    refine ⟨?_, HB0.out.trans (q8.mono s0)⟩
    have hx : (⟨#[80, 81]⟩ : ByteArray).extract n (n + 1) = ⟨[UInt8.ofNat (80 + n)].toArray⟩ := by
     have h01 : n = 0 \/ n = 1 := by omega
     rcases h01 with rfl | rfl <;> rfl
    rw [HT1.out]
    show Ending.returned (.string ((⟨#[80, 81]⟩ : ByteArray).extract n (n + 1) ++ ⟨[91].toArray⟩ ++ q ++ ⟨[93].toArray⟩)) = _
    rw [hx, HQ.out, i8, i8, i8]
  ·have hKK : K = 4 \/ K = 5 \/ K = 6 \/ K = 7 \/ K = 8 \/ K = 9 \/ K = 10 := by omega
   clear hK
   rcases hKK with rfl | rfl | rfl | rfl | rfl | rfl | rfl
   ·have hlm : e.kids.length = 2 := by simp [j9] at hl; omega
    have hp0 : 0 < e.kids.length := by omega
    have hp1 : 1 < e.kids.length := by omega
    obtain ⟨b, off, k0, rfl, hbk, hf, c00, c01, c02, hk0⟩ := hc 0 hp0
    obtain ⟨b1, o1, k1, he1, -, -, c10, c11, c12, hk1⟩ := hc 1 hp1
    cases he1
    rw [<- (x9 B0).1 _ _ hbk] at c00 c01 c02
    have HE0 : ∀ W', Below W.heap.size W W' -> x3 W' φ (.agg #[.int .i64 e.kids[0].kind, .int .i64 e.kids[0].value, k0]) e.kids[0] := fun W' hb => ⟨k0, rfl, l8.nice _ _ _ _ _ _ (I5.below (B0.trans (hb.mono s0))) hk0⟩
    have HH0 := hsk _ (b64 hp0)
    have ln0 := m0 nv na d _ HH0
    have ix0 := fun W' hb => ih (by omega) e.kids[0] φ _ W' (HE0 W' hb) HH0
    obtain ⟨q0, hq0⟩ : ∃ q : ByteArray, q = ⟨(c8 e.kids[0]).toArray⟩ := ⟨_, rfl⟩
    rw [<- (x9 B0).1 _ _ hbk] at c10 c11 c12
    have HE1 : ∀ W', Below W.heap.size W W' -> x3 W' φ (.agg #[.int .i64 e.kids[1].kind, .int .i64 e.kids[1].value, k1]) e.kids[1] := fun W' hb => ⟨k1, rfl, l8.nice _ _ _ _ _ _ (I5.below (B0.trans (hb.mono s0))) hk1⟩
    have HH1 := hsk _ (b64 hp1)
    have ln1 := m0 nv na d _ HH1
    have ix1 := fun W' hb => ih (by omega) e.kids[1] φ _ W' (HE1 W' hb) HH1
    obtain ⟨q1, hq1⟩ : ∃ q : ByteArray, q = ⟨(c8 e.kids[1]).toArray⟩ := ⟨_, rfl⟩
    have h4 : 8 * 4 ^ d <= 8192 := by
     have := b91 (show 0 < 4 by omega) (show d <= 5 by omega)
     omega
    have z0 : q0.size <= 8192 := by rw [hq0]; exact b54 ln0 h4
    rw [<- hq0] at ix0
    have HQ0 := show Hid _ from hq0
    have HI0 := show Hid _ from ix0
    have z1 : q1.size <= 8192 := by rw [hq1]; exact b54 ln1 h4
    rw [<- hq1] at ix1
    have HQ1 := show Hid _ from hq1
    have HI1 := show Hid _ from ix1
    have HT1 : Hid (c8 e = ([(40 : UInt8)] ++ c8 e.kids[0] ++ [s3 4] ++ c8 e.kids[1] ++ [(41 : UInt8)] : List UInt8)) := by
     have h := HT.out
     rw [h]
     show ([(40 : UInt8)] ++ (e.kids.map c8).getD 0 [] ++ [s3 4] ++ (e.kids.map c8).getD 1 [] ++ [(41 : UInt8)] : List UInt8) = _
     simp only [b59, b78, b56 hp0, b56 hp1, b85, b93]
    have x0 := L.cell 0
    have x1 := L.cell 1
    have x2 := L.cell 2
    simp only [b74, b81] at x0 x1 x2
    have y0 := fun X => b9 x0 X
    have y1 := fun X => b9 x1 X
    have y2 := fun X => b9 x2 X
    have u00 : ∀ X, (W.ext X).cell? ⟨b, off, none⟩ = some (.int .i64 e.kids[0].kind) := fun X => b9 (by simpa using c00) X
    have u01 : ∀ X, (W.ext X).cell? ⟨b, off + 1, none⟩ = some (.int .i64 e.kids[0].value) := fun X => b9 (by simpa using c01) X
    have u02 : ∀ X, (W.ext X).cell? ⟨b, off + 2, none⟩ = some (k0) := fun X => b9 (by simpa using c02) X
    have HC0 := show Hid (∀ X, Calls Tryz.prog 59 #[.agg #[.int .i64 e.kids[0].kind, .int .i64 e.kids[0].value, k0]] (W.ext X) fun e w'' => e = .returned (.string q0) /\ ∃ Y, w'' = W.ext Y) from fun X => Calls.ext_of' (HI0.out _ (f8 W X))
    have u10 : ∀ X, (W.ext X).cell? ⟨b, off + 3, none⟩ = some (.int .i64 e.kids[1].kind) := fun X => b9 (by simpa using c10) X
    have u11 : ∀ X, (W.ext X).cell? ⟨b, off + 3 + 1, none⟩ = some (.int .i64 e.kids[1].value) := fun X => b9 (by simpa using c11) X
    have u12 : ∀ X, (W.ext X).cell? ⟨b, off + 3 + 2, none⟩ = some (k1) := fun X => b9 (by simpa using c12) X
    have HC1 := show Hid (∀ X, Calls Tryz.prog 59 #[.agg #[.int .i64 e.kids[1].kind, .int .i64 e.kids[1].value, k1]] (W.ext X) fun e w'' => e = .returned (.string q1) /\ ∃ Y, w'' = W.ext Y) from fun X => Calls.ext_of' (HI1.out _ (f8 W X))
    have hpi0 : (0 : Int) < (e.kids.length : Int) := by omega
    have hpi1 : (1 : Int) < (e.kids.length : Int) := by omega
    have hs1 : ¬ 9223372036854775807 < 1 + q0.size := by omega
    have hs2 : ¬ 9223372036854775807 < 1 + q0.size + 1 := by omega
    have hs3 : ¬ 9223372036854775807 < 1 + q0.size + 1 + q1.size := by omega
    have hs4 : ¬ 9223372036854775807 < 1 + q0.size + 1 + q1.size + 1 := by omega
    clear hc hl hvl hsk HT hlm h4 x1 x2 HE0 ln0 ix0 hq0 hk0 HE1 ln1 ix1 hq1 hk1 c00 c01 c02 c10 c11 c12
    go_enter Tryz.func59, Tryz.ntmps59
    go_wp2_with fail
    rw [<- hW]
    clear hW
    go_wp2_with fail
    refine l0 (by kernel_rfl) (by kernel_rfl) ?_
    repeat (any_goals (first | go_big_quiet_step ((go_at_call 59; first | with_reducible exact HC0.out _ | with_reducible exact HC1.out _)) | quiet_step ((go_at_call 59; first | with_reducible exact HC0.out _ | with_reducible exact HC1.out _))))
    refine wpQuiet_nil ?_
    rintro w' ⟨X, rfl⟩
    have hbX := f8 W X
    all_goals
     go_wp2_with fail
     go_ret
     refine ⟨?_, HB0.out.trans (hbX.mono s0)⟩
     rw [HT1.out]
     show Ending.returned (.string (⟨[40].toArray⟩ ++ q0 ++ ⟨[s3 4].toArray⟩ ++ q1 ++ ⟨[41].toArray⟩ : ByteArray)) = _
     rw [HQ0.out, HQ1.out, i8, i8, i8, i8]
   ·have hlm : e.kids.length = 2 := by simp [j9] at hl; omega
    have hp0 : 0 < e.kids.length := by omega
    have hp1 : 1 < e.kids.length := by omega
    obtain ⟨b, off, k0, rfl, hbk, hf, c00, c01, c02, hk0⟩ := hc 0 hp0
    obtain ⟨b1, o1, k1, he1, -, -, c10, c11, c12, hk1⟩ := hc 1 hp1
    cases he1
    rw [<- (x9 B0).1 _ _ hbk] at c00 c01 c02
    have HE0 : ∀ W', Below W.heap.size W W' -> x3 W' φ (.agg #[.int .i64 e.kids[0].kind, .int .i64 e.kids[0].value, k0]) e.kids[0] := fun W' hb => ⟨k0, rfl, l8.nice _ _ _ _ _ _ (I5.below (B0.trans (hb.mono s0))) hk0⟩
    have HH0 := hsk _ (b64 hp0)
    have ln0 := m0 nv na d _ HH0
    have ix0 := fun W' hb => ih (by omega) e.kids[0] φ _ W' (HE0 W' hb) HH0
    obtain ⟨q0, hq0⟩ : ∃ q : ByteArray, q = ⟨(c8 e.kids[0]).toArray⟩ := ⟨_, rfl⟩
    rw [<- (x9 B0).1 _ _ hbk] at c10 c11 c12
    have HE1 : ∀ W', Below W.heap.size W W' -> x3 W' φ (.agg #[.int .i64 e.kids[1].kind, .int .i64 e.kids[1].value, k1]) e.kids[1] := fun W' hb => ⟨k1, rfl, l8.nice _ _ _ _ _ _ (I5.below (B0.trans (hb.mono s0))) hk1⟩
    have HH1 := hsk _ (b64 hp1)
    have ln1 := m0 nv na d _ HH1
    have ix1 := fun W' hb => ih (by omega) e.kids[1] φ _ W' (HE1 W' hb) HH1
    obtain ⟨q1, hq1⟩ : ∃ q : ByteArray, q = ⟨(c8 e.kids[1]).toArray⟩ := ⟨_, rfl⟩
    have h4 : 8 * 4 ^ d <= 8192 := by
     have := b91 (show 0 < 4 by omega) (show d <= 5 by omega)
     omega
    have z0 : q0.size <= 8192 := by rw [hq0]; exact b54 ln0 h4
    rw [<- hq0] at ix0
    have HQ0 := show Hid _ from hq0
    have HI0 := show Hid _ from ix0
    have z1 : q1.size <= 8192 := by rw [hq1]; exact b54 ln1 h4
    rw [<- hq1] at ix1
    have HQ1 := show Hid _ from hq1
    have HI1 := show Hid _ from ix1
    have HT1 : Hid (c8 e = ([(40 : UInt8)] ++ c8 e.kids[0] ++ [s3 5] ++ c8 e.kids[1] ++ [(41 : UInt8)] : List UInt8)) := by
     have h := HT.out
     rw [h]
     show ([(40 : UInt8)] ++ (e.kids.map c8).getD 0 [] ++ [s3 5] ++ (e.kids.map c8).getD 1 [] ++ [(41 : UInt8)] : List UInt8) = _
     simp only [b59, b78, b56 hp0, b56 hp1, b85, b93]
    have x0 := L.cell 0
    have x1 := L.cell 1
    have x2 := L.cell 2
    simp only [b74, b81] at x0 x1 x2
    have y0 := fun X => b9 x0 X
    have y1 := fun X => b9 x1 X
    have y2 := fun X => b9 x2 X
    have u00 : ∀ X, (W.ext X).cell? ⟨b, off, none⟩ = some (.int .i64 e.kids[0].kind) := fun X => b9 (by simpa using c00) X
    have u01 : ∀ X, (W.ext X).cell? ⟨b, off + 1, none⟩ = some (.int .i64 e.kids[0].value) := fun X => b9 (by simpa using c01) X
    have u02 : ∀ X, (W.ext X).cell? ⟨b, off + 2, none⟩ = some (k0) := fun X => b9 (by simpa using c02) X
    have HC0 := show Hid (∀ X, Calls Tryz.prog 59 #[.agg #[.int .i64 e.kids[0].kind, .int .i64 e.kids[0].value, k0]] (W.ext X) fun e w'' => e = .returned (.string q0) /\ ∃ Y, w'' = W.ext Y) from fun X => Calls.ext_of' (HI0.out _ (f8 W X))
    have u10 : ∀ X, (W.ext X).cell? ⟨b, off + 3, none⟩ = some (.int .i64 e.kids[1].kind) := fun X => b9 (by simpa using c10) X
    have u11 : ∀ X, (W.ext X).cell? ⟨b, off + 3 + 1, none⟩ = some (.int .i64 e.kids[1].value) := fun X => b9 (by simpa using c11) X
    have u12 : ∀ X, (W.ext X).cell? ⟨b, off + 3 + 2, none⟩ = some (k1) := fun X => b9 (by simpa using c12) X
    have HC1 := show Hid (∀ X, Calls Tryz.prog 59 #[.agg #[.int .i64 e.kids[1].kind, .int .i64 e.kids[1].value, k1]] (W.ext X) fun e w'' => e = .returned (.string q1) /\ ∃ Y, w'' = W.ext Y) from fun X => Calls.ext_of' (HI1.out _ (f8 W X))
    have hpi0 : (0 : Int) < (e.kids.length : Int) := by omega
    have hpi1 : (1 : Int) < (e.kids.length : Int) := by omega
    have hs1 : ¬ 9223372036854775807 < 1 + q0.size := by omega
    have hs2 : ¬ 9223372036854775807 < 1 + q0.size + 1 := by omega
    have hs3 : ¬ 9223372036854775807 < 1 + q0.size + 1 + q1.size := by omega
    have hs4 : ¬ 9223372036854775807 < 1 + q0.size + 1 + q1.size + 1 := by omega
    clear hc hl hvl hsk HT hlm h4 x1 x2 HE0 ln0 ix0 hq0 hk0 HE1 ln1 ix1 hq1 hk1 c00 c01 c02 c10 c11 c12
    go_enter Tryz.func59, Tryz.ntmps59
    go_wp2_with fail
    rw [<- hW]
    clear hW
    go_wp2_with fail
    refine l0 (by kernel_rfl) (by kernel_rfl) ?_
    repeat (any_goals (first | go_big_quiet_step ((go_at_call 59; first | with_reducible exact HC0.out _ | with_reducible exact HC1.out _)) | quiet_step ((go_at_call 59; first | with_reducible exact HC0.out _ | with_reducible exact HC1.out _))))
    refine wpQuiet_nil ?_
    rintro w' ⟨X, rfl⟩
    have hbX := f8 W X
    all_goals
     go_wp2_with fail
     go_ret
     refine ⟨?_, HB0.out.trans (hbX.mono s0)⟩
     rw [HT1.out]
     show Ending.returned (.string (⟨[40].toArray⟩ ++ q0 ++ ⟨[s3 5].toArray⟩ ++ q1 ++ ⟨[41].toArray⟩ : ByteArray)) = _
     rw [HQ0.out, HQ1.out, i8, i8, i8, i8]
   ·have hlm : e.kids.length = 2 := by simp [j9] at hl; omega
    have hp0 : 0 < e.kids.length := by omega
    have hp1 : 1 < e.kids.length := by omega
    obtain ⟨b, off, k0, rfl, hbk, hf, c00, c01, c02, hk0⟩ := hc 0 hp0
    obtain ⟨b1, o1, k1, he1, -, -, c10, c11, c12, hk1⟩ := hc 1 hp1
    cases he1
    rw [<- (x9 B0).1 _ _ hbk] at c00 c01 c02
    have HE0 : ∀ W', Below W.heap.size W W' -> x3 W' φ (.agg #[.int .i64 e.kids[0].kind, .int .i64 e.kids[0].value, k0]) e.kids[0] := fun W' hb => ⟨k0, rfl, l8.nice _ _ _ _ _ _ (I5.below (B0.trans (hb.mono s0))) hk0⟩
    have HH0 := hsk _ (b64 hp0)
    have ln0 := m0 nv na d _ HH0
    have ix0 := fun W' hb => ih (by omega) e.kids[0] φ _ W' (HE0 W' hb) HH0
    obtain ⟨q0, hq0⟩ : ∃ q : ByteArray, q = ⟨(c8 e.kids[0]).toArray⟩ := ⟨_, rfl⟩
    rw [<- (x9 B0).1 _ _ hbk] at c10 c11 c12
    have HE1 : ∀ W', Below W.heap.size W W' -> x3 W' φ (.agg #[.int .i64 e.kids[1].kind, .int .i64 e.kids[1].value, k1]) e.kids[1] := fun W' hb => ⟨k1, rfl, l8.nice _ _ _ _ _ _ (I5.below (B0.trans (hb.mono s0))) hk1⟩
    have HH1 := hsk _ (b64 hp1)
    have ln1 := m0 nv na d _ HH1
    have ix1 := fun W' hb => ih (by omega) e.kids[1] φ _ W' (HE1 W' hb) HH1
    obtain ⟨q1, hq1⟩ : ∃ q : ByteArray, q = ⟨(c8 e.kids[1]).toArray⟩ := ⟨_, rfl⟩
    have h4 : 8 * 4 ^ d <= 8192 := by
     have := b91 (show 0 < 4 by omega) (show d <= 5 by omega)
     omega
    have z0 : q0.size <= 8192 := by rw [hq0]; exact b54 ln0 h4
    rw [<- hq0] at ix0
    have HQ0 := show Hid _ from hq0
    have HI0 := show Hid _ from ix0
    have z1 : q1.size <= 8192 := by rw [hq1]; exact b54 ln1 h4
    rw [<- hq1] at ix1
    have HQ1 := show Hid _ from hq1
    have HI1 := show Hid _ from ix1
    have HT1 : Hid (c8 e = ([(40 : UInt8)] ++ c8 e.kids[0] ++ [s3 6] ++ c8 e.kids[1] ++ [(41 : UInt8)] : List UInt8)) := by
     have h := HT.out
     rw [h]
     show ([(40 : UInt8)] ++ (e.kids.map c8).getD 0 [] ++ [s3 6] ++ (e.kids.map c8).getD 1 [] ++ [(41 : UInt8)] : List UInt8) = _
     simp only [b59, b78, b56 hp0, b56 hp1, b85, b93]
    have x0 := L.cell 0
    have x1 := L.cell 1
    have x2 := L.cell 2
    simp only [b74, b81] at x0 x1 x2
    have y0 := fun X => b9 x0 X
    have y1 := fun X => b9 x1 X
    have y2 := fun X => b9 x2 X
    have u00 : ∀ X, (W.ext X).cell? ⟨b, off, none⟩ = some (.int .i64 e.kids[0].kind) := fun X => b9 (by simpa using c00) X
    have u01 : ∀ X, (W.ext X).cell? ⟨b, off + 1, none⟩ = some (.int .i64 e.kids[0].value) := fun X => b9 (by simpa using c01) X
    have u02 : ∀ X, (W.ext X).cell? ⟨b, off + 2, none⟩ = some (k0) := fun X => b9 (by simpa using c02) X
    have HC0 := show Hid (∀ X, Calls Tryz.prog 59 #[.agg #[.int .i64 e.kids[0].kind, .int .i64 e.kids[0].value, k0]] (W.ext X) fun e w'' => e = .returned (.string q0) /\ ∃ Y, w'' = W.ext Y) from fun X => Calls.ext_of' (HI0.out _ (f8 W X))
    have u10 : ∀ X, (W.ext X).cell? ⟨b, off + 3, none⟩ = some (.int .i64 e.kids[1].kind) := fun X => b9 (by simpa using c10) X
    have u11 : ∀ X, (W.ext X).cell? ⟨b, off + 3 + 1, none⟩ = some (.int .i64 e.kids[1].value) := fun X => b9 (by simpa using c11) X
    have u12 : ∀ X, (W.ext X).cell? ⟨b, off + 3 + 2, none⟩ = some (k1) := fun X => b9 (by simpa using c12) X
    have HC1 := show Hid (∀ X, Calls Tryz.prog 59 #[.agg #[.int .i64 e.kids[1].kind, .int .i64 e.kids[1].value, k1]] (W.ext X) fun e w'' => e = .returned (.string q1) /\ ∃ Y, w'' = W.ext Y) from fun X => Calls.ext_of' (HI1.out _ (f8 W X))
    have hpi0 : (0 : Int) < (e.kids.length : Int) := by omega
    have hpi1 : (1 : Int) < (e.kids.length : Int) := by omega
    have hs1 : ¬ 9223372036854775807 < 1 + q0.size := by omega
    have hs2 : ¬ 9223372036854775807 < 1 + q0.size + 1 := by omega
    have hs3 : ¬ 9223372036854775807 < 1 + q0.size + 1 + q1.size := by omega
    have hs4 : ¬ 9223372036854775807 < 1 + q0.size + 1 + q1.size + 1 := by omega
    clear hc hl hvl hsk HT hlm h4 x1 x2 HE0 ln0 ix0 hq0 hk0 HE1 ln1 ix1 hq1 hk1 c00 c01 c02 c10 c11 c12
    go_enter Tryz.func59, Tryz.ntmps59
    go_wp2_with fail
    rw [<- hW]
    clear hW
    go_wp2_with fail
    refine l0 (by kernel_rfl) (by kernel_rfl) ?_
    repeat (any_goals (first | go_big_quiet_step ((go_at_call 59; first | with_reducible exact HC0.out _ | with_reducible exact HC1.out _)) | quiet_step ((go_at_call 59; first | with_reducible exact HC0.out _ | with_reducible exact HC1.out _))))
    refine wpQuiet_nil ?_
    rintro w' ⟨X, rfl⟩
    have hbX := f8 W X
    all_goals
     go_wp2_with fail
     go_ret
     refine ⟨?_, HB0.out.trans (hbX.mono s0)⟩
     rw [HT1.out]
     show Ending.returned (.string (⟨[40].toArray⟩ ++ q0 ++ ⟨[s3 6].toArray⟩ ++ q1 ++ ⟨[41].toArray⟩ : ByteArray)) = _
     rw [HQ0.out, HQ1.out, i8, i8, i8, i8]
   ·have hlm : e.kids.length = 2 := by simp [j9] at hl; omega
    have hp0 : 0 < e.kids.length := by omega
    have hp1 : 1 < e.kids.length := by omega
    obtain ⟨b, off, k0, rfl, hbk, hf, c00, c01, c02, hk0⟩ := hc 0 hp0
    obtain ⟨b1, o1, k1, he1, -, -, c10, c11, c12, hk1⟩ := hc 1 hp1
    cases he1
    rw [<- (x9 B0).1 _ _ hbk] at c00 c01 c02
    have HE0 : ∀ W', Below W.heap.size W W' -> x3 W' φ (.agg #[.int .i64 e.kids[0].kind, .int .i64 e.kids[0].value, k0]) e.kids[0] := fun W' hb => ⟨k0, rfl, l8.nice _ _ _ _ _ _ (I5.below (B0.trans (hb.mono s0))) hk0⟩
    have HH0 := hsk _ (b64 hp0)
    have ln0 := m0 nv na d _ HH0
    have ix0 := fun W' hb => ih (by omega) e.kids[0] φ _ W' (HE0 W' hb) HH0
    obtain ⟨q0, hq0⟩ : ∃ q : ByteArray, q = ⟨(c8 e.kids[0]).toArray⟩ := ⟨_, rfl⟩
    rw [<- (x9 B0).1 _ _ hbk] at c10 c11 c12
    have HE1 : ∀ W', Below W.heap.size W W' -> x3 W' φ (.agg #[.int .i64 e.kids[1].kind, .int .i64 e.kids[1].value, k1]) e.kids[1] := fun W' hb => ⟨k1, rfl, l8.nice _ _ _ _ _ _ (I5.below (B0.trans (hb.mono s0))) hk1⟩
    have HH1 := hsk _ (b64 hp1)
    have ln1 := m0 nv na d _ HH1
    have ix1 := fun W' hb => ih (by omega) e.kids[1] φ _ W' (HE1 W' hb) HH1
    obtain ⟨q1, hq1⟩ : ∃ q : ByteArray, q = ⟨(c8 e.kids[1]).toArray⟩ := ⟨_, rfl⟩
    have h4 : 8 * 4 ^ d <= 8192 := by
     have := b91 (show 0 < 4 by omega) (show d <= 5 by omega)
     omega
    have z0 : q0.size <= 8192 := by rw [hq0]; exact b54 ln0 h4
    rw [<- hq0] at ix0
    have HQ0 := show Hid _ from hq0
    have HI0 := show Hid _ from ix0
    have z1 : q1.size <= 8192 := by rw [hq1]; exact b54 ln1 h4
    rw [<- hq1] at ix1
    have HQ1 := show Hid _ from hq1
    have HI1 := show Hid _ from ix1
    have HT1 : Hid (c8 e = ([(40 : UInt8)] ++ c8 e.kids[0] ++ [s3 7] ++ c8 e.kids[1] ++ [(41 : UInt8)] : List UInt8)) := by
     have h := HT.out
     rw [h]
     show ([(40 : UInt8)] ++ (e.kids.map c8).getD 0 [] ++ [s3 7] ++ (e.kids.map c8).getD 1 [] ++ [(41 : UInt8)] : List UInt8) = _
     simp only [b59, b78, b56 hp0, b56 hp1, b85, b93]
    have x0 := L.cell 0
    have x1 := L.cell 1
    have x2 := L.cell 2
    simp only [b74, b81] at x0 x1 x2
    have y0 := fun X => b9 x0 X
    have y1 := fun X => b9 x1 X
    have y2 := fun X => b9 x2 X
    have u00 : ∀ X, (W.ext X).cell? ⟨b, off, none⟩ = some (.int .i64 e.kids[0].kind) := fun X => b9 (by simpa using c00) X
    have u01 : ∀ X, (W.ext X).cell? ⟨b, off + 1, none⟩ = some (.int .i64 e.kids[0].value) := fun X => b9 (by simpa using c01) X
    have u02 : ∀ X, (W.ext X).cell? ⟨b, off + 2, none⟩ = some (k0) := fun X => b9 (by simpa using c02) X
    have HC0 := show Hid (∀ X, Calls Tryz.prog 59 #[.agg #[.int .i64 e.kids[0].kind, .int .i64 e.kids[0].value, k0]] (W.ext X) fun e w'' => e = .returned (.string q0) /\ ∃ Y, w'' = W.ext Y) from fun X => Calls.ext_of' (HI0.out _ (f8 W X))
    have u10 : ∀ X, (W.ext X).cell? ⟨b, off + 3, none⟩ = some (.int .i64 e.kids[1].kind) := fun X => b9 (by simpa using c10) X
    have u11 : ∀ X, (W.ext X).cell? ⟨b, off + 3 + 1, none⟩ = some (.int .i64 e.kids[1].value) := fun X => b9 (by simpa using c11) X
    have u12 : ∀ X, (W.ext X).cell? ⟨b, off + 3 + 2, none⟩ = some (k1) := fun X => b9 (by simpa using c12) X
    have HC1 := show Hid (∀ X, Calls Tryz.prog 59 #[.agg #[.int .i64 e.kids[1].kind, .int .i64 e.kids[1].value, k1]] (W.ext X) fun e w'' => e = .returned (.string q1) /\ ∃ Y, w'' = W.ext Y) from fun X => Calls.ext_of' (HI1.out _ (f8 W X))
    have hpi0 : (0 : Int) < (e.kids.length : Int) := by omega
    have hpi1 : (1 : Int) < (e.kids.length : Int) := by omega
    have hs1 : ¬ 9223372036854775807 < 1 + q0.size := by omega
    have hs2 : ¬ 9223372036854775807 < 1 + q0.size + 1 := by omega
    have hs3 : ¬ 9223372036854775807 < 1 + q0.size + 1 + q1.size := by omega
    have hs4 : ¬ 9223372036854775807 < 1 + q0.size + 1 + q1.size + 1 := by omega
    clear hc hl hvl hsk HT hlm h4 x1 x2 HE0 ln0 ix0 hq0 hk0 HE1 ln1 ix1 hq1 hk1 c00 c01 c02 c10 c11 c12
    go_enter Tryz.func59, Tryz.ntmps59
    go_wp2_with fail
    rw [<- hW]
    clear hW
    go_wp2_with fail
    refine l0 (by kernel_rfl) (by kernel_rfl) ?_
    repeat (any_goals (first | go_big_quiet_step ((go_at_call 59; first | with_reducible exact HC0.out _ | with_reducible exact HC1.out _)) | quiet_step ((go_at_call 59; first | with_reducible exact HC0.out _ | with_reducible exact HC1.out _))))
    refine wpQuiet_nil ?_
    rintro w' ⟨X, rfl⟩
    have hbX := f8 W X
    all_goals
     go_wp2_with fail
     go_ret
     refine ⟨?_, HB0.out.trans (hbX.mono s0)⟩
     rw [HT1.out]
     show Ending.returned (.string (⟨[40].toArray⟩ ++ q0 ++ ⟨[s3 7].toArray⟩ ++ q1 ++ ⟨[41].toArray⟩ : ByteArray)) = _
     rw [HQ0.out, HQ1.out, i8, i8, i8, i8]
   ·have hlm : e.kids.length = 2 := by simp [j9] at hl; omega
    have hp0 : 0 < e.kids.length := by omega
    have hp1 : 1 < e.kids.length := by omega
    obtain ⟨b, off, k0, rfl, hbk, hf, c00, c01, c02, hk0⟩ := hc 0 hp0
    obtain ⟨b1, o1, k1, he1, -, -, c10, c11, c12, hk1⟩ := hc 1 hp1
    cases he1
    rw [<- (x9 B0).1 _ _ hbk] at c00 c01 c02
    have HE0 : ∀ W', Below W.heap.size W W' -> x3 W' φ (.agg #[.int .i64 e.kids[0].kind, .int .i64 e.kids[0].value, k0]) e.kids[0] := fun W' hb => ⟨k0, rfl, l8.nice _ _ _ _ _ _ (I5.below (B0.trans (hb.mono s0))) hk0⟩
    have HH0 := hsk _ (b64 hp0)
    have ln0 := m0 nv na d _ HH0
    have ix0 := fun W' hb => ih (by omega) e.kids[0] φ _ W' (HE0 W' hb) HH0
    obtain ⟨q0, hq0⟩ : ∃ q : ByteArray, q = ⟨(c8 e.kids[0]).toArray⟩ := ⟨_, rfl⟩
    rw [<- (x9 B0).1 _ _ hbk] at c10 c11 c12
    have HE1 : ∀ W', Below W.heap.size W W' -> x3 W' φ (.agg #[.int .i64 e.kids[1].kind, .int .i64 e.kids[1].value, k1]) e.kids[1] := fun W' hb => ⟨k1, rfl, l8.nice _ _ _ _ _ _ (I5.below (B0.trans (hb.mono s0))) hk1⟩
    have HH1 := hsk _ (b64 hp1)
    have ln1 := m0 nv na d _ HH1
    have ix1 := fun W' hb => ih (by omega) e.kids[1] φ _ W' (HE1 W' hb) HH1
    obtain ⟨q1, hq1⟩ : ∃ q : ByteArray, q = ⟨(c8 e.kids[1]).toArray⟩ := ⟨_, rfl⟩
    have h4 : 8 * 4 ^ d <= 8192 := by
     have := b91 (show 0 < 4 by omega) (show d <= 5 by omega)
     omega
    have z0 : q0.size <= 8192 := by rw [hq0]; exact b54 ln0 h4
    rw [<- hq0] at ix0
    have HQ0 := show Hid _ from hq0
    have HI0 := show Hid _ from ix0
    have z1 : q1.size <= 8192 := by rw [hq1]; exact b54 ln1 h4
    rw [<- hq1] at ix1
    have HQ1 := show Hid _ from hq1
    have HI1 := show Hid _ from ix1
    have HT1 : Hid (c8 e = ([(40 : UInt8)] ++ c8 e.kids[0] ++ [s3 8] ++ c8 e.kids[1] ++ [(41 : UInt8)] : List UInt8)) := by
     have h := HT.out
     rw [h]
     show ([(40 : UInt8)] ++ (e.kids.map c8).getD 0 [] ++ [s3 8] ++ (e.kids.map c8).getD 1 [] ++ [(41 : UInt8)] : List UInt8) = _
     simp only [b59, b78, b56 hp0, b56 hp1, b85, b93]
    have x0 := L.cell 0
    have x1 := L.cell 1
    have x2 := L.cell 2
    simp only [b74, b81] at x0 x1 x2
    have y0 := fun X => b9 x0 X
    have y1 := fun X => b9 x1 X
    have y2 := fun X => b9 x2 X
    have u00 : ∀ X, (W.ext X).cell? ⟨b, off, none⟩ = some (.int .i64 e.kids[0].kind) := fun X => b9 (by simpa using c00) X
    have u01 : ∀ X, (W.ext X).cell? ⟨b, off + 1, none⟩ = some (.int .i64 e.kids[0].value) := fun X => b9 (by simpa using c01) X
    have u02 : ∀ X, (W.ext X).cell? ⟨b, off + 2, none⟩ = some (k0) := fun X => b9 (by simpa using c02) X
    have HC0 := show Hid (∀ X, Calls Tryz.prog 59 #[.agg #[.int .i64 e.kids[0].kind, .int .i64 e.kids[0].value, k0]] (W.ext X) fun e w'' => e = .returned (.string q0) /\ ∃ Y, w'' = W.ext Y) from fun X => Calls.ext_of' (HI0.out _ (f8 W X))
    have u10 : ∀ X, (W.ext X).cell? ⟨b, off + 3, none⟩ = some (.int .i64 e.kids[1].kind) := fun X => b9 (by simpa using c10) X
    have u11 : ∀ X, (W.ext X).cell? ⟨b, off + 3 + 1, none⟩ = some (.int .i64 e.kids[1].value) := fun X => b9 (by simpa using c11) X
    have u12 : ∀ X, (W.ext X).cell? ⟨b, off + 3 + 2, none⟩ = some (k1) := fun X => b9 (by simpa using c12) X
    have HC1 := show Hid (∀ X, Calls Tryz.prog 59 #[.agg #[.int .i64 e.kids[1].kind, .int .i64 e.kids[1].value, k1]] (W.ext X) fun e w'' => e = .returned (.string q1) /\ ∃ Y, w'' = W.ext Y) from fun X => Calls.ext_of' (HI1.out _ (f8 W X))
    have hpi0 : (0 : Int) < (e.kids.length : Int) := by omega
    have hpi1 : (1 : Int) < (e.kids.length : Int) := by omega
    have hs1 : ¬ 9223372036854775807 < 1 + q0.size := by omega
    have hs2 : ¬ 9223372036854775807 < 1 + q0.size + 1 := by omega
    have hs3 : ¬ 9223372036854775807 < 1 + q0.size + 1 + q1.size := by omega
    have hs4 : ¬ 9223372036854775807 < 1 + q0.size + 1 + q1.size + 1 := by omega
    clear hc hl hvl hsk HT hlm h4 x1 x2 HE0 ln0 ix0 hq0 hk0 HE1 ln1 ix1 hq1 hk1 c00 c01 c02 c10 c11 c12
    go_enter Tryz.func59, Tryz.ntmps59
    go_wp2_with fail
    rw [<- hW]
    clear hW
    go_wp2_with fail
    refine l0 (by kernel_rfl) (by kernel_rfl) ?_
    repeat (any_goals (first | go_big_quiet_step ((go_at_call 59; first | with_reducible exact HC0.out _ | with_reducible exact HC1.out _)) | quiet_step ((go_at_call 59; first | with_reducible exact HC0.out _ | with_reducible exact HC1.out _))))
    refine wpQuiet_nil ?_
    rintro w' ⟨X, rfl⟩
    have hbX := f8 W X
    all_goals
     go_wp2_with fail
     go_ret
     refine ⟨?_, HB0.out.trans (hbX.mono s0)⟩
     rw [HT1.out]
     show Ending.returned (.string (⟨[40].toArray⟩ ++ q0 ++ ⟨[s3 8].toArray⟩ ++ q1 ++ ⟨[41].toArray⟩ : ByteArray)) = _
     rw [HQ0.out, HQ1.out, i8, i8, i8, i8]
   ·have hlm : e.kids.length = 2 := by simp [j9] at hl; omega
    have hp0 : 0 < e.kids.length := by omega
    have hp1 : 1 < e.kids.length := by omega
    obtain ⟨b, off, k0, rfl, hbk, hf, c00, c01, c02, hk0⟩ := hc 0 hp0
    obtain ⟨b1, o1, k1, he1, -, -, c10, c11, c12, hk1⟩ := hc 1 hp1
    cases he1
    rw [<- (x9 B0).1 _ _ hbk] at c00 c01 c02
    have HE0 : ∀ W', Below W.heap.size W W' -> x3 W' φ (.agg #[.int .i64 e.kids[0].kind, .int .i64 e.kids[0].value, k0]) e.kids[0] := fun W' hb => ⟨k0, rfl, l8.nice _ _ _ _ _ _ (I5.below (B0.trans (hb.mono s0))) hk0⟩
    have HH0 := hsk _ (b64 hp0)
    have ln0 := m0 nv na d _ HH0
    have ix0 := fun W' hb => ih (by omega) e.kids[0] φ _ W' (HE0 W' hb) HH0
    obtain ⟨q0, hq0⟩ : ∃ q : ByteArray, q = ⟨(c8 e.kids[0]).toArray⟩ := ⟨_, rfl⟩
    rw [<- (x9 B0).1 _ _ hbk] at c10 c11 c12
    have HE1 : ∀ W', Below W.heap.size W W' -> x3 W' φ (.agg #[.int .i64 e.kids[1].kind, .int .i64 e.kids[1].value, k1]) e.kids[1] := fun W' hb => ⟨k1, rfl, l8.nice _ _ _ _ _ _ (I5.below (B0.trans (hb.mono s0))) hk1⟩
    have HH1 := hsk _ (b64 hp1)
    have ln1 := m0 nv na d _ HH1
    have ix1 := fun W' hb => ih (by omega) e.kids[1] φ _ W' (HE1 W' hb) HH1
    obtain ⟨q1, hq1⟩ : ∃ q : ByteArray, q = ⟨(c8 e.kids[1]).toArray⟩ := ⟨_, rfl⟩
    have h4 : 8 * 4 ^ d <= 8192 := by
     have := b91 (show 0 < 4 by omega) (show d <= 5 by omega)
     omega
    have z0 : q0.size <= 8192 := by rw [hq0]; exact b54 ln0 h4
    rw [<- hq0] at ix0
    have HQ0 := show Hid _ from hq0
    have HI0 := show Hid _ from ix0
    have z1 : q1.size <= 8192 := by rw [hq1]; exact b54 ln1 h4
    rw [<- hq1] at ix1
    have HQ1 := show Hid _ from hq1
    have HI1 := show Hid _ from ix1
    have HT1 : Hid (c8 e = ([(40 : UInt8)] ++ c8 e.kids[0] ++ [s3 9] ++ c8 e.kids[1] ++ [(41 : UInt8)] : List UInt8)) := by
     have h := HT.out
     rw [h]
     show ([(40 : UInt8)] ++ (e.kids.map c8).getD 0 [] ++ [s3 9] ++ (e.kids.map c8).getD 1 [] ++ [(41 : UInt8)] : List UInt8) = _
     simp only [b59, b78, b56 hp0, b56 hp1, b85, b93]
    have x0 := L.cell 0
    have x1 := L.cell 1
    have x2 := L.cell 2
    simp only [b74, b81] at x0 x1 x2
    have y0 := fun X => b9 x0 X
    have y1 := fun X => b9 x1 X
    have y2 := fun X => b9 x2 X
    have u00 : ∀ X, (W.ext X).cell? ⟨b, off, none⟩ = some (.int .i64 e.kids[0].kind) := fun X => b9 (by simpa using c00) X
    have u01 : ∀ X, (W.ext X).cell? ⟨b, off + 1, none⟩ = some (.int .i64 e.kids[0].value) := fun X => b9 (by simpa using c01) X
    have u02 : ∀ X, (W.ext X).cell? ⟨b, off + 2, none⟩ = some (k0) := fun X => b9 (by simpa using c02) X
    have HC0 := show Hid (∀ X, Calls Tryz.prog 59 #[.agg #[.int .i64 e.kids[0].kind, .int .i64 e.kids[0].value, k0]] (W.ext X) fun e w'' => e = .returned (.string q0) /\ ∃ Y, w'' = W.ext Y) from fun X => Calls.ext_of' (HI0.out _ (f8 W X))
    have u10 : ∀ X, (W.ext X).cell? ⟨b, off + 3, none⟩ = some (.int .i64 e.kids[1].kind) := fun X => b9 (by simpa using c10) X
    have u11 : ∀ X, (W.ext X).cell? ⟨b, off + 3 + 1, none⟩ = some (.int .i64 e.kids[1].value) := fun X => b9 (by simpa using c11) X
    have u12 : ∀ X, (W.ext X).cell? ⟨b, off + 3 + 2, none⟩ = some (k1) := fun X => b9 (by simpa using c12) X
    have HC1 := show Hid (∀ X, Calls Tryz.prog 59 #[.agg #[.int .i64 e.kids[1].kind, .int .i64 e.kids[1].value, k1]] (W.ext X) fun e w'' => e = .returned (.string q1) /\ ∃ Y, w'' = W.ext Y) from fun X => Calls.ext_of' (HI1.out _ (f8 W X))
    have hpi0 : (0 : Int) < (e.kids.length : Int) := by omega
    have hpi1 : (1 : Int) < (e.kids.length : Int) := by omega
    have hs1 : ¬ 9223372036854775807 < 1 + q0.size := by omega
    have hs2 : ¬ 9223372036854775807 < 1 + q0.size + 1 := by omega
    have hs3 : ¬ 9223372036854775807 < 1 + q0.size + 1 + q1.size := by omega
    have hs4 : ¬ 9223372036854775807 < 1 + q0.size + 1 + q1.size + 1 := by omega
    clear hc hl hvl hsk HT hlm h4 x1 x2 HE0 ln0 ix0 hq0 hk0 HE1 ln1 ix1 hq1 hk1 c00 c01 c02 c10 c11 c12
    go_enter Tryz.func59, Tryz.ntmps59
    go_wp2_with fail
    rw [<- hW]
    clear hW
    go_wp2_with fail
    refine l0 (by kernel_rfl) (by kernel_rfl) ?_
    repeat (any_goals (first | go_big_quiet_step ((go_at_call 59; first | with_reducible exact HC0.out _ | with_reducible exact HC1.out _)) | quiet_step ((go_at_call 59; first | with_reducible exact HC0.out _ | with_reducible exact HC1.out _))))
    refine wpQuiet_nil ?_
    rintro w' ⟨X, rfl⟩
    have hbX := f8 W X
    all_goals
     go_wp2_with fail
     go_ret
     refine ⟨?_, HB0.out.trans (hbX.mono s0)⟩
     rw [HT1.out]
     show Ending.returned (.string (⟨[40].toArray⟩ ++ q0 ++ ⟨[s3 9].toArray⟩ ++ q1 ++ ⟨[41].toArray⟩ : ByteArray)) = _
     rw [HQ0.out, HQ1.out, i8, i8, i8, i8]
   have hlm : e.kids.length = 2 := by simp [j9] at hl; omega
   have hp0 : 0 < e.kids.length := by omega
   have hp1 : 1 < e.kids.length := by omega
   obtain ⟨b, off, k0, rfl, hbk, hf, c00, c01, c02, hk0⟩ := hc 0 hp0
   obtain ⟨b1, o1, k1, he1, -, -, c10, c11, c12, hk1⟩ := hc 1 hp1
   cases he1
   rw [<- (x9 B0).1 _ _ hbk] at c00 c01 c02
   have HE0 : ∀ W', Below W.heap.size W W' -> x3 W' φ (.agg #[.int .i64 e.kids[0].kind, .int .i64 e.kids[0].value, k0]) e.kids[0] := fun W' hb => ⟨k0, rfl, l8.nice _ _ _ _ _ _ (I5.below (B0.trans (hb.mono s0))) hk0⟩
   have HH0 := hsk _ (b64 hp0)
   have ln0 := m0 nv na d _ HH0
   have ix0 := fun W' hb => ih (by omega) e.kids[0] φ _ W' (HE0 W' hb) HH0
   obtain ⟨q0, hq0⟩ : ∃ q : ByteArray, q = ⟨(c8 e.kids[0]).toArray⟩ := ⟨_, rfl⟩
   rw [<- (x9 B0).1 _ _ hbk] at c10 c11 c12
   have HE1 : ∀ W', Below W.heap.size W W' -> x3 W' φ (.agg #[.int .i64 e.kids[1].kind, .int .i64 e.kids[1].value, k1]) e.kids[1] := fun W' hb => ⟨k1, rfl, l8.nice _ _ _ _ _ _ (I5.below (B0.trans (hb.mono s0))) hk1⟩
   have HH1 := hsk _ (b64 hp1)
   have ln1 := m0 nv na d _ HH1
   have ix1 := fun W' hb => ih (by omega) e.kids[1] φ _ W' (HE1 W' hb) HH1
   obtain ⟨q1, hq1⟩ : ∃ q : ByteArray, q = ⟨(c8 e.kids[1]).toArray⟩ := ⟨_, rfl⟩
   have h4 : 8 * 4 ^ d <= 8192 := by
    have := b91 (show 0 < 4 by omega) (show d <= 5 by omega)
    omega
   have z0 : q0.size <= 8192 := by rw [hq0]; exact b54 ln0 h4
   rw [<- hq0] at ix0
   have HQ0 := show Hid _ from hq0
   have HI0 := show Hid _ from ix0
   have z1 : q1.size <= 8192 := by rw [hq1]; exact b54 ln1 h4
   rw [<- hq1] at ix1
   have HQ1 := show Hid _ from hq1
   have HI1 := show Hid _ from ix1
   have HT1 : Hid (c8 e = ([(40 : UInt8)] ++ c8 e.kids[0] ++ [s3 10] ++ c8 e.kids[1] ++ [(41 : UInt8)] : List UInt8)) := by
    have h := HT.out
    rw [h]
    show ([(40 : UInt8)] ++ (e.kids.map c8).getD 0 [] ++ [s3 10] ++ (e.kids.map c8).getD 1 [] ++ [(41 : UInt8)] : List UInt8) = _
    simp only [b59, b78, b56 hp0, b56 hp1, b85, b93]
   have x0 := L.cell 0
   have x1 := L.cell 1
   have x2 := L.cell 2
   simp only [b74, b81] at x0 x1 x2
   have y0 := fun X => b9 x0 X
   have y1 := fun X => b9 x1 X
   have y2 := fun X => b9 x2 X
   have u00 : ∀ X, (W.ext X).cell? ⟨b, off, none⟩ = some (.int .i64 e.kids[0].kind) := fun X => b9 (by simpa using c00) X
   have u01 : ∀ X, (W.ext X).cell? ⟨b, off + 1, none⟩ = some (.int .i64 e.kids[0].value) := fun X => b9 (by simpa using c01) X
   have u02 : ∀ X, (W.ext X).cell? ⟨b, off + 2, none⟩ = some (k0) := fun X => b9 (by simpa using c02) X
   have HC0 := show Hid (∀ X, Calls Tryz.prog 59 #[.agg #[.int .i64 e.kids[0].kind, .int .i64 e.kids[0].value, k0]] (W.ext X) fun e w'' => e = .returned (.string q0) /\ ∃ Y, w'' = W.ext Y) from fun X => Calls.ext_of' (HI0.out _ (f8 W X))
   have u10 : ∀ X, (W.ext X).cell? ⟨b, off + 3, none⟩ = some (.int .i64 e.kids[1].kind) := fun X => b9 (by simpa using c10) X
   have u11 : ∀ X, (W.ext X).cell? ⟨b, off + 3 + 1, none⟩ = some (.int .i64 e.kids[1].value) := fun X => b9 (by simpa using c11) X
   have u12 : ∀ X, (W.ext X).cell? ⟨b, off + 3 + 2, none⟩ = some (k1) := fun X => b9 (by simpa using c12) X
   have HC1 := show Hid (∀ X, Calls Tryz.prog 59 #[.agg #[.int .i64 e.kids[1].kind, .int .i64 e.kids[1].value, k1]] (W.ext X) fun e w'' => e = .returned (.string q1) /\ ∃ Y, w'' = W.ext Y) from fun X => Calls.ext_of' (HI1.out _ (f8 W X))
   have hpi0 : (0 : Int) < (e.kids.length : Int) := by omega
   have hpi1 : (1 : Int) < (e.kids.length : Int) := by omega
   have hs1 : ¬ 9223372036854775807 < 1 + q0.size := by omega
   have hs2 : ¬ 9223372036854775807 < 1 + q0.size + 1 := by omega
   have hs3 : ¬ 9223372036854775807 < 1 + q0.size + 1 + q1.size := by omega
   have hs4 : ¬ 9223372036854775807 < 1 + q0.size + 1 + q1.size + 1 := by omega
   clear hc hl hvl hsk HT hlm h4 x1 x2 HE0 ln0 ix0 hq0 hk0 HE1 ln1 ix1 hq1 hk1 c00 c01 c02 c10 c11 c12
   go_enter Tryz.func59, Tryz.ntmps59
   go_wp2_with fail
   rw [<- hW]
   clear hW
   go_wp2_with fail
   refine l0 (by kernel_rfl) (by kernel_rfl) ?_
   repeat (any_goals (first | go_big_quiet_step ((go_at_call 59; first | with_reducible exact HC0.out _ | with_reducible exact HC1.out _)) | quiet_step ((go_at_call 59; first | with_reducible exact HC0.out _ | with_reducible exact HC1.out _))))
   refine wpQuiet_nil ?_
   rintro w' ⟨X, rfl⟩
   have hbX := f8 W X
   all_goals
    go_wp2_with fail
    go_ret
    refine ⟨?_, HB0.out.trans (hbX.mono s0)⟩
    rw [HT1.out]
    show Ending.returned (.string (⟨[40].toArray⟩ ++ q0 ++ ⟨[s3 10].toArray⟩ ++ q1 ++ ⟨[41].toArray⟩ : ByteArray)) = _
    rw [HQ0.out, HQ1.out, i8, i8, i8, i8]
  have hlm : e.kids.length = 3 := by simp [j9] at hl; omega
  have hp0 : 0 < e.kids.length := by omega
  have hp1 : 1 < e.kids.length := by omega
  have hp2 : 2 < e.kids.length := by omega
  obtain ⟨b, off, k0, rfl, hbk, hf, c00, c01, c02, hk0⟩ := hc 0 hp0
  obtain ⟨b1, o1, k1, he1, -, -, c10, c11, c12, hk1⟩ := hc 1 hp1
  cases he1
  obtain ⟨b2, o2, k2, he2, -, -, c20, c21, c22, hk2⟩ := hc 2 hp2
  cases he2
  rw [<- (x9 B0).1 _ _ hbk] at c00 c01 c02
  have HE0 : ∀ W', Below W.heap.size W W' -> x3 W' φ (.agg #[.int .i64 e.kids[0].kind, .int .i64 e.kids[0].value, k0]) e.kids[0] := fun W' hb => ⟨k0, rfl, l8.nice _ _ _ _ _ _ (I5.below (B0.trans (hb.mono s0))) hk0⟩
  have HH0 := hsk _ (b64 hp0)
  have ln0 := m0 nv na d _ HH0
  have ix0 := fun W' hb => ih (by omega) e.kids[0] φ _ W' (HE0 W' hb) HH0
  obtain ⟨q0, hq0⟩ : ∃ q : ByteArray, q = ⟨(c8 e.kids[0]).toArray⟩ := ⟨_, rfl⟩
  rw [<- (x9 B0).1 _ _ hbk] at c10 c11 c12
  have HE1 : ∀ W', Below W.heap.size W W' -> x3 W' φ (.agg #[.int .i64 e.kids[1].kind, .int .i64 e.kids[1].value, k1]) e.kids[1] := fun W' hb => ⟨k1, rfl, l8.nice _ _ _ _ _ _ (I5.below (B0.trans (hb.mono s0))) hk1⟩
  have HH1 := hsk _ (b64 hp1)
  have ln1 := m0 nv na d _ HH1
  have ix1 := fun W' hb => ih (by omega) e.kids[1] φ _ W' (HE1 W' hb) HH1
  obtain ⟨q1, hq1⟩ : ∃ q : ByteArray, q = ⟨(c8 e.kids[1]).toArray⟩ := ⟨_, rfl⟩
  rw [<- (x9 B0).1 _ _ hbk] at c20 c21 c22
  have HE2 : ∀ W', Below W.heap.size W W' -> x3 W' φ (.agg #[.int .i64 e.kids[2].kind, .int .i64 e.kids[2].value, k2]) e.kids[2] := fun W' hb => ⟨k2, rfl, l8.nice _ _ _ _ _ _ (I5.below (B0.trans (hb.mono s0))) hk2⟩
  have HH2 := hsk _ (b64 hp2)
  have ln2 := m0 nv na d _ HH2
  have ix2 := fun W' hb => ih (by omega) e.kids[2] φ _ W' (HE2 W' hb) HH2
  obtain ⟨q2, hq2⟩ : ∃ q : ByteArray, q = ⟨(c8 e.kids[2]).toArray⟩ := ⟨_, rfl⟩
  have h4 : 8 * 4 ^ d <= 8192 := by
   have := b91 (show 0 < 4 by omega) (show d <= 5 by omega)
   omega
  have z0 : q0.size <= 8192 := by rw [hq0]; exact b54 ln0 h4
  rw [<- hq0] at ix0
  have HQ0 := show Hid _ from hq0
  have HI0 := show Hid _ from ix0
  have z1 : q1.size <= 8192 := by rw [hq1]; exact b54 ln1 h4
  rw [<- hq1] at ix1
  have HQ1 := show Hid _ from hq1
  have HI1 := show Hid _ from ix1
  have z2 : q2.size <= 8192 := by rw [hq2]; exact b54 ln2 h4
  rw [<- hq2] at ix2
  have HQ2 := show Hid _ from hq2
  have HI2 := show Hid _ from ix2
  have HT1 : Hid (c8 e = ([(40 : UInt8)] ++ c8 e.kids[0] ++ [(63 : UInt8)] ++ c8 e.kids[1] ++ [(58 : UInt8)] ++ c8 e.kids[2] ++ [(41 : UInt8)] : List UInt8)) := by
   have h := HT.out
   rw [h]
   show ([(40 : UInt8)] ++ (e.kids.map c8).getD 0 [] ++ [(63 : UInt8)] ++ (e.kids.map c8).getD 1 [] ++ [(58 : UInt8)] ++ (e.kids.map c8).getD 2 [] ++ [(41 : UInt8)] : List UInt8) = _
   simp only [b59, b78, b56 hp0, b56 hp1, b56 hp2, b85, b93]
  have x0 := L.cell 0
  have x1 := L.cell 1
  have x2 := L.cell 2
  simp only [b74, b81] at x0 x1 x2
  have y0 := fun X => b9 x0 X
  have y1 := fun X => b9 x1 X
  have y2 := fun X => b9 x2 X
  have u00 : ∀ X, (W.ext X).cell? ⟨b, off, none⟩ = some (.int .i64 e.kids[0].kind) := fun X => b9 (by simpa using c00) X
  have u01 : ∀ X, (W.ext X).cell? ⟨b, off + 1, none⟩ = some (.int .i64 e.kids[0].value) := fun X => b9 (by simpa using c01) X
  have u02 : ∀ X, (W.ext X).cell? ⟨b, off + 2, none⟩ = some (k0) := fun X => b9 (by simpa using c02) X
  have HC0 := show Hid (∀ X, Calls Tryz.prog 59 #[.agg #[.int .i64 e.kids[0].kind, .int .i64 e.kids[0].value, k0]] (W.ext X) fun e w'' => e = .returned (.string q0) /\ ∃ Y, w'' = W.ext Y) from fun X => Calls.ext_of' (HI0.out _ (f8 W X))
  have u10 : ∀ X, (W.ext X).cell? ⟨b, off + 3, none⟩ = some (.int .i64 e.kids[1].kind) := fun X => b9 (by simpa using c10) X
  have u11 : ∀ X, (W.ext X).cell? ⟨b, off + 3 + 1, none⟩ = some (.int .i64 e.kids[1].value) := fun X => b9 (by simpa using c11) X
  have u12 : ∀ X, (W.ext X).cell? ⟨b, off + 3 + 2, none⟩ = some (k1) := fun X => b9 (by simpa using c12) X
  have HC1 := show Hid (∀ X, Calls Tryz.prog 59 #[.agg #[.int .i64 e.kids[1].kind, .int .i64 e.kids[1].value, k1]] (W.ext X) fun e w'' => e = .returned (.string q1) /\ ∃ Y, w'' = W.ext Y) from fun X => Calls.ext_of' (HI1.out _ (f8 W X))
  have u20 : ∀ X, (W.ext X).cell? ⟨b, off + 6, none⟩ = some (.int .i64 e.kids[2].kind) := fun X => b9 (by simpa using c20) X
  have u21 : ∀ X, (W.ext X).cell? ⟨b, off + 6 + 1, none⟩ = some (.int .i64 e.kids[2].value) := fun X => b9 (by simpa using c21) X
  have u22 : ∀ X, (W.ext X).cell? ⟨b, off + 6 + 2, none⟩ = some (k2) := fun X => b9 (by simpa using c22) X
  have HC2 := show Hid (∀ X, Calls Tryz.prog 59 #[.agg #[.int .i64 e.kids[2].kind, .int .i64 e.kids[2].value, k2]] (W.ext X) fun e w'' => e = .returned (.string q2) /\ ∃ Y, w'' = W.ext Y) from fun X => Calls.ext_of' (HI2.out _ (f8 W X))
  have hpi0 : (0 : Int) < (e.kids.length : Int) := by omega
  have hpi1 : (1 : Int) < (e.kids.length : Int) := by omega
  have hpi2 : (2 : Int) < (e.kids.length : Int) := by omega
  have hs1 : ¬ 9223372036854775807 < 1 + q0.size := by omega
  have hs2 : ¬ 9223372036854775807 < 1 + q0.size + 1 := by omega
  have hs3 : ¬ 9223372036854775807 < 1 + q0.size + 1 + q1.size := by omega
  have hs4 : ¬ 9223372036854775807 < 1 + q0.size + 1 + q1.size + 1 := by omega
  have hs5 : ¬ 9223372036854775807 < 1 + q0.size + 1 + q1.size + 1 + q2.size := by omega
  have hs6 : ¬ 9223372036854775807 < 1 + q0.size + 1 + q1.size + 1 + q2.size + 1 := by omega
  clear hc hl hvl hsk HT hlm h4 x1 x2 HE0 ln0 ix0 hq0 hk0 HE1 ln1 ix1 hq1 hk1 HE2 ln2 ix2 hq2 hk2 c00 c01 c02 c10 c11 c12 c20 c21 c22
  go_enter Tryz.func59, Tryz.ntmps59
  go_wp2_with fail
  rw [<- hW]
  clear hW
  go_wp2_with fail
  refine l0 (by kernel_rfl) (by kernel_rfl) ?_
  repeat (any_goals (first | go_big_quiet_step ((go_at_call 59; first | with_reducible exact HC0.out _ | with_reducible exact HC1.out _ | with_reducible exact HC2.out _)) | quiet_step ((go_at_call 59; first | with_reducible exact HC0.out _ | with_reducible exact HC1.out _ | with_reducible exact HC2.out _))))
  refine wpQuiet_nil ?_
  rintro w' ⟨X, rfl⟩
  have hbX := f8 W X
  all_goals
   go_wp2_with fail
   go_ret
   refine ⟨?_, HB0.out.trans (hbX.mono s0)⟩
   rw [HT1.out]
   show Ending.returned (.string (⟨[40].toArray⟩ ++ q0 ++ ⟨[63].toArray⟩ ++ q1 ++ ⟨[58].toArray⟩ ++ q2 ++ ⟨[41].toArray⟩ : ByteArray)) = _
   rw [HQ0.out, HQ1.out, HQ2.out, i8, i8, i8, i8, i8, i8]
theorem ak9 (v : Nat) (hv : v < 12) (w : World) :
  Calls Tryz.prog 88 #[.int .i64 v] w fun e w' => e = .returned (.string ⟨[UInt8.ofNat (97 + v)].toArray⟩) /\ Below w.heap.size w w' := by
 have hconv := al7 w (97 + (v : Int)) (97 + v) (by omega) (by omega)
 obtain ⟨c, hc⟩ : ∃ c : UInt8, c = UInt8.ofNat (97 + v) := ⟨_, rfl⟩
 rw [<- hc] at hconv ⊢
 clear hc
 go_enter Tryz.func88, Tryz.ntmps88
 go_wp2_with fail
 go_ret
 exact ⟨rfl, (Below.refl _ _).alloc (b71 _) _⟩
theorem ac7 (v : Nat) (hv : v < 2) (w : World) :
  Calls Tryz.prog 90 #[.int .i64 v] w fun e w' => e = .returned (.string ⟨[UInt8.ofNat (80 + v)].toArray⟩) /\ Below w.heap.size w w' := by
 have hconv := al7 w (80 + (v : Int)) (80 + v) (by omega) (by omega)
 obtain ⟨c, hc⟩ : ∃ c : UInt8, c = UInt8.ofNat (80 + v) := ⟨_, rfl⟩
 rw [<- hc] at hconv ⊢
 clear hc
 go_enter Tryz.func90, Tryz.ntmps90
 go_wp2_with fail
 go_ret
 exact ⟨rfl, (Below.refl _ _).alloc (b71 _) _⟩
end Go.Proofs.YtompcdbfongedaaGreatDoor

namespace Go.Proofs.YtompcdbfongedaaGreatDoor
open Go Go.RowKit Go.Shelf Go.Lib
def as2 : Go.Shelf.Ren := ⟨fun | 129 => 153 | 171 => 91 | 243 => 115 | 246 => 133 | 283 => 145 | 284 => 146 | 285 => 147 | 286 => 148 | 317 => 152 | 318 => 154 | 319 => 155 | 320 => 156 | 337 => 159 | 338 => 160 | n => n, fun | 0 => 0 | 2 => 2 | 3 => 3 | 4 => 4 | 5 => 5 | 9 => 9 | 20 => 20 | 37 => 31 | 46 => 137 | 51 => 148 | 53 => 158 | 171 => 157 | 173 => 161 | 212 => 170 | 213 => 171 | 232 => 178 | 233 => 179 | n => n, fun | 17 => 5 | 18 => 6 | 19 => 7 | n => n⟩
theorem by9 : Go.Proofs.Lays.n171 Tryz.prog as2 := {
 mixed := by kernel_rfl
 f129 := Tryz.func153.trans (congrArg some (by kernel_rfl))
 f171 := Tryz.func91.trans (congrArg some (by kernel_rfl))
 f243 := Tryz.func115.trans (congrArg some (by kernel_rfl))
 f246 := Tryz.func133.trans (congrArg some (by kernel_rfl))
 f283 := Tryz.func145.trans (congrArg some (by kernel_rfl))
 f284 := Tryz.func146.trans (congrArg some (by kernel_rfl))
 f285 := Tryz.func147.trans (congrArg some (by kernel_rfl))
 f286 := Tryz.func148.trans (congrArg some (by kernel_rfl))
 f317 := Tryz.func152.trans (congrArg some (by kernel_rfl))
 f318 := Tryz.func154.trans (congrArg some (by kernel_rfl))
 f319 := Tryz.func155.trans (congrArg some (by kernel_rfl))
 f320 := Tryz.func156.trans (congrArg some (by kernel_rfl))
 f337 := Tryz.func159.trans (congrArg some (by kernel_rfl))
 f338 := Tryz.func160.trans (congrArg some (by kernel_rfl))
 t0 := Tryz.underlying0
 a0 := Tryz.isAgg0
 z0 := Tryz.sizeOf0
 v0 := Tryz.zeroValue0
 t2 := Tryz.underlying2
 a2 := Tryz.isAgg2
 z2 := Tryz.sizeOf2
 v2 := Tryz.zeroValue2
 t3 := Tryz.underlying3
 a3 := Tryz.isAgg3
 z3 := Tryz.sizeOf3
 v3 := Tryz.zeroValue3
 t4 := Tryz.underlying4
 a4 := Tryz.isAgg4
 z4 := Tryz.sizeOf4
 v4 := Tryz.zeroValue4
 t5 := Tryz.underlying5
 a5 := Tryz.isAgg5
 z5 := Tryz.sizeOf5
 v5 := Tryz.zeroValue5
 t9 := Tryz.underlying9
 a9 := Tryz.isAgg9
 z9 := Tryz.sizeOf9
 v9 := Tryz.zeroValue9
 t20 := Tryz.underlying20
 a20 := Tryz.isAgg20
 z20 := Tryz.sizeOf20
 v20 := Tryz.zeroValue20
 t37 := Tryz.underlying31
 a37 := Tryz.isAgg31
 z37 := Tryz.sizeOf31
 v37 := Tryz.zeroValue31
 t46 := Tryz.underlying137
 a46 := Tryz.isAgg137
 z46 := Tryz.sizeOf137
 v46 := Tryz.zeroValue137
 t51 := Tryz.underlying148
 a51 := Tryz.isAgg148
 z51 := Tryz.sizeOf148
 v51 := Tryz.zeroValue148
 t53 := Tryz.underlying158
 a53 := Tryz.isAgg158
 z53 := Tryz.sizeOf158
 v53 := Tryz.zeroValue158
 t171 := Tryz.underlying157
 a171 := Tryz.isAgg157
 z171 := Tryz.sizeOf157
 v171 := Tryz.zeroValue157
 t173 := Tryz.underlying161
 a173 := Tryz.isAgg161
 z173 := Tryz.sizeOf161
 v173 := Tryz.zeroValue161
 t212 := Tryz.underlying170
 a212 := Tryz.isAgg170
 z212 := Tryz.sizeOf170
 v212 := Tryz.zeroValue170
 t213 := Tryz.underlying171
 a213 := Tryz.isAgg171
 z213 := Tryz.sizeOf171
 t232 := Tryz.underlying178
 a232 := Tryz.isAgg178
 z232 := Tryz.sizeOf178
 v232 := Tryz.zeroValue178
 t233 := Tryz.underlying179
 a233 := Tryz.isAgg179
 z233 := Tryz.sizeOf179
 v233 := Tryz.zeroValue179
 g17 := by kernel_rfl
 g18 := by kernel_rfl
 g19 := by kernel_rfl }
theorem bo1 : Go.Proofs.LaysM.n171 Tryz.prog as2 := { by9 with
 i0 := by kernel_rfl
 i2 := by kernel_rfl
 i3 := by kernel_rfl
 i4 := by kernel_rfl
 i5 := by kernel_rfl
 i9 := by kernel_rfl
 i20 := by kernel_rfl
 i37 := by kernel_rfl
 i46 := by kernel_rfl
 i51 := by kernel_rfl
 i53 := by kernel_rfl
 i171 := by kernel_rfl
 i173 := by kernel_rfl
 i212 := by kernel_rfl
 i232 := by kernel_rfl
 i233 := by kernel_rfl
 m17 := by kernel_rfl
 m18 := by kernel_rfl
 m19 := by kernel_rfl }
theorem a94 (n : Nat) (hn : n < 1000000) (w : World) (htab : Lib.TabIs Tryz.prog w "internal/strconv.uint64pow10" .u64 Lib.pow10Tab) :
  Calls Tryz.prog 91 #[.int .i64 n] w fun e w' => e = .returned (.string ⟨(Lib.decDigits n).toArray⟩) /\ Below w.heap.size w w' := by
 have e : Lib.itoa (n : Int) = Lib.decDigits n := by
  unfold Lib.itoa
  rw [if_neg (by omega)]
  rfl
 have h := Any.strconv_Itoa bo1 (n : Int) (by omega) (by omega) w htab
 rw [e] at h
 exact h.mono fun e w' ⟨he, k, os, hw⟩ => ⟨he, by rw [hw]; exact Lib.below_grow _ _ (b71 _) k os⟩
end Go.Proofs.YtompcdbfongedaaGreatDoor

namespace Go.Proofs.YtompcdbfongedaaGreatDoor
open Go Go.RowKit
def aN0 (w : World) : Prop := ∃ B, B <= w.heap.size /\ Lib.TabBelow Tryz.prog B w "internal/strconv.uint64pow10" .u64 Lib.pow10Tab
theorem aN0.on {w w' : World} (h : aN0 w) (hb : Below w.heap.size w w') : aN0 w' := by
 obtain ⟨B, h1, h2⟩ := h
 exact ⟨B, b54 h1 hb.size, h2.on (hb.mono h1)⟩
theorem aN0.is {w : World} (h : aN0 w) : Lib.TabIs Tryz.prog w "internal/strconv.uint64pow10" .u64 Lib.pow10Tab := by
 obtain ⟨B, _, h2⟩ := h
 exact h2.here
theorem aC2 (nv na : Nat) (hnv : nv <= 12) (hna : na <= 2) : ∀ d : Nat, d <= 5 -> ∀ (e : b7) (φ : Nat -> Prop) (v : Value) (w : World), x3 w φ v e -> j6 nv na d e = true -> aN0 w ->
  Calls Tryz.prog 89 #[v] w fun x w' => x = .returned (.string ⟨(c8 e).toArray⟩) /\ Below w.heap.size w w' := by
 intro d
 induction d with
 | zero => intro _ e φ v w _ hs _; simp [j6] at hs
 | succ d ih =>
  intro hd5 e φ v w h hs ht
  have HTB : Hid (aN0 w) := ht
  clear ht
  obtain ⟨kv, rfl, hk⟩ := h
  obtain ⟨ak, ck, rfl, -, -, -, hc⟩ := hk.open
  obtain ⟨hn, hsk⟩ := a57 hs
  obtain ⟨hl, hv0, hvl⟩ := I8 hn
  have HT := show Hid _ from W2 e
  obtain ⟨n, hn'⟩ : ∃ n : Nat, e.value = n := ⟨e.value.toNat, by omega⟩
  rw [hn'] at hvl HT ⊢
  obtain ⟨K, hK⟩ : ∃ K, K = e.kind := ⟨_, rfl⟩
  rw [<- hK] at hvl hl HT ⊢
  clear hn hs hv0 hn' hK hk
  have hK : K = 1 \/ K = 2 \/ K = 3 \/ (4 <= K /\ K <= 10) \/ K = 11 := by
   unfold j9 at hl
   split at hl
   ·omega
   split at hl
   ·omega
   split at hl
   ·omega
   split at hl <;> omega
  obtain ⟨W, hW⟩ : ∃ W, W = w.alloc (.cells #[.int .i64 K, .int .i64 n, .slice ak e.kids.length ck] 67) := ⟨_, rfl⟩
  have B0 : Below w.heap.size w W := by rw [hW]; go_grown
  have L := T9.new w [.int .i64 K, .int .i64 n, .slice ak e.kids.length ck] 67
  have sW : W.heap.size = w.heap.size + 1 := by rw [hW]; simp
  rw [show w.alloc (.cells [.int .i64 K, .int .i64 n, .slice ak e.kids.length ck].toArray 67) = W from hW.symm] at L
  have s0 := B0.size
  have HB0 := show Hid _ from B0
  rcases hK with rfl | rfl | rfl | hK | rfl
  ·have hn : n < 256 := by simp [y6] at hvl; omega
   have HT1 : Hid (c8 e = Lib.decDigits n) := HT.out
   have x0 := L.cell 0
   have x1 := L.cell 1
   simp only [b74, b81] at x0 x1
   clear hc hl hvl hsk HT
   go_enter Tryz.func89, Tryz.ntmps89
   go_wp2_with fail
   rw [<- hW]
   clear hW
   go_wp2_with fail
   refine (a94 n (by omega) _ (HTB.out.on HB0.out).is).mono ?_
   rintro x w2 ⟨rfl, b2⟩
   go_wp2_with fail
   go_ret
   rw [HT1.out]
   exact ⟨rfl, HB0.out.trans (b2.mono s0)⟩
  ·have hn : n < 12 := by simp [y6] at hvl; omega
   have HT1 : Hid (c8 e = [UInt8.ofNat (97 + n)]) := HT.out
   have x0 := L.cell 0
   have x1 := L.cell 1
   simp only [b74, b81] at x0 x1
   clear hc hl hvl hsk HT
   go_enter Tryz.func89, Tryz.ntmps89
   go_wp2_with fail
   rw [<- hW]
   clear hW
   go_wp2_with fail
   refine (ak9 n hn _).mono ?_
   rintro x w2 ⟨rfl, b2⟩
   go_wp2_with fail
   go_ret
   rw [HT1.out]
   refine ⟨?_, HB0.out.trans (b2.mono s0)⟩
   rw [UInt8.ofNat_add]
   rfl
  ·have hl1 : e.kids.length = 1 := by simp [j9] at hl; omega
   have hp0 : 0 < e.kids.length := by omega
   have hn : n < 2 := by simp [y6] at hvl; omega
   obtain ⟨b, off, k0, rfl, hbk, hf, c00, c01, c02, hk0⟩ := hc 0 hp0
   rw [<- (x9 B0).1 _ _ hbk] at c00 c01 c02
   have HE0 : ∀ W', Below W.heap.size W W' -> x3 W' φ (.agg #[.int .i64 e.kids[0].kind, .int .i64 e.kids[0].value, k0]) e.kids[0] := fun W' hb => ⟨k0, rfl, l8.nice _ _ _ _ _ _ (I5.below (B0.trans (hb.mono s0))) hk0⟩
   have HH0 := hsk _ (b64 hp0)
   have ln0 := m0 nv na d _ HH0
   have ix0 := fun W' hb => ih (by omega) e.kids[0] φ _ W' (HE0 W' hb) HH0 ((HTB.out.on HB0.out).on hb)
   have ixa := fun W' => ac7 n hn W'
   obtain ⟨q0, hq0⟩ : ∃ q : ByteArray, q = ⟨(c8 e.kids[0]).toArray⟩ := ⟨_, rfl⟩
   obtain ⟨qa, hqa⟩ : ∃ q : ByteArray, q = ⟨[UInt8.ofNat (80 + n)].toArray⟩ := ⟨_, rfl⟩
   have h4 : 8 * 4 ^ d <= 8192 := by
    have := b91 (show 0 < 4 by omega) (show d <= 5 by omega)
    omega
   have z0 : q0.size <= 8192 := by rw [hq0]; exact b54 ln0 h4
   have za : qa.size <= 1 := by rw [hqa]; exact b71 1
   rw [<- hq0] at ix0
   rw [<- hqa] at ixa
   have HQ0 := show Hid _ from hq0
   have HQa := show Hid _ from hqa
   have HI0 := show Hid _ from ix0
   have HIa := show Hid _ from ixa
   have HT1 : Hid (c8 e = ([UInt8.ofNat (80 + n)] ++ [(91 : UInt8)] ++ c8 e.kids[0] ++ [(93 : UInt8)] : List UInt8)) := by
    have h := HT.out
    rw [h]
    show ([UInt8.ofNat (80 + n)] ++ [(91 : UInt8)] ++ (e.kids.map c8).getD 0 [] ++ [(93 : UInt8)] : List UInt8) = _
    simp only [b59, b78, b56 hp0, b85, b93]
   have x0 := L.cell 0
   have x1 := L.cell 1
   have x2 := L.cell 2
   simp only [b74, b81] at x0 x1 x2
   have y0 := fun X => b9 x0 X
   have y1 := fun X => b9 x1 X
   have y2 := fun X => b9 x2 X
   have u00 : ∀ X, (W.ext X).cell? ⟨b, off, none⟩ = some (.int .i64 e.kids[0].kind) := fun X => b9 (by simpa using c00) X
   have u01 : ∀ X, (W.ext X).cell? ⟨b, off + 1, none⟩ = some (.int .i64 e.kids[0].value) := fun X => b9 (by simpa using c01) X
   have u02 : ∀ X, (W.ext X).cell? ⟨b, off + 2, none⟩ = some (k0) := fun X => b9 (by simpa using c02) X
   have HC0 := show Hid (∀ X, Calls Tryz.prog 89 #[.agg #[.int .i64 e.kids[0].kind, .int .i64 e.kids[0].value, k0]] (W.ext X) fun e w'' => e = .returned (.string q0) /\ ∃ Y, w'' = W.ext Y) from fun X => Calls.ext_of' (HI0.out _ (f8 W X))
   have HCa := show Hid (∀ X, Calls Tryz.prog 90 #[.int .i64 n] (W.ext X) fun e w'' => e = .returned (.string qa) /\ ∃ Y, w'' = W.ext Y) from fun X => Calls.ext_of' (HIa.out _)
   have hpi0 : (0 : Int) < (e.kids.length : Int) := by omega
   have hs1 : ¬ 9223372036854775807 < qa.size + 1 := by omega
   have hs2 : ¬ 9223372036854775807 < qa.size + 1 + q0.size := by omega
   have hs3 : ¬ 9223372036854775807 < qa.size + 1 + q0.size + 1 := by omega
   clear hc hl hvl hsk HT hl1 h4 x1 x2 HE0 ln0 ix0 ixa hq0 hqa hk0 c00 c01 c02
   go_enter Tryz.func89, Tryz.ntmps89
   go_wp2_with fail
   rw [<- hW]
   clear hW
   go_wp2_with fail
   refine l0 (by kernel_rfl) (by kernel_rfl) ?_
   repeat (any_goals (first | go_big_quiet_step ((first | (go_at_call 89; with_reducible exact HC0.out _) | (go_at_call 90; with_reducible exact HCa.out _))) | quiet_step ((first | (go_at_call 89; with_reducible exact HC0.out _) | (go_at_call 90; with_reducible exact HCa.out _)))))
   refine wpQuiet_nil ?_
   rintro w' ⟨X, rfl⟩
   have hbX := f8 W X
   all_goals
    go_wp2_with fail
    go_ret
    refine ⟨?_, HB0.out.trans (hbX.mono s0)⟩
    rw [HT1.out]
    show Ending.returned (.string (qa ++ ⟨[91].toArray⟩ ++ q0 ++ ⟨[93].toArray⟩ : ByteArray)) = _
    rw [HQ0.out, HQa.out, i8, i8, i8]
  ·have hKK : K = 4 \/ K = 5 \/ K = 6 \/ K = 7 \/ K = 8 \/ K = 9 \/ K = 10 := by omega
   clear hK
   rcases hKK with rfl | rfl | rfl | rfl | rfl | rfl | rfl
   ·have hlm : e.kids.length = 2 := by simp [j9] at hl; omega
    have hp0 : 0 < e.kids.length := by omega
    have hp1 : 1 < e.kids.length := by omega
    obtain ⟨b, off, k0, rfl, hbk, hf, c00, c01, c02, hk0⟩ := hc 0 hp0
    obtain ⟨b1, o1, k1, he1, -, -, c10, c11, c12, hk1⟩ := hc 1 hp1
    cases he1
    rw [<- (x9 B0).1 _ _ hbk] at c00 c01 c02
    have HE0 : ∀ W', Below W.heap.size W W' -> x3 W' φ (.agg #[.int .i64 e.kids[0].kind, .int .i64 e.kids[0].value, k0]) e.kids[0] := fun W' hb => ⟨k0, rfl, l8.nice _ _ _ _ _ _ (I5.below (B0.trans (hb.mono s0))) hk0⟩
    have HH0 := hsk _ (b64 hp0)
    have ln0 := m0 nv na d _ HH0
    have ix0 := fun W' hb => ih (by omega) e.kids[0] φ _ W' (HE0 W' hb) HH0 ((HTB.out.on HB0.out).on hb)
    obtain ⟨q0, hq0⟩ : ∃ q : ByteArray, q = ⟨(c8 e.kids[0]).toArray⟩ := ⟨_, rfl⟩
    rw [<- (x9 B0).1 _ _ hbk] at c10 c11 c12
    have HE1 : ∀ W', Below W.heap.size W W' -> x3 W' φ (.agg #[.int .i64 e.kids[1].kind, .int .i64 e.kids[1].value, k1]) e.kids[1] := fun W' hb => ⟨k1, rfl, l8.nice _ _ _ _ _ _ (I5.below (B0.trans (hb.mono s0))) hk1⟩
    have HH1 := hsk _ (b64 hp1)
    have ln1 := m0 nv na d _ HH1
    have ix1 := fun W' hb => ih (by omega) e.kids[1] φ _ W' (HE1 W' hb) HH1 ((HTB.out.on HB0.out).on hb)
    obtain ⟨q1, hq1⟩ : ∃ q : ByteArray, q = ⟨(c8 e.kids[1]).toArray⟩ := ⟨_, rfl⟩
    have h4 : 8 * 4 ^ d <= 8192 := by
     have := b91 (show 0 < 4 by omega) (show d <= 5 by omega)
     omega
    have z0 : q0.size <= 8192 := by rw [hq0]; exact b54 ln0 h4
    rw [<- hq0] at ix0
    have HQ0 := show Hid _ from hq0
    have HI0 := show Hid _ from ix0
    have z1 : q1.size <= 8192 := by rw [hq1]; exact b54 ln1 h4
    rw [<- hq1] at ix1
    have HQ1 := show Hid _ from hq1
    have HI1 := show Hid _ from ix1
    have HT1 : Hid (c8 e = ([(40 : UInt8)] ++ c8 e.kids[0] ++ [s3 4] ++ c8 e.kids[1] ++ [(41 : UInt8)] : List UInt8)) := by
     have h := HT.out
     rw [h]
     show ([(40 : UInt8)] ++ (e.kids.map c8).getD 0 [] ++ [s3 4] ++ (e.kids.map c8).getD 1 [] ++ [(41 : UInt8)] : List UInt8) = _
     simp only [b59, b78, b56 hp0, b56 hp1, b85, b93]
    have x0 := L.cell 0
    have x1 := L.cell 1
    have x2 := L.cell 2
    simp only [b74, b81] at x0 x1 x2
    have y0 := fun X => b9 x0 X
    have y1 := fun X => b9 x1 X
    have y2 := fun X => b9 x2 X
    have u00 : ∀ X, (W.ext X).cell? ⟨b, off, none⟩ = some (.int .i64 e.kids[0].kind) := fun X => b9 (by simpa using c00) X
    have u01 : ∀ X, (W.ext X).cell? ⟨b, off + 1, none⟩ = some (.int .i64 e.kids[0].value) := fun X => b9 (by simpa using c01) X
    have u02 : ∀ X, (W.ext X).cell? ⟨b, off + 2, none⟩ = some (k0) := fun X => b9 (by simpa using c02) X
    have HC0 := show Hid (∀ X, Calls Tryz.prog 89 #[.agg #[.int .i64 e.kids[0].kind, .int .i64 e.kids[0].value, k0]] (W.ext X) fun e w'' => e = .returned (.string q0) /\ ∃ Y, w'' = W.ext Y) from fun X => Calls.ext_of' (HI0.out _ (f8 W X))
    have u10 : ∀ X, (W.ext X).cell? ⟨b, off + 3, none⟩ = some (.int .i64 e.kids[1].kind) := fun X => b9 (by simpa using c10) X
    have u11 : ∀ X, (W.ext X).cell? ⟨b, off + 3 + 1, none⟩ = some (.int .i64 e.kids[1].value) := fun X => b9 (by simpa using c11) X
    have u12 : ∀ X, (W.ext X).cell? ⟨b, off + 3 + 2, none⟩ = some (k1) := fun X => b9 (by simpa using c12) X
    have HC1 := show Hid (∀ X, Calls Tryz.prog 89 #[.agg #[.int .i64 e.kids[1].kind, .int .i64 e.kids[1].value, k1]] (W.ext X) fun e w'' => e = .returned (.string q1) /\ ∃ Y, w'' = W.ext Y) from fun X => Calls.ext_of' (HI1.out _ (f8 W X))
    have hpi0 : (0 : Int) < (e.kids.length : Int) := by omega
    have hpi1 : (1 : Int) < (e.kids.length : Int) := by omega
    have hs1 : ¬ 9223372036854775807 < 1 + q0.size := by omega
    have hs2 : ¬ 9223372036854775807 < 1 + q0.size + 1 := by omega
    have hs3 : ¬ 9223372036854775807 < 1 + q0.size + 1 + q1.size := by omega
    have hs4 : ¬ 9223372036854775807 < 1 + q0.size + 1 + q1.size + 1 := by omega
    clear hc hl hvl hsk HT hlm h4 x1 x2 HE0 ln0 ix0 hq0 hk0 HE1 ln1 ix1 hq1 hk1 c00 c01 c02 c10 c11 c12
    go_enter Tryz.func89, Tryz.ntmps89
    go_wp2_with fail
    rw [<- hW]
    clear hW
    go_wp2_with fail
    refine l0 (by kernel_rfl) (by kernel_rfl) ?_
    repeat (any_goals (first | go_big_quiet_step ((go_at_call 89; first | with_reducible exact HC0.out _ | with_reducible exact HC1.out _)) | quiet_step ((go_at_call 89; first | with_reducible exact HC0.out _ | with_reducible exact HC1.out _))))
    refine wpQuiet_nil ?_
    rintro w' ⟨X, rfl⟩
    have hbX := f8 W X
    all_goals
     go_wp2_with fail
     go_ret
     refine ⟨?_, HB0.out.trans (hbX.mono s0)⟩
     rw [HT1.out]
     show Ending.returned (.string (⟨[40].toArray⟩ ++ q0 ++ ⟨[s3 4].toArray⟩ ++ q1 ++ ⟨[41].toArray⟩ : ByteArray)) = _
     rw [HQ0.out, HQ1.out, i8, i8, i8, i8]
   ·have hlm : e.kids.length = 2 := by simp [j9] at hl; omega
    have hp0 : 0 < e.kids.length := by omega
    have hp1 : 1 < e.kids.length := by omega
    obtain ⟨b, off, k0, rfl, hbk, hf, c00, c01, c02, hk0⟩ := hc 0 hp0
    obtain ⟨b1, o1, k1, he1, -, -, c10, c11, c12, hk1⟩ := hc 1 hp1
    cases he1
    rw [<- (x9 B0).1 _ _ hbk] at c00 c01 c02
    have HE0 : ∀ W', Below W.heap.size W W' -> x3 W' φ (.agg #[.int .i64 e.kids[0].kind, .int .i64 e.kids[0].value, k0]) e.kids[0] := fun W' hb => ⟨k0, rfl, l8.nice _ _ _ _ _ _ (I5.below (B0.trans (hb.mono s0))) hk0⟩
    have HH0 := hsk _ (b64 hp0)
    have ln0 := m0 nv na d _ HH0
    have ix0 := fun W' hb => ih (by omega) e.kids[0] φ _ W' (HE0 W' hb) HH0 ((HTB.out.on HB0.out).on hb)
    obtain ⟨q0, hq0⟩ : ∃ q : ByteArray, q = ⟨(c8 e.kids[0]).toArray⟩ := ⟨_, rfl⟩
    rw [<- (x9 B0).1 _ _ hbk] at c10 c11 c12
    have HE1 : ∀ W', Below W.heap.size W W' -> x3 W' φ (.agg #[.int .i64 e.kids[1].kind, .int .i64 e.kids[1].value, k1]) e.kids[1] := fun W' hb => ⟨k1, rfl, l8.nice _ _ _ _ _ _ (I5.below (B0.trans (hb.mono s0))) hk1⟩
    have HH1 := hsk _ (b64 hp1)
    have ln1 := m0 nv na d _ HH1
    have ix1 := fun W' hb => ih (by omega) e.kids[1] φ _ W' (HE1 W' hb) HH1 ((HTB.out.on HB0.out).on hb)
    obtain ⟨q1, hq1⟩ : ∃ q : ByteArray, q = ⟨(c8 e.kids[1]).toArray⟩ := ⟨_, rfl⟩
    have h4 : 8 * 4 ^ d <= 8192 := by
     have := b91 (show 0 < 4 by omega) (show d <= 5 by omega)
     omega
    have z0 : q0.size <= 8192 := by rw [hq0]; exact b54 ln0 h4
    rw [<- hq0] at ix0
    have HQ0 := show Hid _ from hq0
    have HI0 := show Hid _ from ix0
    have z1 : q1.size <= 8192 := by rw [hq1]; exact b54 ln1 h4
    rw [<- hq1] at ix1
    have HQ1 := show Hid _ from hq1
    have HI1 := show Hid _ from ix1
    have HT1 : Hid (c8 e = ([(40 : UInt8)] ++ c8 e.kids[0] ++ [s3 5] ++ c8 e.kids[1] ++ [(41 : UInt8)] : List UInt8)) := by
     have h := HT.out
     rw [h]
     show ([(40 : UInt8)] ++ (e.kids.map c8).getD 0 [] ++ [s3 5] ++ (e.kids.map c8).getD 1 [] ++ [(41 : UInt8)] : List UInt8) = _
     simp only [b59, b78, b56 hp0, b56 hp1, b85, b93]
    have x0 := L.cell 0
    have x1 := L.cell 1
    have x2 := L.cell 2
    simp only [b74, b81] at x0 x1 x2
    have y0 := fun X => b9 x0 X
    have y1 := fun X => b9 x1 X
    have y2 := fun X => b9 x2 X
    have u00 : ∀ X, (W.ext X).cell? ⟨b, off, none⟩ = some (.int .i64 e.kids[0].kind) := fun X => b9 (by simpa using c00) X
    have u01 : ∀ X, (W.ext X).cell? ⟨b, off + 1, none⟩ = some (.int .i64 e.kids[0].value) := fun X => b9 (by simpa using c01) X
    have u02 : ∀ X, (W.ext X).cell? ⟨b, off + 2, none⟩ = some (k0) := fun X => b9 (by simpa using c02) X
    have HC0 := show Hid (∀ X, Calls Tryz.prog 89 #[.agg #[.int .i64 e.kids[0].kind, .int .i64 e.kids[0].value, k0]] (W.ext X) fun e w'' => e = .returned (.string q0) /\ ∃ Y, w'' = W.ext Y) from fun X => Calls.ext_of' (HI0.out _ (f8 W X))
    have u10 : ∀ X, (W.ext X).cell? ⟨b, off + 3, none⟩ = some (.int .i64 e.kids[1].kind) := fun X => b9 (by simpa using c10) X
    have u11 : ∀ X, (W.ext X).cell? ⟨b, off + 3 + 1, none⟩ = some (.int .i64 e.kids[1].value) := fun X => b9 (by simpa using c11) X
    have u12 : ∀ X, (W.ext X).cell? ⟨b, off + 3 + 2, none⟩ = some (k1) := fun X => b9 (by simpa using c12) X
    have HC1 := show Hid (∀ X, Calls Tryz.prog 89 #[.agg #[.int .i64 e.kids[1].kind, .int .i64 e.kids[1].value, k1]] (W.ext X) fun e w'' => e = .returned (.string q1) /\ ∃ Y, w'' = W.ext Y) from fun X => Calls.ext_of' (HI1.out _ (f8 W X))
    have hpi0 : (0 : Int) < (e.kids.length : Int) := by omega
    have hpi1 : (1 : Int) < (e.kids.length : Int) := by omega
    have hs1 : ¬ 9223372036854775807 < 1 + q0.size := by omega
    have hs2 : ¬ 9223372036854775807 < 1 + q0.size + 1 := by omega
    have hs3 : ¬ 9223372036854775807 < 1 + q0.size + 1 + q1.size := by omega
    have hs4 : ¬ 9223372036854775807 < 1 + q0.size + 1 + q1.size + 1 := by omega
    clear hc hl hvl hsk HT hlm h4 x1 x2 HE0 ln0 ix0 hq0 hk0 HE1 ln1 ix1 hq1 hk1 c00 c01 c02 c10 c11 c12
    go_enter Tryz.func89, Tryz.ntmps89
    go_wp2_with fail
    rw [<- hW]
    clear hW
    go_wp2_with fail
    refine l0 (by kernel_rfl) (by kernel_rfl) ?_
    repeat (any_goals (first | go_big_quiet_step ((go_at_call 89; first | with_reducible exact HC0.out _ | with_reducible exact HC1.out _)) | quiet_step ((go_at_call 89; first | with_reducible exact HC0.out _ | with_reducible exact HC1.out _))))
    refine wpQuiet_nil ?_
    rintro w' ⟨X, rfl⟩
    have hbX := f8 W X
    all_goals
     go_wp2_with fail
     go_ret
     refine ⟨?_, HB0.out.trans (hbX.mono s0)⟩
     rw [HT1.out]
     show Ending.returned (.string (⟨[40].toArray⟩ ++ q0 ++ ⟨[s3 5].toArray⟩ ++ q1 ++ ⟨[41].toArray⟩ : ByteArray)) = _
     rw [HQ0.out, HQ1.out, i8, i8, i8, i8]
   ·have hlm : e.kids.length = 2 := by simp [j9] at hl; omega
    have hp0 : 0 < e.kids.length := by omega
    have hp1 : 1 < e.kids.length := by omega
    obtain ⟨b, off, k0, rfl, hbk, hf, c00, c01, c02, hk0⟩ := hc 0 hp0
    obtain ⟨b1, o1, k1, he1, -, -, c10, c11, c12, hk1⟩ := hc 1 hp1
    cases he1
    rw [<- (x9 B0).1 _ _ hbk] at c00 c01 c02
    have HE0 : ∀ W', Below W.heap.size W W' -> x3 W' φ (.agg #[.int .i64 e.kids[0].kind, .int .i64 e.kids[0].value, k0]) e.kids[0] := fun W' hb => ⟨k0, rfl, l8.nice _ _ _ _ _ _ (I5.below (B0.trans (hb.mono s0))) hk0⟩
    have HH0 := hsk _ (b64 hp0)
    have ln0 := m0 nv na d _ HH0
    have ix0 := fun W' hb => ih (by omega) e.kids[0] φ _ W' (HE0 W' hb) HH0 ((HTB.out.on HB0.out).on hb)
    obtain ⟨q0, hq0⟩ : ∃ q : ByteArray, q = ⟨(c8 e.kids[0]).toArray⟩ := ⟨_, rfl⟩
    rw [<- (x9 B0).1 _ _ hbk] at c10 c11 c12
    have HE1 : ∀ W', Below W.heap.size W W' -> x3 W' φ (.agg #[.int .i64 e.kids[1].kind, .int .i64 e.kids[1].value, k1]) e.kids[1] := fun W' hb => ⟨k1, rfl, l8.nice _ _ _ _ _ _ (I5.below (B0.trans (hb.mono s0))) hk1⟩
    have HH1 := hsk _ (b64 hp1)
    have ln1 := m0 nv na d _ HH1
    have ix1 := fun W' hb => ih (by omega) e.kids[1] φ _ W' (HE1 W' hb) HH1 ((HTB.out.on HB0.out).on hb)
    obtain ⟨q1, hq1⟩ : ∃ q : ByteArray, q = ⟨(c8 e.kids[1]).toArray⟩ := ⟨_, rfl⟩
    have h4 : 8 * 4 ^ d <= 8192 := by
     have := b91 (show 0 < 4 by omega) (show d <= 5 by omega)
     omega
    have z0 : q0.size <= 8192 := by rw [hq0]; exact b54 ln0 h4
    rw [<- hq0] at ix0
    have HQ0 := show Hid _ from hq0
    have HI0 := show Hid _ from ix0
    have z1 : q1.size <= 8192 := by rw [hq1]; exact b54 ln1 h4
    rw [<- hq1] at ix1
    have HQ1 := show Hid _ from hq1
    have HI1 := show Hid _ from ix1
    have HT1 : Hid (c8 e = ([(40 : UInt8)] ++ c8 e.kids[0] ++ [s3 6] ++ c8 e.kids[1] ++ [(41 : UInt8)] : List UInt8)) := by
     have h := HT.out
     rw [h]
     show ([(40 : UInt8)] ++ (e.kids.map c8).getD 0 [] ++ [s3 6] ++ (e.kids.map c8).getD 1 [] ++ [(41 : UInt8)] : List UInt8) = _
     simp only [b59, b78, b56 hp0, b56 hp1, b85, b93]
    have x0 := L.cell 0
    have x1 := L.cell 1
    have x2 := L.cell 2
    simp only [b74, b81] at x0 x1 x2
    have y0 := fun X => b9 x0 X
    have y1 := fun X => b9 x1 X
    have y2 := fun X => b9 x2 X
    have u00 : ∀ X, (W.ext X).cell? ⟨b, off, none⟩ = some (.int .i64 e.kids[0].kind) := fun X => b9 (by simpa using c00) X
    have u01 : ∀ X, (W.ext X).cell? ⟨b, off + 1, none⟩ = some (.int .i64 e.kids[0].value) := fun X => b9 (by simpa using c01) X
    have u02 : ∀ X, (W.ext X).cell? ⟨b, off + 2, none⟩ = some (k0) := fun X => b9 (by simpa using c02) X
    have HC0 := show Hid (∀ X, Calls Tryz.prog 89 #[.agg #[.int .i64 e.kids[0].kind, .int .i64 e.kids[0].value, k0]] (W.ext X) fun e w'' => e = .returned (.string q0) /\ ∃ Y, w'' = W.ext Y) from fun X => Calls.ext_of' (HI0.out _ (f8 W X))
    have u10 : ∀ X, (W.ext X).cell? ⟨b, off + 3, none⟩ = some (.int .i64 e.kids[1].kind) := fun X => b9 (by simpa using c10) X
    have u11 : ∀ X, (W.ext X).cell? ⟨b, off + 3 + 1, none⟩ = some (.int .i64 e.kids[1].value) := fun X => b9 (by simpa using c11) X
    have u12 : ∀ X, (W.ext X).cell? ⟨b, off + 3 + 2, none⟩ = some (k1) := fun X => b9 (by simpa using c12) X
    have HC1 := show Hid (∀ X, Calls Tryz.prog 89 #[.agg #[.int .i64 e.kids[1].kind, .int .i64 e.kids[1].value, k1]] (W.ext X) fun e w'' => e = .returned (.string q1) /\ ∃ Y, w'' = W.ext Y) from fun X => Calls.ext_of' (HI1.out _ (f8 W X))
    have hpi0 : (0 : Int) < (e.kids.length : Int) := by omega
    have hpi1 : (1 : Int) < (e.kids.length : Int) := by omega
    have hs1 : ¬ 9223372036854775807 < 1 + q0.size := by omega
    have hs2 : ¬ 9223372036854775807 < 1 + q0.size + 1 := by omega
    have hs3 : ¬ 9223372036854775807 < 1 + q0.size + 1 + q1.size := by omega
    have hs4 : ¬ 9223372036854775807 < 1 + q0.size + 1 + q1.size + 1 := by omega
    clear hc hl hvl hsk HT hlm h4 x1 x2 HE0 ln0 ix0 hq0 hk0 HE1 ln1 ix1 hq1 hk1 c00 c01 c02 c10 c11 c12
    go_enter Tryz.func89, Tryz.ntmps89
    go_wp2_with fail
    rw [<- hW]
    clear hW
    go_wp2_with fail
    refine l0 (by kernel_rfl) (by kernel_rfl) ?_
    repeat (any_goals (first | go_big_quiet_step ((go_at_call 89; first | with_reducible exact HC0.out _ | with_reducible exact HC1.out _)) | quiet_step ((go_at_call 89; first | with_reducible exact HC0.out _ | with_reducible exact HC1.out _))))
    refine wpQuiet_nil ?_
    rintro w' ⟨X, rfl⟩
    have hbX := f8 W X
    all_goals
     go_wp2_with fail
     go_ret
     refine ⟨?_, HB0.out.trans (hbX.mono s0)⟩
     rw [HT1.out]
     show Ending.returned (.string (⟨[40].toArray⟩ ++ q0 ++ ⟨[s3 6].toArray⟩ ++ q1 ++ ⟨[41].toArray⟩ : ByteArray)) = _
     rw [HQ0.out, HQ1.out, i8, i8, i8, i8]
   ·have hlm : e.kids.length = 2 := by simp [j9] at hl; omega
    have hp0 : 0 < e.kids.length := by omega
    have hp1 : 1 < e.kids.length := by omega
    obtain ⟨b, off, k0, rfl, hbk, hf, c00, c01, c02, hk0⟩ := hc 0 hp0
    obtain ⟨b1, o1, k1, he1, -, -, c10, c11, c12, hk1⟩ := hc 1 hp1
    cases he1
    rw [<- (x9 B0).1 _ _ hbk] at c00 c01 c02
    have HE0 : ∀ W', Below W.heap.size W W' -> x3 W' φ (.agg #[.int .i64 e.kids[0].kind, .int .i64 e.kids[0].value, k0]) e.kids[0] := fun W' hb => ⟨k0, rfl, l8.nice _ _ _ _ _ _ (I5.below (B0.trans (hb.mono s0))) hk0⟩
    have HH0 := hsk _ (b64 hp0)
    have ln0 := m0 nv na d _ HH0
    have ix0 := fun W' hb => ih (by omega) e.kids[0] φ _ W' (HE0 W' hb) HH0 ((HTB.out.on HB0.out).on hb)
    obtain ⟨q0, hq0⟩ : ∃ q : ByteArray, q = ⟨(c8 e.kids[0]).toArray⟩ := ⟨_, rfl⟩
    rw [<- (x9 B0).1 _ _ hbk] at c10 c11 c12
    have HE1 : ∀ W', Below W.heap.size W W' -> x3 W' φ (.agg #[.int .i64 e.kids[1].kind, .int .i64 e.kids[1].value, k1]) e.kids[1] := fun W' hb => ⟨k1, rfl, l8.nice _ _ _ _ _ _ (I5.below (B0.trans (hb.mono s0))) hk1⟩
    have HH1 := hsk _ (b64 hp1)
    have ln1 := m0 nv na d _ HH1
    have ix1 := fun W' hb => ih (by omega) e.kids[1] φ _ W' (HE1 W' hb) HH1 ((HTB.out.on HB0.out).on hb)
    obtain ⟨q1, hq1⟩ : ∃ q : ByteArray, q = ⟨(c8 e.kids[1]).toArray⟩ := ⟨_, rfl⟩
    have h4 : 8 * 4 ^ d <= 8192 := by
     have := b91 (show 0 < 4 by omega) (show d <= 5 by omega)
     omega
    have z0 : q0.size <= 8192 := by rw [hq0]; exact b54 ln0 h4
    rw [<- hq0] at ix0
    have HQ0 := show Hid _ from hq0
    have HI0 := show Hid _ from ix0
    have z1 : q1.size <= 8192 := by rw [hq1]; exact b54 ln1 h4
    rw [<- hq1] at ix1
    have HQ1 := show Hid _ from hq1
    have HI1 := show Hid _ from ix1
    have HT1 : Hid (c8 e = ([(40 : UInt8)] ++ c8 e.kids[0] ++ [s3 7] ++ c8 e.kids[1] ++ [(41 : UInt8)] : List UInt8)) := by
     have h := HT.out
     rw [h]
     show ([(40 : UInt8)] ++ (e.kids.map c8).getD 0 [] ++ [s3 7] ++ (e.kids.map c8).getD 1 [] ++ [(41 : UInt8)] : List UInt8) = _
     simp only [b59, b78, b56 hp0, b56 hp1, b85, b93]
    have x0 := L.cell 0
    have x1 := L.cell 1
    have x2 := L.cell 2
    simp only [b74, b81] at x0 x1 x2
    have y0 := fun X => b9 x0 X
    have y1 := fun X => b9 x1 X
    have y2 := fun X => b9 x2 X
    have u00 : ∀ X, (W.ext X).cell? ⟨b, off, none⟩ = some (.int .i64 e.kids[0].kind) := fun X => b9 (by simpa using c00) X
    have u01 : ∀ X, (W.ext X).cell? ⟨b, off + 1, none⟩ = some (.int .i64 e.kids[0].value) := fun X => b9 (by simpa using c01) X
    have u02 : ∀ X, (W.ext X).cell? ⟨b, off + 2, none⟩ = some (k0) := fun X => b9 (by simpa using c02) X
    have HC0 := show Hid (∀ X, Calls Tryz.prog 89 #[.agg #[.int .i64 e.kids[0].kind, .int .i64 e.kids[0].value, k0]] (W.ext X) fun e w'' => e = .returned (.string q0) /\ ∃ Y, w'' = W.ext Y) from fun X => Calls.ext_of' (HI0.out _ (f8 W X))
    have u10 : ∀ X, (W.ext X).cell? ⟨b, off + 3, none⟩ = some (.int .i64 e.kids[1].kind) := fun X => b9 (by simpa using c10) X
    have u11 : ∀ X, (W.ext X).cell? ⟨b, off + 3 + 1, none⟩ = some (.int .i64 e.kids[1].value) := fun X => b9 (by simpa using c11) X
    have u12 : ∀ X, (W.ext X).cell? ⟨b, off + 3 + 2, none⟩ = some (k1) := fun X => b9 (by simpa using c12) X
    have HC1 := show Hid (∀ X, Calls Tryz.prog 89 #[.agg #[.int .i64 e.kids[1].kind, .int .i64 e.kids[1].value, k1]] (W.ext X) fun e w'' => e = .returned (.string q1) /\ ∃ Y, w'' = W.ext Y) from fun X => Calls.ext_of' (HI1.out _ (f8 W X))
    have hpi0 : (0 : Int) < (e.kids.length : Int) := by omega
    have hpi1 : (1 : Int) < (e.kids.length : Int) := by omega
    have hs1 : ¬ 9223372036854775807 < 1 + q0.size := by omega
    have hs2 : ¬ 9223372036854775807 < 1 + q0.size + 1 := by omega
    have hs3 : ¬ 9223372036854775807 < 1 + q0.size + 1 + q1.size := by omega
    have hs4 : ¬ 9223372036854775807 < 1 + q0.size + 1 + q1.size + 1 := by omega
    clear hc hl hvl hsk HT hlm h4 x1 x2 HE0 ln0 ix0 hq0 hk0 HE1 ln1 ix1 hq1 hk1 c00 c01 c02 c10 c11 c12
    go_enter Tryz.func89, Tryz.ntmps89
    go_wp2_with fail
    rw [<- hW]
    clear hW
    go_wp2_with fail
    refine l0 (by kernel_rfl) (by kernel_rfl) ?_
    repeat (any_goals (first | go_big_quiet_step ((go_at_call 89; first | with_reducible exact HC0.out _ | with_reducible exact HC1.out _)) | quiet_step ((go_at_call 89; first | with_reducible exact HC0.out _ | with_reducible exact HC1.out _))))
    refine wpQuiet_nil ?_
    rintro w' ⟨X, rfl⟩
    have hbX := f8 W X
    all_goals
     go_wp2_with fail
     go_ret
     refine ⟨?_, HB0.out.trans (hbX.mono s0)⟩
     rw [HT1.out]
     show Ending.returned (.string (⟨[40].toArray⟩ ++ q0 ++ ⟨[s3 7].toArray⟩ ++ q1 ++ ⟨[41].toArray⟩ : ByteArray)) = _
     rw [HQ0.out, HQ1.out, i8, i8, i8, i8]
   ·have hlm : e.kids.length = 2 := by simp [j9] at hl; omega
    have hp0 : 0 < e.kids.length := by omega
    have hp1 : 1 < e.kids.length := by omega
    obtain ⟨b, off, k0, rfl, hbk, hf, c00, c01, c02, hk0⟩ := hc 0 hp0
    obtain ⟨b1, o1, k1, he1, -, -, c10, c11, c12, hk1⟩ := hc 1 hp1
    cases he1
    rw [<- (x9 B0).1 _ _ hbk] at c00 c01 c02
    have HE0 : ∀ W', Below W.heap.size W W' -> x3 W' φ (.agg #[.int .i64 e.kids[0].kind, .int .i64 e.kids[0].value, k0]) e.kids[0] := fun W' hb => ⟨k0, rfl, l8.nice _ _ _ _ _ _ (I5.below (B0.trans (hb.mono s0))) hk0⟩
    have HH0 := hsk _ (b64 hp0)
    have ln0 := m0 nv na d _ HH0
    have ix0 := fun W' hb => ih (by omega) e.kids[0] φ _ W' (HE0 W' hb) HH0 ((HTB.out.on HB0.out).on hb)
    obtain ⟨q0, hq0⟩ : ∃ q : ByteArray, q = ⟨(c8 e.kids[0]).toArray⟩ := ⟨_, rfl⟩
    rw [<- (x9 B0).1 _ _ hbk] at c10 c11 c12
    have HE1 : ∀ W', Below W.heap.size W W' -> x3 W' φ (.agg #[.int .i64 e.kids[1].kind, .int .i64 e.kids[1].value, k1]) e.kids[1] := fun W' hb => ⟨k1, rfl, l8.nice _ _ _ _ _ _ (I5.below (B0.trans (hb.mono s0))) hk1⟩
    have HH1 := hsk _ (b64 hp1)
    have ln1 := m0 nv na d _ HH1
    have ix1 := fun W' hb => ih (by omega) e.kids[1] φ _ W' (HE1 W' hb) HH1 ((HTB.out.on HB0.out).on hb)
    obtain ⟨q1, hq1⟩ : ∃ q : ByteArray, q = ⟨(c8 e.kids[1]).toArray⟩ := ⟨_, rfl⟩
    have h4 : 8 * 4 ^ d <= 8192 := by
     have := b91 (show 0 < 4 by omega) (show d <= 5 by omega)
     omega
    have z0 : q0.size <= 8192 := by rw [hq0]; exact b54 ln0 h4
    rw [<- hq0] at ix0
    have HQ0 := show Hid _ from hq0
    have HI0 := show Hid _ from ix0
    have z1 : q1.size <= 8192 := by rw [hq1]; exact b54 ln1 h4
    rw [<- hq1] at ix1
    have HQ1 := show Hid _ from hq1
    have HI1 := show Hid _ from ix1
    have HT1 : Hid (c8 e = ([(40 : UInt8)] ++ c8 e.kids[0] ++ [s3 8] ++ c8 e.kids[1] ++ [(41 : UInt8)] : List UInt8)) := by
     have h := HT.out
     rw [h]
     show ([(40 : UInt8)] ++ (e.kids.map c8).getD 0 [] ++ [s3 8] ++ (e.kids.map c8).getD 1 [] ++ [(41 : UInt8)] : List UInt8) = _
     simp only [b59, b78, b56 hp0, b56 hp1, b85, b93]
    have x0 := L.cell 0
    have x1 := L.cell 1
    have x2 := L.cell 2
    simp only [b74, b81] at x0 x1 x2
    have y0 := fun X => b9 x0 X
    have y1 := fun X => b9 x1 X
    have y2 := fun X => b9 x2 X
    have u00 : ∀ X, (W.ext X).cell? ⟨b, off, none⟩ = some (.int .i64 e.kids[0].kind) := fun X => b9 (by simpa using c00) X
    have u01 : ∀ X, (W.ext X).cell? ⟨b, off + 1, none⟩ = some (.int .i64 e.kids[0].value) := fun X => b9 (by simpa using c01) X
    have u02 : ∀ X, (W.ext X).cell? ⟨b, off + 2, none⟩ = some (k0) := fun X => b9 (by simpa using c02) X
    have HC0 := show Hid (∀ X, Calls Tryz.prog 89 #[.agg #[.int .i64 e.kids[0].kind, .int .i64 e.kids[0].value, k0]] (W.ext X) fun e w'' => e = .returned (.string q0) /\ ∃ Y, w'' = W.ext Y) from fun X => Calls.ext_of' (HI0.out _ (f8 W X))
    have u10 : ∀ X, (W.ext X).cell? ⟨b, off + 3, none⟩ = some (.int .i64 e.kids[1].kind) := fun X => b9 (by simpa using c10) X
    have u11 : ∀ X, (W.ext X).cell? ⟨b, off + 3 + 1, none⟩ = some (.int .i64 e.kids[1].value) := fun X => b9 (by simpa using c11) X
    have u12 : ∀ X, (W.ext X).cell? ⟨b, off + 3 + 2, none⟩ = some (k1) := fun X => b9 (by simpa using c12) X
    have HC1 := show Hid (∀ X, Calls Tryz.prog 89 #[.agg #[.int .i64 e.kids[1].kind, .int .i64 e.kids[1].value, k1]] (W.ext X) fun e w'' => e = .returned (.string q1) /\ ∃ Y, w'' = W.ext Y) from fun X => Calls.ext_of' (HI1.out _ (f8 W X))
    have hpi0 : (0 : Int) < (e.kids.length : Int) := by omega
    have hpi1 : (1 : Int) < (e.kids.length : Int) := by omega
    have hs1 : ¬ 9223372036854775807 < 1 + q0.size := by omega
    have hs2 : ¬ 9223372036854775807 < 1 + q0.size + 1 := by omega
    have hs3 : ¬ 9223372036854775807 < 1 + q0.size + 1 + q1.size := by omega
    have hs4 : ¬ 9223372036854775807 < 1 + q0.size + 1 + q1.size + 1 := by omega
    clear hc hl hvl hsk HT hlm h4 x1 x2 HE0 ln0 ix0 hq0 hk0 HE1 ln1 ix1 hq1 hk1 c00 c01 c02 c10 c11 c12
    go_enter Tryz.func89, Tryz.ntmps89
    go_wp2_with fail
    rw [<- hW]
    clear hW
    go_wp2_with fail
    refine l0 (by kernel_rfl) (by kernel_rfl) ?_
    repeat (any_goals (first | go_big_quiet_step ((go_at_call 89; first | with_reducible exact HC0.out _ | with_reducible exact HC1.out _)) | quiet_step ((go_at_call 89; first | with_reducible exact HC0.out _ | with_reducible exact HC1.out _))))
    refine wpQuiet_nil ?_
    rintro w' ⟨X, rfl⟩
    have hbX := f8 W X
    all_goals
     go_wp2_with fail
     go_ret
     refine ⟨?_, HB0.out.trans (hbX.mono s0)⟩
     rw [HT1.out]
     show Ending.returned (.string (⟨[40].toArray⟩ ++ q0 ++ ⟨[s3 8].toArray⟩ ++ q1 ++ ⟨[41].toArray⟩ : ByteArray)) = _
     rw [HQ0.out, HQ1.out, i8, i8, i8, i8]
   ·have hlm : e.kids.length = 2 := by simp [j9] at hl; omega
    have hp0 : 0 < e.kids.length := by omega
    have hp1 : 1 < e.kids.length := by omega
    obtain ⟨b, off, k0, rfl, hbk, hf, c00, c01, c02, hk0⟩ := hc 0 hp0
    obtain ⟨b1, o1, k1, he1, -, -, c10, c11, c12, hk1⟩ := hc 1 hp1
    cases he1
    rw [<- (x9 B0).1 _ _ hbk] at c00 c01 c02
    have HE0 : ∀ W', Below W.heap.size W W' -> x3 W' φ (.agg #[.int .i64 e.kids[0].kind, .int .i64 e.kids[0].value, k0]) e.kids[0] := fun W' hb => ⟨k0, rfl, l8.nice _ _ _ _ _ _ (I5.below (B0.trans (hb.mono s0))) hk0⟩
    have HH0 := hsk _ (b64 hp0)
    have ln0 := m0 nv na d _ HH0
    have ix0 := fun W' hb => ih (by omega) e.kids[0] φ _ W' (HE0 W' hb) HH0 ((HTB.out.on HB0.out).on hb)
    obtain ⟨q0, hq0⟩ : ∃ q : ByteArray, q = ⟨(c8 e.kids[0]).toArray⟩ := ⟨_, rfl⟩
    rw [<- (x9 B0).1 _ _ hbk] at c10 c11 c12
    have HE1 : ∀ W', Below W.heap.size W W' -> x3 W' φ (.agg #[.int .i64 e.kids[1].kind, .int .i64 e.kids[1].value, k1]) e.kids[1] := fun W' hb => ⟨k1, rfl, l8.nice _ _ _ _ _ _ (I5.below (B0.trans (hb.mono s0))) hk1⟩
    have HH1 := hsk _ (b64 hp1)
    have ln1 := m0 nv na d _ HH1
    have ix1 := fun W' hb => ih (by omega) e.kids[1] φ _ W' (HE1 W' hb) HH1 ((HTB.out.on HB0.out).on hb)
    obtain ⟨q1, hq1⟩ : ∃ q : ByteArray, q = ⟨(c8 e.kids[1]).toArray⟩ := ⟨_, rfl⟩
    have h4 : 8 * 4 ^ d <= 8192 := by
     have := b91 (show 0 < 4 by omega) (show d <= 5 by omega)
     omega
    have z0 : q0.size <= 8192 := by rw [hq0]; exact b54 ln0 h4
    rw [<- hq0] at ix0
    have HQ0 := show Hid _ from hq0
    have HI0 := show Hid _ from ix0
    have z1 : q1.size <= 8192 := by rw [hq1]; exact b54 ln1 h4
    rw [<- hq1] at ix1
    have HQ1 := show Hid _ from hq1
    have HI1 := show Hid _ from ix1
    have HT1 : Hid (c8 e = ([(40 : UInt8)] ++ c8 e.kids[0] ++ [s3 9] ++ c8 e.kids[1] ++ [(41 : UInt8)] : List UInt8)) := by
     have h := HT.out
     rw [h]
     show ([(40 : UInt8)] ++ (e.kids.map c8).getD 0 [] ++ [s3 9] ++ (e.kids.map c8).getD 1 [] ++ [(41 : UInt8)] : List UInt8) = _
     simp only [b59, b78, b56 hp0, b56 hp1, b85, b93]
    have x0 := L.cell 0
    have x1 := L.cell 1
    have x2 := L.cell 2
    simp only [b74, b81] at x0 x1 x2
    have y0 := fun X => b9 x0 X
    have y1 := fun X => b9 x1 X
    have y2 := fun X => b9 x2 X
    have u00 : ∀ X, (W.ext X).cell? ⟨b, off, none⟩ = some (.int .i64 e.kids[0].kind) := fun X => b9 (by simpa using c00) X
    have u01 : ∀ X, (W.ext X).cell? ⟨b, off + 1, none⟩ = some (.int .i64 e.kids[0].value) := fun X => b9 (by simpa using c01) X
    have u02 : ∀ X, (W.ext X).cell? ⟨b, off + 2, none⟩ = some (k0) := fun X => b9 (by simpa using c02) X
    have HC0 := show Hid (∀ X, Calls Tryz.prog 89 #[.agg #[.int .i64 e.kids[0].kind, .int .i64 e.kids[0].value, k0]] (W.ext X) fun e w'' => e = .returned (.string q0) /\ ∃ Y, w'' = W.ext Y) from fun X => Calls.ext_of' (HI0.out _ (f8 W X))
    have u10 : ∀ X, (W.ext X).cell? ⟨b, off + 3, none⟩ = some (.int .i64 e.kids[1].kind) := fun X => b9 (by simpa using c10) X
    have u11 : ∀ X, (W.ext X).cell? ⟨b, off + 3 + 1, none⟩ = some (.int .i64 e.kids[1].value) := fun X => b9 (by simpa using c11) X
    have u12 : ∀ X, (W.ext X).cell? ⟨b, off + 3 + 2, none⟩ = some (k1) := fun X => b9 (by simpa using c12) X
    have HC1 := show Hid (∀ X, Calls Tryz.prog 89 #[.agg #[.int .i64 e.kids[1].kind, .int .i64 e.kids[1].value, k1]] (W.ext X) fun e w'' => e = .returned (.string q1) /\ ∃ Y, w'' = W.ext Y) from fun X => Calls.ext_of' (HI1.out _ (f8 W X))
    have hpi0 : (0 : Int) < (e.kids.length : Int) := by omega
    have hpi1 : (1 : Int) < (e.kids.length : Int) := by omega
    have hs1 : ¬ 9223372036854775807 < 1 + q0.size := by omega
    have hs2 : ¬ 9223372036854775807 < 1 + q0.size + 1 := by omega
    have hs3 : ¬ 9223372036854775807 < 1 + q0.size + 1 + q1.size := by omega
    have hs4 : ¬ 9223372036854775807 < 1 + q0.size + 1 + q1.size + 1 := by omega
    clear hc hl hvl hsk HT hlm h4 x1 x2 HE0 ln0 ix0 hq0 hk0 HE1 ln1 ix1 hq1 hk1 c00 c01 c02 c10 c11 c12
    go_enter Tryz.func89, Tryz.ntmps89
    go_wp2_with fail
    rw [<- hW]
    clear hW
    go_wp2_with fail
    refine l0 (by kernel_rfl) (by kernel_rfl) ?_
    repeat (any_goals (first | go_big_quiet_step ((go_at_call 89; first | with_reducible exact HC0.out _ | with_reducible exact HC1.out _)) | quiet_step ((go_at_call 89; first | with_reducible exact HC0.out _ | with_reducible exact HC1.out _))))
    refine wpQuiet_nil ?_
    rintro w' ⟨X, rfl⟩
    have hbX := f8 W X
    all_goals
     go_wp2_with fail
     go_ret
     refine ⟨?_, HB0.out.trans (hbX.mono s0)⟩
     rw [HT1.out]
     show Ending.returned (.string (⟨[40].toArray⟩ ++ q0 ++ ⟨[s3 9].toArray⟩ ++ q1 ++ ⟨[41].toArray⟩ : ByteArray)) = _
     rw [HQ0.out, HQ1.out, i8, i8, i8, i8]
   have hlm : e.kids.length = 2 := by simp [j9] at hl; omega
   have hp0 : 0 < e.kids.length := by omega
   have hp1 : 1 < e.kids.length := by omega
   obtain ⟨b, off, k0, rfl, hbk, hf, c00, c01, c02, hk0⟩ := hc 0 hp0
   obtain ⟨b1, o1, k1, he1, -, -, c10, c11, c12, hk1⟩ := hc 1 hp1
   cases he1
   rw [<- (x9 B0).1 _ _ hbk] at c00 c01 c02
   have HE0 : ∀ W', Below W.heap.size W W' -> x3 W' φ (.agg #[.int .i64 e.kids[0].kind, .int .i64 e.kids[0].value, k0]) e.kids[0] := fun W' hb => ⟨k0, rfl, l8.nice _ _ _ _ _ _ (I5.below (B0.trans (hb.mono s0))) hk0⟩
   have HH0 := hsk _ (b64 hp0)
   have ln0 := m0 nv na d _ HH0
   have ix0 := fun W' hb => ih (by omega) e.kids[0] φ _ W' (HE0 W' hb) HH0 ((HTB.out.on HB0.out).on hb)
   obtain ⟨q0, hq0⟩ : ∃ q : ByteArray, q = ⟨(c8 e.kids[0]).toArray⟩ := ⟨_, rfl⟩
   rw [<- (x9 B0).1 _ _ hbk] at c10 c11 c12
   have HE1 : ∀ W', Below W.heap.size W W' -> x3 W' φ (.agg #[.int .i64 e.kids[1].kind, .int .i64 e.kids[1].value, k1]) e.kids[1] := fun W' hb => ⟨k1, rfl, l8.nice _ _ _ _ _ _ (I5.below (B0.trans (hb.mono s0))) hk1⟩
   have HH1 := hsk _ (b64 hp1)
   have ln1 := m0 nv na d _ HH1
   have ix1 := fun W' hb => ih (by omega) e.kids[1] φ _ W' (HE1 W' hb) HH1 ((HTB.out.on HB0.out).on hb)
   obtain ⟨q1, hq1⟩ : ∃ q : ByteArray, q = ⟨(c8 e.kids[1]).toArray⟩ := ⟨_, rfl⟩
   have h4 : 8 * 4 ^ d <= 8192 := by
    have := b91 (show 0 < 4 by omega) (show d <= 5 by omega)
    omega
   have z0 : q0.size <= 8192 := by rw [hq0]; exact b54 ln0 h4
   rw [<- hq0] at ix0
   have HQ0 := show Hid _ from hq0
   have HI0 := show Hid _ from ix0
   have z1 : q1.size <= 8192 := by rw [hq1]; exact b54 ln1 h4
   rw [<- hq1] at ix1
   have HQ1 := show Hid _ from hq1
   have HI1 := show Hid _ from ix1
   have HT1 : Hid (c8 e = ([(40 : UInt8)] ++ c8 e.kids[0] ++ [s3 10] ++ c8 e.kids[1] ++ [(41 : UInt8)] : List UInt8)) := by
    have h := HT.out
    rw [h]
    show ([(40 : UInt8)] ++ (e.kids.map c8).getD 0 [] ++ [s3 10] ++ (e.kids.map c8).getD 1 [] ++ [(41 : UInt8)] : List UInt8) = _
    simp only [b59, b78, b56 hp0, b56 hp1, b85, b93]
   have x0 := L.cell 0
   have x1 := L.cell 1
   have x2 := L.cell 2
   simp only [b74, b81] at x0 x1 x2
   have y0 := fun X => b9 x0 X
   have y1 := fun X => b9 x1 X
   have y2 := fun X => b9 x2 X
   have u00 : ∀ X, (W.ext X).cell? ⟨b, off, none⟩ = some (.int .i64 e.kids[0].kind) := fun X => b9 (by simpa using c00) X
   have u01 : ∀ X, (W.ext X).cell? ⟨b, off + 1, none⟩ = some (.int .i64 e.kids[0].value) := fun X => b9 (by simpa using c01) X
   have u02 : ∀ X, (W.ext X).cell? ⟨b, off + 2, none⟩ = some (k0) := fun X => b9 (by simpa using c02) X
   have HC0 := show Hid (∀ X, Calls Tryz.prog 89 #[.agg #[.int .i64 e.kids[0].kind, .int .i64 e.kids[0].value, k0]] (W.ext X) fun e w'' => e = .returned (.string q0) /\ ∃ Y, w'' = W.ext Y) from fun X => Calls.ext_of' (HI0.out _ (f8 W X))
   have u10 : ∀ X, (W.ext X).cell? ⟨b, off + 3, none⟩ = some (.int .i64 e.kids[1].kind) := fun X => b9 (by simpa using c10) X
   have u11 : ∀ X, (W.ext X).cell? ⟨b, off + 3 + 1, none⟩ = some (.int .i64 e.kids[1].value) := fun X => b9 (by simpa using c11) X
   have u12 : ∀ X, (W.ext X).cell? ⟨b, off + 3 + 2, none⟩ = some (k1) := fun X => b9 (by simpa using c12) X
   have HC1 := show Hid (∀ X, Calls Tryz.prog 89 #[.agg #[.int .i64 e.kids[1].kind, .int .i64 e.kids[1].value, k1]] (W.ext X) fun e w'' => e = .returned (.string q1) /\ ∃ Y, w'' = W.ext Y) from fun X => Calls.ext_of' (HI1.out _ (f8 W X))
   have hpi0 : (0 : Int) < (e.kids.length : Int) := by omega
   have hpi1 : (1 : Int) < (e.kids.length : Int) := by omega
   have hs1 : ¬ 9223372036854775807 < 1 + q0.size := by omega
   have hs2 : ¬ 9223372036854775807 < 1 + q0.size + 1 := by omega
   have hs3 : ¬ 9223372036854775807 < 1 + q0.size + 1 + q1.size := by omega
   have hs4 : ¬ 9223372036854775807 < 1 + q0.size + 1 + q1.size + 1 := by omega
   clear hc hl hvl hsk HT hlm h4 x1 x2 HE0 ln0 ix0 hq0 hk0 HE1 ln1 ix1 hq1 hk1 c00 c01 c02 c10 c11 c12
   go_enter Tryz.func89, Tryz.ntmps89
   go_wp2_with fail
   rw [<- hW]
   clear hW
   go_wp2_with fail
   refine l0 (by kernel_rfl) (by kernel_rfl) ?_
   repeat (any_goals (first | go_big_quiet_step ((go_at_call 89; first | with_reducible exact HC0.out _ | with_reducible exact HC1.out _)) | quiet_step ((go_at_call 89; first | with_reducible exact HC0.out _ | with_reducible exact HC1.out _))))
   refine wpQuiet_nil ?_
   rintro w' ⟨X, rfl⟩
   have hbX := f8 W X
   all_goals
    go_wp2_with fail
    go_ret
    refine ⟨?_, HB0.out.trans (hbX.mono s0)⟩
    rw [HT1.out]
    show Ending.returned (.string (⟨[40].toArray⟩ ++ q0 ++ ⟨[s3 10].toArray⟩ ++ q1 ++ ⟨[41].toArray⟩ : ByteArray)) = _
    rw [HQ0.out, HQ1.out, i8, i8, i8, i8]
  have hlm : e.kids.length = 3 := by simp [j9] at hl; omega
  have hp0 : 0 < e.kids.length := by omega
  have hp1 : 1 < e.kids.length := by omega
  have hp2 : 2 < e.kids.length := by omega
  obtain ⟨b, off, k0, rfl, hbk, hf, c00, c01, c02, hk0⟩ := hc 0 hp0
  obtain ⟨b1, o1, k1, he1, -, -, c10, c11, c12, hk1⟩ := hc 1 hp1
  cases he1
  obtain ⟨b2, o2, k2, he2, -, -, c20, c21, c22, hk2⟩ := hc 2 hp2
  cases he2
  rw [<- (x9 B0).1 _ _ hbk] at c00 c01 c02
  have HE0 : ∀ W', Below W.heap.size W W' -> x3 W' φ (.agg #[.int .i64 e.kids[0].kind, .int .i64 e.kids[0].value, k0]) e.kids[0] := fun W' hb => ⟨k0, rfl, l8.nice _ _ _ _ _ _ (I5.below (B0.trans (hb.mono s0))) hk0⟩
  have HH0 := hsk _ (b64 hp0)
  have ln0 := m0 nv na d _ HH0
  have ix0 := fun W' hb => ih (by omega) e.kids[0] φ _ W' (HE0 W' hb) HH0 ((HTB.out.on HB0.out).on hb)
  obtain ⟨q0, hq0⟩ : ∃ q : ByteArray, q = ⟨(c8 e.kids[0]).toArray⟩ := ⟨_, rfl⟩
  rw [<- (x9 B0).1 _ _ hbk] at c10 c11 c12
  have HE1 : ∀ W', Below W.heap.size W W' -> x3 W' φ (.agg #[.int .i64 e.kids[1].kind, .int .i64 e.kids[1].value, k1]) e.kids[1] := fun W' hb => ⟨k1, rfl, l8.nice _ _ _ _ _ _ (I5.below (B0.trans (hb.mono s0))) hk1⟩
  have HH1 := hsk _ (b64 hp1)
  have ln1 := m0 nv na d _ HH1
  have ix1 := fun W' hb => ih (by omega) e.kids[1] φ _ W' (HE1 W' hb) HH1 ((HTB.out.on HB0.out).on hb)
  obtain ⟨q1, hq1⟩ : ∃ q : ByteArray, q = ⟨(c8 e.kids[1]).toArray⟩ := ⟨_, rfl⟩
  rw [<- (x9 B0).1 _ _ hbk] at c20 c21 c22
  have HE2 : ∀ W', Below W.heap.size W W' -> x3 W' φ (.agg #[.int .i64 e.kids[2].kind, .int .i64 e.kids[2].value, k2]) e.kids[2] := fun W' hb => ⟨k2, rfl, l8.nice _ _ _ _ _ _ (I5.below (B0.trans (hb.mono s0))) hk2⟩
  have HH2 := hsk _ (b64 hp2)
  have ln2 := m0 nv na d _ HH2
  have ix2 := fun W' hb => ih (by omega) e.kids[2] φ _ W' (HE2 W' hb) HH2 ((HTB.out.on HB0.out).on hb)
  obtain ⟨q2, hq2⟩ : ∃ q : ByteArray, q = ⟨(c8 e.kids[2]).toArray⟩ := ⟨_, rfl⟩
  have h4 : 8 * 4 ^ d <= 8192 := by
   have := b91 (show 0 < 4 by omega) (show d <= 5 by omega)
   omega
  have z0 : q0.size <= 8192 := by rw [hq0]; exact b54 ln0 h4
  rw [<- hq0] at ix0
  have HQ0 := show Hid _ from hq0
  have HI0 := show Hid _ from ix0
  have z1 : q1.size <= 8192 := by rw [hq1]; exact b54 ln1 h4
  rw [<- hq1] at ix1
  have HQ1 := show Hid _ from hq1
  have HI1 := show Hid _ from ix1
  have z2 : q2.size <= 8192 := by rw [hq2]; exact b54 ln2 h4
  rw [<- hq2] at ix2
  have HQ2 := show Hid _ from hq2
  have HI2 := show Hid _ from ix2
  have HT1 : Hid (c8 e = ([(40 : UInt8)] ++ c8 e.kids[0] ++ [(63 : UInt8)] ++ c8 e.kids[1] ++ [(58 : UInt8)] ++ c8 e.kids[2] ++ [(41 : UInt8)] : List UInt8)) := by
   have h := HT.out
   rw [h]
   show ([(40 : UInt8)] ++ (e.kids.map c8).getD 0 [] ++ [(63 : UInt8)] ++ (e.kids.map c8).getD 1 [] ++ [(58 : UInt8)] ++ (e.kids.map c8).getD 2 [] ++ [(41 : UInt8)] : List UInt8) = _
   simp only [b59, b78, b56 hp0, b56 hp1, b56 hp2, b85, b93]
  have x0 := L.cell 0
  have x1 := L.cell 1
  have x2 := L.cell 2
  simp only [b74, b81] at x0 x1 x2
  have y0 := fun X => b9 x0 X
  have y1 := fun X => b9 x1 X
  have y2 := fun X => b9 x2 X
  have u00 : ∀ X, (W.ext X).cell? ⟨b, off, none⟩ = some (.int .i64 e.kids[0].kind) := fun X => b9 (by simpa using c00) X
  have u01 : ∀ X, (W.ext X).cell? ⟨b, off + 1, none⟩ = some (.int .i64 e.kids[0].value) := fun X => b9 (by simpa using c01) X
  have u02 : ∀ X, (W.ext X).cell? ⟨b, off + 2, none⟩ = some (k0) := fun X => b9 (by simpa using c02) X
  have HC0 := show Hid (∀ X, Calls Tryz.prog 89 #[.agg #[.int .i64 e.kids[0].kind, .int .i64 e.kids[0].value, k0]] (W.ext X) fun e w'' => e = .returned (.string q0) /\ ∃ Y, w'' = W.ext Y) from fun X => Calls.ext_of' (HI0.out _ (f8 W X))
  have u10 : ∀ X, (W.ext X).cell? ⟨b, off + 3, none⟩ = some (.int .i64 e.kids[1].kind) := fun X => b9 (by simpa using c10) X
  have u11 : ∀ X, (W.ext X).cell? ⟨b, off + 3 + 1, none⟩ = some (.int .i64 e.kids[1].value) := fun X => b9 (by simpa using c11) X
  have u12 : ∀ X, (W.ext X).cell? ⟨b, off + 3 + 2, none⟩ = some (k1) := fun X => b9 (by simpa using c12) X
  have HC1 := show Hid (∀ X, Calls Tryz.prog 89 #[.agg #[.int .i64 e.kids[1].kind, .int .i64 e.kids[1].value, k1]] (W.ext X) fun e w'' => e = .returned (.string q1) /\ ∃ Y, w'' = W.ext Y) from fun X => Calls.ext_of' (HI1.out _ (f8 W X))
  have u20 : ∀ X, (W.ext X).cell? ⟨b, off + 6, none⟩ = some (.int .i64 e.kids[2].kind) := fun X => b9 (by simpa using c20) X
  have u21 : ∀ X, (W.ext X).cell? ⟨b, off + 6 + 1, none⟩ = some (.int .i64 e.kids[2].value) := fun X => b9 (by simpa using c21) X
  have u22 : ∀ X, (W.ext X).cell? ⟨b, off + 6 + 2, none⟩ = some (k2) := fun X => b9 (by simpa using c22) X
  have HC2 := show Hid (∀ X, Calls Tryz.prog 89 #[.agg #[.int .i64 e.kids[2].kind, .int .i64 e.kids[2].value, k2]] (W.ext X) fun e w'' => e = .returned (.string q2) /\ ∃ Y, w'' = W.ext Y) from fun X => Calls.ext_of' (HI2.out _ (f8 W X))
  have hpi0 : (0 : Int) < (e.kids.length : Int) := by omega
  have hpi1 : (1 : Int) < (e.kids.length : Int) := by omega
  have hpi2 : (2 : Int) < (e.kids.length : Int) := by omega
  have hs1 : ¬ 9223372036854775807 < 1 + q0.size := by omega
  have hs2 : ¬ 9223372036854775807 < 1 + q0.size + 1 := by omega
  have hs3 : ¬ 9223372036854775807 < 1 + q0.size + 1 + q1.size := by omega
  have hs4 : ¬ 9223372036854775807 < 1 + q0.size + 1 + q1.size + 1 := by omega
  have hs5 : ¬ 9223372036854775807 < 1 + q0.size + 1 + q1.size + 1 + q2.size := by omega
  have hs6 : ¬ 9223372036854775807 < 1 + q0.size + 1 + q1.size + 1 + q2.size + 1 := by omega
  clear hc hl hvl hsk HT hlm h4 x1 x2 HE0 ln0 ix0 hq0 hk0 HE1 ln1 ix1 hq1 hk1 HE2 ln2 ix2 hq2 hk2 c00 c01 c02 c10 c11 c12 c20 c21 c22
  go_enter Tryz.func89, Tryz.ntmps89
  go_wp2_with fail
  rw [<- hW]
  clear hW
  go_wp2_with fail
  refine l0 (by kernel_rfl) (by kernel_rfl) ?_
  repeat (any_goals (first | go_big_quiet_step ((go_at_call 89; first | with_reducible exact HC0.out _ | with_reducible exact HC1.out _ | with_reducible exact HC2.out _)) | quiet_step ((go_at_call 89; first | with_reducible exact HC0.out _ | with_reducible exact HC1.out _ | with_reducible exact HC2.out _))))
  refine wpQuiet_nil ?_
  rintro w' ⟨X, rfl⟩
  have hbX := f8 W X
  all_goals
   go_wp2_with fail
   go_ret
   refine ⟨?_, HB0.out.trans (hbX.mono s0)⟩
   rw [HT1.out]
   show Ending.returned (.string (⟨[40].toArray⟩ ++ q0 ++ ⟨[63].toArray⟩ ++ q1 ++ ⟨[58].toArray⟩ ++ q2 ++ ⟨[41].toArray⟩ : ByteArray)) = _
   rw [HQ0.out, HQ1.out, HQ2.out, i8, i8, i8, i8, i8, i8]
end Go.Proofs.YtompcdbfongedaaGreatDoor

namespace Go.Proofs.YtompcdbfongedaaGreatDoor
open Go Go.RowKit Go.Shelf
def as3 : Go.Shelf.Ren := ⟨fun | 169 => 87 | n => n, fun | 70 => 107 | 9 => 9 | 0 => 0 | 72 => 109 | 37 => 31 | 127 => 129 | 3 => 3 | 5 => 5 | n => n, fun | n => n⟩
theorem bz0 : Go.Proofs.Lays.n169 Tryz.prog as3 := {
 mixed := by kernel_rfl
 f169 := Tryz.func87.trans (congrArg some (by kernel_rfl))
 t0 := Tryz.underlying0
 a0 := Tryz.isAgg0
 z0 := Tryz.sizeOf0
 v0 := Tryz.zeroValue0
 t3 := Tryz.underlying3
 a3 := Tryz.isAgg3
 z3 := Tryz.sizeOf3
 v3 := Tryz.zeroValue3
 t9 := Tryz.underlying9
 a9 := Tryz.isAgg9
 z9 := Tryz.sizeOf9
 v9 := Tryz.zeroValue9
 t37 := Tryz.underlying31
 a37 := Tryz.isAgg31
 z37 := Tryz.sizeOf31
 v37 := Tryz.zeroValue31
 t70 := Tryz.underlying107
 a70 := Tryz.isAgg107
 z70 := Tryz.sizeOf107
 v70 := Tryz.zeroValue107
 t72 := Tryz.underlying109
 a72 := Tryz.isAgg109
 z72 := Tryz.sizeOf109
 v72 := Tryz.zeroValue109
 t127 := Tryz.underlying129
 a127 := Tryz.isAgg129
 z127 := Tryz.sizeOf129
 v127 := Tryz.zeroValue129 }
theorem K4 : Builder.Extra Tryz.prog as3 := {
 sizeBuilder := by kernel_rfl
 liesBuilder := by kernel_rfl
 t5 := Tryz.underlying5
 a5 := Tryz.isAgg5
 z5 := Tryz.sizeOf5
 v5 := Tryz.zeroValue5
 infoByte := by kernel_rfl
 cellsByte := by kernel_rfl
 sizeByte := by kernel_rfl
 neB5 := by decide }
theorem aB4 (B b : Nat) (l : List UInt8) (w : World) (h : Lib.IsBuilder 109 5 B b (Lib.byteCells l) w) (hBw : B <= w.heap.size) :
  Calls Tryz.prog 87 #[.pointer (some ⟨b, 0, none⟩)] w fun e w' => e = .returned (.string ⟨l.toArray⟩) /\ Below B w w' := Any.Builder_String_any bz0 K4 B b l w h hBw
theorem Y8 (b : Nat) (w : World) (h0 : w.cell? ⟨b, 0, none⟩ = some (.pointer (some ⟨b, 0, none⟩))) :
  Calls Tryz.prog 114 #[.pointer (some ⟨b, 0, none⟩)] w fun e w' => e = .returned (.tuple #[]) /\ w' = w := by
 obtain ⟨j, hj, _⟩ := b61.1 K4.sizeBuilder
 go_enter Tryz.func114, Tryz.ntmps114
 go_wp2
 rw [Lib.run_neq_ptr_same w _ Tryz.underlying107 hj]
 go_wp2
 go_end0
 exact ⟨rfl, rfl⟩
theorem X1 (b : Nat) (w : World) (h0 : w.cell? ⟨b, 0, none⟩ = some (.pointer none)) (hsh : w.shape? b = some (109, 2)) (hfz : w.frozen? ⟨b, 0, none⟩ = false) :
  Calls Tryz.prog 114 #[.pointer (some ⟨b, 0, none⟩)] w fun e w' => e = .returned (.tuple #[]) /\ w' = w.setCell ⟨b, 0, none⟩ (.pointer (some ⟨b, 0, none⟩)) := by
 obtain ⟨j, hj, hjs⟩ := b61.1 K4.sizeBuilder
 go_enter Tryz.func114, Tryz.ntmps114
 go_wp2
 rw [Lib.run_to_unsafe w ⟨b, 0, none⟩ Tryz.underlying107 Tryz.underlying139 hj (by rw [hjs]; decide) hsh (Nat.zero_lt_succ 1)]
 simp only [Result.andThen]
 rw [Oper.upon_value]
 go_wp2
 rw [run_callFunc_extern Tryz.func132 (by kernel_rfl) (by kernel_rfl) (by kernel_rfl) (e := Extern.AbiNoEscape.same) (by kernel_rfl)]
 rw [Lib.run_noEscape]
 simp only [Result.andThen]
 rw [Oper.upon_value]
 go_wp2
 rw [Lib.run_from_unsafe w ⟨b, 0, none⟩ Tryz.underlying139 Tryz.underlying107 hj hsh K4.liesBuilder]
 simp only [Result.andThen]
 rw [Oper.upon_value]
 go_wp2
 go_end0
 exact ⟨rfl, rfl⟩
theorem am0 (B b : Nat) (bs : List Value) (w : World) (h : Lib.IsBuilder 109 5 B b bs w) :
  Calls Tryz.prog 114 #[.pointer (some ⟨b, 0, none⟩)] w fun e w' => e = .returned (.tuple #[]) /\ (Lib.BuilderAt 109 5 B b (.pointer (some ⟨b, 0, none⟩)) bs w' /\ Below B w w') := by
 rcases h with h | h
 ·refine (X1 b w h.cell0 h.shape h.frozen0).mono ?_
  rintro e w' ⟨rfl, rfl⟩
  exact ⟨rfl, h.used _, (Below.refl B w).setCell (p := ⟨b, 0, none⟩) h.1 _⟩
 refine (Y8 b w h.cell0).mono ?_
 rintro e w' ⟨rfl, rfl⟩
 exact ⟨rfl, h, Below.refl B _⟩
theorem am1 (B b : Nat) (bs : List Value) (c : Int) (w : World) (h : Lib.IsBuilder 109 5 B b bs w) (hlen : bs.length + 1 <= 140737488355328) (hBw : B <= w.heap.size) :
  Calls Tryz.prog 86 #[.pointer (some ⟨b, 0, none⟩), .int .u8 c] w fun e w' => e = .returned .nilIface /\ (Lib.BuilderAt 109 5 B b (.pointer (some ⟨b, 0, none⟩)) (bs ++ [.int .u8 c]) w' /\ Below B w w') := by
 obtain ⟨i0, hi, hz0, hz1, hz2⟩ := info_parts K4.infoByte
 go_enter Tryz.func86, Tryz.ntmps86
 go_wp2_with fail
 refine (am0 B b bs _ h).mono ?_
 rintro e w1 ⟨rfl, h1, hb1⟩
 obtain ⟨hB, v, hbk, hown, hne⟩ := h1
 have c0 : w1.cell? ⟨b, 0, none⟩ = some (.pointer (some ⟨b, 0, none⟩)) := by rw [Lib.cell_of_heap hbk]; rfl
 have c1 : w1.cell? ⟨b, 1, none⟩ = some v := by rw [Lib.cell_of_heap hbk]; rfl
 go_wp2_with (at_builtin; refine wpList_append_own _ rfl _ _ 31 rfl B 5 i0 (.int .u8 0) 1 1 Tryz.underlying31 hi hz0 hz1 hz2 rfl (by decide) _ _ _ rfl (hown.alloc _) ⟨w1.heap.size, 0, none⟩ 1 1 [.int .u8 c] rfl rfl ?c1 ?c2 ?c3 ?c4 ?c5 ?_)
 case c1 =>
  intro j u hj
  match j, hj with
  | 0, hj => simp at hj; subst hj; simp [Addr.add]
 case c2 => intro u hu; simp at hu; subst hu; rfl
 case c3 => unfold maxLen; omega
 case c4 => omega
 case c5 => have := hb1.size; simp; omega
 intro v' w2 hown' hgrow _
 have hlt : b < w1.heap.size := by
  rcases b86 b w1.heap.size with h' | h'
  ·exact h'
  simp [Array.getElem?_eq_none h'] at hbk
 have hb2 : w2.heap[b]? = some (.cells #[.pointer (some ⟨b, 0, none⟩), v] 109 (0, 0)) := by
  rw [hgrow.block b (by simp; omega) (fun e => hne e.symm), Lib.alloc_old w1 _ b hlt]
  exact hbk
 have d0 : w2.cell? ⟨b, 0, none⟩ = some (.pointer (some ⟨b, 0, none⟩)) := by rw [Lib.cell_of_heap hb2]; rfl
 have d1 : w2.cell? ⟨b, 1, none⟩ = some v := by rw [Lib.cell_of_heap hb2]; rfl
 have f1 : w2.frozen? ⟨b, 1, none⟩ = false := Lib.frozen_of_heap hb2 1
 obtain ⟨g, cap, rfl⟩ : ∃ g cap, v' = .slice (some ⟨g, 0, none⟩) (bs.length + 1) cap := by
  rcases hown'.2 with ⟨_, h0⟩ | ⟨g, cap, cur, hv, _⟩
  ·omega
  exact ⟨g, cap, hv⟩
 go_wp2_with fail
 go_ret
 refine ⟨rfl, ?_, ?_⟩
 ·exact Lib.BuilderAt.put (T := 109) (e := 5) hB hb2 (bs' := bs ++ [.int .u8 c]) (by simpa using hown') (by decide)
 exact ((hb1.alloc (by have := hb1.size; omega) _).grown hgrow (by have := hb1.size; simp; omega) (fun k hk => (hown.lt k hk).1)).setCell (p := ⟨b, 1, none⟩) hB _
end Go.Proofs.YtompcdbfongedaaGreatDoor

namespace Go.Proofs.YtompcdbfongedaaGreatDoor
open Go Go.RowKit Go.ChangeShapes Go.WideShapes Go.Deep
section
variable {H : Type} {enc : TypeId × Value -> H} {W : World}
theorem ag8 {fuel : Nat} {t : TypeId} {v : Value} {x : DataW H × List MemPlace} (ht : Tryz.prog.underlying t = some (.slice 5))
  (h : DataW.trod enc Tryz.prog W 0 (fun _ => true) true fuel t [v] = some x) : ∃ l : List UInt8, V0 W v l.length 1 (l.map fun b => Value.int .u8 (b.toNat : Int)) := by
 obtain ⟨n, m, C, hr, hC, hx⟩ := aQ4 ht (sz := 1) (by kernel_rfl) (by omega) h
 obtain ⟨g, hg⟩ := choose_lt (α := UInt8) (n := n) (p := fun i b => C i = [.int .u8 (b.toNat : Int)]) (fun i hi => by
  obtain ⟨y, hy⟩ := hx i hi
  obtain ⟨z, hz, _, hw⟩ := DataW.trod_int Tryz.underlying5 hy
  simp only [Lit.wf, b57, decide_eq_true_eq] at hw
  have h0 : (0 : Int) <= z := hw.1
  have h1 : z <= 255 := hw.2
  refine ⟨UInt8.ofNat z.toNat, ?_⟩
  rw [hz]
  have e : (UInt8.ofNat z.toNat).toNat = z.toNat := by
   rw [UInt8.toNat_ofNat']; omega
  rw [e, Int.toNat_of_nonneg h0])
 refine ⟨(b82 n).map g, ?_⟩
 rw [List.length_map, List.length_range, <- ay0 n C (fun b => Value.int .u8 (b.toNat : Int)) g hg]
 exact hr
end
end Go.Proofs.YtompcdbfongedaaGreatDoor

namespace Go.Proofs.YtompcdbfongedaaGreatDoor
open Go Go.RowKit
theorem aC4 {P : Program} {W : World} {sp : Nat -> Bool} {fuel : Nat} {t : TypeId} {m} {cs : List Value} {nm : String} {d : DataW Unit} {p : List MemPlace} (ht : P.underlying t = some (.interface m)) (h : DataW.trod (fun _ => ()) P W 0 sp false fuel t cs = some (.iface nm d, p)) : ∃ te pe, cs = [.iface te pe] := by
 cases fuel with
 | zero => simp [DataW.trod] at h
 | succ fuel =>
  unfold DataW.trod at h
  rw [ht] at h
  split at h <;> first | (exact ⟨_, _, rfl⟩) | (simp_all; done) | (simp at h)
theorem aU0 {P : Program} {W : World} {n nm : String} {d : DataW Unit} {g : Nat} {t : TypeId} {m} (hg : P.globalNamed n = some g) (hty : (P.globals[g]?).map (·.type) = some t) (ht : P.underlying t = some (.interface m)) (h : laidMet P [(n, .iface nm d)] W) : ∃ te pe, W.var? P n = some #[.iface te pe] := by
 obtain ⟨ps, ⟨g', t', cs, fuel, p, q, hg', ht', hvar, hd, _, _⟩, _⟩ := h
 obtain rfl := Option.some.inj (hg.symm.trans hg')
 obtain rfl := Option.some.inj (hty.symm.trans ht')
 obtain ⟨te, pe, e⟩ := aC4 ht hd
 exact ⟨te, pe, by rw [hvar]; exact congrArg some (Array.ext' e)⟩
theorem br0 {W : World} (h : laidMetH Tryz.prog Rows.fnExactParseProgramRow.laid W) : bf8 (fun _ => True) W := by
 have h2 : laidMetH Tryz.prog [("internal/strconv.uint64pow10", Lib.tabData .u64 Lib.pow10Tab)] W := h.filter fun x => x.1 == "internal/strconv.uint64pow10"
 have h4 : laidMetH Tryz.prog [("strconv.ErrSyntax", Rows.laid_strconv_ErrSyntax)] W := h.filter fun x => x.1 == "strconv.ErrSyntax"
 have h5 : laidMetH Tryz.prog [("strconv.ErrRange", Rows.laid_strconv_ErrRange)] W := h.filter fun x => x.1 == "strconv.ErrRange"
 rw [MakeChecks.laidMetH_plain _ _ _ (by kernel_rfl)] at h2 h4 h5
 have g1 : Tryz.prog.globalNamed "strconv.ErrSyntax" = some 3 := by kernel_rfl
 have g2 : Tryz.prog.globalNamed "strconv.ErrRange" = some 4 := by kernel_rfl
 obtain ⟨a, b, e1⟩ := aU0 g1 (t := 111) (by kernel_rfl) Tryz.underlying111 h4
 obtain ⟨c, d, e2⟩ := aU0 g2 (t := 111) (by kernel_rfl) Tryz.underlying111 h5
 have h3 := Lib.tabIs_of_head (t := 170) (e := 158) (n := 20) (show Tryz.prog.globalNamed "internal/strconv.uint64pow10" = some 5 by kernel_rfl) (by kernel_rfl) Tryz.underlying170 Tryz.underlying158 (by kernel_rfl) (by kernel_rfl) h2
 refine fun w' hk => ?_
 have hb := hk.below fun _ _ => trivial
 exact ⟨Lib.tabBelow_of_tabIs h3 w' hb, ⟨a, b, Joins.var_stays g1 e1 hb (b71 _)⟩, ⟨c, d, Joins.var_stays g2 e2 hb (b71 _)⟩⟩
end Go.Proofs.YtompcdbfongedaaGreatDoor
