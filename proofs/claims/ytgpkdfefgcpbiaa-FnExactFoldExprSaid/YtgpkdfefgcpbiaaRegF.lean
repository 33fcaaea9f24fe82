/-
  Regions that draw their order, over memory that grows: what each operation hands is known by a predicate of its own; new boxes are kept apart. Conditions: as the Bools say.
-/
import Derived.Test.YtgpkdfefgcpbiaaMem
namespace Go.Proofs.Ytgpkdfefgcpbiaa
set_option linter.unusedVariables false
set_option linter.unusedSimpArgs false
open Go Go.RowKit

theorem one_int (x : Int) : ∀ u ∈ [Value.int .i64 x], u.oneCell' = true := by intro u hu; simp at hu; subst hu; rfl
section
variable {P : Program}

/-- Further memory; S: the new boxes. -/
structure Grows (wr w : World) (S : Nat → Prop) : Prop where
  below : Below wr.heap.size wr w
  box : ∀ b, S b → wr.heap.size ≤ b ∧ b < w.heap.size
theorem Grows.start (w : World) : Grows w w.drew fun _ => False := ⟨(Below.refl _ _).drew, fun _ h => h.elim⟩
theorem Grows.call {wr w w' : World} {S : Nat → Prop} (h : Grows wr w S) (b : Below w.heap.size w w') : Grows wr w' S := ⟨h.below.trans (b.mono h.below.size), fun c hc => ⟨(h.box c hc).1, Nat.lt_of_lt_of_le (h.box c hc).2 b.size⟩⟩
theorem Grows.new {wr w w' : World} {S : Nat → Prop} (h : Grows wr w S) (b : Below w.heap.size w w') (hs : w.heap.size < w'.heap.size) : Grows wr w' fun c => S c ∨ c = w.heap.size :=
  ⟨h.below.trans (b.mono h.below.size), fun c hc => by
    rcases hc with hc | rfl
    · exact ⟨(h.box c hc).1, Nat.lt_of_lt_of_le (h.box c hc).2 b.size⟩
    · exact ⟨h.below.size, hs⟩⟩
/-- What may be read beside the new boxes. -/
def RF (φ S : Nat → Prop) (b : Nat) : Prop := φ b ∧ ¬ S b
theorem Grows.fresh {wr w : World} {S φ : Nat → Prop} (h : Grows wr w S) (hf : ∀ b, wr.heap.size ≤ b → φ b) : ∀ b, w.heap.size ≤ b → RF φ S b := fun b hb => ⟨hf b (Nat.le_trans h.below.size hb), fun hs => by have := (h.box b hs).2; omega⟩
theorem Grows.fresh' {wr w w' : World} {S φ : Nat → Prop} (h : Grows wr w S) (_b : Below w.heap.size w w') (hf : ∀ b, wr.heap.size ≤ b → φ b) : ∀ b, b < w'.heap.size → w.heap.size ≤ b → RF φ S b := fun b _ hb => h.fresh hf b hb
/-- What was there can be read still. -/
theorem Grows.old {wr w : World} {S φ : Nat → Prop} (h : Grows wr w S) {R : World → (Nat → Prop) → Prop} (hn : Nice R) (hr : R wr φ) : R w (RF φ S) :=
  hn _ _ _ _ ⟨h.below.size, fun b hb hf => ⟨⟨hf, fun hs => by have := (h.box b hs).1; omega⟩, h.below.block b hb⟩⟩ hr

def StableS (p : Value → World → (Nat → Prop) → Prop) : Prop := ∀ v w w' S S', p v w S → Below w.heap.size w w' → (∀ b, b < w.heap.size → (S' b ↔ S b)) → p v w' S'
def PS (L : List (Value → World → (Nat → Prop) → Prop)) (i : Nat) (v : Value) (w : World) (S : Nat → Prop) : Prop := L.getD i (fun _ _ _ => True) v w S
def StableSL : List (Value → World → (Nat → Prop) → Prop) → Prop
  | [] => True
  | p :: r => StableS p ∧ StableSL r
theorem PS.stable {L : List (Value → World → (Nat → Prop) → Prop)} (h : StableSL L) : ∀ i, StableS (PS L i) := by
  induction L with
  | nil => intro i v w w' S S' _ _ _; simp [PS]
  | cons p r ih =>
    intro i
    cases i with
    | zero => exact h.1
    | succ i => exact ih h.2 i
/-- This value. -/
def IsS (u : Value) : Value → World → (Nat → Prop) → Prop := fun x _ _ => x = u
/-- Some value of a form. -/
def AnyS (p : Value → Prop) : Value → World → (Nat → Prop) → Prop := fun x _ _ => p x
/-- An empty slice that is not nil. -/
def EmpS : Value → World → (Nat → Prop) → Prop := fun x _ _ => ∃ b, x = .slice (some b) 0 0
/-- Data. -/
def DatS (φ : Nat → Prop) (R : Value → World → (Nat → Prop) → Prop) : Value → World → (Nat → Prop) → Prop := fun x w S => R x w (RF φ S)
/-- A new box. -/
def BoxS (cs : List Value) : Value → World → (Nat → Prop) → Prop := fun x w S => ∃ g, x = .pointer (some ⟨g, 0, none⟩) ∧ Blk w g cs ∧ S g
theorem ss_is (u : Value) : StableS (IsS u) := fun _ _ _ _ _ h _ _ => h
theorem ss_any (p : Value → Prop) : StableS (AnyS p) := fun _ _ _ _ _ h _ _ => h
theorem ss_emp : StableS EmpS := fun _ _ _ _ _ h _ _ => h
theorem ss_dat (φ : Nat → Prop) {R : Value → World → (Nat → Prop) → Prop} (hn : ∀ v, Nice (R v)) : StableS (DatS φ R) := fun v _ _ _ _ h hb hs =>
  hn v _ _ _ _ ⟨hb.size, fun b hb' hf => ⟨⟨hf.1, fun h' => hf.2 ((hs b hb').1 h')⟩, hb.block b hb'⟩⟩ h
theorem ss_box (cs : List Value) : StableS (BoxS cs) := fun _ _ _ _ _ ⟨g, h1, h2, h3⟩ hb hs => ⟨g, h1, h2.below hb h2.lt, (hs g h2.lt).2 h3⟩

/-- What is known on the way. -/
def RegI (wr : World) (A : (Nat → Value) → Act) (R : Nat → Value → World → (Nat → Prop) → Prop) (n m : Nat) (listed : Array Bool) (a : Act) (w : World) : Prop :=
  listed.size = m ∧ ∃ f S, a = A f ∧ Grows wr w S ∧ ∀ i, i < n → listed.getD i false = true → R i (f i) w S

theorem RegI.go {wr : World} {a0 : Act} {l : List Oper} {R : Nat → Value → World → (Nat → Prop) → Prop} {n m i : Nat} {o : Oper} (hd : dstsB l = true) (hR : ∀ i, StableS (R i)) (ho : l[i]? = some o) {listed : Array Bool} {f : Nat → Value} {w w' : World} {S S' : Nat → Prop} {v : Value}
    (hsz : listed.size = m) (hv : ∀ i, i < n → listed.getD i false = true → R i (f i) w S) (hb : Below w.heap.size w w') (hs : ∀ b, b < w.heap.size → (S' b ↔ S b)) (hg : Grows wr w' S') (hr : R i v w' S') : RegI wr (putAll a0 l 0) R n m (listed.setIfInBounds i true) ((putAll a0 l 0 f).put o.dst v) w' := by
  refine ⟨by simpa using hsz, upd f i v, S', (by have := putAll_upd l a0 0 i f o v hd ho; rw [Nat.zero_add] at this; exact this.symm), hg, fun j hj g => ?_⟩
  by_cases e : j = i
  · subst e; simpa [upd] using hr
  · rw [getD_set_ne false (fun h => e h.symm)] at g
    simp only [upd, if_neg e]
    exact hR _ _ _ _ _ _ (hv j hj g) hb hs

/-- Where a step may go: no new box, or one. -/
def StepTo (R : Value → World → (Nat → Prop) → Prop) (w : World) (S : Nat → Prop) (K : Value → World → Prop) : Prop :=
  (∀ v w', Below w.heap.size w w' → R v w' S → K v w') ∧ (∀ v w', Below w.heap.size w w' → w.heap.size < w'.heap.size → R v w' (fun b => S b ∨ b = w.heap.size) → K v w')

theorem wp_region_fp {id : Nat} {l : List Oper} {Q : Exit → Act → World → Prop} {a0 : Act} {wr : World} (R : Nat → Value → World → (Nat → Prop) → Prop)
    (hm : P.follows .mixedOrders = true) (hb : backB l.toArray = true) (hd : dstsB l = true) (hR : ∀ i, StableS (R i))
    (step : ∀ i o, l[i]? = some o → ∀ f w S, Grows wr w S → (∀ e ∈ o.after, Region.binds .any e = true → R e.on (f e.on) w S) →
      ∀ Q' : Exit → Act → World → Prop, StepTo (R i) w S (fun v w' => Q' .normal ((putAll a0 l 0 f).put o.dst v) w') → wpList P l.toArray Q' [o] (putAll a0 l 0 f) w)
    (done : ∀ f w S, Grows wr w S → (∀ j, j < l.length → R j (f j) w S) → Q .normal (putAll a0 l 0 f) w) : (Code.region id l.toArray true).wp P Q a0 wr := by
  refine wp_region_inv (RegI wr (putAll a0 l 0) R l.length l.length) hm hb ?_ ?_ ?_
  · obtain ⟨f, hf⟩ := putAll_self l a0 0
    refine ⟨by simp, f, _, hf, Grows.start wr, fun i hi g => ?_⟩
    rw [getD_replicate_false] at g; cases g
  · rintro listed a w ⟨hsz, f, S, rfl, hg, hv⟩ i o ho hun hdep Q' hQ
    refine step i o ho f w S hg (fun e he hbi => ?_) Q' ⟨fun v w' hbw hr => hQ _ _ (RegI.go hd hR ho hsz hv hbw (fun _ _ => Iff.rfl) (hg.call hbw) hr), fun v w' hbw hs hr => hQ _ _ (RegI.go hd hR ho hsz hv hbw (fun b hb' => ⟨fun h => h.elim (fun h => h) fun e => by omega, .inl⟩) (hg.new hbw hs) hr)⟩
    have hl := hdep e he hbi
    have : e.on < listed.size := by
      rcases Nat.lt_or_ge e.on listed.size with h | h
      · exact h
      · simp [Array.getElem?_eq_none h] at hl
    exact hv _ (by omega) hl
  · rintro listed a w ⟨hsz, f, S, rfl, hg, hv⟩ hall
    refine done f w S hg fun j hj => hv j hj ?_
    have := hall j hj
    have hlt : j < listed.size := by omega
    simp [hlt] at this ⊢
    exact this

theorem wp_region_fp_last {id : Nat} {l : List Oper} {Q : Exit → Act → World → Prop} {a0 : Act} {wr : World} (n : Nat) (R : Nat → Value → World → (Nat → Prop) → Prop)
    (hm : P.follows .mixedOrders = true) (hB : lastB l n = true) (hd : dstsB l = true) (hR : ∀ i, StableS (R i))
    (step : ∀ i o, i < n → l[i]? = some o → ∀ f w S, Grows wr w S → (∀ e ∈ o.after, Region.binds .any e = true → R e.on (f e.on) w S) →
      ∀ Q' : Exit → Act → World → Prop, StepTo (R i) w S (fun v w' => Q' .normal ((putAll a0 l 0 f).put o.dst v) w') → wpList P l.toArray Q' [o] (putAll a0 l 0 f) w)
    (last : ∀ o, l[n]? = some o → ∀ f w S, Grows wr w S → (∀ j, j < n → R j (f j) w S) → wpList P l.toArray Q [o] (putAll a0 l 0 f) w) : (Code.region id l.toArray true).wp P Q a0 wr := by
  unfold lastB at hB
  cases ho : l[n]? with
  | none => rw [ho] at hB; cases hB
  | some o =>
    rw [ho] at hB
    simp only [Bool.and_eq_true, decide_eq_true_eq] at hB
    obtain ⟨⟨⟨hn, hs⟩, hc⟩, hb⟩ := hB
    have hn' : l.toArray.size = n + 1 := by simpa using hn
    have inv0 : HeadInv .any l.toArray n (Array.replicate l.toArray.size false) :=
      ⟨by simp, fun j oj _ hl => (by rw [getD_replicate_false] at hl; cases hl), fun t _ ht => getD_in (by simpa using ht) (getD_replicate_false _ _)⟩
    refine wp_region_any hm (wpAny_last (RegI wr (putAll a0 l 0) R n l.length) hn' hs hc hb ?_ ?_ _ _ _ _ inv0 (by simp) ?_)
    · rintro listed a w ⟨hsz, f, S, rfl, hg, hv⟩ i o' hin ho' hun hdep Q' hQ
      refine step i o' hin ho' f w S hg (fun e he hbi => ?_) Q' ⟨fun v w' hbw hr => hQ _ _ (RegI.go hd hR ho' hsz hv hbw (fun _ _ => Iff.rfl) (hg.call hbw) hr), fun v w' hbw hs hr => hQ _ _ (RegI.go hd hR ho' hsz hv hbw (fun b hb' => ⟨fun h => h.elim (fun h => h) fun e => by omega, .inl⟩) (hg.new hbw hs) hr)⟩
      have h1 := List.all_eq_true.1 hb i (List.mem_range.2 (by omega))
      rw [show l.toArray[i]? = some o' by simpa using ho'] at h1
      simp only [Option.any_some] at h1
      have h2 := Array.all_eq_true'.1 h1 e he
      simp only [decide_eq_true_eq] at h2
      exact hv _ (by omega) (hdep e he hbi)
    · rintro listed a w ⟨hsz, f, S, rfl, hg, hv⟩ hall o' ho'
      refine last o' ho' f w S hg fun j hj => hv j hj ?_
      have := hall j hj
      have hlt : j < listed.size := by omega
      simp [hlt] at this ⊢
      exact this
    · obtain ⟨f, hf⟩ := putAll_self l a0 0
      refine ⟨by simp, f, _, hf, Grows.start wr, fun i hi g => ?_⟩
      rw [getD_replicate_false] at g; cases g

/-- append onto an empty slice: what comes out lies in new memory. -/
theorem wpList_app0F {w : World} {ops : Array Oper} {rest : List Oper} {o : Oper} {a : Act} {Q : Exit → Act → World → Prop} {t e : TypeId} {z : Value} {size bytes : Nat} {u v : Value} {m : Nat} {news : List Value}
    (hgd : o.guard = none) (s x : Operand) (ho : o.op = .call { callee := .builtin .append, args := #[s, x], argTypes := #[t, t] })
    (ht : P.underlying t = some (.slice e)) (hi : (P.info? e).map (fun i => (i.zero, i.size, i.bytes)) = some (some z, size, bytes))
    (hzs : z.cells.size = size) (hsz : 0 < size) (hv : ∃ b, v = .slice (some b) 0 0) (hs : a.eval s = v) (hx : a.eval x = u) (hr : Row w u m size news) (hbytes : m * bytes ≤ 140737488355328)
    (h : ∀ x w', RowF w' (fun b => w.heap.size ≤ b) x m size news → Below w.heap.size w w' → wpList P ops Q rest (a.put o.dst x) w') : wpList P ops Q (o :: rest) a w := by
  obtain ⟨b, rfl⟩ := hv
  refine wpList_plain hgd fun K hK => ?_
  have hrun : ∃ x w', (Builtin.append_ #[t, t] o.type #[.slice (some b) 0 0, u]).run P w = .ok x w' ∧ RowF w' (fun b => w.heap.size ≤ b) x m size news ∧ Below w.heap.size w w' := by
    obtain ⟨i, g1, g2, g3, g4⟩ := info_parts hi
    obtain ⟨hl, A, c, rfl, hmc, hc, hA⟩ := hr
    rcases Nat.eq_zero_or_pos m with h0 | h0
    · subst h0
      have hn : news = [] := List.eq_nil_of_length_eq_zero (by simpa using hl)
      subst hn
      refine ⟨.slice (some b) 0 0, w, ?_, ⟨by simp, some b, 0, rfl, Nat.le_refl _, by unfold maxLen; omega, fun h => absurd h (by omega)⟩, Below.refl _ _⟩
      have hz : ∀ a' : Addr, (loadCells a' 0).run P w = .ok #[] w := fun a' => by simpa using run_loadCells_list (P := P) w a' [] (by simp)
      cases A <;> simp [Builtin.append_, run_underlying ht, sizeOf, typeInfo, g1, Builtin.lenOf, Builtin.firstCells, storeCells, hz]
    · obtain ⟨bk, off, rfl, hbk, hx⟩ := hA h0
      obtain ⟨v', w', h1, h2, h3⟩ := run_append_arg_grows (P := P) (w := w) t o.type e i z size bytes ht g1 g2 g3 g4 hzs hsz b 0 0 [] (by simp) (by simp) ⟨bk, off, none⟩ m c news hl
        (fun j u hj => by
          have hadd : (⟨bk, off, none⟩ : Addr).add j = ⟨bk, off + j, none⟩ := by unfold Addr.add; split <;> simp_all
          rw [hadd]; exact hx j u hj) (by omega) (by omega) (by simpa using hbytes)
      have h2' : w'.ownsRow w.heap.size e size v' m news := by simpa using h2
      exact ⟨v', w', h1, owns_rowF h2' fun g hg => (h2'.lt g hg).1, ⟨h3.os, h3.tape, h3.output, h3.size, fun k hk => h3.block k hk (by simp)⟩⟩
  obtain ⟨y, w', hrun, h2, h3⟩ := hrun
  unfold Oper.wp execOp
  simp only [ho, resolve, invoke, builtin, Sem.run_bind, Sem.run_pure, Result.andThen_ok, List.map_toArray, List.map_cons, List.map_nil, hs, hx, hrun]
  exact hK _ _ (h y w' h2 h3)

end

/-- What a region has made, with what there was. -/
theorem Mem.region {φ ψ : Nat → Prop} {w0 wr w : World} {L : List Res} {S : Nat → Prop} (M : Mem φ ψ w0 wr L) (hg : Grows wr w S) {g : Nat} {cs : List Value} (hb : Blk w g cs) (hs : S g) : Mem φ ψ w0 w (L ++ [.box g cs]) :=
  M.add hg.below _ hb fun g' h => by cases h; exact (hg.box _ hs).1
theorem RF.app {φ S : Nat → Prop} {L : List Res} {b : Nat} (h : RF (Fr φ L) S b) (X : List Res) (hX : ∀ r ∈ X, ∀ g, r.blk g → S g) : Fr φ (L ++ X) b :=
  ⟨h.1.1, fun r hr he => by
    rcases List.mem_append.1 hr with hr | hr
    · exact h.1.2 r hr he
    · exact h.2 (hX r hr b he)⟩
/-- Data that a region has made. -/
theorem Mem.rdat {φ ψ : Nat → Prop} {w0 w : World} {L : List Res} {S : Nat → Prop} (X : List Res) (M : Mem φ ψ w0 w (L ++ X)) (hX : ∀ r ∈ X, ∀ g, r.blk g → S g) {R : World → (Nat → Prop) → Prop} (hn : Nice R) (h : R w (RF (Fr φ L) S)) : Mem φ ψ w0 w (L ++ X ++ [.dat R]) :=
  M.dat hn (hn _ _ _ _ (Agr.mono fun _ _ hf => hf.app X hX) h)

end Go.Proofs.Ytgpkdfefgcpbiaa
