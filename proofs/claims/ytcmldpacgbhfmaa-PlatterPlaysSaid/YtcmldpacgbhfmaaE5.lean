/- A platter and the document's own one side by side. -/
import Derived.Test.YtcmldpacgbhfmaaE4
namespace Go.Proofs.Ytcmldpacgbhfmaa.V
open Go.RowKit Go.Proofs.YtcmldpacgbhfmaaW.PrintWords Go.Proofs.YtcmldpacgbhfmaaW.PrintLast Go.Proofs.YtcmldpacgbhfmaaW.PrintMore
set_option linter.unusedVariables false
set_option linter.unusedSimpArgs false

/-- blocks of type 51 stay -/
def Keep51 (w w' : World) : Prop := ∀ (k : Nat) (cs : Array Value), w.heap[k]? = some (.cells cs 51 (0, 0)) → w'.heap[k]? = some (.cells cs 51 (0, 0))
theorem Keep51.of_below {w w' : World} (h : Below w.heap.size w w') : Keep51 w w' := fun k cs hk => (h.block k (blk_lt hk)).trans hk
def OwnR (w : World) (k : Nat) : Prop := ∃ cs q, w.heap[k]? = some (.cells cs q (0, 0)) ∧ (q = 55 ∨ q = 9 ∨ q = 70)
theorem IsR.narrow2 {base : Nat} {F : Nat → Prop} {w : World} {g : Nat} {S : RS} (h : IsR base F w g S) : IsR base (fun k => F k ∧ k < w.heap.size ∧ OwnR w k) w g S := by
  obtain ⟨v, B, h1, h2, h3, h6, h7⟩ := h
  refine ⟨v, B, h1, h2, ⟨h3, blk_lt h1, _, _, h1, .inl rfl⟩, ?_, ?_⟩
  · refine Kd.R_mono (Kd.R_bound h6) ?_
    rintro k ⟨a, b, d, q, hq, cs, hc⟩
    refine ⟨a, d, cs, q, hc, ?_⟩
    simp [Kd.string, Kd.scalar] at hq
    exact .inr (.inl hq)
  · refine Kd.R_mono (Kd.R_bound h7) ?_
    rintro k ⟨a, b, d, q, hq, cs, hc⟩
    refine ⟨a, d, cs, q, hc, ?_⟩
    simp [k65, Kd.iso, Kd.pair, Kd.int, Kd.string, Kd.scalar] at hq
    exact .inr (.inr hq)
theorem keep51_P {w w' : World} {F : Nat → Prop} (h : Kept w w' F) (hF : ∀ k, F k → Own w k) : Keep51 w w' := by
  intro k cs hk
  rw [h.2 k (blk_lt hk) ?_]; exact hk
  intro hf
  rcases hF k hf with ⟨cs', q, e, hq⟩ | ⟨es, c, e⟩
  · rw [hk] at e
    injection e with e
    injection e with _ e
    subst e
    rcases hq with h | h | h <;> exact absurd h (by decide)
  · rw [hk] at e; cases e
theorem keep51_R {w w' : World} {F : Nat → Prop} (h : Kept w w' F) (hF : ∀ k, F k → OwnR w k) : Keep51 w w' := by
  intro k cs hk
  rw [h.2 k (blk_lt hk) ?_]; exact hk
  intro hf
  obtain ⟨cs', q, e, hq⟩ := hF k hf
  rw [hk] at e
  injection e with e
  injection e with _ e
  subst e
  rcases hq with h | h | h <;> exact absurd h (by decide)
def Is2 (w0 w : World) (p : Nat) (S : PS) (r : Nat) (R : RS) : Prop :=
  Below w0.heap.size w0 w ∧ ∃ Fp Fr : Nat → Prop, IsP w0.heap.size Fp w p S ∧ IsR w0.heap.size Fr w r R ∧ (∀ k, Fp k → w0.heap.size ≤ k) ∧ (∀ k, Fr k → w0.heap.size ≤ k) ∧ ∀ k, Fp k → ¬ Fr k
/-- and one that is left behind -/
def Is3 (w0 w : World) (a : Nat) (A : PS) (p : Nat) (S : PS) (r : Nat) (R : RS) : Prop :=
  Below w0.heap.size w0 w ∧ ∃ Fa Fp Fr : Nat → Prop, IsP w0.heap.size Fa w a A ∧ IsP w0.heap.size Fp w p S ∧ IsR w0.heap.size Fr w r R ∧ (∀ k, Fa k → w0.heap.size ≤ k) ∧ (∀ k, Fp k → w0.heap.size ≤ k) ∧ (∀ k, Fr k → w0.heap.size ≤ k) ∧ (∀ k, Fp k → ¬ Fr k) ∧ (∀ k, Fa k → ¬ Fp k) ∧ (∀ k, Fa k → ¬ Fr k)
section
variable {w0 w w' : World} {a p r : Nat} {A A' S S' : PS} {R R' : RS}
theorem Is2.below (h : Is2 w0 w p S r R) (hb : Below w.heap.size w w') : Is2 w0 w' p S r R := by
  obtain ⟨h1, Fp, Ft, h2, h3, h4, h5, h6⟩ := h
  exact ⟨h1.trans (hb.mono h1.size), Fp, Ft, h2.below hb, h3.below hb, h4, h5, h6⟩
theorem Is2.alloc (h : Is2 w0 w p S r R) (o : Obj) : Is2 w0 (w.alloc o) p S r R := h.below (below_alloc (Below.refl _ _) o)
theorem Is2.drew (h : Is2 w0 w p S r R) : Is2 w0 w.drew p S r R := h.below (below_drew (Below.refl _ _))
theorem Is3.below (h : Is3 w0 w a A p S r R) (hb : Below w.heap.size w w') : Is3 w0 w' a A p S r R := by
  obtain ⟨h1, Fa, Fp, Ft, h2, h3, h4, h5⟩ := h
  exact ⟨h1.trans (hb.mono h1.size), Fa, Fp, Ft, h2.below hb, h3.below hb, h4.below hb, h5⟩
theorem Is3.drop (h : Is3 w0 w a A p S r R) : Is2 w0 w p S r R := by
  obtain ⟨h1, Fa, Fp, Ft, h2, h3, h4, h5, h6, h7, h8, h9⟩ := h
  exact ⟨h1, Fp, Ft, h3, h4, h6, h7, h8⟩
theorem Is2.cells (h : Is2 w0 w p S r R) : ∃ A c B d, w.heap[r]? = some (.cells #[.slice A R.last.length c, .slice B R.float.length d, .bool R.dead, .int .i64 R.after] 55 (0, 0)) := by
  obtain ⟨h1, Fp, Ft, h2, h3, h4, h5, h6⟩ := h
  obtain ⟨A, c, B, d, e, _⟩ := h3.cells
  exact ⟨A, c, B, d, e⟩
/-- a step of the program's -/
theorem Is2.stepP {E : Ending → Prop} {f : Nat} {args : Array Value} (h : Is2 w0 w p S r R)
    (hc : ∀ F : Nat → Prop, (∀ k, F k → w0.heap.size ≤ k) → IsP w0.heap.size F w p S → Calls Try.prog f args w fun e w' => E e ∧ IsP w0.heap.size (fun k => F k ∨ w.heap.size ≤ k) w' p S' ∧ Kept w w' F ∧ (w0.heap.size ≤ w.heap.size → Below w0.heap.size w w')) :
    Calls Try.prog f args w fun e w' => E e ∧ Is2 w0 w' p S' r R ∧ Keep51 w w' := by
  obtain ⟨h1, Fp, Ft, h2, h3, h4, h5, h6⟩ := h
  refine (hc _ (fun k hk => h4 k hk.1) h2.narrow).mono ?_
  rintro e w' ⟨hE, hi, hk, hb⟩
  refine ⟨hE, ⟨h1.trans (hb h1.size), _, _, hi, h3.narrow2.kept hk (fun k hk1 hk2 => h6 k hk2.1 hk1.1), ?_, fun k hk => h5 k hk.1, ?_⟩, keep51_P hk (fun k hk => hk.2.2.2)⟩
  · rintro k (hk | hk)
    · exact h4 k hk.1
    · exact Nat.le_trans h1.size hk
  · rintro k (hk | hk) hk2
    · exact h6 k hk.1 hk2.1
    · have := hk2.2.1; omega
/-- a step of the document's -/
theorem Is2.stepR {E : Ending → Prop} {f : Nat} {args : Array Value} (h : Is2 w0 w p S r R)
    (hc : ∀ F : Nat → Prop, (∀ k, F k → w0.heap.size ≤ k) → IsR w0.heap.size F w r R → Calls Try.prog f args w fun e w' => E e ∧ IsR w0.heap.size (fun k => F k ∨ w.heap.size ≤ k) w' r R' ∧ Kept w w' F ∧ (w0.heap.size ≤ w.heap.size → Below w0.heap.size w w')) :
    Calls Try.prog f args w fun e w' => E e ∧ Is2 w0 w' p S r R' ∧ Keep51 w w' := by
  obtain ⟨h1, Fp, Ft, h2, h3, h4, h5, h6⟩ := h
  refine (hc _ (fun k hk => h5 k hk.1) h3.narrow2).mono ?_
  rintro e w' ⟨hE, hi, hk, hb⟩
  refine ⟨hE, ⟨h1.trans (hb h1.size), _, _, h2.narrow.kept hk (fun k hk1 hk2 => h6 k hk1.1 hk2.1), hi, fun k hk => h4 k hk.1, ?_, ?_⟩, keep51_R hk (fun k hk => hk.2.2)⟩
  · rintro k (hk | hk)
    · exact h5 k hk.1
    · exact Nat.le_trans h1.size hk
  · rintro k hk2 (hk | hk)
    · exact h6 k hk2.1 hk.1
    · have := hk2.2.2.1; omega
/-- a step of the one left behind -/
theorem Is3.step {E : Ending → Prop} {f : Nat} {args : Array Value} (h : Is3 w0 w a A p S r R)
    (hc : ∀ F : Nat → Prop, (∀ k, F k → w0.heap.size ≤ k) → IsP w0.heap.size F w a A → Calls Try.prog f args w fun e w' => E e ∧ IsP w0.heap.size (fun k => F k ∨ w.heap.size ≤ k) w' a A' ∧ Kept w w' F ∧ (w0.heap.size ≤ w.heap.size → Below w0.heap.size w w')) :
    Calls Try.prog f args w fun e w' => E e ∧ Is3 w0 w' a A' p S r R ∧ Keep51 w w' := by
  obtain ⟨h1, Fa, Fp, Ft, h2, h3, h4, h5, h6, h7, h8, h9, h10⟩ := h
  refine (hc _ (fun k hk => h5 k hk.1) h2.narrow).mono ?_
  rintro e w' ⟨hE, hi, hk, hb⟩
  refine ⟨hE, ⟨h1.trans (hb h1.size), _, _, _, hi, h3.narrow.kept hk (fun k hk1 hk2 => h9 k hk2.1 hk1.1), h4.narrow2.kept hk (fun k hk1 hk2 => h10 k hk2.1 hk1.1), ?_, fun k hk => h6 k hk.1, fun k hk => h7 k hk.1, fun k hk hk2 => h8 k hk.1 hk2.1, ?_, ?_⟩, keep51_P hk (fun k hk => hk.2.2.2)⟩
  · rintro k (hk | hk)
    · exact h5 k hk.1
    · exact Nat.le_trans h1.size hk
  · rintro k (hk | hk) hk2
    · exact h9 k hk.1 hk2.1
    · have := hk2.2.2.1; omega
  · rintro k (hk | hk) hk2
    · exact h10 k hk.1 hk2.1
    · have := hk2.2.1; omega
end
/-! ### the calls -/
section
variable {w0 w w' : World} {a p r : Nat} {A A' S S' : PS} {R R' : RS}
theorem i2_new (w0 w : World) (hb : Below w0.heap.size w0 w) (n : Nat) (h0 : 1 ≤ n) (h1 : n ≤ 200) {p : Nat} {S : PS} (h : IsQ w0 w p S) :
    Calls Try.prog 24 #[.int .i64 n] w fun e w' => ∃ r, e = .returned (.pointer (some ⟨r, 0, none⟩)) ∧ Is2 w0 w' p S r (newR n) := by
  refine (rnew_any w n h0 h1).mono ?_
  rintro e w' ⟨r, rfl, hi, hb'⟩
  refine ⟨r, rfl, hb.trans (hb'.mono hb.size), _, _, h.2.narrow.below hb', (hi.lower hb.size), fun k hk => hk.1, fun k hk => Nat.le_trans hb.size hk, fun k hk hk2 => ?_⟩
  have := hk.2.2.1
  omega
theorem i2_fill (h : Is2 w0 w p S r R) (b : ByteArray) : Calls Try.prog 13 #[.string b] w fun e w' => e = .returned (.string (fill b)) ∧ Is2 w0 w' p S r R ∧ Keep51 w w' := by
  refine (fill_any b w).mono ?_
  rintro e w' ⟨rfl, hb⟩
  exact ⟨rfl, h.below hb, Keep51.of_below hb⟩
theorem i2_loadP (h : Is2 w0 w p S r R) (n : Int) (wn : (Lit.int .i64 n).wf = true) : Calls Try.prog 17 #[.pointer (some ⟨p, 0, none⟩), .int .i64 n] w fun e w' => e = .returned (.tuple #[.string (loadE S n).1, .int .i64 (loadE S n).2]) ∧ Is2 w0 w' p S r R ∧ Keep51 w w' := by
  have h' := h
  obtain ⟨h1, Fp, Ft, h2, _⟩ := h'
  refine (load_any h2 n wn).mono ?_
  rintro e w' ⟨rfl, hb⟩
  exact ⟨rfl, h.below hb, Keep51.of_below hb⟩
theorem i2_loadR (h : Is2 w0 w p S r R) (n : Int) (hl : R.float.length ≤ 1000) : Calls Try.prog 25 #[.pointer (some ⟨r, 0, none⟩), .int .i64 n] w fun e w' => e = .returned (.tuple #[.string (loadR R n).1, .int .i64 (loadR R n).2]) ∧ Is2 w0 w' p S r R ∧ Keep51 w w' := by
  have h' := h
  obtain ⟨h1, Fp, Ft, h2, h3, _⟩ := h'
  refine (rload_any h3 n (by omega)).mono ?_
  rintro e w' ⟨rfl, hb⟩
  exact ⟨rfl, h.below hb, Keep51.of_below hb⟩
theorem i2_halted (h : Is2 w0 w p S r R) : Calls Try.prog 21 #[.pointer (some ⟨p, 0, none⟩)] w fun e w' => e = .returned (.bool S.halted) ∧ Is2 w0 w' p S r R ∧ Below w.heap.size w w' := by
  have h' := h
  obtain ⟨h1, Fp, Ft, h2, h3, _⟩ := h'
  refine (halted_any h2).mono ?_
  rintro e w' ⟨rfl, hb⟩
  exact ⟨rfl, h.below hb, hb⟩
theorem i2_afloat (h : Is2 w0 w p S r R) : Calls Try.prog 19 #[.pointer (some ⟨p, 0, none⟩)] w fun e w' => e = .returned (.int .i64 S.afl.length) ∧ Is2 w0 w' p S r R ∧ Below w.heap.size w w' := by
  have h' := h
  obtain ⟨h1, Fp, Ft, h2, h3, _⟩ := h'
  refine (afloat_any h2).mono ?_
  rintro e w' ⟨rfl, hb⟩
  exact ⟨rfl, h.below hb, hb⟩
theorem i2_pages (h : Is2 w0 w p S r R) : Calls Try.prog 23 #[.pointer (some ⟨p, 0, none⟩)] w fun e w' => e = .returned (.int .i64 S.safe.length) ∧ Is2 w0 w' p S r R ∧ Below w.heap.size w w' := by
  have h' := h
  obtain ⟨h1, Fp, Ft, h2, h3, _⟩ := h'
  refine (pages_any h2).mono ?_
  rintro e w' ⟨rfl, hb⟩
  exact ⟨rfl, h.below hb, hb⟩
theorem i2_storeP (h : Is2 w0 w p S r R) (n : Int) (b : ByteArray) (wn : (Lit.int .i64 n).wf = true) (hl : S.afl.length ≤ 1000) :
    Calls Try.prog 14 #[.pointer (some ⟨p, 0, none⟩), .int .i64 n, .string b] w fun e w' => e = .returned (.int .i64 (storeE S n b)) ∧ Is2 w0 w' p (storeS S n b) r R ∧ Keep51 w w' :=
  Is2.stepP (E := fun e => e = .returned (.int .i64 (storeE S n b))) h (fun F _ hF => store_any hF n b wn (by omega))
theorem i2_storeR (h : Is2 w0 w p S r R) (n : Int) (b : ByteArray) (hl : R.float.length ≤ 1000) :
    Calls Try.prog 26 #[.pointer (some ⟨r, 0, none⟩), .int .i64 n, .string b] w fun e w' => e = .returned (.int .i64 (storeRE R n b)) ∧ Is2 w0 w' p S r (storeRS R n b) ∧ Keep51 w w' :=
  Is2.stepR (E := fun e => e = .returned (.int .i64 (storeRE R n b))) h (fun F _ hF => rstore_any hF n b (by omega))
def setE (S : PS) : Int := if S.halted = true then 7 else 0
def setS (S : PS) : PS := if S.halted = true then S else seS S
def setRE (S : RS) : Int := if S.dead = true then 7 else 0
def setRS (S : RS) : RS := if S.dead = true then S else { S with last := setAll S.last S.float, float := [] }
theorem settle_full {base : Nat} {F : Nat → Prop} {w : World} {g : Nat} {S : PS} (hF : IsP base F w g S) (hp : pagesOk S) (hl : S.afl.length ≤ 1000) :
    Calls Try.prog 15 #[.pointer (some ⟨g, 0, none⟩)] w fun e w' => e = .returned (.int .i64 (setE S)) ∧ IsP base (fun k => F k ∨ w.heap.size ≤ k) w' g (setS S) ∧ Kept w w' F ∧ (base ≤ w.heap.size → Below base w w') := by
  unfold setE setS
  cases hh : S.halted with
  | true =>
    simp only [if_true]
    refine (settle_no hF hh).mono ?_
    rintro e w' ⟨rfl, hb⟩
    exact ⟨rfl, (hF.below hb).mono (fun _ hk => .inl hk), Kept.of_below hb _, fun hle => hb.mono hle⟩
  | false =>
    simp only [Bool.false_eq_true, if_false]
    refine (settle_any hF hh (fun q hq => (hp.2 q hq).1) (by omega)).mono ?_
    rintro e w' ⟨rfl, hi, hk, hb⟩
    exact ⟨rfl, hi.mono (fun _ hk => .inl hk), hk, hb⟩
theorem i2_settleP (h : Is2 w0 w p S r R) (hp : pagesOk S) (hl : S.afl.length ≤ 1000) :
    Calls Try.prog 15 #[.pointer (some ⟨p, 0, none⟩)] w fun e w' => e = .returned (.int .i64 (setE S)) ∧ Is2 w0 w' p (setS S) r R ∧ Keep51 w w' :=
  Is2.stepP (E := fun e => e = .returned (.int .i64 (setE S))) h (fun F _ hF => settle_full hF hp hl)
theorem i2_settleR (h : Is2 w0 w p S r R) (hp : pagesR R) (hl : R.float.length ≤ 1000) :
    Calls Try.prog 27 #[.pointer (some ⟨r, 0, none⟩)] w fun e w' => e = .returned (.int .i64 (setRE R)) ∧ Is2 w0 w' p S r (setRS R) ∧ Keep51 w w' := by
  refine Is2.stepR (E := fun e => e = .returned (.int .i64 (setRE R))) h (fun F _ hF => ?_)
  unfold setRE setRS
  cases hh : R.dead with
  | true =>
    simp only [if_true]
    refine (rsettle_no hF hh).mono ?_
    rintro e w' ⟨rfl, hb⟩
    exact ⟨rfl, (hF.below hb).mono (fun _ hk => .inl hk), Kept.of_below hb _, fun hle => hb.mono hle⟩
  | false =>
    simp only [Bool.false_eq_true, if_false]
    refine (rsettle_any hF hh (fun q hq => (hp.2 q hq).1) (by omega)).mono ?_
    rintro e w' ⟨rfl, hi, hk, hb⟩
    rw [hh] at hi
    exact ⟨rfl, hi.mono (fun _ hk => .inl hk), hk, hb⟩
theorem i2_haltP (h : Is2 w0 w p S r R) (n : Int) :
    Calls Try.prog 20 #[.pointer (some ⟨p, 0, none⟩), .int .i64 n] w fun e w' => e = .returned (.tuple #[]) ∧ Is2 w0 w' p (haltE S n) r R ∧ Keep51 w w' := by
  refine Is2.stepP (E := fun e => e = .returned (.tuple #[])) h (fun F _ hF => (halt_any hF n).mono ?_)
  rintro e w' ⟨rfl, hi, hk, hb⟩
  exact ⟨rfl, hi.mono (fun _ hk => .inl hk), hk, hb⟩
theorem i2_haltR (h : Is2 w0 w p S r R) (n : Int) :
    Calls Try.prog 28 #[.pointer (some ⟨r, 0, none⟩), .int .i64 n] w fun e w' => e = .returned (.tuple #[]) ∧ Is2 w0 w' p S r (haltR R n) ∧ Keep51 w w' := by
  refine Is2.stepR (E := fun e => e = .returned (.tuple #[])) h (fun F _ hF => (rhalt_any hF n).mono ?_)
  rintro e w' ⟨rfl, hi, hk, hb⟩
  exact ⟨rfl, hi.mono (fun _ hk => .inl hk), hk, hb⟩
def failS (R : RS) (cl : List Int) : RS := { last := (failR R cl R.float.length).1, float := [], dead := false, after := -1 }
theorem i2_failP (h : Is2 w0 w p S r R) (hp : pagesOk S) (hl : S.afl.length ≤ 1000) (C : Option Addr) (cc : Nat) (cl : List Int) (hC : (Kd.int .i64).C w0 C cl.length cl) (m : Nat) (hm : m = cl.length) :
    Calls Try.prog 16 #[.pointer (some ⟨p, 0, none⟩), .slice C m cc] w fun e w' => e = .returned (.int .i64 (failed S cl S.afl.length).2) ∧ Is2 w0 w' p (faS S cl) r R ∧ Keep51 w w' := by
  subst hm
  refine Is2.stepP (E := fun e => e = .returned (.int .i64 (failed S cl S.afl.length).2)) h (fun F hF0 hF => (fail_any hF hp (by omega) C cc cl (Kd.C_kept_came (Kd.heap_int _) hC h.1 hF0)).mono ?_)
  rintro e w' ⟨rfl, hi, hk, hb⟩
  exact ⟨rfl, hi.mono (fun _ hk => .inl hk), hk, hb⟩
theorem i2_failR (h : Is2 w0 w p S r R) (hp : pagesR R) (hl : R.float.length ≤ 1000) (C : Option Addr) (cc : Nat) (cl : List Int) (hC : (Kd.int .i64).C w0 C cl.length cl) (m : Nat) (hm : m = cl.length) :
    Calls Try.prog 29 #[.pointer (some ⟨r, 0, none⟩), .slice C m cc] w fun e w' => e = .returned (.int .i64 (failR R cl R.float.length).2) ∧ Is2 w0 w' p S r (failS R cl) ∧ Keep51 w w' := by
  subst hm
  refine Is2.stepR (E := fun e => e = .returned (.int .i64 (failR R cl R.float.length).2)) h (fun F hF0 hF => (rfail_any hF hp (by omega) C cc cl (Kd.C_kept_came (Kd.heap_int _) hC h.1 hF0)).mono ?_)
  rintro e w' ⟨rfl, hi, hk, hb⟩
  exact ⟨rfl, hi.mono (fun _ hk => .inl hk), hk, hb⟩
theorem i2_twin (h : Is2 w0 w p S r R) (hp : pagesOk S) (hN : S.safe.length ≤ 1000) (hk : S.afl.length ≤ 1000) (hl : S.last = lastOf S.afl) :
    Calls Try.prog 22 #[.pointer (some ⟨p, 0, none⟩)] w fun e w' => ∃ t, e = .returned (.pointer (some ⟨t, 0, none⟩)) ∧ Is3 w0 w' p S t S r R ∧ Keep51 w w' := by
  obtain ⟨h1, Fp, Ft, h2, h3, h4, h5, h6⟩ := h
  refine (twin_any h2 hk hN (fun q hq => Go.WalkArith.wf_i64 (by have := (hp.2 q hq).1; omega))).mono ?_
  rintro e w' ⟨g', rfl, hi, hb⟩
  have e : twS S = S := by unfold twS; rw [← hl]
  rw [e] at hi
  refine ⟨g', rfl, ⟨h1.trans (hb.mono h1.size), _, _, _, h2.narrow.below hb, (hi.lower h1.size), h3.narrow2.below hb, fun k hk => h4 k hk.1, fun k hk => Nat.le_trans h1.size hk, fun k hk => h5 k hk.1, fun k hk hk2 => ?_, fun k hk hk2 => ?_, fun k hk hk2 => h6 k hk.1 hk2.1⟩, Keep51.of_below hb⟩
  · have := hk2.2.1; omega
  · have := hk.2.2.1; omega
theorem i3_fail (h : Is3 w0 w a A p S r R) (hp : pagesOk A) (hl : A.afl.length ≤ 1000) :
    Calls Try.prog 16 #[.pointer (some ⟨a, 0, none⟩), .slice none 0 0] w fun e w' => e = .returned (.int .i64 0) ∧ Is3 w0 w' a (faS A []) p S r R ∧ Keep51 w w' := by
  refine Is3.step (E := fun e => e = .returned (.int .i64 0)) h (fun F _ hF => (fail_any hF hp (by omega) none 0 [] (fun W' _ => Kd.C_nil _ _)).mono ?_)
  rintro e w' ⟨rfl, hi, hk, hb⟩
  exact ⟨by rw [failed_nil], hi.mono (fun _ hk => .inl hk), hk, hb⟩
theorem i3_fill (h : Is3 w0 w a A p S r R) (b : ByteArray) : Calls Try.prog 13 #[.string b] w fun e w' => e = .returned (.string (fill b)) ∧ Is3 w0 w' a A p S r R ∧ Keep51 w w' := by
  refine (fill_any b w).mono ?_
  rintro e w' ⟨rfl, hb⟩
  exact ⟨rfl, h.below hb, Keep51.of_below hb⟩
theorem i3_store (h : Is3 w0 w a A p S r R) (n : Int) (b : ByteArray) (wn : (Lit.int .i64 n).wf = true) (hl : A.afl.length ≤ 1000) :
    Calls Try.prog 14 #[.pointer (some ⟨a, 0, none⟩), .int .i64 n, .string b] w fun e w' => e = .returned (.int .i64 (storeE A n b)) ∧ Is3 w0 w' a (storeS A n b) p S r R ∧ Keep51 w w' :=
  Is3.step (E := fun e => e = .returned (.int .i64 (storeE A n b))) h (fun F _ hF => store_any hF n b wn (by omega))
theorem i3_settle (h : Is3 w0 w a A p S r R) (hp : pagesOk A) (hl : A.afl.length ≤ 1000) :
    Calls Try.prog 15 #[.pointer (some ⟨a, 0, none⟩)] w fun e w' => e = .returned (.int .i64 (setE A)) ∧ Is3 w0 w' a (setS A) p S r R ∧ Keep51 w w' :=
  Is3.step (E := fun e => e = .returned (.int .i64 (setE A))) h (fun F _ hF => settle_full hF hp hl)
end
end Go.Proofs.Ytcmldpacgbhfmaa.V
