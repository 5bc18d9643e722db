/- A list of operations that came in, opened. -/
import Derived.Test.YtcmldpacgbhfmaaE6
import Derived.ProofKit
import Derived.OpenShut
import Derived.ChangeOld
import Derived.ChangeSlices
import Derived.SizedLaws
import Derived.DataReads
import Derived.DataElems
namespace Go.Proofs.Ytcmldpacgbhfmaa.V
open Go.RowKit Go.Proofs.YtcmldpacgbhfmaaW.PrintWords
/-- what is done -/
structure OpD where
  kind : Int
  n : Int
  b : ByteArray
  raw : Bool
  cuts : List Int
/-- one of them in memory -/
def OpAt (w : World) (a : Addr) (o : OpD) : Prop :=
  ∃ C cc, w.cell? a = some (.int .i64 o.kind) ∧ w.cell? (a.add 1) = some (.int .i64 o.n) ∧ w.cell? (a.add 2) = some (.string o.b) ∧ w.cell? (a.add 3) = some (.bool o.raw) ∧ w.cell? (a.add 4) = some (.slice C o.cuts.length cc) ∧ (Kd.int .i64).C w C o.cuts.length o.cuts ∧ (Lit.int .i64 o.kind).wf = true ∧ (Lit.int .i64 o.n).wf = true
def OpsAt (w : World) (A : Option Addr) (l : List OpD) : Prop := 0 < l.length → ∃ ad, A = some ad ∧ ∀ i o, l[i]? = some o → OpAt w (ad.add (i * 5)) o
end Go.Proofs.Ytcmldpacgbhfmaa.V
namespace Go.Proofs.Ytcmldpacgbhfmaa.Th
open Go.ChangeShapes Go.WideShapes Go.ChangeAt Go.RowKit Go.Proofs.YtcmldpacgbhfmaaW.PrintWords
open Go.Proofs.Ytcmldpacgbhfmaa.V (OpD OpAt OpsAt)
set_option linter.unusedVariables false
set_option linter.unusedSimpArgs false

theorem listed {α : Type} {P : Nat → α → Prop} (n : Nat) (h : ∀ i, i < n → ∃ p, P i p) : ∃ l : List α, l.length = n ∧ ∀ i p, l[i]? = some p → P i p := by
  induction n with
  | zero => exact ⟨[], rfl, fun i p hi => by simp at hi⟩
  | succ n ih =>
    obtain ⟨l, hl, hp⟩ := ih (fun i hi => h i (by omega))
    obtain ⟨p, hpn⟩ := h n (by omega)
    refine ⟨l ++ [p], by rw [List.length_append, hl]; rfl, fun i q hq => ?_⟩
    by_cases hi : i < l.length
    · rw [List.getElem?_append_left hi] at hq; exact hp i q hq
    · rw [List.getElem?_append_right (by omega)] at hq
      by_cases h0 : i - l.length = 0
      · rw [h0] at hq
        simp at hq
        subst hq
        have : i = n := by omega
        rw [this]; exact hpn
      · rw [List.getElem?_eq_none (by simp; omega)] at hq; cases hq
theorem list5 {cs : List Value} (h : cs.length = 5) : ∃ c0 c1 c2 c3 c4, cs = [c0, c1, c2, c3, c4] := by
  match cs, h with
  | [c0, c1, c2, c3, c4], _ => exact ⟨c0, c1, c2, c3, c4, rfl⟩
section
variable {H : Type} {enc : TypeId × Value → H} {W : World} {base : Nat} {spare : Nat → Bool} {held : Bool}
theorem cells3 : Try.prog.cellsOf 3 = 1 := by kernel_rfl
theorem ocells4 : Try.prog.cellsOf 4 = 1 := by kernel_rfl
theorem ocells9 : Try.prog.cellsOf 9 = 1 := by kernel_rfl
theorem cells38 : Try.prog.cellsOf 38 = 1 := by kernel_rfl
theorem cells51 : Try.prog.cellsOf 51 = 5 := by kernel_rfl
theorem int_of {t : TypeId} {n : Nat} {c : Value} {y : Option (DataW H × List MemPlace)} (ht : Try.prog.underlying t = some (.int .i64)) (h : DataW.trod enc Try.prog W base spare held n t [c] = y) (hy : y.isSome = true) : ∃ a : Int, c = .int .i64 a ∧ (Lit.int .i64 a).wf = true := by
  obtain ⟨x, rfl⟩ := Option.isSome_iff_exists.1 hy
  obtain ⟨a, hc, _, hw⟩ := DataW.trod_int ht h
  simp at hc
  exact ⟨a, hc, hw⟩
theorem ints_of {n : Nat} {c : Value} {y : Option (DataW H × List MemPlace)} (h : DataW.trod enc Try.prog W base spare held n 38 [c] = y) (hy : y.isSome = true) : ∃ (A : Option Addr) (cp : Nat) (l : List Int), c = .slice A l.length cp ∧ Kd.C (Kd.int .i64) W A l.length l := by
  obtain ⟨x, rfl⟩ := Option.isSome_iff_exists.1 hy
  rcases DataW.trod_slice Try.underlying38 h with ⟨hcs, _⟩ | ⟨a, len, cap, elems, rest, m, _, hcs, _, hb, hl, hm, hlen, hel, _⟩
  · simp at hcs
    subst hcs
    exact ⟨none, 0, [], rfl, Kd.C_nil _ _⟩
  · simp at hcs
    subst hcs
    rw [cells3] at hel
    obtain ⟨l, hll, hp⟩ := listed (P := fun i (p : Int) => W.cell? (a.add i) = some (.int .i64 p)) len (fun i hi => by
      have h1 := hel i hi
      have h2 : elems[i]?.isSome = true := by rw [List.getElem?_eq_getElem (by omega)]; rfl
      rw [← h1] at h2
      rw [Nat.mul_one] at h2
      rcases hc : W.cells? base (a.add i) 1 with _ | cs
      · rw [hc] at h2; simp at h2
      · rw [hc, Option.bind_some] at h2
        have h3 := (World.cells?_some hc)
        obtain ⟨c0, rfl⟩ : ∃ c0, cs = [c0] := by
          have hl1 := h3.2.1
          match cs, hl1 with
          | [c0], _ => exact ⟨c0, rfl⟩
        obtain ⟨p, rfl, _⟩ := int_of Try.underlying3 rfl h2
        refine ⟨p, ?_⟩
        have h4 := h3.2.2 0 (by omega)
        simp at h4
        have e : (a.add i).add 0 = a.add i := by simp [Addr.add]
        rw [e] at h4
        exact h4)
    refine ⟨some a, cap, l, by rw [hll], Kd.C_of_reads (d := 0) ⟨rfl, by rw [hll]; exact Nat.le_trans hl hm, fun _ => ⟨a, rfl, fun j hj => ?_⟩⟩⟩
    rw [hp j _ (List.getElem?_eq_getElem hj)]
    simp [List.getD, List.getElem?_eq_getElem hj]
theorem op_of {n : Nat} {cs : List Value} {y : Option (DataW H × List MemPlace)} (h : DataW.trod enc Try.prog W base spare held n 51 cs = y) (hy : y.isSome = true) :
    ∃ (o : OpD) (C : Option Addr) (cc : Nat), cs = [.int .i64 o.kind, .int .i64 o.n, .string o.b, .bool o.raw, .slice C o.cuts.length cc] ∧ (Kd.int .i64).C W C o.cuts.length o.cuts ∧ (Lit.int .i64 o.kind).wf = true ∧ (Lit.int .i64 o.n).wf = true := by
  obtain ⟨x, rfl⟩ := Option.isSome_iff_exists.1 hy
  obtain ⟨xs, m, _, _, hcl, hlen, hx⟩ := DataW.trod_struct Try.underlying51 h
  obtain ⟨c0, c1, c2, c3, c4, rfl⟩ := list5 (hcl.trans cells51)
  have h0 := hx 0 _ rfl
  change DataW.trod enc Try.prog W base spare held m 3 (([c0, c1, c2, c3, c4].drop 0).take (Try.prog.cellsOf 3)) = xs[0]? at h0
  rw [cells3] at h0
  have h1 := hx 1 _ rfl
  change DataW.trod enc Try.prog W base spare held m 3 (([c0, c1, c2, c3, c4].drop 1).take (Try.prog.cellsOf 3)) = xs[1]? at h1
  rw [cells3] at h1
  have h2 := hx 2 _ rfl
  change DataW.trod enc Try.prog W base spare held m 9 (([c0, c1, c2, c3, c4].drop 2).take (Try.prog.cellsOf 9)) = xs[2]? at h2
  rw [ocells9] at h2
  have h3 := hx 3 _ rfl
  change DataW.trod enc Try.prog W base spare held m 4 (([c0, c1, c2, c3, c4].drop 3).take (Try.prog.cellsOf 4)) = xs[3]? at h3
  rw [ocells4] at h3
  have h4 := hx 4 _ rfl
  change DataW.trod enc Try.prog W base spare held m 38 (([c0, c1, c2, c3, c4].drop 4).take (Try.prog.cellsOf 38)) = xs[4]? at h4
  rw [cells38] at h4
  have hl : xs.length = 5 := hlen
  simp only [List.drop_zero, List.drop_succ_cons, List.take_succ_cons, List.take_zero] at h0 h1 h2 h3 h4
  obtain ⟨a0, rfl, w0⟩ := int_of Try.underlying3 h0 (by simp [hl])
  obtain ⟨a1, rfl, w1⟩ := int_of Try.underlying3 h1 (by simp [hl])
  obtain ⟨z2, e2⟩ := Option.isSome_iff_exists.1 (show xs[2]?.isSome = true by simp [hl])
  obtain ⟨s2, g2, _⟩ := DataW.trod_string Try.underlying9 (h2.trans e2)
  simp at g2
  subst g2
  obtain ⟨z3, e3⟩ := Option.isSome_iff_exists.1 (show xs[3]?.isSome = true by simp [hl])
  obtain ⟨b3, g3, _⟩ := DataW.trod_bool Try.underlying4 (h3.trans e3)
  simp at g3
  subst g3
  obtain ⟨C, cc, l, rfl, hC⟩ := ints_of h4 (by simp [hl])
  exact ⟨⟨a0, a1, s2, b3, l⟩, C, cc, rfl, hC, w0, w1⟩
theorem ops_of {n : Nat} {c : Value} {y : Option (DataW H × List MemPlace)} (h : DataW.trod enc Try.prog W base spare held n 47 [c] = y) (hy : y.isSome = true) : ∃ (A : Option Addr) (cp : Nat) (l : List OpD), c = .slice A l.length cp ∧ OpsAt W A l ∧ l.length ≤ cp ∧ l.length ≤ maxLen ∧ ∀ x ∈ l, True := by
  obtain ⟨x, rfl⟩ := Option.isSome_iff_exists.1 hy
  rcases DataW.trod_slice Try.underlying47 h with ⟨hcs, _⟩ | ⟨a, len, cap, elems, rest, m, _, hcs, _, hb, hl, hm, hlen, hel, _⟩
  · simp at hcs
    subst hcs
    exact ⟨none, 0, [], rfl, fun h => absurd h (by decide), Nat.le_refl _, by decide, fun x hx => trivial⟩
  · simp at hcs
    subst hcs
    rw [cells51] at hel
    obtain ⟨l, hll, hp⟩ := listed (P := fun i (o : OpD) => OpAt W (a.add (i * 5)) o) len (fun i hi => by
      have h1 := hel i hi
      have h2 : elems[i]?.isSome = true := by rw [List.getElem?_eq_getElem (by omega)]; rfl
      rw [← h1] at h2
      rcases hc : W.cells? base (a.add (i * 5)) 5 with _ | cs
      · rw [hc] at h2; simp at h2
      · rw [hc, Option.bind_some] at h2
        obtain ⟨o, C, cc, rfl, hC, w0, w1⟩ := op_of rfl h2
        have h3 := (World.cells?_some hc).2.2
        refine ⟨o, C, cc, ?_, ?_, ?_, ?_, ?_, hC, w0, w1⟩
        · have := h3 0 (by omega)
          have e : (a.add (i * 5)).add 0 = a.add (i * 5) := by simp [Addr.add]
          rw [e] at this
          exact this
        · exact h3 1 (by omega)
        · exact h3 2 (by omega)
        · exact h3 3 (by omega)
        · exact h3 4 (by omega))
    exact ⟨some a, cap, l, by rw [hll], fun _ => ⟨a, rfl, hp⟩, by rw [hll]; exact hl, by rw [hll]; exact Nat.le_trans hl hm, fun x hx => trivial⟩
set_option maxRecDepth 100000 in
theorem ops_open {r : Reach} {b0 : Nat} {v : Value} {d : DataW H} {p : List MemPlace} (hv : Value.okWide Try.prog W r b0 47 v) (h : DataW.Trod enc Try.prog W base spare held 47 v d p) :
    ∃ (A : Option Addr) (c : Nat) (l : List OpD), v = .slice A l.length c ∧ OpsAt W A l ∧ l.length ≤ c ∧ l.length ≤ maxLen ∧ ∀ x ∈ l, True := by
  obtain ⟨a, len, cap, rfl⟩ := okWide_slice (P := Try.prog) (w := W) (r := r) (base := b0) (v := v) Try.underlying47 hv
  obtain ⟨fuel, hf⟩ := h
  exact ops_of (y := some (d, p)) hf rfl
end
end Go.Proofs.Ytcmldpacgbhfmaa.Th
