/- A box, a list of boxes that came in, opened. -/
import Derived.Test.YtfblelkegebdiaaK
import Derived.WalkKit
import Derived.ProofKit
import Derived.OpenShut
import Derived.ChangeOld
import Derived.ChangeSlices
import Derived.Below
import Derived.SizedLaws
import Derived.DataReads
import Derived.DataElems
namespace Go.Proofs.Ytfblelkegebdiaa.Th
open Go.ChangeShapes Go.WideShapes Go.ChangeAt Go.RowKit Go.Proofs.YtfblelkegebdiaaW.PrintWords
open Go.Proofs.Ytfblelkegebdiaa.V (Bx k28 k28_mk)
set_option linter.unusedVariables false
set_option linter.unusedSimpArgs false

theorem listed {α : Type} {P : Nat → α → Prop} (n : Nat) (h : ∀ i, i < n → ∃ p, P i p) : ∃ l : List α, l.length = n ∧ ∀ i p, l[i]? = some p → P i p := by
  induction n with
  | zero => exact ⟨[], rfl, fun i p hi => by simp at hi⟩
  | succ n ih =>
    obtain ⟨l, hl, hp⟩ := ih (fun i hi => h i (by omega))
    obtain ⟨p, hpn⟩ := h n (by omega)
    refine ⟨l ++ [p], by rw [List.length_append, hl]; rfl, fun i q hq => ?_⟩
    by_cases hi : i < l.length
    · rw [List.getElem?_append_left hi] at hq; exact hp i q hq
    · rw [List.getElem?_append_right (by omega)] at hq
      by_cases h0 : i - l.length = 0
      · rw [h0] at hq
        simp at hq
        subst hq
        have : i = n := by omega
        rw [this]; exact hpn
      · rw [List.getElem?_eq_none (by simp; omega)] at hq; cases hq
theorem list4 {cs : List Value} (h : cs.length = 4) : ∃ c0 c1 c2 c3, cs = [c0, c1, c2, c3] := by
  match cs, h with
  | [c0, c1, c2, c3], _ => exact ⟨c0, c1, c2, c3, rfl⟩
section
variable {H : Type} {enc : TypeId × Value → H} {W : World} {base : Nat} {spare : Nat → Bool} {held : Bool}
theorem cells24 : Try.prog.cellsOf 24 = 1 := by kernel_rfl
theorem cells26 : Try.prog.cellsOf 26 = 2 := by kernel_rfl
theorem cells28 : Try.prog.cellsOf 28 = 4 := by kernel_rfl
theorem int_of {t : TypeId} {n : Nat} {c : Value} {y : Option (DataW H × List MemPlace)} (ht : Try.prog.underlying t = some (.int .i64)) (h : DataW.trod enc Try.prog W base spare held n t [c] = y) (hy : y.isSome = true) : ∃ a : Int, c = .int .i64 a ∧ (Lit.int .i64 a).wf = true := by
  obtain ⟨x, rfl⟩ := Option.isSome_iff_exists.1 hy
  obtain ⟨a, hc, _, hw⟩ := DataW.trod_int ht h
  simp at hc
  exact ⟨a, hc, hw⟩
theorem vec_of {n : Nat} {c0 c1 : Value} {y : Option (DataW H × List MemPlace)} (h : DataW.trod enc Try.prog W base spare held n 26 [c0, c1] = y) (hy : y.isSome = true) : ∃ a b : Int, c0 = .int .i64 a ∧ c1 = .int .i64 b ∧ (Lit.int .i64 a).wf = true ∧ (Lit.int .i64 b).wf = true := by
  obtain ⟨x, rfl⟩ := Option.isSome_iff_exists.1 hy
  obtain ⟨xs, m, _, _, _, hlen, hx⟩ := DataW.trod_struct Try.underlying26 h
  have h0 := hx 0 _ rfl
  change DataW.trod enc Try.prog W base spare held m 24 (([c0, c1].drop 0).take (Try.prog.cellsOf 24)) = xs[0]? at h0
  rw [cells24] at h0
  have h1 := hx 1 _ rfl
  change DataW.trod enc Try.prog W base spare held m 24 (([c0, c1].drop 1).take (Try.prog.cellsOf 24)) = xs[1]? at h1
  rw [cells24] at h1
  have hl : xs.length = 2 := hlen
  simp only [List.drop_zero, List.drop_succ_cons, List.take_succ_cons, List.take_zero] at h0 h1
  obtain ⟨a, ha, wa⟩ := int_of Try.underlying24 h0 (by simp [hl])
  obtain ⟨b, hb, wb⟩ := int_of Try.underlying24 h1 (by simp [hl])
  exact ⟨a, b, ha, hb, wa, wb⟩
def wfB (x : Bx) : Prop := (Lit.int .i64 x.f0).wf = true ∧ (Lit.int .i64 x.f1).wf = true ∧ (Lit.int .i64 x.f2).wf = true ∧ (Lit.int .i64 x.f3).wf = true
theorem box_of {n : Nat} {cs : List Value} {y : Option (DataW H × List MemPlace)} (h : DataW.trod enc Try.prog W base spare held n 28 cs = y) (hy : y.isSome = true) : ∃ x : Bx, cs = [.int .i64 x.f0, .int .i64 x.f1, .int .i64 x.f2, .int .i64 x.f3] ∧ wfB x := by
  obtain ⟨x, rfl⟩ := Option.isSome_iff_exists.1 hy
  obtain ⟨xs, m, _, _, hcl, hlen, hx⟩ := DataW.trod_struct Try.underlying28 h
  obtain ⟨c0, c1, c2, c3, rfl⟩ := list4 (hcl.trans cells28)
  have h0 := hx 0 _ rfl
  change DataW.trod enc Try.prog W base spare held m 26 (([c0, c1, c2, c3].drop 0).take (Try.prog.cellsOf 26)) = xs[0]? at h0
  rw [cells26] at h0
  have h1 := hx 1 _ rfl
  change DataW.trod enc Try.prog W base spare held m 26 (([c0, c1, c2, c3].drop 2).take (Try.prog.cellsOf 26)) = xs[1]? at h1
  rw [cells26] at h1
  have hl : xs.length = 2 := hlen
  simp only [List.drop_zero, List.drop_succ_cons, List.take_succ_cons, List.take_zero] at h0 h1
  obtain ⟨a, b, rfl, rfl, wa, wb⟩ := vec_of h0 (by simp [hl])
  obtain ⟨c, d, rfl, rfl, wc, wd⟩ := vec_of h1 (by simp [hl])
  exact ⟨⟨a, b, c, d⟩, rfl, wa, wb, wc, wd⟩
theorem boxes_of {n : Nat} {c : Value} {y : Option (DataW H × List MemPlace)} (h : DataW.trod enc Try.prog W base spare held n 22 [c] = y) (hy : y.isSome = true) : ∃ (A : Option Addr) (cp : Nat) (l : List Bx), c = .slice A l.length cp ∧ Kd.C k28 W A l.length l ∧ l.length ≤ cp ∧ l.length ≤ maxLen ∧ ∀ x ∈ l, wfB x := by
  obtain ⟨x, rfl⟩ := Option.isSome_iff_exists.1 hy
  rcases DataW.trod_slice Try.underlying22 h with ⟨hcs, _⟩ | ⟨a, len, cap, elems, rest, m, _, hcs, _, hb, hl, hm, hlen, hel, _⟩
  · simp at hcs
    subst hcs
    exact ⟨none, 0, [], rfl, ⟨rfl, by decide, fun h => absurd h (by decide)⟩, Nat.le_refl _, by decide, fun x hx => by cases hx⟩
  · simp at hcs
    subst hcs
    rw [cells28] at hel
    obtain ⟨l, hll, hp⟩ := listed (P := fun i (p : Bx) => wfB p ∧ ∀ j u, [(.int .i64 p.f0 : Value), .int .i64 p.f1, .int .i64 p.f2, .int .i64 p.f3][j]? = some u → W.cell? (a.add (i * 4 + j)) = some u) len (fun i hi => by
      have h1 := hel i hi
      have h2 : elems[i]?.isSome = true := by rw [List.getElem?_eq_getElem (by omega)]; rfl
      rw [← h1] at h2
      rcases hc : W.cells? base (a.add (i * 4)) 4 with _ | cs
      · rw [hc] at h2; simp at h2
      · rw [hc, Option.bind_some] at h2
        obtain ⟨p, rfl, hps⟩ := box_of rfl h2
        refine ⟨p, hps, fun j u hu => ?_⟩
        have h3 := (World.cells?_some hc)
        have hj : j < 4 := by
          rcases Nat.lt_or_ge j 4 with h | h
          · exact h
          · rw [List.getElem?_eq_none (by simpa using h)] at hu; cases hu
        have h4 := h3.2.2 j hj
        rw [hu] at h4
        rw [← h4]
        exact congrArg W.cell? (Addr.add_add a (i * 4) j).symm)
    exact ⟨some a, cap, l, by rw [hll], ⟨rfl, by rw [hll]; exact Nat.le_trans hl hm, fun _ => ⟨a, rfl, fun j p hj => ⟨_, rfl, k28_mk W p, fun i u hu => (hp j p hj).2 i u hu⟩⟩⟩, by rw [hll]; exact hl, by rw [hll]; exact Nat.le_trans hl hm,
      fun x hx => by obtain ⟨j, hj, rfl⟩ := List.getElem_of_mem hx; exact (hp j _ (List.getElem?_eq_getElem hj)).1⟩
set_option maxRecDepth 100000 in
theorem boxes_open {r : Reach} {b0 : Nat} {v : Value} {d : DataW H} {p : List MemPlace} (hv : Value.okWide Try.prog W r b0 22 v) (h : DataW.Trod enc Try.prog W base spare held 22 v d p) :
    ∃ (A : Option Addr) (c : Nat) (l : List Bx), v = .slice A l.length c ∧ Kd.C k28 W A l.length l ∧ l.length ≤ c ∧ l.length ≤ maxLen ∧ ∀ x ∈ l, wfB x := by
  obtain ⟨a, len, cap, rfl⟩ := okWide_slice (P := Try.prog) (w := W) (r := r) (base := b0) (v := v) Try.underlying22 hv
  obtain ⟨fuel, hf⟩ := h
  exact boxes_of (y := some (d, p)) hf rfl
set_option maxRecDepth 100000 in
theorem box_open {r : Reach} {b0 : Nat} {v : Value} {d : DataW H} {p : List MemPlace} (hv : Value.okWide Try.prog W r b0 28 v) (h : DataW.Trod enc Try.prog W base spare held 28 v d p) :
    ∃ x : Bx, v = .agg #[.int .i64 x.f0, .int .i64 x.f1, .int .i64 x.f2, .int .i64 x.f3] ∧ wfB x := by
  obtain ⟨cs, rfl, hsz⟩ := okWide_struct (P := Try.prog) (w := W) (r := r) (base := b0) (v := v) Try.underlying28 hv
  obtain ⟨fuel, hf⟩ := h
  simp only [Value.cells] at hf
  obtain ⟨x, e, w⟩ := box_of hf (by simp)
  exact ⟨x, by rw [Value.agg.injEq]; exact Array.toList_inj.1 e, w⟩
end
end Go.Proofs.Ytfblelkegebdiaa.Th
