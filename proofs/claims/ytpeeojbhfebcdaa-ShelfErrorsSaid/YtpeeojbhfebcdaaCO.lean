/- A list of records that came in, opened. -/
import Derived.Test.YtpeeojbhfebcdaaPAllx0
import Derived.WalkKit
import Derived.ProofKit
import Derived.OpenShut
import Derived.ChangeOld
import Derived.ChangeSlices
import Derived.Below
import Derived.SizedLaws
import Derived.DataReads
import Derived.DataElems
namespace Go.Proofs.Ytpeeojbhfebcdaa.Th
open Go.ChangeShapes Go.WideShapes Go.ChangeAt Go.RowKit Go.Proofs.YtpeeojbhfebcdaaW.PrintWords
open Go.Proofs.Ytpeeojbhfebcdaa.PAll (S45 k45 k45_mk)
set_option linter.unusedVariables false
set_option linter.unusedSimpArgs false

theorem listed {α : Type} {P : Nat → α → Prop} (n : Nat) (h : ∀ i, i < n → ∃ p, P i p) : ∃ l : List α, l.length = n ∧ ∀ i p, l[i]? = some p → P i p := by
  induction n with
  | zero => exact ⟨[], rfl, fun i p hi => by simp at hi⟩
  | succ n ih =>
    obtain ⟨l, hl, hp⟩ := ih (fun i hi => h i (by omega))
    obtain ⟨p, hpn⟩ := h n (by omega)
    refine ⟨l ++ [p], by rw [List.length_append, hl]; rfl, fun i q hq => ?_⟩
    by_cases hi : i < l.length
    · rw [List.getElem?_append_left hi] at hq; exact hp i q hq
    · rw [List.getElem?_append_right (by omega)] at hq
      by_cases h0 : i - l.length = 0
      · rw [h0] at hq
        simp at hq
        subst hq
        have : i = n := by omega
        rw [this]; exact hpn
      · rw [List.getElem?_eq_none (by simp; omega)] at hq; cases hq

theorem list2 {cs : List Value} (h : cs.length = 2) : ∃ c0 c1, cs = [c0, c1] := by
  match cs, h with
  | [c0, c1], _ => exact ⟨c0, c1, rfl⟩
section
variable {H : Type} {enc : TypeId × Value → H} {W : World} {base : Nat} {spare : Nat → Bool} {held : Bool}
theorem cells3 : Try.prog.cellsOf 3 = 1 := by kernel_rfl
theorem cells9 : Try.prog.cellsOf 9 = 1 := by kernel_rfl
theorem cells22 : Try.prog.cellsOf 22 = 1 := by kernel_rfl
theorem cells45 : Try.prog.cellsOf 45 = 2 := by kernel_rfl

theorem int_of {t : TypeId} {n : Nat} {c : Value} {y : Option (DataW H × List MemPlace)} (ht : Try.prog.underlying t = some (.int .i64)) (h : DataW.trod enc Try.prog W base spare held n t [c] = y) (hy : y.isSome = true) : ∃ a : Int, c = .int .i64 a ∧ (Lit.int .i64 a).wf = true := by
  obtain ⟨x, rfl⟩ := Option.isSome_iff_exists.1 hy
  obtain ⟨a, hc, _, hw⟩ := DataW.trod_int ht h
  simp at hc
  exact ⟨a, hc, hw⟩
theorem cell_of {n : Nat} {cs : List Value} {y : Option (DataW H × List MemPlace)} (h : DataW.trod enc Try.prog W base spare held n 45 cs = y) (hy : y.isSome = true) : ∃ x : S45, cs = [.int .i64 x.f0, .string x.f1] ∧ x.f1.size ≤ maxLen := by
  obtain ⟨x, rfl⟩ := Option.isSome_iff_exists.1 hy
  obtain ⟨xs, m, _, _, hcl, hlen, hx⟩ := DataW.trod_struct Try.underlying45 h
  obtain ⟨c0, c1, rfl⟩ := list2 (hcl.trans cells45)
  have h0 := hx 0 _ rfl
  change DataW.trod enc Try.prog W base spare held m 3 (([c0, c1].drop 0).take (Try.prog.cellsOf 3)) = xs[0]? at h0
  rw [cells3] at h0
  have h3 := hx 1 _ rfl
  change DataW.trod enc Try.prog W base spare held m 9 (([c0, c1].drop 1).take (Try.prog.cellsOf 9)) = xs[1]? at h3
  rw [cells9] at h3
  have hl : xs.length = 2 := hlen
  simp only [List.drop_zero, List.drop_succ_cons, List.take_succ_cons, List.take_zero] at h0 h3
  obtain ⟨a0, rfl, _⟩ := int_of Try.underlying3 h0 (by simp [hl])
  obtain ⟨z3, e3⟩ := Option.isSome_iff_exists.1 (show xs[1]?.isSome = true by simp [hl])
  obtain ⟨s3, g3, hs3⟩ := DataW.trod_string Try.underlying9 (h3.trans e3)
  simp at g3
  subst g3
  exact ⟨⟨a0, s3⟩, rfl, by first | exact hs3.2 | exact hs3 | exact hs3.1⟩

theorem cells_of {n : Nat} {c : Value} {y : Option (DataW H × List MemPlace)} (h : DataW.trod enc Try.prog W base spare held n 22 [c] = y) (hy : y.isSome = true) : ∃ (A : Option Addr) (cp : Nat) (l : List S45), c = .slice A l.length cp ∧ Kd.C k45 W A l.length l ∧ l.length ≤ cp ∧ l.length ≤ maxLen ∧ ∀ x ∈ l, x.f1.size ≤ maxLen := by
  obtain ⟨x, rfl⟩ := Option.isSome_iff_exists.1 hy
  rcases DataW.trod_slice Try.underlying22 h with ⟨hcs, _⟩ | ⟨a, len, cap, elems, rest, m, _, hcs, _, hb, hl, hm, hlen, hel, _⟩
  · simp at hcs
    subst hcs
    exact ⟨none, 0, [], rfl, ⟨rfl, by decide, fun h => absurd h (by decide)⟩, Nat.le_refl _, by decide, fun x hx => by cases hx⟩
  · simp at hcs
    subst hcs
    rw [cells45] at hel
    obtain ⟨l, hll, hp⟩ := listed (P := fun i (p : S45) => p.f1.size ≤ maxLen ∧ ∀ j u, [(.int .i64 p.f0 : Value), .string p.f1][j]? = some u → W.cell? (a.add (i * 2 + j)) = some u) len (fun i hi => by
      have h1 := hel i hi
      have h2 : elems[i]?.isSome = true := by rw [List.getElem?_eq_getElem (by omega)]; rfl
      rw [← h1] at h2
      rcases hc : W.cells? base (a.add (i * 2)) 2 with _ | cs
      · rw [hc] at h2; simp at h2
      · rw [hc, Option.bind_some] at h2
        obtain ⟨p, rfl, hps⟩ := cell_of rfl h2
        refine ⟨p, hps, fun j u hu => ?_⟩
        have h3 := (World.cells?_some hc)
        have hj : j < 2 := by
          rcases Nat.lt_or_ge j 2 with h | h
          · exact h
          · rw [List.getElem?_eq_none (by simpa using h)] at hu; cases hu
        have h4 := h3.2.2 j hj
        rw [hu] at h4
        rw [← h4]
        exact congrArg W.cell? (Addr.add_add a (i * 2) j).symm)
    exact ⟨some a, cap, l, by rw [hll], ⟨rfl, by rw [hll]; exact Nat.le_trans hl hm, fun _ => ⟨a, rfl, fun j p hj => ⟨_, rfl, k45_mk W p, fun i u hu => (hp j p hj).2 i u hu⟩⟩⟩, by rw [hll]; exact hl, by rw [hll]; exact Nat.le_trans hl hm,
      fun x hx => by obtain ⟨j, hj, rfl⟩ := List.getElem_of_mem hx; exact (hp j _ (List.getElem?_eq_getElem hj)).1⟩

set_option maxRecDepth 100000 in
theorem cells_open {r : Reach} {b0 : Nat} {v : Value} {d : DataW H} {p : List MemPlace} (hv : Value.okWide Try.prog W r b0 22 v) (h : DataW.Trod enc Try.prog W base spare held 22 v d p) :
    ∃ (A : Option Addr) (c : Nat) (l : List S45), v = .slice A l.length c ∧ Kd.C k45 W A l.length l ∧ l.length ≤ c ∧ l.length ≤ maxLen ∧ ∀ x ∈ l, x.f1.size ≤ maxLen := by
  obtain ⟨a, len, cap, rfl⟩ := okWide_slice (P := Try.prog) (w := W) (r := r) (base := b0) (v := v) Try.underlying22 hv
  obtain ⟨fuel, hf⟩ := h
  exact cells_of (y := some (d, p)) hf rfl
end
end Go.Proofs.Ytpeeojbhfebcdaa.Th
