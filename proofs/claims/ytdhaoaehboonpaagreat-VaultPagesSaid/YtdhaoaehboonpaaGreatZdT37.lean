/- Of the texts that the row stands on, what it needs (part 37), put together by a program of this session. -/
import Derived.Test.YtdhaoaehboonpaaGreatZdT32
namespace Go.Proofs.YtdhaoaehboonpaaGreat.Th
open Go.ChangeShapes Go.WideShapes Go.ChangeAt Go.RowKit Go.Proofs.YtdhaoaehboonpaaGreatW.PrintWords
open Go.Proofs.YtdhaoaehboonpaaGreat.PSm (S50 k50 k50_mk)
set_option linter.unusedVariables false
set_option linter.unusedSimpArgs false
abbrev Rw := Option Addr × Nat × List S50
def IsRows (W : World) (A : Option Addr) (LL : List Rw) : Prop := ∀ i x, LL[i]? = some x → (∃ ad, A = some ad ∧ W.cell? (ad.add i) = some (.slice x.1 x.2.2.length x.2.1)) ∧ Kd.C k50 W x.1 x.2.2.length x.2.2 ∧ x.2.2.length ≤ x.2.1
section
variable {H : Type} {enc : TypeId × Value → H} {W : World} {base : Nat} {spare : Nat → Bool} {held : Bool}
theorem list1 {cs : List Value} (h : cs.length = 1) : ∃ c0, cs = [c0] := by
  match cs, h with
  | [c0], _ => exact ⟨c0, rfl⟩
theorem rows_of {n : Nat} {v : Value} {y : Option (DataW H × List MemPlace)} (h : DataW.trod enc Tryz.prog W base spare held n 22 [v] = y) (hy : y.isSome = true) :
    ∃ (A : Option Addr) (c : Nat) (LL : List Rw), v = .slice A LL.length c ∧ IsRows W A LL ∧ LL.length ≤ c ∧ LL.length ≤ maxLen ∧ True := by
  obtain ⟨x, rfl⟩ := Option.isSome_iff_exists.1 hy
  rcases DataW.trod_slice Tryz.underlying22 h with ⟨hcs, _⟩ | ⟨a, len, cap, elems, rest, m, _, hcs, _, hb, hl, hm, hlen, hel, _⟩
  · simp at hcs
    subst hcs
    exact ⟨none, 0, [], rfl, fun i x hx => by simp at hx, Nat.le_refl _, by decide, trivial⟩
  · simp at hcs
    subst hcs
    rw [cells22] at hel
    obtain ⟨LL, hll, hp⟩ := listed (P := fun i (x : Rw) => W.cell? (a.add i) = some (.slice x.1 x.2.2.length x.2.1) ∧ Kd.C k50 W x.1 x.2.2.length x.2.2 ∧ x.2.2.length ≤ x.2.1) len (fun i hi => by
      have h1 := hel i hi
      have h2 : elems[i]?.isSome = true := by rw [List.getElem?_eq_getElem (by omega)]; rfl
      rw [← h1] at h2
      rcases hc : W.cells? base (a.add (i * 1)) 1 with _ | cs
      · rw [hc] at h2; simp at h2
      · rw [hc, Option.bind_some] at h2
        have h3 := (World.cells?_some hc)
        obtain ⟨c0, rfl⟩ := list1 h3.2.1
        obtain ⟨A, cp, l, rfl, g1, g2, _⟩ := cells_of rfl h2
        refine ⟨(A, cp, l), ?_, g1, g2⟩
        have h4 := h3.2.2 0 (by decide)
        have e : (a.add (i * 1)).add 0 = a.add i := by rw [Nat.mul_one]; simp [Addr.add]
        rw [e] at h4
        exact h4)
    exact ⟨some a, cap, LL, by rw [hll], fun i x hx => ⟨⟨a, rfl, (hp i x hx).1⟩, (hp i x hx).2⟩, by rw [hll]; exact hl, by rw [hll]; exact Nat.le_trans hl hm, trivial⟩
set_option maxRecDepth 100000 in
theorem rows_open {r : Reach} {b0 : Nat} {v : Value} {d : DataW H} {p : List MemPlace} (hv : Value.okWide Tryz.prog W r b0 22 v) (h : DataW.Trod enc Tryz.prog W base spare held 22 v d p) :
    ∃ (A : Option Addr) (c : Nat) (LL : List Rw), v = .slice A LL.length c ∧ IsRows W A LL ∧ LL.length ≤ c ∧ LL.length ≤ maxLen ∧ True := by
  obtain ⟨a, len, cap, rfl⟩ := okWide_slice (P := Tryz.prog) (w := W) (r := r) (base := b0) (v := v) Tryz.underlying22 hv
  obtain ⟨fuel, hf⟩ := h
  exact rows_of (y := some (d, p)) hf rfl
end
end Go.Proofs.YtdhaoaehboonpaaGreat.Th
