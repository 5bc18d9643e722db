/- A slice of strings, a slice of bools, that came in, opened. -/
import Derived.Test.YtcmldpacgbhfmaaP8
import Derived.ProofKit
import Derived.OpenShut
import Derived.ChangeOld
import Derived.ChangeSlices
import Derived.SizedLaws
import Derived.SliceStrings
import Derived.Deep.Grids
namespace Go.Proofs.Ytcmldpacgbhfmaa.Th
open Go.ChangeShapes Go.WideShapes Go.ChangeAt Go.RowKit Go.Proofs.YtcmldpacgbhfmaaW.PrintWords
set_option linter.unusedVariables false
set_option linter.unusedSimpArgs false

section
variable {H : Type} {enc : TypeId × Value → H} {W : World} {base : Nat} {held : Bool}
theorem cells4 : Try.prog.cellsOf 4 = 1 := by kernel_rfl
theorem cells9 : Try.prog.cellsOf 9 = 1 := by kernel_rfl
set_option maxRecDepth 100000 in
theorem strs_open {r : Reach} {b0 : Nat} {v : Value} {d : DataW H} {p : List MemPlace} (hv : Value.okWide Try.prog W r b0 33 v) (h : DataW.Trod enc Try.prog W base (fun _ => true) held 33 v d p) :
    ∃ (A : Option Addr) (c : Nat) (l : List ByteArray), v = .slice A l.length c ∧ Kd.C Kd.string W A l.length l ∧ l.length ≤ c ∧ l.length ≤ maxLen ∧ ∀ x ∈ l, x.size ≤ maxLen := by
  obtain ⟨a0, len0, cap0, rfl⟩ := okWide_slice (P := Try.prog) (w := W) (r := r) (base := b0) (v := v) Try.underlying33 hv
  obtain ⟨fuel, hf⟩ := h
  rcases Go.ChangeShapes.open_strings Try.underlying33 Try.underlying9 cells9 hf with ⟨hcs, _⟩ | ⟨a, len, cap, ss, hcs, hb, hl, hm, hlen, _, hc, hs⟩
  · injection hcs with hcs _
    injection hcs with e1 e2 e3
    subst e1 e2 e3
    exact ⟨none, 0, [], rfl, Kd.C_nil _ _, Nat.le_refl _, by decide, fun x hx => by cases hx⟩
  · injection hcs with hcs _
    injection hcs with e1 e2 e3
    subst e1 e2 e3
    rw [if_pos rfl] at hlen
    have hll : (ss.take len0).length = len0 := by rw [List.length_take]; omega
    refine ⟨_, cap0, ss.take len0, by rw [hll], ?_, by rw [hll]; exact hl, by rw [hll]; omega, fun x hx => hs x (List.mem_of_mem_take hx)⟩
    refine Kd.C_of_reads (d := ByteArray.empty) ⟨rfl, by rw [hll]; exact Nat.le_trans hl hm, fun _ => ⟨_, rfl, fun j hj => ?_⟩⟩
    rw [hll] at hj
    rw [hc j (by omega)]
    simp [List.getD, List.getElem?_take, hj]
set_option maxRecDepth 100000 in
theorem bools_open {r : Reach} {b0 : Nat} {v : Value} {d : DataW H} {p : List MemPlace} (hv : Value.okWide Try.prog W r b0 37 v) (h : DataW.Trod enc Try.prog W base (fun _ => true) held 37 v d p) :
    ∃ (A : Option Addr) (c : Nat) (l : List Bool), v = .slice A l.length c ∧ Kd.C Kd.bool W A l.length l ∧ l.length ≤ c ∧ l.length ≤ maxLen ∧ ∀ x ∈ l, True := by
  obtain ⟨a0, len0, cap0, rfl⟩ := okWide_slice (P := Try.prog) (w := W) (r := r) (base := b0) (v := v) Try.underlying37 hv
  obtain ⟨fuel, hf⟩ := h
  rcases Go.Deep.open_bools Try.underlying37 Try.underlying4 cells4 hf with ⟨hcs, _⟩ | ⟨a, len, cap, B, hcs, hb, hl, hm, _, hc⟩
  · injection hcs with hcs _
    injection hcs with e1 e2 e3
    subst e1 e2 e3
    exact ⟨none, 0, [], rfl, Kd.C_nil _ _, Nat.le_refl _, by decide, fun x hx => by cases hx⟩
  · injection hcs with hcs _
    injection hcs with e1 e2 e3
    subst e1 e2 e3
    have hll : ((List.range len0).map B).length = len0 := by simp
    refine ⟨_, cap0, (List.range len0).map B, by rw [hll], ?_, by rw [hll]; exact hl, by rw [hll]; omega, fun x hx => trivial⟩
    refine Kd.C_of_reads (d := false) ⟨rfl, by rw [hll]; exact Nat.le_trans hl hm, fun _ => ⟨_, rfl, fun j hj => ?_⟩⟩
    rw [hll] at hj
    rw [hc j (by omega)]
    simp [List.getD, hj]
end
end Go.Proofs.Ytcmldpacgbhfmaa.Th
