/- A thing that came in, opened: thirteen numbers and a list. -/
import Derived.Test.YtbjknbfagadhfaaQW
import Derived.Test.YtbjknbfagadhfaaProg
import Derived.WalkKit
import Derived.ProofKit
import Derived.OpenShut
import Derived.ChangeOld
import Derived.ChangeSlices
import Derived.Below
import Derived.SizedLaws
namespace Go.Proofs.Ytbjknbfagadhfaa.Th
open Go.ChangeShapes Go.WideShapes Go.ChangeAt Go.RowKit Go.Proofs.YtbjknbfagadhfaaW.PrintWords
set_option linter.unusedVariables false
set_option linter.unusedSimpArgs false

theorem list14 {cs : List Value} (h : cs.length = 14) : ∃ c0 c1 c2 c3 c4 c5 c6 c7 c8 c9 c10 c11 c12 c13, cs = [c0, c1, c2, c3, c4, c5, c6, c7, c8, c9, c10, c11, c12, c13] := by
  match cs, h with
  | [c0, c1, c2, c3, c4, c5, c6, c7, c8, c9, c10, c11, c12, c13], _ => exact ⟨c0, c1, c2, c3, c4, c5, c6, c7, c8, c9, c10, c11, c12, c13, rfl⟩
theorem list8 {cs : List Value} (h : cs.length = 8) : ∃ c0 c1 c2 c3 c4 c5 c6 c7, cs = [c0, c1, c2, c3, c4, c5, c6, c7] := by
  match cs, h with
  | [c0, c1, c2, c3, c4, c5, c6, c7], _ => exact ⟨c0, c1, c2, c3, c4, c5, c6, c7, rfl⟩

section
variable {H : Type} {enc : TypeId × Value → H} {W : World} {base : Nat} {spare : Nat → Bool} {held : Bool}
theorem cells3 : Try.prog.cellsOf 3 = 1 := by kernel_rfl
theorem cells22 : Try.prog.cellsOf 22 = 1 := by kernel_rfl
theorem cells24 : Try.prog.cellsOf 24 = 2 := by kernel_rfl
theorem cells26 : Try.prog.cellsOf 26 = 8 := by kernel_rfl
theorem cells28 : Try.prog.cellsOf 28 = 3 := by kernel_rfl
theorem cells29 : Try.prog.cellsOf 29 = 1 := by kernel_rfl
theorem cells31 : Try.prog.cellsOf 31 = 14 := by kernel_rfl

theorem int_of {t : TypeId} {n : Nat} {c : Value} {y : Option (DataW H × List MemPlace)} (ht : Try.prog.underlying t = some (.int .i64)) (h : DataW.trod enc Try.prog W base spare held n t [c] = y) (hy : y.isSome = true) : ∃ a : Int, c = .int .i64 a ∧ (Lit.int .i64 a).wf = true := by
  obtain ⟨x, rfl⟩ := Option.isSome_iff_exists.1 hy
  obtain ⟨a, hc, _, hw⟩ := DataW.trod_int ht h
  simp at hc
  exact ⟨a, hc, hw⟩
theorem vec_of {n : Nat} {c0 c1 : Value} {y : Option (DataW H × List MemPlace)} (h : DataW.trod enc Try.prog W base spare held n 24 [c0, c1] = y) (hy : y.isSome = true) : ∃ a b : Int, c0 = .int .i64 a ∧ c1 = .int .i64 b ∧ (Lit.int .i64 a).wf = true ∧ (Lit.int .i64 b).wf = true := by
  obtain ⟨x, rfl⟩ := Option.isSome_iff_exists.1 hy
  obtain ⟨xs, m, _, _, _, hlen, hx⟩ := DataW.trod_struct Try.underlying24 h
  have h0 := hx 0 _ rfl
  change DataW.trod enc Try.prog W base spare held m 22 (([c0, c1].drop 0).take (Try.prog.cellsOf 22)) = xs[0]? at h0
  rw [cells22] at h0
  have h1 := hx 1 _ rfl
  change DataW.trod enc Try.prog W base spare held m 22 (([c0, c1].drop 1).take (Try.prog.cellsOf 22)) = xs[1]? at h1
  rw [cells22] at h1
  have hl : xs.length = 2 := hlen
  simp only [List.drop_zero, List.drop_succ_cons, List.take_succ_cons, List.take_zero] at h0 h1
  obtain ⟨a, ha, wa⟩ := int_of Try.underlying22 h0 (by simp [hl])
  obtain ⟨b, hb, wb⟩ := int_of Try.underlying22 h1 (by simp [hl])
  exact ⟨a, b, ha, hb, wa, wb⟩
theorem body_of {n : Nat} {c0 c1 c2 c3 c4 c5 c6 c7 : Value} {y : Option (DataW H × List MemPlace)} (h : DataW.trod enc Try.prog W base spare held n 26 [c0, c1, c2, c3, c4, c5, c6, c7] = y) (hy : y.isSome = true) : ∃ a0 a1 a2 a3 a4 a5 a6 a7 : Int, [c0, c1, c2, c3, c4, c5, c6, c7] = [.int .i64 a0, .int .i64 a1, .int .i64 a2, .int .i64 a3, .int .i64 a4, .int .i64 a5, .int .i64 a6, .int .i64 a7] ∧ ∀ a ∈ [a0, a1, a2, a3, a4, a5, a6, a7], (Lit.int .i64 a).wf = true := by
  obtain ⟨x, rfl⟩ := Option.isSome_iff_exists.1 hy
  obtain ⟨xs, m, _, _, _, hlen, hx⟩ := DataW.trod_struct Try.underlying26 h
  have h0 := hx 0 _ rfl
  change DataW.trod enc Try.prog W base spare held m 3 (([c0, c1, c2, c3, c4, c5, c6, c7].drop 0).take (Try.prog.cellsOf 3)) = xs[0]? at h0
  rw [cells3] at h0
  have h1 := hx 1 _ rfl
  change DataW.trod enc Try.prog W base spare held m 24 (([c0, c1, c2, c3, c4, c5, c6, c7].drop 1).take (Try.prog.cellsOf 24)) = xs[1]? at h1
  rw [cells24] at h1
  have h2 := hx 2 _ rfl
  change DataW.trod enc Try.prog W base spare held m 22 (([c0, c1, c2, c3, c4, c5, c6, c7].drop 3).take (Try.prog.cellsOf 22)) = xs[2]? at h2
  rw [cells22] at h2
  have h3 := hx 3 _ rfl
  change DataW.trod enc Try.prog W base spare held m 24 (([c0, c1, c2, c3, c4, c5, c6, c7].drop 4).take (Try.prog.cellsOf 24)) = xs[3]? at h3
  rw [cells24] at h3
  have h4 := hx 4 _ rfl
  change DataW.trod enc Try.prog W base spare held m 24 (([c0, c1, c2, c3, c4, c5, c6, c7].drop 6).take (Try.prog.cellsOf 24)) = xs[4]? at h4
  rw [cells24] at h4
  have hl : xs.length = 5 := hlen
  simp only [List.drop_zero, List.drop_succ_cons, List.take_succ_cons, List.take_zero] at h0 h1 h2 h3 h4
  obtain ⟨a0, rfl, w0⟩ := int_of Try.underlying3 h0 (by simp [hl])
  obtain ⟨a1, a2, rfl, rfl, w1, w2⟩ := vec_of h1 (by simp [hl])
  obtain ⟨a3, rfl, w3⟩ := int_of Try.underlying22 h2 (by simp [hl])
  obtain ⟨a4, a5, rfl, rfl, w4, w5⟩ := vec_of h3 (by simp [hl])
  obtain ⟨a6, a7, rfl, rfl, w6, w7⟩ := vec_of h4 (by simp [hl])
  exact ⟨a0, a1, a2, a3, a4, a5, a6, a7, rfl, by simp [w0, w1, w2, w3, w4, w5, w6, w7]⟩
theorem joint_of {n : Nat} {c0 c1 c2 : Value} {y : Option (DataW H × List MemPlace)} (h : DataW.trod enc Try.prog W base spare held n 28 [c0, c1, c2] = y) (hy : y.isSome = true) : ∃ a0 a1 a2 : Int, [c0, c1, c2] = [.int .i64 a0, .int .i64 a1, .int .i64 a2] ∧ ∀ a ∈ [a0, a1, a2], (Lit.int .i64 a).wf = true := by
  obtain ⟨x, rfl⟩ := Option.isSome_iff_exists.1 hy
  obtain ⟨xs, m, _, _, _, hlen, hx⟩ := DataW.trod_struct Try.underlying28 h
  have h0 := hx 0 _ rfl
  change DataW.trod enc Try.prog W base spare held m 3 (([c0, c1, c2].drop 0).take (Try.prog.cellsOf 3)) = xs[0]? at h0
  rw [cells3] at h0
  have h1 := hx 1 _ rfl
  change DataW.trod enc Try.prog W base spare held m 3 (([c0, c1, c2].drop 1).take (Try.prog.cellsOf 3)) = xs[1]? at h1
  rw [cells3] at h1
  have h2 := hx 2 _ rfl
  change DataW.trod enc Try.prog W base spare held m 22 (([c0, c1, c2].drop 2).take (Try.prog.cellsOf 22)) = xs[2]? at h2
  rw [cells22] at h2
  have hl : xs.length = 3 := hlen
  simp only [List.drop_zero, List.drop_succ_cons, List.take_succ_cons, List.take_zero] at h0 h1 h2
  obtain ⟨a0, rfl, w0⟩ := int_of Try.underlying3 h0 (by simp [hl])
  obtain ⟨a1, rfl, w1⟩ := int_of Try.underlying3 h1 (by simp [hl])
  obtain ⟨a2, rfl, w2⟩ := int_of Try.underlying22 h2 (by simp [hl])
  exact ⟨a0, a1, a2, rfl, by simp [w0, w1, w2]⟩
theorem ints_of {n : Nat} {c : Value} {y : Option (DataW H × List MemPlace)} (h : DataW.trod enc Try.prog W base (fun _ => true) held n 29 [c] = y) (hy : y.isSome = true) : ∃ (A : Option Addr) (cp : Nat) (l : List Int), c = .slice A l.length cp ∧ Kd.C (Kd.int .i64) W A l.length l ∧ l.length ≤ cp ∧ l.length ≤ maxLen ∧ ∀ x ∈ l, (Lit.int .i64 x).wf = true := by
  obtain ⟨x, rfl⟩ := Option.isSome_iff_exists.1 hy
  rcases open_ints Try.underlying29 Try.underlying3 cells3 h with ⟨hcs, _⟩ | ⟨a, len, cap, zs, hcs, _, hl, hm, hz, _, hcell, hwz⟩
  · simp at hcs
    subst hcs
    obtain ⟨l, e, h1, h2, h3, h4⟩ := ReadsInt.ofRowC (k := .i64) (w := W) (a := none) (len := 0) (cap := 0) (zs := []) (.inl ⟨rfl, rfl, rfl, rfl⟩)
    exact ⟨none, 0, l, by rw [← e], Kd.C_of_reads (d := (0 : Int)) (h1 := fun _ => rfl) h1, h4, h2, h3⟩
  · simp at hcs
    subst hcs
    obtain ⟨l, rfl, h1, h2, h3, h4⟩ := ReadsInt.ofRowC (k := .i64) (w := W) (a := some a) (len := len) (cap := cap) (zs := zs) (.inr ⟨a, rfl, hl, hm, by simpa using hz, hcell, hwz⟩)
    exact ⟨some a, cap, l, rfl, Kd.C_of_reads (d := (0 : Int)) (h1 := fun _ => rfl) h1, h4, h2, h3⟩


set_option maxRecDepth 100000 in
theorem thing_open {r : Reach} {b0 : Nat} {v : Value} {d : DataW H} {p : List MemPlace} (hv : Value.okWide Try.prog W r b0 31 v) (h : DataW.Trod enc Try.prog W base (fun _ => true) held 31 v d p) :
    ∃ (a0 a1 a2 a3 a4 a5 a6 a7 a8 a9 a10 a11 a12 : Int) (A : Option Addr) (c : Nat) (l : List Int), v = .agg #[.int .i64 a0, .int .i64 a1, .int .i64 a2, .int .i64 a3, .int .i64 a4, .int .i64 a5, .int .i64 a6, .int .i64 a7, .int .i64 a8, .int .i64 a9, .int .i64 a10, .int .i64 a11, .int .i64 a12, .slice A l.length c] ∧ Kd.C (Kd.int .i64) W A l.length l ∧ l.length ≤ c ∧ l.length ≤ maxLen ∧ (∀ a ∈ [a0, a1, a2, a3, a4, a5, a6, a7, a8, a9, a10, a11, a12], (Lit.int .i64 a).wf = true) ∧ ∀ x ∈ l, (Lit.int .i64 x).wf = true := by
  obtain ⟨cs, rfl, hsz⟩ := okWide_struct (P := Try.prog) (w := W) (r := r) (base := b0) (v := v) Try.underlying31 hv
  obtain ⟨c0, c1, c2, c3, c4, c5, c6, c7, c8, c9, c10, c11, c12, c13, hcs⟩ := list14 (cs := cs.toList) (Array.length_toList.trans (hsz.trans cells31))
  obtain ⟨fuel, hf⟩ := h
  obtain ⟨xs, n, _, _, _, hlen, hx⟩ := DataW.trod_struct Try.underlying31 hf
  have h0 := hx 0 _ rfl
  change DataW.trod enc Try.prog W base (fun _ => true) held n 3 ((cs.toList.drop 0).take (Try.prog.cellsOf 3)) = xs[0]? at h0
  rw [cells3] at h0
  have h1 := hx 1 _ rfl
  change DataW.trod enc Try.prog W base (fun _ => true) held n 3 ((cs.toList.drop 1).take (Try.prog.cellsOf 3)) = xs[1]? at h1
  rw [cells3] at h1
  have h2 := hx 2 _ rfl
  change DataW.trod enc Try.prog W base (fun _ => true) held n 26 ((cs.toList.drop 2).take (Try.prog.cellsOf 26)) = xs[2]? at h2
  rw [cells26] at h2
  have h3 := hx 3 _ rfl
  change DataW.trod enc Try.prog W base (fun _ => true) held n 28 ((cs.toList.drop 10).take (Try.prog.cellsOf 28)) = xs[3]? at h3
  rw [cells28] at h3
  have h4 := hx 4 _ rfl
  change DataW.trod enc Try.prog W base (fun _ => true) held n 29 ((cs.toList.drop 13).take (Try.prog.cellsOf 29)) = xs[4]? at h4
  rw [cells29] at h4
  have hl : xs.length = 5 := hlen
  simp only [hcs, List.drop_zero, List.drop_succ_cons, List.take_succ_cons, List.take_zero] at h0 h1 h2 h3 h4
  obtain ⟨a0, rfl, w0⟩ := int_of Try.underlying3 h0 (by simp [hl])
  obtain ⟨a1, rfl, w1⟩ := int_of Try.underlying3 h1 (by simp [hl])
  obtain ⟨a2, a3, a4, a5, a6, a7, a8, a9, e2, w2⟩ := body_of h2 (by simp [hl])
  obtain ⟨a10, a11, a12, e3, w3⟩ := joint_of h3 (by simp [hl])
  obtain ⟨A, cp, l, rfl, hc, hcap, hm, hw⟩ := ints_of h4 (by simp [hl])
  simp only [List.cons.injEq, and_true] at e2 e3
  obtain ⟨rfl, rfl, rfl, rfl, rfl, rfl, rfl, rfl⟩ := e2
  obtain ⟨rfl, rfl, rfl⟩ := e3
  refine ⟨a0, a1, a2, a3, a4, a5, a6, a7, a8, a9, a10, a11, a12, A, cp, l, ?_, hc, hcap, hm, ?_, hw⟩
  · rw [Value.agg.injEq]; exact Array.toList_inj.1 hcs
  · simp only [List.mem_cons, List.not_mem_nil, or_false, forall_eq_or_imp, forall_eq] at w2 w3 ⊢
    exact ⟨w0, w1, w2.1, w2.2.1, w2.2.2.1, w2.2.2.2.1, w2.2.2.2.2.1, w2.2.2.2.2.2.1, w2.2.2.2.2.2.2.1, w2.2.2.2.2.2.2.2, w3.1, w3.2.1, w3.2.2⟩
set_option maxRecDepth 100000 in
theorem body_open {r : Reach} {b0 : Nat} {v : Value} {d : DataW H} {p : List MemPlace} (hv : Value.okWide Try.prog W r b0 26 v) (h : DataW.Trod enc Try.prog W base spare held 26 v d p) :
    ∃ (a0 a1 a2 a3 a4 a5 a6 a7 : Int), v = .agg #[.int .i64 a0, .int .i64 a1, .int .i64 a2, .int .i64 a3, .int .i64 a4, .int .i64 a5, .int .i64 a6, .int .i64 a7] ∧ ∀ a ∈ [a0, a1, a2, a3, a4, a5, a6, a7], (Lit.int .i64 a).wf = true := by
  obtain ⟨cs, rfl, hsz⟩ := okWide_struct (P := Try.prog) (w := W) (r := r) (base := b0) (v := v) Try.underlying26 hv
  obtain ⟨c0, c1, c2, c3, c4, c5, c6, c7, hcs⟩ := list8 (cs := cs.toList) (Array.length_toList.trans (hsz.trans cells26))
  obtain ⟨fuel, hf⟩ := h
  simp only [Value.cells, hcs] at hf
  obtain ⟨a0, a1, a2, a3, a4, a5, a6, a7, e, w⟩ := body_of hf (by simp)
  exact ⟨a0, a1, a2, a3, a4, a5, a6, a7, by rw [Value.agg.injEq]; exact Array.toList_inj.1 (hcs.trans e), w⟩
end
end Go.Proofs.Ytbjknbfagadhfaa.Th
