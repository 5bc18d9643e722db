/- cmp.Compare at api.Fix; the closure by which prune.Sorted compares. -/
import Derived.Test.YtfblelkegebdiaaZ2
import Derived.Test.YtfblelkegebdiaaQC
import Derived.BigQuiet
import Derived.WalkKit
namespace Go.Proofs.Ytfblelkegebdiaa.V
open Go.Proofs Go.Shelf Go.RowKit Go.Lib Go.Sort
set_option linter.unusedVariables false
set_option linter.unusedSimpArgs false

set_option maxHeartbeats 2000000 in
theorem isNaN_fix (x : Int) (w : World) : Calls Try.prog 61 #[.int .i64 x] w fun e w' => e = .returned (.bool false) ∧ w' = w := by
  go_enter Try.func61, Try.ntmps61
  go_wp2
  go_ret
  exact ⟨by first | rfl | simp, rfl⟩
set_option maxHeartbeats 2000000 in
theorem compare_fix (x y : Int) (w : World) : Calls Try.prog 25 #[.int .i64 x, .int .i64 y] w fun e w' => e = .returned (.int .i64 (Lib.compareInt x y)) ∧ w' = w := by
  unfold Lib.compareInt
  by_cases h1 : x < y
  · rw [if_pos h1]
    have d1 := decide_eq_true h1
    clear h1
    go_enter Try.func25, Try.ntmps25
    go_wp2_with (first | (go_at_call 61; (with_reducible refine (isNaN_fix _ _).mono ?_); rintro e w1 ⟨rfl, rfl⟩))
    go_ret
    exact ⟨rfl, rfl⟩
  · rw [if_neg h1]
    have d1 := decide_eq_false h1
    by_cases h2 : x > y
    · rw [if_pos h2]
      have d2 : decide (y < x) = true := decide_eq_true h2
      clear h1 h2
      go_enter Try.func25, Try.ntmps25
      go_wp2_with (first | (go_at_call 61; (with_reducible refine (isNaN_fix _ _).mono ?_); rintro e w1 ⟨rfl, rfl⟩))
      go_ret
      exact ⟨rfl, rfl⟩
    · rw [if_neg h2]
      have d2 : decide (y < x) = false := decide_eq_false h2
      clear h1 h2
      go_enter Try.func25, Try.ntmps25
      go_wp2_with (first | (go_at_call 61; (with_reducible refine (isNaN_fix _ _).mono ?_); rintro e w1 ⟨rfl, rfl⟩))
      go_ret
      exact ⟨rfl, rfl⟩
/-- the left edges of the boxes that lie at A, read through the box c -/
structure Edges (w : World) (c : Nat) (n : Nat) (X : Nat → Int) : Prop where
  few : n < 4611686018427387904
  reads : 0 < n → ∃ (ad : Addr) (cp : Nat), w.cell? ⟨c, 0, none⟩ = some (.slice (some ad) n cp) ∧ ∀ i, i < n → w.cell? (ad.add (i * 4)) = some (.int .i64 (X i))
set_option maxHeartbeats 4000000 in
set_option maxRecDepth 100000 in
theorem sorted_cmp (w : World) (c n : Nat) (X : Nat → Int) (h : Edges w c n X) (i j : Nat) (hi : i < n) (hj : j < n) :
    Calls Try.prog 24 #[.int .i64 i, .int .i64 j, .pointer (some ⟨c, 0, none⟩)] w fun e w' => e = .returned (.int .i64 (Lib.compareInt (X i) (X j))) ∧ ∃ q, w' = w.drewN q := by
  obtain ⟨ad, cp, hc, hr⟩ := h.reads (by omega)
  have r1 := hr i hi
  have r2 := hr j hj
  have d1 : decide ((i : Int) < (n : Int)) = true := decide_eq_true (by omega)
  have d2 : decide ((j : Int) < (n : Int)) = true := decide_eq_true (by omega)
  have d3 : (i < n) = True := eq_true hi
  have d4 : (j < n) = True := eq_true hj
  have d5 : (0 ≤ (i : Int)) = True := eq_true (by omega)
  have d6 : (0 ≤ (j : Int)) = True := eq_true (by omega)
  have d7 : ((i : Int) < (n : Int)) = True := eq_true (by omega)
  have d8 : ((j : Int) < (n : Int)) = True := eq_true (by omega)
  obtain ⟨xi, hxi⟩ : ∃ x, x = X i := ⟨_, rfl⟩
  obtain ⟨xj, hxj⟩ : ∃ x, x = X j := ⟨_, rfl⟩
  rw [← hxi] at r1 ⊢
  rw [← hxj] at r2 ⊢
  have HC : Aside (∀ W, Calls Try.prog 25 #[.int .i64 xi, .int .i64 xj] W fun e w' => e = .returned (.int .i64 (Lib.compareInt xi xj)) ∧ w' = W) := fun W => compare_fix xi xj W
  obtain ⟨rr, hrr⟩ : ∃ r, r = Lib.compareInt xi xj := ⟨_, rfl⟩
  rw [← hrr] at HC ⊢
  clear hxi hxj hrr hr h hi hj
  go_enter Try.func24, Try.ntmps24
  go_wp2_with (fail)
  go_quiet (first | (go_at_call 25; refine Calls.quiet_of_same (HC.out _)))
  go_wp2
  go_ret
  exact ⟨rfl, _, rfl⟩
end Go.Proofs.Ytfblelkegebdiaa.V
