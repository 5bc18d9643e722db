/- Contracts of the document's own Class, Order and Get. -/
import Derived.Test.YtopkfjnhaikpaaaK
import Derived.Laws.BitsLemmas
import Derived.Deep.QuietTactic
import Derived.BigQuiet
import Derived.Outline
namespace Go.Proofs.Ytopkfjnhaikpaaa
open Go.Fl
open Go.RowKit (wrap64 Hid Below)
set_option linter.unusedVariables false
set_option linter.unusedSimpArgs false

theorem u64_wrap (n : Int) : IntKind.u64.wrap n = n % 18446744073709551616 := by simp [IntKind.wrap, IntKind.bits, IntKind.signed]
theorem and_mask' (x : Nat) (i : Nat) (hi : i ≤ 64) (h1 : x < 18446744073709551616) : bits .and .u64 (x : Int) (2 ^ i - 1) = ((x % 2 ^ i : Nat) : Int) := by
  rw [bits_mask .u64 64 (by decide) (fun n a b => by
    have b' : n < 18446744073709551616 := b
    rw [u64_wrap]; omega) i hi x (by omega) (by show (x : Int) < 18446744073709551616; omega)]
  simp

/-- exponent, fraction, sign of a word -/
def ex (x : Nat) : Nat := x / 4503599627370496 % 2048
def fr (x : Nat) : Nat := x % 4503599627370496
def sg (x : Nat) : Nat := x / 9223372036854775808
theorem ex_is {x : Nat} (h : x < 18446744073709551616) : bits .and .u64 ((x : Int) / 4503599627370496) 2047 = (ex x : Int) := by
  have := and_mask' (x / 4503599627370496) 11 (by decide) (by omega)
  rw [Int.natCast_ediv] at this
  exact this
theorem fr_is {x : Nat} (h : x < 18446744073709551616) : bits .and .u64 (x : Int) 4503599627370495 = (fr x : Int) := and_mask' x 52 (by decide) h
theorem sg_is (x : Nat) : (x : Int) / 9223372036854775808 = (sg x : Int) := by unfold sg; omega
theorem rg_ex {x : Nat} : rg x = ex x * 4503599627370496 + fr x := by unfold rg ex fr; omega
theorem neg_sg {x : Nat} (h : x < 18446744073709551616) : neg x = (sg x == 1) := by
  unfold neg sg
  have : x / 9223372036854775808 % 2 = x / 9223372036854775808 := by omega
  rw [this]

/-- Class by the three -/
def clsB (e m s : Nat) : Int :=
  if e = 2047 then (if m ≠ 0 then 1 else if s = 0 then 2 else 3) else if e = 0 then (if m = 0 then (if s = 0 then 4 else 5) else 6) else 7
theorem clsB_is {x : Nat} (h : x < 18446744073709551616) : cls x = clsB (ex x) (fr x) (sg x) := by
  have e1 := @rg_ex x
  have e2 := neg_sg h
  have b1 : ex x < 2048 := by unfold ex; omega
  have b2 : fr x < 4503599627370496 := by unfold fr; omega
  have b3 : sg x < 2 := by unfold sg; omega
  unfold cls clsB
  rw [e1, e2]
  generalize ex x = e at *
  generalize fr x = m at *
  generalize sg x = s at *
  have hs : s = 0 ∨ s = 1 := by omega
  by_cases a1 : e = 2047
  · subst a1
    by_cases a2 : m = 0
    · subst a2
      rcases hs with rfl | rfl <;> rfl
    · have g1 : 2047 * 4503599627370496 + m > 9218868437227405312 := by omega
      simp only [if_pos g1, ite_true, a2, ne_eq, not_false_eq_true]
  · have g1 : ¬ (e * 4503599627370496 + m > 9218868437227405312) := by omega
    have g2 : ¬ (e * 4503599627370496 + m = 9218868437227405312) := by omega
    simp only [if_neg g1, if_neg g2, if_neg a1]
    by_cases a4 : e = 0
    · subst a4
      by_cases a2 : m = 0
      · subst a2
        rcases hs with rfl | rfl <;> rfl
      · have g3 : ¬ (0 * 4503599627370496 + m = 0) := by omega
        have g4 : 0 * 4503599627370496 + m < 4503599627370496 := by omega
        simp only [if_neg g3, if_pos g4, ite_true, a2, ite_false]
    · have g3 : ¬ (e * 4503599627370496 + m = 0) := by omega
      have g4 : ¬ (e * 4503599627370496 + m < 4503599627370496) := by omega
      simp only [if_neg g3, if_neg g4, a4, ite_false]

set_option maxHeartbeats 1000000 in
theorem rclass_walk (x e m s : Nat) (w : World) (h1 : bits .and .u64 ((x : Int) / 4503599627370496) 2047 = (e : Int)) (h2 : bits .and .u64 (x : Int) 4503599627370495 = (m : Int)) (h3 : (x : Int) / 9223372036854775808 = (s : Int)) :
    Calls Try.prog 30 #[.float .f64 x] w fun e' w' => e' = .returned (.int .i64 (clsB e m s)) ∧ w = w' := by
  go_enter Try.func30, Try.ntmps30
  go_wp2
  go_ways
  all_goals (clear h1 h2 h3)
  all_goals (go_ret; refine ⟨ret_int ?_, rfl⟩; unfold clsB; simp only [beq_iff_eq, bne_iff_ne, beq_eq_false_iff_ne, ne_eq, bne_eq_false_iff_eq] at *; repeat' split; all_goals omega)
end Go.Proofs.Ytopkfjnhaikpaaa
