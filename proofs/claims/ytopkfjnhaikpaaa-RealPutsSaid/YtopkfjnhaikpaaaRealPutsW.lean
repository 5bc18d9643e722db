/- The walk of RealPuts. -/
import Derived.Test.YtopkfjnhaikpaaaC
namespace Go.Proofs.Ytopkfjnhaikpaaa
open Go.Fl
open Go.RowKit (wrap64 Hid Below)

theorem puts_core (a b : Int) (x y : Nat) (HA : Hid (a.natAbs ≤ 9223372036854775808)) (HB : Hid (b.natAbs ≤ 9223372036854775808)) (HX : Hid (x < 18446744073709551616)) (c : Int) (w : World)
    (o1 : putW a = x) (o2 : putW b = y)
    (o3 : (!decide (num x)) = false) (o4 : isInf x 0 = false) (o5 : cls x = c) (le : Bool) (o6 : (FloatKind.f64.format.order x y == some .lt || FloatKind.f64.format.order x y == some .eq) = le)
    (lt : Bool) (o7 : (FloatKind.f64.format.order x 0 == some .lt) = lt)
    (hh : (a ≤ b ∧ le = true) ∨ b < a) (kk : (a = 0 ∧ c = 4 ∧ lt = false) ∨ (a < 0 ∧ c ≠ 5 ∧ lt = true) ∨ (0 < a ∧ c ≠ 5 ∧ lt = false)) :
    Calls Try.prog 11 #[.int .i64 a, .int .i64 b] w fun e w' => e = .returned (.bool true) ∧ w = w' := by
  rcases hh with ⟨h1, rfl⟩ | h1 <;> rcases kk with ⟨rfl, rfl, rfl⟩ | ⟨h2, h3, rfl⟩ | ⟨h2, h3, rfl⟩
  all_goals
    go_enter Try.func11, Try.ntmps11
    go_wp2_with (first | (go_at_call 15; refine (alive_any _).mono ?_; rintro e w' ⟨rfl, rfl⟩) | (go_at_call 17; refine (put_any _ (by first | exact HA.out | exact HB.out) _).mono ?_; rintro e w' ⟨rfl, rfl⟩) | (go_at_call 21; refine (class_any _ HX.out _).mono ?_; rintro e w' ⟨rfl, rfl⟩) | (go_at_call 22; refine (isInf_any _ _ (by decide) HX.out _).mono ?_; rintro e w' ⟨rfl, rfl⟩) | (go_at_call 23; refine (nan_any _ _).mono ?_; rintro e w' ⟨rfl, rfl⟩))
    all_goals (go_ret; exact ⟨ret_bool (by first | rfl | (simp; omega)), rfl⟩)

theorem put_sval {a : Int} (h : a.natAbs ≤ 9223372036854775808) : sval (putW a) = (if a < 0 then -(rnd a.natAbs : Int) else rnd a.natAbs) * ((2 ^ U42 : Nat) : Int) := by
  obtain ⟨_, h2, h3⟩ := put_tells h
  unfold sval
  rw [h2, h3]
  by_cases hc : a < 0
  · simp only [hc, decide_true, if_true, Int.natCast_mul, Int.neg_mul]
  · simp only [hc, decide_false, Bool.false_eq_true, if_false, Int.natCast_mul]

theorem RealPuts_walk (a b : Int) (w0 : (Lit.int .i64 a).wf = true) (w1 : (Lit.int .i64 b).wf = true) (w : World) :
    Calls Try.prog 11 #[.int .i64 a, .int .i64 b] w fun e w' => e = .returned (.bool true) ∧ Below w.heap.size w w' := by
  have ha := bounds_i64 w0
  have hb := bounds_i64 w1
  have la : a.natAbs ≤ 9223372036854775808 := by omega
  have lb : b.natAbs ≤ 9223372036854775808 := by omega
  obtain ⟨fa, na, ma⟩ := put_tells la
  obtain ⟨fb, _, _⟩ := put_tells lb
  have sa := put_sval la
  have sb := put_sval lb
  have hU : (0 : Int) < ((2 ^ U42 : Nat) : Int) := by have := Nat.two_pow_pos U42; exact Int.ofNat_lt.2 this
  have n0 : num 0 := by unfold num; decide
  have s0 : sval 0 = 0 := sval_zero.2 (by decide)
  have hcls : (a = 0 → cls (putW a) = 4) ∧ (a ≠ 0 → cls (putW a) ≠ 5) := by
    constructor
    · intro h; subst h; decide +kernel
    · intro h hc
      have hz : rg (putW a) = 0 := by
        unfold cls at hc
        split at hc
        · omega
        · split at hc
          · split at hc <;> omega
          · split at hc
            · assumption
            · split at hc <;> omega
      rw [hz] at ma
      have hp := rnd_pos (show 0 < a.natAbs by omega)
      have := Nat.mul_pos hp (Nat.two_pow_pos U42)
      have hm0 : mag 0 = 0 := by decide
      omega
  refine below_of_same (puts_core a b _ _ (Lib.hid la) (Lib.hid lb) (Lib.hid (put_lt a)) _ w rfl rfl (by simp [fin_num fa]) ?_ rfl _ rfl _ rfl ?_ ?_)
  · rw [isInf_0]; exact decide_eq_false (by unfold fin at fa; omega)
  · by_cases h : a ≤ b
    · left
      refine ⟨h, ?_⟩
      refine (cmp_le (fin_num fa) (fin_num fb)).trans (decide_eq_true ?_)
      rw [sa, sb]
      refine Int.mul_le_mul_of_nonneg_right ?_ (Int.le_of_lt hU)
      by_cases h1 : a < 0 <;> by_cases h2 : b < 0
      · rw [if_pos h1, if_pos h2]; have := rnd_mono (show b.natAbs ≤ a.natAbs by omega); omega
      · rw [if_pos h1, if_neg h2]; omega
      · omega
      · rw [if_neg h1, if_neg h2]; have := rnd_mono (show a.natAbs ≤ b.natAbs by omega); omega
    · right; omega
  · have hlt : (FloatKind.f64.format.order (putW a) 0 == some .lt) = decide (a < 0) := by
      refine (cmp_lt (fin_num fa) n0).trans ?_
      rw [sa, s0, Bool.eq_iff_iff, decide_eq_true_eq, decide_eq_true_eq]
      by_cases h1 : a < 0
      · rw [if_pos h1]
        have hp := rnd_pos (show 0 < a.natAbs by omega)
        exact ⟨fun _ => h1, fun _ => Int.mul_neg_of_neg_of_pos (by omega) hU⟩
      · rw [if_neg h1]
        have := Int.mul_nonneg (Int.natCast_nonneg (rnd a.natAbs)) (Int.le_of_lt hU)
        exact ⟨fun h => by omega, fun h => absurd h h1⟩
    rcases Int.lt_trichotomy a 0 with h | h | h
    · right; left; exact ⟨h, hcls.2 (by omega), hlt.trans (decide_eq_true h)⟩
    · left; exact ⟨h, hcls.1 h, hlt.trans (decide_eq_false (by omega))⟩
    · right; right; exact ⟨h, hcls.2 (by omega), hlt.trans (decide_eq_false (by omega))⟩
end Go.Proofs.Ytopkfjnhaikpaaa
