/- Contract of the document's Order. -/
import Derived.Test.YtopkfjnhaikpaaaT
namespace Go.Proofs.Ytopkfjnhaikpaaa
open Go.Fl
open Go.RowKit (wrap64 Hid Below)
set_option linter.unusedVariables false
set_option linter.unusedSimpArgs false

theorem rclass_any (x : Nat) (h : x < 18446744073709551616) (w : World) : Calls Try.prog 30 #[.float .f64 x] w fun e' w' => e' = .returned (.int .i64 (cls x)) ∧ w = w' := by
  rw [clsB_is h]
  exact rclass_walk x (ex x) (fr x) (sg x) w (ex_is h) (fr_is h) (sg_is x)

/-- rank -/
def rk (x : Nat) : Int := if cls x = 1 then -9223372036854775808 else if neg x then -1 - (rg x : Int) else (rg x : Int)

theorem and_63 (x : Int) : Go.bits .and .i64 x 9223372036854775807 = x % 9223372036854775808 := by
  unfold Go.bits
  show IntKind.i64.wrap ((BitVec.ofInt 64 x &&& BitVec.ofInt 64 9223372036854775807).toNat : Int) = _
  rw [BitVec.toNat_and, show (BitVec.ofInt 64 9223372036854775807).toNat = 2 ^ 63 - 1 by decide, Nat.and_two_pow_sub_one_eq_mod, BitVec.toNat_ofInt, IntKind.wrap_i64]
  omega

theorem rank_any (x : Nat) (h : x < 18446744073709551616) (w : World) : Calls Try.prog 37 #[.float .f64 x] w fun e' w' => e' = .returned (.int .i64 (rk x)) ∧ w = w' := by
  have HX := Lib.hid h
  have hb : bits .and .i64 (wrap64 (x : Int)) 9223372036854775807 = (rg x : Int) := by
    rw [and_63]; unfold wrap64 rg; omega
  have hn : neg x = decide (wrap64 (x : Int) < 0) := by
    unfold neg wrap64
    rw [Bool.eq_iff_iff, beq_iff_eq, decide_eq_true_eq]; omega
  have hw : ¬ wrap64 (x : Int) < 0 → wrap64 (x : Int) = (rg x : Int) := by unfold wrap64 rg; omega
  have hr : (rg x : Int) < 9223372036854775808 ∧ 0 ≤ (rg x : Int) := by unfold rg; omega
  have HW := Lib.hid hw
  have HN := Lib.hid hn
  have HB := Lib.hid hb
  have HR := Lib.hid hr
  clear h hb hn hw hr
  generalize hR : rk x = R
  have hR1 : (cls x == 1) = true → R = -9223372036854775808 := fun h => by rw [← hR]; unfold rk; rw [if_pos (beq_iff_eq.1 h)]
  have hR2 : (cls x == 1) = false → wrap64 (x : Int) < 0 → R = wrap64 (-1 - bits .and .i64 (wrap64 (x : Int)) 9223372036854775807) := fun h h2 => by
    have := HR.out
    rw [← hR]; unfold rk; rw [if_neg (by simpa using h), HN.out, if_pos (decide_eq_true h2), HB.out]; unfold wrap64; omega
  have hR3 : (cls x == 1) = false → 0 ≤ wrap64 (x : Int) → R = wrap64 (x : Int) := fun h h2 => by
    have h3 : ¬ wrap64 (x : Int) < 0 := by omega
    rw [← hR]; unfold rk; rw [if_neg (by simpa using h), HN.out, if_neg (by simpa using h2), HW.out h3]
  have H1 := Lib.hid hR1
  have H2 := Lib.hid hR2
  have H3 := Lib.hid hR3
  clear hR1 hR2 hR3 hR HW HN HB HR
  go_enter Try.func37, Try.ntmps37
  go_wp2_with (first | (go_at_call 30; refine (rclass_any _ HX.out _).mono ?_; rintro e w' ⟨rfl, rfl⟩))
  go_ways
  all_goals (go_ret; exact ⟨ret_int (by symm; first | exact H1.out (by assumption) | exact H2.out (by assumption) (by assumption) | exact H3.out (by assumption) (by assumption)), rfl⟩)

theorem mag_strict {r r' : Nat} (h : r < r') (h' : r' ≤ 9218868437227405312) : mag r < mag r' := by
  have h1 := mag_mono (Nat.le_of_lt h)
  have h2 : mag r ≠ mag r' := by
    intro he
    by_cases hi : r' = 9218868437227405312
    · subst hi; have := mag_fin_lt h; omega
    · have a := rung_mag r (by omega)
      have b := rung_mag r' (by omega)
      rw [he, b] at a
      omega
  omega

theorem cls_5 {x : Nat} : cls x = 5 ↔ neg x = true ∧ rg x = 0 := by
  unfold cls
  by_cases h : rg x = 0
  · rw [if_neg (by omega), if_neg (by omega), if_pos h]
    cases neg x <;> simp [h]
  · constructor
    · intro g
      by_cases a : rg x > 9218868437227405312
      · rw [if_pos a] at g; omega
      · rw [if_neg a] at g
        by_cases b : rg x = 9218868437227405312
        · rw [if_pos b] at g; split at g <;> omega
        · rw [if_neg b, if_neg h] at g; split at g <;> omega
    · intro g; exact absurd g.2 h

theorem mag_0 : mag 0 = 0 := rfl
theorem key_lt {x y : Nat} (hx : num x) (hy : num y) : key x < key y ↔ rk x < rk y := by
  have ax := (cls_num hx).1
  have ay := (cls_num hy).1
  unfold key rk
  rw [if_pos hx, if_pos hy, if_neg ax, if_neg ay]
  have cx := @cls_5 x
  have cy := @cls_5 y
  have l1 : rg x < rg y → mag (rg x) < mag (rg y) := fun h => mag_strict h hy
  have l2 : rg y < rg x → mag (rg y) < mag (rg x) := fun h => mag_strict h hx
  have l3 : rg x = rg y → mag (rg x) = mag (rg y) := fun h => by rw [h]
  have zx : 0 < rg x → 0 < mag (rg x) := fun h => by have := mag_strict h hx; rw [mag_0] at this; exact this
  have zy : 0 < rg y → 0 < mag (rg y) := fun h => by have := mag_strict h hy; rw [mag_0] at this; exact this
  have wx : rg x = 0 → mag (rg x) = 0 := fun h => by rw [h]; rfl
  have wy : rg y = 0 → mag (rg y) = 0 := fun h => by rw [h]; rfl
  unfold sval
  clear hx hy ax ay
  generalize mag (rg x) = p at *
  generalize mag (rg y) = q at *
  generalize rg x = r at *
  generalize rg y = t at *
  generalize cls x = c at *
  generalize cls y = d at *
  cases hnx : neg x <;> cases hny : neg y <;> rw [hnx] at cx <;> rw [hny] at cy <;> simp only [Bool.false_eq_true, if_false, if_true, false_and, iff_false, true_and] at * <;> split <;> (try split) <;> omega

theorem ord_rk {x y : Nat} : ordA x y = cmp3 (rk x) (rk y) := by
  rw [ordA_key]
  have low : ∀ x, num x → -9223372036854775808 < rk x := by
    intro x h
    unfold rk; unfold num at h
    split
    · rename_i h1; exact absurd h1 (cls_num h).1
    · split <;> omega
  have nan : ∀ x, ¬ num x → rk x = -9223372036854775808 := fun x h => by unfold rk; rw [if_pos (cls_1 h)]
  have klow : ∀ x, num x → -2 * (mag 9218868437227405312 : Int) - 2 < key x := by
    intro x h
    have := sval_bound h
    unfold key; rw [if_pos h]; split <;> omega
  have knan : ∀ x, ¬ num x → key x = -2 * (mag 9218868437227405312 : Int) - 2 := fun x h => by unfold key; rw [if_neg h]
  unfold cmp3
  by_cases hx : num x
  · by_cases hy : num y
    · have a := key_lt hx hy
      have b := key_lt hy hx
      simp only [a, b]
    · have a := low x hx
      have b := klow x hx
      rw [nan y hy, knan y hy, if_neg (by omega), if_pos (by omega), if_neg (by omega), if_pos (by omega)]
  · by_cases hy : num y
    · have a := low y hy
      have b := klow y hy
      rw [nan x hx, knan x hx, if_pos (by omega), if_pos (by omega)]
    · rw [nan x hx, knan x hx, nan y hy, knan y hy, if_neg (by omega), if_neg (by omega), if_neg (by omega), if_neg (by omega)]

theorem rorder_any (x y : Nat) (hx : x < 18446744073709551616) (hy : y < 18446744073709551616) (w : World) :
    Calls Try.prog 31 #[.float .f64 x, .float .f64 y] w fun e' w' => e' = .returned (.int .i64 (ordA x y)) ∧ w = w' := by
  have HX := Lib.hid hx
  have HY := Lib.hid hy
  rw [ord_rk]
  unfold cmp3
  clear hx hy
  go_enter Try.func31, Try.ntmps31
  go_wp2_with (first | (go_at_call 37; refine (rank_any _ (by first | exact HX.out | exact HY.out) _).mono ?_; rintro e w' ⟨rfl, rfl⟩))
  go_ways
  all_goals (go_ret; exact ⟨ret_int rfl, rfl⟩)
end Go.Proofs.Ytopkfjnhaikpaaa
