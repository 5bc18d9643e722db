/- The walk of RealSame. -/
import Derived.Test.YtopkfjnhaikpaaaK
import Derived.Laws.BitsLemmas
namespace Go.Proofs.Ytopkfjnhaikpaaa
open Go.Fl
open Go.RowKit (wrap64 Hid Below)

theorem dec_f {a b : Nat} (h : a ≠ b) : decide (a = b) = false := by simp [h]
theorem dec_t (a : Nat) : decide (a = a) = true := by simp

theorem same_core (x y : Int) (a b : Nat) (A : Hid (a < 18446744073709551616)) (B : Hid (b < 18446744073709551616)) (w : World)
    (h1 : (bits BinOp.or IntKind.u64 9218868437227405313 (bits BinOp.and IntKind.u64 x 4503599627370495)).toNat = a)
    (h2 : (bits BinOp.or IntKind.u64 18444492273895866368 (bits BinOp.and IntKind.u64 y 2251799813685247)).toNat = b)
    (h3 : ordA a b = 0) (h4 : decide (a = b) = false) (h5 : cls a = 1) (h6 : cls b = 1) (h7 : decide (a = a) = true)
    (h8 : ordA 9223372036854775808 0 = -1) :
    Calls Try.prog 12 #[.int .u64 x, .int .u64 y] w fun e w' => e = .returned (.bool true) ∧ w = w' := by
  go_enter Try.func12, Try.ntmps12
  go_wp2_with (first | (go_at_call 15; refine (alive_any _).mono ?_; rintro e w' ⟨rfl, rfl⟩) | (go_at_call 24; refine (copysign_any _).mono ?_; rintro e w' ⟨rfl, rfl⟩) | (go_at_call 25; refine (same_any _ _ _).mono ?_; rintro e w' ⟨rfl, rfl⟩) | (go_at_call 19; refine (order_any _ _ (by first | decide | exact A.out | exact B.out) (by first | decide | exact A.out | exact B.out) _).mono ?_; rintro e w' ⟨rfl, rfl⟩) | (go_at_call 21; refine (class_any _ (by first | exact A.out | exact B.out) _).mono ?_; rintro e w' ⟨rfl, rfl⟩))
  all_goals (go_ret; exact ⟨rfl, rfl⟩)

theorem and_mask (x : Int) (h0 : 0 ≤ x) (i : Nat) (hi : i ≤ 64) (h1 : x < 18446744073709551616) : bits .and .u64 x (2 ^ i - 1) = x % 2 ^ i :=
  bits_mask .u64 64 (by decide) (fun n a b => by
    have e : IntKind.u64.wrap n = n % 18446744073709551616 := by simp [IntKind.wrap, IntKind.bits, IntKind.signed]
    have b' : n < 18446744073709551616 := b
    rw [e]; omega) i hi x h0 h1

theorem or_nat (a b : Nat) (ha : a < 18446744073709551616) (hb : b < 18446744073709551616) : bits .or .u64 (a : Int) (b : Int) = ((a ||| b : Nat) : Int) :=
  (bits_nat .u64 64 (by decide) (fun n a b => by
    have e : IntKind.u64.wrap n = n % 18446744073709551616 := by simp [IntKind.wrap, IntKind.bits, IntKind.signed]
    have b' : n < 18446744073709551616 := b
    rw [e]; omega) a b ha hb).2

/-- above a head of bits -/
theorem or_low (h m i : Nat) (hm : m < 2 ^ i) : 2 ^ i * h ||| m = 2 ^ i * h + m := (Nat.two_pow_add_eq_or_of_lt hm h).symm

theorem RealSame_walk (a0 a1 : Int) (w0 : (Lit.int .u64 a0).wf = true) (w1 : (Lit.int .u64 a1).wf = true) (w : World) :
    Calls Try.prog 12 #[.int .u64 a0, .int .u64 a1] w fun e w' => e = .returned (.bool true) ∧ Below w.heap.size w w' := by
  have b0 := bounds_u64 w0
  have b1 := bounds_u64 w1
  have m0 := and_mask a0 b0.1 52 (by decide) (by omega)
  have m1 := and_mask a1 b1.1 51 (by decide) (by omega)
  obtain ⟨p, hp⟩ : ∃ p : Nat, a0 % 2 ^ 52 = (p : Int) := ⟨(a0 % 2 ^ 52).toNat, by omega⟩
  obtain ⟨q, hq⟩ : ∃ q : Nat, a1 % 2 ^ 51 = (q : Int) := ⟨(a1 % 2 ^ 51).toNat, by omega⟩
  have lp : p < 4503599627370496 := by omega
  have lq : q < 2251799813685248 := by omega
  have ha := or_nat 9218868437227405313 p (by decide) (by omega)
  have hb := or_nat 18444492273895866368 q (by decide) (by omega)
  have ea : (9218868437227405313 ||| p : Nat) = 9218868437227405312 + (1 ||| p) := by
    have h1 : (9218868437227405313 : Nat) = 2 ^ 52 * 2047 ||| 1 := by decide
    have h2 : 1 ||| p < 2 ^ 52 := Nat.or_lt_two_pow (by decide) lp
    rw [h1, Nat.or_assoc, or_low _ _ _ h2]
  have eb : (18444492273895866368 ||| q : Nat) = 18444492273895866368 + q := by
    have h1 : (18444492273895866368 : Nat) = 2 ^ 51 * 8191 := by decide
    rw [h1, or_low _ _ _ lq]
  have o1 : 1 ≤ (1 ||| p) := Nat.left_le_or
  have o2 : (1 ||| p) < 4503599627370496 := Nat.or_lt_two_pow (n := 52) (by decide) lp
  rw [ea] at ha
  rw [eb] at hb
  generalize (1 ||| p : Nat) = s at *
  have na : ¬ num (9218868437227405312 + s) := by unfold num rg; omega
  have nb : ¬ num (18444492273895866368 + q) := by unfold num rg; omega
  have ca := cls_1 na
  have cb := cls_1 nb
  have ho : ordA (9218868437227405312 + s) (18444492273895866368 + q) = 0 := by
    rw [ordA_key]; unfold key cmp3; rw [if_neg na, if_neg nb, if_neg (by omega), if_neg (by omega)]
  have hn : 9218868437227405312 + s ≠ 18444492273895866368 + q := by omega
  refine below_of_same (same_core a0 a1 _ _ (Lib.hid (by omega)) (Lib.hid (by omega)) w ?_ ?_ ho (dec_f hn) ca cb (dec_t _) (by decide +kernel))
  · have : bits .and .u64 a0 4503599627370495 = (p : Int) := by rw [← hp, ← m0]; rfl
    rw [this]
    exact (congrArg Int.toNat ha).trans (Int.toNat_natCast _)
  · have : bits .and .u64 a1 2251799813685247 = (q : Int) := by rw [← hq, ← m1]; rfl
    rw [this]
    exact (congrArg Int.toNat hb).trans (Int.toNat_natCast _)
end Go.Proofs.Ytopkfjnhaikpaaa
