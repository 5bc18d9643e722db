/- Contracts of the small functions of package math and of real. -/
import Derived.Test.YtopkfjnhaikpaaaChecked
import Derived.Test.YtopkfjnhaikpaaaF
import Derived.WalkKit
import Derived.WalkLawsBesides
import Derived.Laws.Externs
import Derived.KernelRfl
import Derived.Lib.Hide
namespace Go.Proofs.Ytopkfjnhaikpaaa
open Go.Fl
open Go.RowKit (wrap64 Hid)

@[go_sem] theorem run28 (x : Nat) (w : World) : (callFunc 28 #[.float .f64 x]).run Try.prog w = .ok (.value (.int .u64 x)) w := by
  rw [run_callFunc_extern (P := Try.prog) (f := 28) (fn := Try.f28) (e := Extern.MathFloatBits.float64bits) (by kernel_rfl) (by kernel_rfl) (by kernel_rfl) (by kernel_rfl) (by kernel_rfl)]
  rfl
@[go_sem] theorem run18 (n : Int) (w : World) : (callFunc 18 #[.int .u64 n]).run Try.prog w = .ok (.value (.float .f64 n.toNat)) w := by
  rw [run_callFunc_extern (P := Try.prog) (f := 18) (fn := Try.f18) (e := Extern.MathFloatBits.float64frombits) (by kernel_rfl) (by kernel_rfl) (by kernel_rfl) (by kernel_rfl) (by kernel_rfl)]
  rfl

/-! ### Words -/
theorem clear_sign {x : Nat} (h : x < 18446744073709551616) : (bits BinOp.andNot IntKind.u64 (x : Int) 9223372036854775808).toNat = rg x := by
  unfold bits
  show (IntKind.u64.wrap ((BitVec.ofInt 64 (x : Int) &&& ~~~(BitVec.ofInt 64 9223372036854775808)).toNat : Int)).toNat = _
  have e1 : BitVec.ofInt 64 (x : Int) = BitVec.ofNat 64 x := by
    apply BitVec.eq_of_toNat_eq; simp
  have e2 : (~~~(BitVec.ofInt 64 9223372036854775808)) = BitVec.ofNat 64 (2 ^ 63 - 1) := by decide
  rw [e1, e2, BitVec.toNat_and, BitVec.toNat_ofNat, BitVec.toNat_ofNat, Nat.mod_eq_of_lt (show x < 2 ^ 64 from h), Nat.mod_eq_of_lt (show 2 ^ 63 - 1 < 2 ^ 64 by decide), Nat.and_two_pow_sub_one_eq_mod]
  simp only [IntKind.wrap, IntKind.bits, IntKind.signed]
  unfold rg
  simp
  omega

theorem sign_is {x : Nat} (_h : x < 18446744073709551616) : decide (wrap64 (x : Int) < 0) = neg x := by
  unfold wrap64 neg
  rw [Bool.eq_iff_iff]; simp; omega

theorem order_self (x : Nat) : (FloatKind.f64.format.order x x != some .eq) = !decide (num x) := by
  show (Ieee.double.order x x != some .eq) = _
  by_cases h : num x
  · have := cmp_eq h h
    simp only [decide_true] at this
    rw [bne, this, decide_eq_true h]
  · rw [cmp_nan (.inl h), decide_eq_false h]; rfl

theorem ret_bool {a b : Bool} (h : a = b) : Ending.returned (.bool a) = .returned (.bool b) := by rw [h]
theorem ret_int {k : IntKind} {a b : Int} (h : a = b) : Ending.returned (.int k a) = .returned (.int k b) := by rw [h]
theorem ret_float {a b : Nat} (h : a = b) : Ending.returned (.float .f64 a) = .returned (.float .f64 b) := by rw [h]

theorem nan_any (x : Nat) (w : World) :
    Calls Try.prog 23 #[.float .f64 x] w fun e w' => e = .returned (.bool (!decide (num x))) ∧ w = w' := by
  go_enter Try.func23, Try.ntmps23
  go_wp2
  all_goals (go_ret; exact ⟨ret_bool (order_self x), rfl⟩)

theorem sign_any (x : Nat) (hx : x < 18446744073709551616) (w : World) :
    Calls Try.prog 35 #[.float .f64 x] w fun e w' => e = .returned (.bool (neg x)) ∧ w = w' := by
  have h := sign_is hx
  generalize neg x = s at *
  have H := Lib.hid h
  clear h hx
  go_enter Try.func35, Try.ntmps35
  go_wp2
  go_ret
  exact ⟨ret_bool H.out, rfl⟩

theorem abs_any (x : Nat) (hx : x < 18446744073709551616) (w : World) :
    Calls Try.prog 20 #[.float .f64 x] w fun e w' => e = .returned (.float .f64 (rg x)) ∧ w = w' := by
  have H := Lib.hid (clear_sign hx)
  clear hx
  go_enter Try.func20, Try.ntmps20
  go_wp2
  go_ret
  exact ⟨ret_float H.out, rfl⟩

/-- above the greatest finite one -/
theorem above_max (x : Nat) : (FloatKind.f64.format.order x 9218868437227405311 == some .gt) = (decide (rg x = 9218868437227405312) && !neg x) := by
  have hm : num 9218868437227405311 := by unfold num; decide
  show (Ieee.double.order x 9218868437227405311 == some .gt) = _
  have hs : sval 9218868437227405311 = mag 9218868437227405311 := by
    rw [sval_pos (by decide)]; rfl
  by_cases h : num x
  · rw [cmp_gt h hm, hs]
    by_cases hi : rg x = 9218868437227405312
    · have := mag_top
      rw [decide_eq_true hi, Bool.true_and]
      unfold sval; rw [hi]
      cases neg x <;> simp <;> omega
    · rw [decide_eq_false hi, Bool.false_and, decide_eq_false]
      have : mag (rg x) ≤ mag 9218868437227405311 := mag_mono (by unfold num at h; omega)
      unfold sval
      cases neg x <;> simp <;> omega
  · rw [cmp_nan (.inl h)]
    have : ¬ rg x = 9218868437227405312 := by unfold num at h; omega
    rw [decide_eq_false this]; rfl

theorem above_abs (x : Nat) : (FloatKind.f64.format.order (rg x) 9218868437227405311 == some .gt) = decide (rg x = 9218868437227405312) := by
  have e1 : rg (rg x) = rg x := by unfold rg; omega
  have e2 : neg (rg x) = false := by
    unfold neg rg
    have : x % 9223372036854775808 / 9223372036854775808 = 0 := by omega
    rw [this]; decide
  rw [above_max, e1, e2, Bool.not_false, Bool.and_true]

/-- the other sign -/
def turned (x : Nat) : Nat := x ^^^ 9223372036854775808
@[go_sem] theorem unary_neg_float (x : Nat) : Op.unary .neg (.float .f64 x) = pure (.float .f64 (turned x)) := rfl
theorem rg_turned {x : Nat} (h : x < 18446744073709551616) : rg (turned x) = rg x := rg_xor h
theorem neg_turned {x : Nat} (h : x < 18446744073709551616) : neg (turned x) = !neg x := neg_xor h
theorem above_neg {x : Nat} (h : x < 18446744073709551616) : (FloatKind.f64.format.order (turned x) 9218868437227405311 == some .gt) = (decide (rg x = 9218868437227405312) && neg x) := by
  rw [above_max, rg_turned h, neg_turned h, Bool.not_not]

theorem inf_any (x : Nat) (w : World) :
    Calls Try.prog 22 #[.float .f64 x, .int .i64 1] w fun e w' => e = .returned (.bool (decide (rg x = 9218868437227405312) && !neg x)) ∧ w = w' := by
  have H := Lib.hid (above_max x)
  go_enter Try.func22, Try.ntmps22
  go_wp2
  go_ret
  exact ⟨ret_bool H.out, rfl⟩

theorem ninf_any (x : Nat) (hx : x < 18446744073709551616) (w : World) :
    Calls Try.prog 22 #[.float .f64 x, .int .i64 (-1)] w fun e w' => e = .returned (.bool (decide (rg x = 9218868437227405312) && neg x)) ∧ w = w' := by
  have H := Lib.hid (above_neg hx)
  clear hx
  go_enter Try.func22, Try.ntmps22
  go_wp2
  go_ret
  exact ⟨ret_bool H.out, rfl⟩

theorem inf0_any (x : Nat) (hx : x < 18446744073709551616) (w : World) :
    Calls Try.prog 22 #[.float .f64 x, .int .i64 0] w fun e w' => e = .returned (.bool (decide (rg x = 9218868437227405312))) ∧ w = w' := by
  have H := Lib.hid (above_abs x)
  go_enter Try.func22, Try.ntmps22
  go_wp2_with (go_at_call 20; refine (abs_any _ hx _).mono ?_; rintro e w' ⟨rfl, rfl⟩)
  go_ret
  exact ⟨ret_bool H.out, rfl⟩

/-- IsInf's answer -/
def isInf (x : Nat) (s : Int) : Bool := decide (rg x = 9218868437227405312) && (if s = 1 then !neg x else if s = 0 then true else neg x)
theorem isInf_1 (x : Nat) : isInf x 1 = (decide (rg x = 9218868437227405312) && !neg x) := rfl
theorem isInf_0 (x : Nat) : isInf x 0 = decide (rg x = 9218868437227405312) := Bool.and_true _
theorem isInf_m (x : Nat) : isInf x (-1) = (decide (rg x = 9218868437227405312) && neg x) := rfl
theorem isInf_any (x : Nat) (s : Int) (hs : s = 1 ∨ s = 0 ∨ s = -1) (hx : x < 18446744073709551616) (w : World) :
    Calls Try.prog 22 #[.float .f64 x, .int .i64 s] w fun e w' => e = .returned (.bool (isInf x s)) ∧ w = w' := by
  rcases hs with rfl | rfl | rfl
  · exact inf_any x w
  · rw [isInf_0]; exact inf0_any x hx w
  · exact ninf_any x hx w

theorem zero_eq (x : Nat) : (FloatKind.f64.format.order x 0 == some .eq) = decide (rg x = 0) := by
  have h0 : num 0 := by unfold num; decide
  have s0 : sval 0 = 0 := sval_zero.2 (by decide)
  show (Ieee.double.order x 0 == some .eq) = _
  by_cases h : num x
  · rw [cmp_eq h h0, s0, Bool.eq_iff_iff, decide_eq_true_eq, decide_eq_true_eq]; exact sval_zero
  · rw [cmp_nan (.inl h)]
    have : ¬ rg x = 0 := by unfold num at h; omega
    rw [decide_eq_false this]; rfl

theorem rg_rg (x : Nat) : rg (rg x) = rg x := by unfold rg; omega
theorem neg_rg (x : Nat) : neg (rg x) = false := by
  unfold neg rg
  have : x % 9223372036854775808 / 9223372036854775808 = 0 := by omega
  rw [this]; decide

theorem mag_lt {a b : Nat} (hb : b ≤ 4503599627370496) : mag a < mag b ↔ a < b := by
  have e : ∀ n, n ≤ 4503599627370496 → mag n = n := fun n h => mag_small (Nat.lt_of_le_of_lt h (by decide))
  constructor
  · intro h
    rcases Nat.lt_or_ge a b with g | g
    · exact g
    · have := mag_mono g; omega
  · intro h; rw [e a (by omega), e b hb]; exact h

theorem small_lt (x : Nat) (h : num x) : (FloatKind.f64.format.order (rg x) 4503599627370496 == some .lt) = decide (rg x < 4503599627370496) := by
  have h0 : num 4503599627370496 := by unfold num; decide
  have h1 : num (rg x) := by unfold num at *; rw [rg_rg]; exact h
  show (Ieee.double.order (rg x) 4503599627370496 == some .lt) = _
  rw [cmp_lt h1 h0, sval_pos (neg_rg x), sval_pos (by decide), rg_rg, show rg 4503599627370496 = 4503599627370496 from by decide, Bool.eq_iff_iff, decide_eq_true_eq, decide_eq_true_eq]
  exact Int.ofNat_lt.trans (mag_lt (Nat.le_refl _))

theorem num_of_inf {x : Nat} (h : rg x = 9218868437227405312) : num x := by unfold num; omega
theorem class_a (x : Nat) (HX : Hid (x < 18446744073709551616)) (w : World) (hn : num x) (hi : rg x = 9218868437227405312) (hs : neg x = false) :
    Calls Try.prog 21 #[.float .f64 x] w fun e w' => e = .returned (.int .i64 (cls x)) ∧ w = w' := by
    have e1 : (!decide (num x)) = false := by simp [hn]
    have e2 : isInf x 1 = true := by rw [isInf_1]; simp [hi, hs]
    have E := Lib.hid (show cls x = 2 from by unfold cls; rw [if_neg (by omega), if_pos hi, hs]; rfl)
    clear hn hi hs
    go_enter Try.func21, Try.ntmps21
    go_wp2_with (first | (go_at_call 23; refine (nan_any _ _).mono ?_; rintro e w' ⟨rfl, rfl⟩) | (go_at_call 22; refine (isInf_any _ _ (by decide) HX.out _).mono ?_; rintro e w' ⟨rfl, rfl⟩) | (go_at_call 35; refine (sign_any _ HX.out _).mono ?_; rintro e w' ⟨rfl, rfl⟩) | (go_at_call 20; refine (abs_any _ HX.out _).mono ?_; rintro e w' ⟨rfl, rfl⟩))
    go_ret
    exact ⟨ret_int E.out.symm, rfl⟩

theorem class_b (x : Nat) (HX : Hid (x < 18446744073709551616)) (w : World) (hn : num x) (hi : rg x = 9218868437227405312) (hs : neg x = true) :
    Calls Try.prog 21 #[.float .f64 x] w fun e w' => e = .returned (.int .i64 (cls x)) ∧ w = w' := by
    have e1 : (!decide (num x)) = false := by simp [hn]
    have e2 : isInf x 1 = false := by rw [isInf_1]; simp [hs]
    have e3 : isInf x (-1) = true := by rw [isInf_m]; simp [hi, hs]
    have E := Lib.hid (show cls x = 3 from by unfold cls; rw [if_neg (by omega), if_pos hi, hs]; rfl)
    clear hn hi hs
    go_enter Try.func21, Try.ntmps21
    go_wp2_with (first | (go_at_call 23; refine (nan_any _ _).mono ?_; rintro e w' ⟨rfl, rfl⟩) | (go_at_call 22; refine (isInf_any _ _ (by decide) HX.out _).mono ?_; rintro e w' ⟨rfl, rfl⟩) | (go_at_call 35; refine (sign_any _ HX.out _).mono ?_; rintro e w' ⟨rfl, rfl⟩) | (go_at_call 20; refine (abs_any _ HX.out _).mono ?_; rintro e w' ⟨rfl, rfl⟩))
    go_ret
    exact ⟨ret_int E.out.symm, rfl⟩

theorem class_c (x : Nat) (HX : Hid (x < 18446744073709551616)) (w : World) (hn : num x) (hi : ¬ rg x = 9218868437227405312) (hs : neg x = true) (hz : rg x = 0) :
    Calls Try.prog 21 #[.float .f64 x] w fun e w' => e = .returned (.int .i64 (cls x)) ∧ w = w' := by
    have e1 : (!decide (num x)) = false := by simp [hn]
    have e2 : isInf x 1 = false := by rw [isInf_1]; simp [hi]
    have e3 : isInf x (-1) = false := by rw [isInf_m]; simp [hi]
    have e4 : (FloatKind.f64.format.order x 0 == some .eq) = true := by rw [zero_eq]; simp [hz]
    have e5 : neg x = true := hs
    have E := Lib.hid (show cls x = 5 from by unfold cls; rw [if_neg (by unfold num at hn; omega), if_neg hi, if_pos hz, hs]; rfl)
    clear hn hi hs hz
    go_enter Try.func21, Try.ntmps21
    go_wp2_with (first | (go_at_call 23; refine (nan_any _ _).mono ?_; rintro e w' ⟨rfl, rfl⟩) | (go_at_call 22; refine (isInf_any _ _ (by decide) HX.out _).mono ?_; rintro e w' ⟨rfl, rfl⟩) | (go_at_call 35; refine (sign_any _ HX.out _).mono ?_; rintro e w' ⟨rfl, rfl⟩) | (go_at_call 20; refine (abs_any _ HX.out _).mono ?_; rintro e w' ⟨rfl, rfl⟩))
    go_ret
    exact ⟨ret_int E.out.symm, rfl⟩

theorem class_d (x : Nat) (HX : Hid (x < 18446744073709551616)) (w : World) (hn : num x) (hi : ¬ rg x = 9218868437227405312) (hs : neg x = false) (hz : rg x = 0) :
    Calls Try.prog 21 #[.float .f64 x] w fun e w' => e = .returned (.int .i64 (cls x)) ∧ w = w' := by
    have e1 : (!decide (num x)) = false := by simp [hn]
    have e2 : isInf x 1 = false := by rw [isInf_1]; simp [hi]
    have e3 : isInf x (-1) = false := by rw [isInf_m]; simp [hi]
    have e4 : (FloatKind.f64.format.order x 0 == some .eq) = true := by rw [zero_eq]; simp [hz]
    have e5 : neg x = false := hs
    have E := Lib.hid (show cls x = 4 from by unfold cls; rw [if_neg (by unfold num at hn; omega), if_neg hi, if_pos hz, hs]; rfl)
    clear hn hi hs hz
    go_enter Try.func21, Try.ntmps21
    go_wp2_with (first | (go_at_call 23; refine (nan_any _ _).mono ?_; rintro e w' ⟨rfl, rfl⟩) | (go_at_call 22; refine (isInf_any _ _ (by decide) HX.out _).mono ?_; rintro e w' ⟨rfl, rfl⟩) | (go_at_call 35; refine (sign_any _ HX.out _).mono ?_; rintro e w' ⟨rfl, rfl⟩) | (go_at_call 20; refine (abs_any _ HX.out _).mono ?_; rintro e w' ⟨rfl, rfl⟩))
    go_ret
    exact ⟨ret_int E.out.symm, rfl⟩

theorem class_e (x : Nat) (HX : Hid (x < 18446744073709551616)) (w : World) (hn : num x) (hi : ¬ rg x = 9218868437227405312) (hz : ¬ rg x = 0) (hl : rg x < 4503599627370496) :
    Calls Try.prog 21 #[.float .f64 x] w fun e w' => e = .returned (.int .i64 (cls x)) ∧ w = w' := by
    have e1 : (!decide (num x)) = false := by simp [hn]
    have e2 : isInf x 1 = false := by rw [isInf_1]; simp [hi]
    have e3 : isInf x (-1) = false := by rw [isInf_m]; simp [hi]
    have e4 : (FloatKind.f64.format.order x 0 == some .eq) = false := by rw [zero_eq]; simp [hz]
    have e6 : (FloatKind.f64.format.order (rg x) 4503599627370496 == some .lt) = true := by rw [small_lt x hn]; simp [hl]
    have E := Lib.hid (show cls x = 6 from by unfold cls; rw [if_neg (by unfold num at hn; omega), if_neg hi, if_neg hz, if_pos hl])
    clear hn hi hz hl
    go_enter Try.func21, Try.ntmps21
    go_wp2_with (first | (go_at_call 23; refine (nan_any _ _).mono ?_; rintro e w' ⟨rfl, rfl⟩) | (go_at_call 22; refine (isInf_any _ _ (by decide) HX.out _).mono ?_; rintro e w' ⟨rfl, rfl⟩) | (go_at_call 35; refine (sign_any _ HX.out _).mono ?_; rintro e w' ⟨rfl, rfl⟩) | (go_at_call 20; refine (abs_any _ HX.out _).mono ?_; rintro e w' ⟨rfl, rfl⟩))
    go_ret
    exact ⟨ret_int E.out.symm, rfl⟩

theorem class_f (x : Nat) (HX : Hid (x < 18446744073709551616)) (w : World) (hn : num x) (hi : ¬ rg x = 9218868437227405312) (hz : ¬ rg x = 0) (hl : ¬ rg x < 4503599627370496) :
    Calls Try.prog 21 #[.float .f64 x] w fun e w' => e = .returned (.int .i64 (cls x)) ∧ w = w' := by
    have e1 : (!decide (num x)) = false := by simp [hn]
    have e2 : isInf x 1 = false := by rw [isInf_1]; simp [hi]
    have e3 : isInf x (-1) = false := by rw [isInf_m]; simp [hi]
    have e4 : (FloatKind.f64.format.order x 0 == some .eq) = false := by rw [zero_eq]; simp [hz]
    have e6 : (FloatKind.f64.format.order (rg x) 4503599627370496 == some .lt) = false := by rw [small_lt x hn]; simp [hl]
    have E := Lib.hid (show cls x = 7 from by unfold cls; rw [if_neg (by unfold num at hn; omega), if_neg hi, if_neg hz, if_neg hl])
    clear hn hi hz hl
    go_enter Try.func21, Try.ntmps21
    go_wp2_with (first | (go_at_call 23; refine (nan_any _ _).mono ?_; rintro e w' ⟨rfl, rfl⟩) | (go_at_call 22; refine (isInf_any _ _ (by decide) HX.out _).mono ?_; rintro e w' ⟨rfl, rfl⟩) | (go_at_call 35; refine (sign_any _ HX.out _).mono ?_; rintro e w' ⟨rfl, rfl⟩) | (go_at_call 20; refine (abs_any _ HX.out _).mono ?_; rintro e w' ⟨rfl, rfl⟩))
    go_ret
    exact ⟨ret_int E.out.symm, rfl⟩

theorem class_any (x : Nat) (hx : x < 18446744073709551616) (w : World) :
    Calls Try.prog 21 #[.float .f64 x] w fun e w' => e = .returned (.int .i64 (cls x)) ∧ w = w' := by
  have HX := Lib.hid hx
  by_cases hn : num x
  · by_cases hi : rg x = 9218868437227405312
    · cases hs : neg x
      · exact class_a x HX w hn hi hs
      · exact class_b x HX w hn hi hs
    · by_cases hz : rg x = 0
      · cases hs : neg x
        · exact class_d x HX w hn hi hs hz
        · exact class_c x HX w hn hi hs hz
      · by_cases hl : rg x < 4503599627370496
        · exact class_e x HX w hn hi hz hl
        · exact class_f x HX w hn hi hz hl
  · have e1 : (!decide (num x)) = true := by simp [hn]
    have e2 := Lib.hid (show cls x = 1 from by unfold cls; rw [if_pos (by unfold num at hn; omega)])
    clear hn
    go_enter Try.func21, Try.ntmps21
    go_wp2_with (first | (go_at_call 23; refine (nan_any _ _).mono ?_; rintro e w' ⟨rfl, rfl⟩))
    go_ret
    exact ⟨ret_int e2.out.symm, rfl⟩

end Go.Proofs.Ytopkfjnhaikpaaa
