/- The walk of RealNearest. -/
import Derived.Test.YtopkfjnhaikpaaaRealTiesW
namespace Go.Proofs.Ytopkfjnhaikpaaa
open Go.Fl
open Go.RowKit (wrap64 Hid Below)

theorem near_err (x : Nat) (HX : Hid (x < 18446744073709551616)) (e : Int) (w : World) (o1 : getE x = e) (h : e ≠ 0) :
    Calls Try.prog 5 #[.int .u64 (x : Int)] w fun e w' => e = .returned (.bool true) ∧ w = w' := by
  go_enter Try.func5, Try.ntmps5
  go_wp2_with (first | (go_at_call 15; refine (alive_any _).mono ?_; rintro e w' ⟨rfl, rfl⟩) | (go_at_call 16; refine (get_any _ HX.out _).mono ?_; rintro e w' ⟨rfl, rfl⟩))
  all_goals (go_ret; exact ⟨rfl, rfl⟩)

theorem near_far (x : Nat) (HX : Hid (x < 18446744073709551616)) (w : World) (o1 : getE x = 0) (b : Bool)
    (o2 : (FloatKind.f64.format.order x 4697254411347427328 == some .gt) = b) (o3 : b = false → (FloatKind.f64.format.order x 13920626448202203136 == some .lt) = true) :
    Calls Try.prog 5 #[.int .u64 (x : Int)] w fun e w' => e = .returned (.bool true) ∧ w = w' := by
  cases b
  · have o4 := o3 rfl
    clear o3
    go_enter Try.func5, Try.ntmps5
    go_wp2_with (first | (go_at_call 15; refine (alive_any _).mono ?_; rintro e w' ⟨rfl, rfl⟩) | (go_at_call 16; refine (get_any _ HX.out _).mono ?_; rintro e w' ⟨rfl, rfl⟩))
    all_goals (go_ret; exact ⟨rfl, rfl⟩)
  · clear o3
    go_enter Try.func5, Try.ntmps5
    go_wp2_with (first | (go_at_call 15; refine (alive_any _).mono ?_; rintro e w' ⟨rfl, rfl⟩) | (go_at_call 16; refine (get_any _ HX.out _).mono ?_; rintro e w' ⟨rfl, rfl⟩))
    all_goals (go_ret; exact ⟨rfl, rfl⟩)

theorem near_core (x m y r d : Nat) (n c : Int) (HX : Hid (x < 18446744073709551616)) (HR : Hid (r < 18446744073709551616)) (w : World) (o1 : getE x = 0) (o4 : getA x = n)
    (o2 : (FloatKind.f64.format.order x 4697254411347427328 == some .gt) = false) (o3 : (FloatKind.f64.format.order x 13920626448202203136 == some .lt) = false)
    (hm : ∀ w, (binOp .mul 27 (.float .f64 x) (.float .f64 4751297606875873280)).run Try.prog w = .ok (.float .f64 m) w)
    (hc : ∀ w, (convert 22 27 (.int .i64 n)).run Try.prog w = .ok (.float .f64 y) w)
    (hs : ∀ w, (binOp .sub 27 (.float .f64 m) (.float .f64 y)).run Try.prog w = .ok (.float .f64 r) w)
    (hd : rg r = d) (b1 b2 : Bool) (hb1 : (FloatKind.f64.format.order d 4602678819172646912 == some .lt) = b1) (hb2 : (FloatKind.f64.format.order d 4602678819172646912 == some .eq) = b2)
    (hn : bits BinOp.and IntKind.i64 n 1 = c) (hh : b1 = true ∨ (b1 = false ∧ b2 = true ∧ c = 0)) :
    Calls Try.prog 5 #[.int .u64 (x : Int)] w fun e w' => e = .returned (.bool true) ∧ w = w' := by
  rcases hh with rfl | ⟨rfl, rfl, rfl⟩
  all_goals
    go_enter Try.func5, Try.ntmps5
    go_wp2_with (first | (go_at_call 15; refine (alive_any _).mono ?_; rintro e w' ⟨rfl, rfl⟩) | (go_at_call 16; refine (get_any _ HX.out _).mono ?_; rintro e w' ⟨rfl, rfl⟩) | (go_at_call 20; refine (abs_any _ HR.out _).mono ?_; rintro e w' ⟨rfl, rfl⟩))
    all_goals (go_ret; exact ⟨rfl, rfl⟩)

theorem sval_20 : sval 4697254411347427328 = 1048576 * ((2 ^ U74 : Nat) : Int) := by
  have h := mag_pow 1043 (by decide)
  rw [show 1043 * 2 ^ 52 = 4697254411347427328 by decide] at h
  have e1 : rg 4697254411347427328 = 4697254411347427328 := by decide
  rw [sval_pos (by decide), e1, h]
  have h3 : (2 ^ (20 + U74) : Nat) = 1048576 * 2 ^ U74 := by rw [Nat.pow_add]
  rw [show 52 + (1043 - 1) = 20 + U74 from rfl, h3, Int.natCast_mul]
  rfl
theorem sval_m20 : sval 13920626448202203136 = -(1048576 * ((2 ^ U74 : Nat) : Int)) := by
  have e1 : rg 13920626448202203136 = rg 4697254411347427328 := by decide
  rw [sval_neg (by decide), e1, ← sval_20, sval_pos (by decide)]

theorem RealNearest_walk (a0 : Int) (w0 : (Lit.int .u64 a0).wf = true) (w : World) :
    Calls Try.prog 5 #[.int .u64 a0] w fun e w' => e = .returned (.bool true) ∧ Below w.heap.size w w' := by
  have b0 := bounds_u64 w0
  obtain ⟨x, rfl⟩ := Int.eq_ofNat_of_zero_le b0.1
  have hx : x < 18446744073709551616 := by omega
  have HX := Lib.hid hx
  refine below_of_same ?_
  by_cases hE : getE x = 0
  · have hn : num x := by
      rcases Decidable.em (num x) with g | g
      · exact g
      · exfalso; unfold getE at hE; rw [if_pos g] at hE; omega
    have hf : fin x := by
      rcases Decidable.em (fin x) with g | g
      · exact g
      · exfalso; unfold getE at hE; rw [if_neg (by simp [hn]), if_pos g] at hE; omega
    have hA : getA x = getV x := by
      rcases get_of_fin hf with ⟨_, e, _⟩ | ⟨_, _, e⟩
      · omega
      · exact e
    have n20 : num 4697254411347427328 := by unfold num; decide
    have m20 : num 13920626448202203136 := by unfold num; decide
    have q1 : (FloatKind.f64.format.order x 4697254411347427328 == some .gt) = decide (sval 4697254411347427328 < sval x) := cmp_gt hn n20
    have q2 : (FloatKind.f64.format.order x 13920626448202203136 == some .lt) = decide (sval x < sval 13920626448202203136) := cmp_lt hn m20
    by_cases h1 : sval 4697254411347427328 < sval x
    · exact near_far x HX w hE _ q1 (fun h => by rw [decide_eq_true h1] at h; cases h)
    · by_cases h2 : sval x < sval 13920626448202203136
      · exact near_far x HX w hE _ q1 (fun _ => q2.trans (decide_eq_true h2))
      · rw [sval_20] at h1
        rw [sval_m20] at h2
        obtain ⟨r, r1, r2, r3, r4⟩ := nearest_sub hf (by omega) (by omega)
        have hr : r < 18446744073709551616 := Ieee.double.sub_lt r1
        have hm := mul_32 hf
        have nr : num (rg r) := by unfold num; rw [rg_rg]; exact fin_num r2
        have nh : num 4602678819172646912 := by unfold num; decide
        have sr : sval (rg r) = mag (rg r) := by rw [sval_pos (neg_rg r), rg_rg]
        have sh : sval 4602678819172646912 = mag 4602678819172646912 := by rw [sval_pos (by decide)]; rfl
        have hh := mag_half
        refine near_core x _ (ofInt (getV x)) r _ _ _ HX (Lib.hid hr) w hE hA (q1.trans (decide_eq_false (by rw [sval_20]; exact h1))) (q2.trans (decide_eq_false (by rw [sval_m20]; exact h2)))
          (mul_run hm) (int_run _) (fun w => run_float_arith w .sub 27 .f64 _ _ _ r1) rfl _ _ (cmp_lt nr nh) (cmp_eq nr nh) (and_one _) ?_
        rw [sr, sh]
        generalize mag (rg r) = M at *
        generalize mag 4602678819172646912 = H at *
        rcases Nat.lt_or_ge M H with g | g
        · left; exact decide_eq_true (by omega)
        · right
          rw [← hh] at r3 r4
          have e : M = H := by omega
          exact ⟨decide_eq_false (by omega), decide_eq_true (by omega), r4 (by omega)⟩
  · exact near_err x HX _ w rfl hE
end Go.Proofs.Ytopkfjnhaikpaaa
