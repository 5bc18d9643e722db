/- The walk of RealOverflow. -/
import Derived.Test.YtopkfjnhaikpaaaC
namespace Go.Proofs.Ytopkfjnhaikpaaa
open Go.Fl
open Go.RowKit (wrap64 Hid Below)

theorem int3_run (a : Int) (w : World) : (convert 3 27 (.int .i64 a)).run Try.prog w = .ok (.float .f64 (ofInt a)) w := by
  rw [← nearest_of]; kernel_rfl

theorem over_out (n : Int) (w : World) (h : n < 0 ∨ 1000 < n) : Calls Try.prog 8 #[.int .i64 n] w fun e w' => e = .returned (.bool true) ∧ w = w' := by
  rcases h with h | h
  all_goals
    go_enter Try.func8, Try.ntmps8
    go_wp2_with (first | (go_at_call 15; refine (alive_any _).mono ?_; rintro e w' ⟨rfl, rfl⟩))
    all_goals (go_ret; exact ⟨rfl, rfl⟩)

theorem k1 : getA 13970166044103278592 = -9223372036854775808 := by decide +kernel
theorem k2 : getE 13970166044103278592 = 0 := by decide +kernel
theorem k3 : getA 4746794007246405632 = 9223372034707292160 := by decide +kernel
theorem k4 : getE 4746794007246405632 = 0 := by decide +kernel

theorem get_low (w : World) : Calls Try.prog 16 #[.float .f64 13970166044103278592] w fun e w' => e = .returned (.tuple #[.int .i64 (-9223372036854775808), .int .i64 0]) ∧ w = w' := by
  have h := get_any 13970166044103278592 (by decide) w
  rw [k1, k2] at h; exact h
theorem get_high (w : World) : Calls Try.prog 16 #[.float .f64 4746794007246405632] w fun e w' => e = .returned (.tuple #[.int .i64 9223372034707292160, .int .i64 0]) ∧ w = w' := by
  have h := get_any 4746794007246405632 (by decide) w
  rw [k3, k4] at h; exact h

theorem over_core (n : Int) (y r1 r2 : Nat) (w : World) (h0 : 0 ≤ n) (h1 : n ≤ 1000) (a1 a2 : Int)
    (G1 : Hid (∀ w, Calls Try.prog 16 #[.float .f64 r1] w fun e w' => e = .returned (.tuple #[.int .i64 a1, .int .i64 3]) ∧ w = w'))
    (G2 : Hid (∀ w, Calls Try.prog 16 #[.float .f64 r2] w fun e w' => e = .returned (.tuple #[.int .i64 a2, .int .i64 3]) ∧ w = w'))
    (hc : ∀ w, (convert 3 27 (.int .i64 n)).run Try.prog w = .ok (.float .f64 y) w)
    (ha : ∀ w, (binOp .add 27 (.float .f64 4746794007248502784) (.float .f64 y)).run Try.prog w = .ok (.float .f64 r1) w)
    (hs : ∀ w, (binOp .sub 27 (.float .f64 13970166044105375744) (.float .f64 y)).run Try.prog w = .ok (.float .f64 r2) w) :
    Calls Try.prog 8 #[.int .i64 n] w fun e w' => e = .returned (.bool true) ∧ w = w' := by
  go_enter Try.func8, Try.ntmps8
  go_wp2_with (first | (go_at_call 15; refine (alive_any _).mono ?_; rintro e w' ⟨rfl, rfl⟩) | (go_at_call 16; (with_reducible refine (get_low _).mono ?_); rintro e w' ⟨rfl, rfl⟩) | (go_at_call 16; (with_reducible refine (get_high _).mono ?_); rintro e w' ⟨rfl, rfl⟩) | (go_at_call 16; (with_reducible refine (G1.out _).mono ?_); rintro e w' ⟨rfl, rfl⟩) | (go_at_call 16; (with_reducible refine (G2.out _).mono ?_); rintro e w' ⟨rfl, rfl⟩))
  all_goals (go_ret; exact ⟨rfl, rfl⟩)

theorem ofInt_lt (a : Int) : ofInt a < 18446744073709551616 := wr_lt _ _ _

theorem over_get {a : Int} (h : a.natAbs < 2 ^ 53) (h1 : 2147483648 ≤ a ∨ a < -2147483648) : getE (ofInt a) = 3 := by
  have hf := (ofInt_tells (a := a) (by omega)).1
  have hv := getV_int h
  rcases get_of_fin hf with ⟨_, hE, _⟩ | ⟨g, _, _⟩
  · exact hE
  · omega

theorem RealOverflow_walk (n : Int) (_w0 : (Lit.int .i64 n).wf = true) (w : World) :
    Calls Try.prog 8 #[.int .i64 n] w fun e w' => e = .returned (.bool true) ∧ Below w.heap.size w w' := by
  refine below_of_same ?_
  by_cases h : 0 ≤ n ∧ n ≤ 1000
  · have c1 : ofInt 2147483648 = 4746794007248502784 := by decide +kernel
    have c2 : ofInt (-2147483649) = 13970166044105375744 := by decide +kernel
    have a1 := add_int (a := 2147483648) (b := n) (by decide) (by omega) (by omega)
    have a2 := sub_int (a := -2147483649) (b := n) (by decide) (by omega) (by omega)
    rw [c1] at a1
    rw [c2] at a2
    have g1 := fun w => get_any _ (ofInt_lt (2147483648 + n)) w
    have g2 := fun w => get_any _ (ofInt_lt (-2147483649 - n)) w
    rw [over_get (by omega) (by omega)] at g1 g2
    exact over_core n (ofInt n) _ _ w h.1 h.2 _ _ (Lib.hid g1) (Lib.hid g2) (int3_run n)
      (fun w => run_float_arith w .add 27 .f64 _ _ _ a1) (fun w => run_float_arith w .sub 27 .f64 _ _ _ a2)
  · exact over_out n w (by omega)
end Go.Proofs.Ytopkfjnhaikpaaa
