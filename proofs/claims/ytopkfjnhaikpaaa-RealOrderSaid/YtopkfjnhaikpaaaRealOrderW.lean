/- The walk of RealOrder. -/
import Derived.Test.YtopkfjnhaikpaaaK
namespace Go.Proofs.Ytopkfjnhaikpaaa
open Go.Fl
open Go.RowKit (wrap64 Hid Below)

set_option maxHeartbeats 1000000 in
theorem order_core (x y z : Nat) (HX : Hid (x < 18446744073709551616)) (HY : Hid (y < 18446744073709551616)) (HZ : Hid (z < 18446744073709551616)) (p q r : Int)
    (p1 : -1 ≤ p) (p2 : p ≤ 1) (w : World) (o1 : ordA x x = 0) (o2 : ordA x y = p) (o3 : ordA y x = -p) (o4 : ordA y z = q) (o5 : ordA x z = r)
    (K1 : Hid (FloatKind.f64.format.order x y = some .lt → p = -1)) (K2 : Hid (FloatKind.f64.format.order x y = some .eq → ¬ FloatKind.f64.format.order x 0 = some .eq → p = 0)) (K3 : Hid (p ≤ 0 → q ≤ 0 → r ≤ 0)) :
    Calls Try.prog 4 #[.int .u64 (x : Int), .int .u64 (y : Int), .int .u64 (z : Int)] w fun e w' => e = .returned (.bool true) ∧ w = w' := by
  go_enter Try.func4, Try.ntmps4
  go_wp2_with (first | (go_at_call 15; refine (alive_any _).mono ?_; rintro e w' ⟨rfl, rfl⟩) | (go_at_call 19; refine (order_any _ _ (by first | exact HX.out | exact HY.out | exact HZ.out) (by first | exact HX.out | exact HY.out | exact HZ.out) _).mono ?_; rintro e w' ⟨rfl, rfl⟩))
  all_goals
    go_ret
    refine ⟨ret_bool ?_, rfl⟩
    first
      | rfl
      | exact decide_eq_true (K3.out (by omega) ‹_›)
      | exact absurd (K1.out ‹_›) ‹_›
      | (have := K2.out ‹_› ‹_›; simp_all)

theorem RealOrder_walk (a0 a1 a2 : Int) (w0 : (Lit.int .u64 a0).wf = true) (w1 : (Lit.int .u64 a1).wf = true) (w2 : (Lit.int .u64 a2).wf = true) (w : World) :
    Calls Try.prog 4 #[.int .u64 a0, .int .u64 a1, .int .u64 a2] w fun e w' => e = .returned (.bool true) ∧ Below w.heap.size w w' := by
  have b0 := bounds_u64 w0
  have b1 := bounds_u64 w1
  have b2 := bounds_u64 w2
  obtain ⟨x, rfl⟩ := Int.eq_ofNat_of_zero_le b0.1
  obtain ⟨y, rfl⟩ := Int.eq_ofNat_of_zero_le b1.1
  obtain ⟨z, rfl⟩ := Int.eq_ofNat_of_zero_le b2.1
  have hr := ordA_range x y
  exact below_of_same (order_core x y z (Lib.hid (by omega)) (Lib.hid (by omega)) (Lib.hid (by omega)) _ _ _ hr.1 hr.2 w (ordA_self x) rfl (ordA_turn x y) rfl rfl
    (Lib.hid ordA_lt) (Lib.hid ordA_eq) (Lib.hid (ordA_trans x y z)))
end Go.Proofs.Ytopkfjnhaikpaaa
