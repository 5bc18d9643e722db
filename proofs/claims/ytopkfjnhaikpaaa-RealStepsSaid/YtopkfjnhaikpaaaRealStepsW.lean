/- The walk of RealSteps. -/
import Derived.Test.YtopkfjnhaikpaaaC
namespace Go.Proofs.Ytopkfjnhaikpaaa
open Go.Fl
open Go.RowKit (wrap64 Hid Below)

theorem steps_core (x y : Nat) (HX : Hid (x < 18446744073709551616)) (HY : Hid (y < 18446744073709551616)) (e g a b : Int) (le : Bool) (w : World)
    (o1 : getE x = e) (o2 : getE y = g) (o3 : getA x = a) (o4 : getA y = b)
    (o5 : (FloatKind.f64.format.order x y == some .lt || FloatKind.f64.format.order x y == some .eq) = le)
    (hh : Hid (le = true → e = 0 → g = 0 → a ≤ b)) :
    Calls Try.prog 10 #[.int .u64 (x : Int), .int .u64 (y : Int)] w fun e w' => e = .returned (.bool true) ∧ w = w' := by
  go_enter Try.func10, Try.ntmps10
  go_wp2_with (first | (go_at_call 15; refine (alive_any _).mono ?_; rintro e w' ⟨rfl, rfl⟩) | (go_at_call 16; refine (get_any _ (by first | exact HX.out | exact HY.out) _).mono ?_; rintro e w' ⟨rfl, rfl⟩))
  all_goals (go_ret; exact ⟨ret_bool (by first | rfl | exact decide_eq_true (hh.out ‹_› ‹_› ‹_›)), rfl⟩)

theorem RealSteps_walk (a0 a1 : Int) (w0 : (Lit.int .u64 a0).wf = true) (w1 : (Lit.int .u64 a1).wf = true) (w : World) :
    Calls Try.prog 10 #[.int .u64 a0, .int .u64 a1] w fun e w' => e = .returned (.bool true) ∧ Below w.heap.size w w' := by
  have b0 := bounds_u64 w0
  have b1 := bounds_u64 w1
  obtain ⟨x, rfl⟩ := Int.eq_ofNat_of_zero_le b0.1
  obtain ⟨y, rfl⟩ := Int.eq_ofNat_of_zero_le b1.1
  refine below_of_same (steps_core x y (Lib.hid (by omega)) (Lib.hid (by omega)) _ _ _ _ _ w rfl rfl rfl rfl rfl (Lib.hid ?_))
  intro hle he hg
  by_cases hx : num x
  · by_cases hy : num y
    · have h := cmp_le hx hy
      have hs : sval x ≤ sval y := of_decide_eq_true (h.symm.trans hle)
      by_cases fx : fin x
      · by_cases fy : fin y
        · have := getV_mono hs
          rcases get_of_fin fx with ⟨_, hE, hA⟩ | ⟨_, hE, hA⟩ <;> rcases get_of_fin fy with ⟨_, gE, gA⟩ | ⟨_, gE, gA⟩ <;> omega
        · have : getE y = 2 := by unfold getE; rw [if_neg (by simp [hy]), if_pos fy]
          omega
      · have : getE x = 2 := by unfold getE; rw [if_neg (by simp [hx]), if_pos fx]
        omega
    · have : getE y = 1 := by unfold getE; rw [if_pos hy]
      omega
  · have : getE x = 1 := by unfold getE; rw [if_pos hx]
    omega
end Go.Proofs.Ytopkfjnhaikpaaa
