/- The walk of RealSigns. -/
import Derived.Test.YtopkfjnhaikpaaaC
namespace Go.Proofs.Ytopkfjnhaikpaaa
open Go.Fl
open Go.RowKit (wrap64 Hid Below)

theorem turned_lt {x : Nat} (h : x < 18446744073709551616) : turned x < 18446744073709551616 := by
  unfold turned; rw [xor_sign h]; split <;> omega
theorem num_turned {x : Nat} (h : x < 18446744073709551616) : num (turned x) ↔ num x := by unfold num; rw [rg_turned h]
theorem fin_turned {x : Nat} (h : x < 18446744073709551616) : fin (turned x) ↔ fin x := by unfold fin; rw [rg_turned h]
theorem getV_turned {x : Nat} (h : x < 18446744073709551616) : getV (turned x) = -getV x := by
  unfold getV getK; rw [rg_turned h, neg_turned h]; cases neg x <;> simp

theorem signs_core (x : Nat) (HX : Hid (x < 18446744073709551616)) (HT : Hid (turned x < 18446744073709551616)) (e g a b : Int) (w : World)
    (o1 : getE x = e) (o2 : getE (turned x) = g) (o3 : getA x = a) (o4 : getA (turned x) = b) (_h1 : -9223372036854775808 ≤ a) (_h2 : a ≤ 9223372036854775807) (h3 : -9223372036854775808 ≤ b) (h4 : b ≤ 9223372036854775807)
    (hh : (e = 0 ∧ g = 0 ∧ a = -b ∧ -9223372036854775807 ≤ b) ∨ (e ≠ 0 ∧ e = g) ∨ (e = 0 ∧ g = 3 ∧ a = -9223372036854775808) ∨ (e = 3 ∧ g = 0 ∧ b = -9223372036854775808)) :
    Calls Try.prog 7 #[.int .u64 (x : Int)] w fun e w' => e = .returned (.bool true) ∧ w = w' := by
  rcases hh with ⟨rfl, rfl, hab, hb⟩ | ⟨he, rfl⟩ | ⟨rfl, rfl, hab⟩ | ⟨rfl, rfl, hab⟩
  · have H := Lib.hid hab
    clear hab
    go_enter Try.func7, Try.ntmps7
    go_wp2_with (first | (go_at_call 15; refine (alive_any _).mono ?_; rintro e w' ⟨rfl, rfl⟩) | (go_at_call 16; refine (get_any _ (by first | exact HX.out | exact HT.out) _).mono ?_; rintro e w' ⟨rfl, rfl⟩))
    all_goals (go_ret; exact ⟨ret_bool (beq_t H.out), rfl⟩)
  · have e1 := beq_f he
    go_enter Try.func7, Try.ntmps7
    go_wp2_with (first | (go_at_call 15; refine (alive_any _).mono ?_; rintro e w' ⟨rfl, rfl⟩) | (go_at_call 16; refine (get_any _ (by first | exact HX.out | exact HT.out) _).mono ?_; rintro e w' ⟨rfl, rfl⟩))
    all_goals (go_ret; exact ⟨rfl, rfl⟩)
  · have e1 := beq_t hab
    clear hab
    go_enter Try.func7, Try.ntmps7
    go_wp2_with (first | (go_at_call 15; refine (alive_any _).mono ?_; rintro e w' ⟨rfl, rfl⟩) | (go_at_call 16; refine (get_any _ (by first | exact HX.out | exact HT.out) _).mono ?_; rintro e w' ⟨rfl, rfl⟩))
    all_goals (go_ret; exact ⟨rfl, rfl⟩)
  · have e1 := beq_t hab
    clear hab
    go_enter Try.func7, Try.ntmps7
    go_wp2_with (first | (go_at_call 15; refine (alive_any _).mono ?_; rintro e w' ⟨rfl, rfl⟩) | (go_at_call 16; refine (get_any _ (by first | exact HX.out | exact HT.out) _).mono ?_; rintro e w' ⟨rfl, rfl⟩))
    all_goals (go_ret; exact ⟨rfl, rfl⟩)

theorem getA_range (x : Nat) : -9223372036854775808 ≤ getA x ∧ getA x ≤ 9223372036854775807 := by
  unfold getA; split <;> omega

theorem RealSigns_walk (a0 : Int) (w0 : (Lit.int .u64 a0).wf = true) (w : World) :
    Calls Try.prog 7 #[.int .u64 a0] w fun e w' => e = .returned (.bool true) ∧ Below w.heap.size w w' := by
  have b0 := bounds_u64 w0
  obtain ⟨x, rfl⟩ := Int.eq_ofNat_of_zero_le b0.1
  have hx : x < 18446744073709551616 := by omega
  have r1 := getA_range x
  have r2 := getA_range (turned x)
  refine below_of_same (signs_core x (Lib.hid hx) (Lib.hid (turned_lt hx)) _ _ _ _ w rfl rfl rfl rfl r1.1 r1.2 r2.1 r2.2 ?_)
  by_cases hn : num x
  · by_cases hf : fin x
    · have hv := getV_turned hx
      rcases get_of_fin hf with ⟨h1, hE, hA⟩ | ⟨h1, hE, hA⟩ <;> rcases get_of_fin ((fin_turned hx).2 hf) with ⟨g1, gE, gA⟩ | ⟨g1, gE, gA⟩ <;> omega
    · right; left
      have e1 : getE x = 2 := by unfold getE; rw [if_neg (by simp [hn]), if_pos hf]
      have e2 : getE (turned x) = 2 := by unfold getE; rw [if_neg (by simp [num_turned hx, hn]), if_pos (by simp [fin_turned hx, hf])]
      omega
  · right; left
    have e1 : getE x = 1 := by unfold getE; rw [if_pos hn]
    have e2 : getE (turned x) = 1 := by unfold getE; rw [if_pos (by simp [num_turned hx, hn])]
    omega
end Go.Proofs.Ytopkfjnhaikpaaa
