/- The walk of RealTies. -/
import Derived.Test.YtopkfjnhaikpaaaC
namespace Go.Proofs.Ytopkfjnhaikpaaa
open Go.Fl
open Go.RowKit (wrap64 Hid Below)

theorem and_one (n : Int) : bits BinOp.and IntKind.i64 n 1 = n % 2 := by
  unfold bits
  show IntKind.i64.wrap ((BitVec.ofInt 64 n &&& BitVec.ofInt 64 1).toNat : Int) = _
  rw [BitVec.toNat_and, show (BitVec.ofInt 64 1).toNat = 2 ^ 1 - 1 by decide, Nat.and_two_pow_sub_one_eq_mod, BitVec.toNat_ofInt]
  have h1 : ((n % (2 ^ 64 : Nat)).toNat % 2 ^ 1 : Nat) = (n % 2).toNat := by omega
  rw [h1]
  have h2 : IntKind.i64.wrap ((n % 2).toNat : Int) = ((n % 2).toNat : Int) := by
    rw [IntKind.wrap_i64]; omega
  rw [h2]; omega

theorem int3t_run (a : Int) (w : World) : (convert 3 27 (.int .i64 a)).run Try.prog w = .ok (.float .f64 (ofInt a)) w := by
  rw [← nearest_of]; kernel_rfl

theorem ties_out (n : Int) (w : World) (h : n < -1073741824 ∨ 1073741824 < n) : Calls Try.prog 9 #[.int .i64 n] w fun e w' => e = .returned (.bool true) ∧ w = w' := by
  rcases h with h | h
  all_goals
    go_enter Try.func9, Try.ntmps9
    go_wp2_with (first | (go_at_call 15; refine (alive_any _).mono ?_; rintro e w' ⟨rfl, rfl⟩))
    all_goals (go_ret; exact ⟨rfl, rfl⟩)

theorem ties_core (n v b : Int) (y r q : Nat) (w : World) (h0 : -1073741824 ≤ n) (h1 : n ≤ 1073741824)
    (R : Hid (q < 18446744073709551616)) (hb : bits BinOp.and IntKind.i64 n 1 = b)
    (hc : ∀ w, (convert 3 27 (.int .i64 n)).run Try.prog w = .ok (.float .f64 y) w)
    (ha : ∀ w, (binOp .add 27 (.float .f64 y) (.float .f64 4602678819172646912)).run Try.prog w = .ok (.float .f64 r) w)
    (hs : ∀ w, (binOp .quo 27 (.float .f64 r) (.float .f64 4751297606875873280)).run Try.prog w = .ok (.float .f64 q) w)
    (e1 : getE q = 0) (e2 : getA q = v) (hh : (b = 0 ∧ v = n) ∨ (b = 1 ∧ v = n + 1)) : Calls Try.prog 9 #[.int .i64 n] w fun e w' => e = .returned (.bool true) ∧ w = w' := by
  rcases hh with ⟨rfl, rfl⟩ | ⟨rfl, rfl⟩
  all_goals
    go_enter Try.func9, Try.ntmps9
    go_wp2_with (first | (go_at_call 15; refine (alive_any _).mono ?_; rintro e w' ⟨rfl, rfl⟩) | (go_at_call 16; refine (get_any _ R.out _).mono ?_; rintro e w' ⟨rfl, rfl⟩))
    all_goals (go_ret; exact ⟨ret_bool (by simp), rfl⟩)

theorem RealTies_walk (n : Int) (_w0 : (Lit.int .i64 n).wf = true) (w : World) :
    Calls Try.prog 9 #[.int .i64 n] w fun e w' => e = .returned (.bool true) ∧ Below w.heap.size w w' := by
  refine below_of_same ?_
  by_cases h : -1073741824 ≤ n ∧ n ≤ 1073741824
  · obtain ⟨r, q, h1, h2, h3, h4⟩ := ties_add h.1 h.2
    have hq : q < 18446744073709551616 := Ieee.double.div_lt h2
    rcases get_of_fin h3 with ⟨g, _, _⟩ | ⟨g, hE, hA⟩
    · exfalso; split at h4 <;> omega
    · refine ties_core n (getV q) _ (ofInt n) r q w h.1 h.2 (Lib.hid hq) (and_one n) (int3t_run n) (fun w => run_float_arith w .add 27 .f64 _ _ _ h1) (fun w => run_float_arith w .quo 27 .f64 _ _ _ h2) hE hA ?_
      by_cases he : n % 2 = 0
      · rw [if_pos he] at h4; left; exact ⟨he, h4⟩
      · rw [if_neg he] at h4; right; exact ⟨by omega, h4⟩
  · exact ties_out n w (by omega)
end Go.Proofs.Ytopkfjnhaikpaaa
