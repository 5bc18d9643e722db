/- The first calls (alive), which every law makes. -/
import Derived.Test.YtopkfjnhaikpaaaB
import Derived.Below
namespace Go.Proofs.Ytopkfjnhaikpaaa
open Go.Fl
open Go.RowKit (wrap64 Hid)

theorem copysign_any (w : World) :
    Calls Try.prog 24 #[.float .f64 0, .float .f64 13830554455654793216] w fun e w' => e = .returned (.float .f64 9223372036854775808) ∧ w = w' := by
  go_enter Try.func24, Try.ntmps24
  go_wp2
  go_ret
  exact ⟨ret_float (by decide +kernel), rfl⟩

theorem mkNaN_any (w : World) : Calls Try.prog 32 #[] w fun e w' => e = .returned (.float .f64 9221120237041090561) ∧ w = w' := by
  go_enter Try.func32, Try.ntmps32
  go_wp2
  go_ret
  exact ⟨ret_float (by decide +kernel), rfl⟩

theorem mkInf_any (w : World) : Calls Try.prog 33 #[.int .i64 (-1)] w fun e w' => e = .returned (.float .f64 18442240474082181120) ∧ w = w' := by
  go_enter Try.func33, Try.ntmps33
  go_wp2
  go_ret
  exact ⟨ret_float (by decide +kernel), rfl⟩

theorem a1 : getA 4602678819172646912 = 2147483648 := by decide +kernel
theorem a2 : getE 4602678819172646912 = 0 := by decide +kernel
theorem a3 : getE 9221120237041090561 = 1 := by decide +kernel
theorem a4 : getE 18442240474082181120 = 2 := by decide +kernel
theorem a5 : getA 9223372036854775808 = 0 := by decide +kernel
theorem a6 : getE 9223372036854775808 = 0 := by decide +kernel
theorem a7 : cls 9223372036854775808 = 5 := by decide +kernel
theorem a8 : putW 4294967296 = 4607182418800017408 := by decide +kernel
theorem a9 : ordA 9221120237041090561 18442240474082181120 = -1 := by decide +kernel
theorem a10 : (FloatKind.f64.format.order 4607182418800017408 4607182418800017408 == some .eq) = true := by decide +kernel

set_option maxHeartbeats 1000000 in
theorem alive_any (w : World) : Calls Try.prog 15 #[] w fun e w' => e = .returned (.bool true) ∧ w = w' := by
  have g1 := a1
  have g2 := a2
  have g3 := a3
  have g4 := a4
  have g5 := a5
  have g6 := a6
  have g7 := a7
  have g8 := a8
  have g9 := a9
  have g10 := a10
  go_enter Try.func15, Try.ntmps15
  go_wp2_with (first | (go_at_call 16; refine (get_any _ (by decide) _).mono ?_; rintro e w' ⟨rfl, rfl⟩) | (go_at_call 24; refine (copysign_any _).mono ?_; rintro e w' ⟨rfl, rfl⟩) | (go_at_call 32; refine (mkNaN_any _).mono ?_; rintro e w' ⟨rfl, rfl⟩) | (go_at_call 33; refine (mkInf_any _).mono ?_; rintro e w' ⟨rfl, rfl⟩) | (go_at_call 21; refine (class_any _ (by decide) _).mono ?_; rintro e w' ⟨rfl, rfl⟩) | (go_at_call 17; refine (put_any _ (by decide) _).mono ?_; rintro e w' ⟨rfl, rfl⟩) | (go_at_call 19; refine (order_any _ _ (by decide) (by decide) _).mono ?_; rintro e w' ⟨rfl, rfl⟩))
  go_ret
  exact ⟨rfl, rfl⟩
theorem wr_lt (s : Bool) (n d : Nat) : wr s n d < 18446744073709551616 := by
  have := rung_le n d
  unfold wr; rw [word_eq]; split <;> omega

theorem put_lt (a : Int) : putW a < 18446744073709551616 := wr_lt _ _ _

theorem get_of_fin {x : Nat} (h : fin x) : (9223372036854775808 ≤ getV x ∨ getV x < -9223372036854775808) ∧ getE x = 3 ∧ getA x = 0 ∨ (getV x < 9223372036854775808 ∧ -9223372036854775808 ≤ getV x) ∧ getE x = 0 ∧ getA x = getV x := by
  have hn := fin_num h
  by_cases h1 : 9223372036854775808 ≤ getV x ∨ getV x < -9223372036854775808
  · left
    refine ⟨h1, ?_, ?_⟩
    · unfold getE; rw [if_neg (by simp [hn]), if_neg (by simp [h]), if_pos h1]
    · unfold getA; rw [if_neg (by omega)]
  · right
    refine ⟨by omega, ?_, ?_⟩
    · unfold getE; rw [if_neg (by simp [hn]), if_neg (by simp [h]), if_neg h1]
    · unfold getA; rw [if_pos ⟨hn, h, by omega, by omega⟩]

theorem bounds_i64 {a : Int} (h : (Lit.int .i64 a).wf = true) : -9223372036854775808 ≤ a ∧ a ≤ 9223372036854775807 := by
  simpa [Lit.wf, IntKind.min, IntKind.max, IntKind.signed, IntKind.bits] using h

theorem below_of_same {K : FuncId} {args : Array Value} {w : World} (h : Calls Try.prog K args w fun e w' => e = .returned (.bool true) ∧ w = w') :
    Calls Try.prog K args w fun e w' => e = .returned (.bool true) ∧ RowKit.Below w.heap.size w w' :=
  h.mono fun _ _ ⟨he, hw⟩ => ⟨he, hw ▸ RowKit.Below.refl _ _⟩
theorem bounds_u64 {a : Int} (h : (Lit.int .u64 a).wf = true) : 0 ≤ a ∧ a ≤ 18446744073709551615 := by
  simpa [Lit.wf, IntKind.min, IntKind.max, IntKind.signed, IntKind.bits] using h
end Go.Proofs.Ytopkfjnhaikpaaa
