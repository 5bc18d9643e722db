/- Contracts of real.Get, Put, Order, Same. -/
import Derived.Test.YtopkfjnhaikpaaaA
namespace Go.Proofs.Ytopkfjnhaikpaaa
open Go.Fl
open Go.RowKit (wrap64 Hid)

theorem cls_1 {x : Nat} (h : ¬ num x) : cls x = 1 := by unfold cls; rw [if_pos (by unfold num at h; omega)]
theorem cls_23 {x : Nat} (h : num x) (hf : ¬ fin x) : cls x = if neg x then 3 else 2 := by
  unfold cls; rw [if_neg (by unfold num at h; omega), if_pos (by unfold num at h; unfold fin at hf; omega)]
theorem cls_fin {x : Nat} (hf : fin x) : 4 ≤ cls x ∧ cls x ≤ 7 := by
  unfold cls; unfold fin at hf
  rw [if_neg (by omega), if_neg (by omega)]
  split
  · split <;> omega
  · split <;> omega

theorem round_run (x : Nat) (h : num x) (w : World) : (callFunc 34 #[.float .f64 x]).run Try.prog w = .ok (.value (.float .f64 (Ieee.double.write ((Ieee.double.read x).integral .even)))) w := by
  rw [run_callFunc_extern (P := Try.prog) (f := 34) (fn := Try.f34) (e := Extern.MathFloor.toIntegral "math.RoundToEven" .even) (by kernel_rfl) (by kernel_rfl) (by kernel_rfl) (by kernel_rfl) (by kernel_rfl)]
  have : Extern.MathFloor.toIntegral "math.RoundToEven" .even #[.float .f64 x] = pure (.float .f64 (Ieee.double.write ((Ieee.double.read x).integral .even))) := by
    unfold Extern.MathFloor.toIntegral
    show (match FloatKind.f64.decode x with | .nan s t => _ | d => _) = _
    have e : FloatKind.f64.decode x = Ieee.double.read x := rfl
    rw [e]
    by_cases hf : fin x
    · obtain ⟨m, i, ex, _⟩ := read_fin hf
      rw [ex]; rfl
    · have hi : rg x = 9218868437227405312 := by unfold fin at hf; unfold num at h; omega
      rw [read_inf hi]; rfl
  rw [this]; rfl

theorem get_nan (x : Nat) (HX : Hid (x < 18446744073709551616)) (w : World) (e1 : (cls x == 1) = true) :
    Calls Try.prog 16 #[.float .f64 x] w fun e w' => e = .returned (.tuple #[.int .i64 0, .int .i64 1]) ∧ w = w' := by
  go_enter Try.func16, Try.ntmps16
  go_wp2_with (go_at_call 21; refine (class_any _ HX.out _).mono ?_; rintro e w' ⟨rfl, rfl⟩)
  go_ret2
  exact ⟨rfl, rfl⟩

theorem get_inf (x : Nat) (HX : Hid (x < 18446744073709551616)) (w : World) (e1 : (cls x == 1) = false) (e2 : (cls x == 2) = false) (e3 : (cls x == 3) = true) :
    Calls Try.prog 16 #[.float .f64 x] w fun e w' => e = .returned (.tuple #[.int .i64 0, .int .i64 2]) ∧ w = w' := by
  go_enter Try.func16, Try.ntmps16
  go_wp2_with (go_at_call 21; refine (class_any _ HX.out _).mono ?_; rintro e w' ⟨rfl, rfl⟩)
  go_ret2
  exact ⟨rfl, rfl⟩

theorem get_inf2 (x : Nat) (HX : Hid (x < 18446744073709551616)) (w : World) (e1 : (cls x == 1) = false) (e2 : (cls x == 2) = true) :
    Calls Try.prog 16 #[.float .f64 x] w fun e w' => e = .returned (.tuple #[.int .i64 0, .int .i64 2]) ∧ w = w' := by
  go_enter Try.func16, Try.ntmps16
  go_wp2_with (go_at_call 21; refine (class_any _ HX.out _).mono ?_; rintro e w' ⟨rfl, rfl⟩)
  go_ret2
  exact ⟨rfl, rfl⟩

theorem get_over (x r n : Nat) (HX : Hid (x < 18446744073709551616)) (w : World) (e1 : (cls x == 1) = false) (e2 : (cls x == 2) = false) (e3 : (cls x == 3) = false)
    (hm : ∀ w, (binOp .mul 27 (.float .f64 x) (.float .f64 4751297606875873280)).run Try.prog w = .ok (.float .f64 r) w)
    (hr : ∀ w, (callFunc 34 #[.float .f64 r]).run Try.prog w = .ok (.value (.float .f64 n)) w)
    (e4 : (FloatKind.f64.format.order n 4890909195324358656 == some .gt || FloatKind.f64.format.order n 4890909195324358656 == some .eq) = true) :
    Calls Try.prog 16 #[.float .f64 x] w fun e w' => e = .returned (.tuple #[.int .i64 0, .int .i64 3]) ∧ w = w' := by
  go_enter Try.func16, Try.ntmps16
  go_wp2_with (go_at_call 21; refine (class_any _ HX.out _).mono ?_; rintro e w' ⟨rfl, rfl⟩)
  go_ret2
  exact ⟨rfl, rfl⟩

theorem get_under (x r n : Nat) (HX : Hid (x < 18446744073709551616)) (w : World) (e1 : (cls x == 1) = false) (e2 : (cls x == 2) = false) (e3 : (cls x == 3) = false)
    (hm : ∀ w, (binOp .mul 27 (.float .f64 x) (.float .f64 4751297606875873280)).run Try.prog w = .ok (.float .f64 r) w)
    (hr : ∀ w, (callFunc 34 #[.float .f64 r]).run Try.prog w = .ok (.value (.float .f64 n)) w)
    (e4 : (FloatKind.f64.format.order n 4890909195324358656 == some .gt || FloatKind.f64.format.order n 4890909195324358656 == some .eq) = false)
    (e5 : (FloatKind.f64.format.order n 14114281232179134464 == some .lt) = true) :
    Calls Try.prog 16 #[.float .f64 x] w fun e w' => e = .returned (.tuple #[.int .i64 0, .int .i64 3]) ∧ w = w' := by
  go_enter Try.func16, Try.ntmps16
  go_wp2_with (go_at_call 21; refine (class_any _ HX.out _).mono ?_; rintro e w' ⟨rfl, rfl⟩)
  go_ret2
  exact ⟨rfl, rfl⟩

theorem get_ok (x r n : Nat) (V : Int) (HX : Hid (x < 18446744073709551616)) (w : World) (e1 : (cls x == 1) = false) (e2 : (cls x == 2) = false) (e3 : (cls x == 3) = false)
    (hm : ∀ w, (binOp .mul 27 (.float .f64 x) (.float .f64 4751297606875873280)).run Try.prog w = .ok (.float .f64 r) w)
    (hr : ∀ w, (callFunc 34 #[.float .f64 r]).run Try.prog w = .ok (.value (.float .f64 n)) w)
    (e4 : (FloatKind.f64.format.order n 4890909195324358656 == some .gt || FloatKind.f64.format.order n 4890909195324358656 == some .eq) = false)
    (e5 : (FloatKind.f64.format.order n 14114281232179134464 == some .lt) = false)
    (hc : ∀ w, (convert 27 22 (.float .f64 n)).run Try.prog w = .ok (.int .i64 V) w) :
    Calls Try.prog 16 #[.float .f64 x] w fun e w' => e = .returned (.tuple #[.int .i64 V, .int .i64 0]) ∧ w = w' := by
  go_enter Try.func16, Try.ntmps16
  go_wp2_with (go_at_call 21; refine (class_any _ HX.out _).mono ?_; rintro e w' ⟨rfl, rfl⟩)
  go_ret2
  exact ⟨rfl, rfl⟩

theorem beq_f {a b : Int} (h : a ≠ b) : (a == b) = false := by simp [h]
theorem beq_t {a b : Int} (h : a = b) : (a == b) = true := by simp [h]

theorem mul_run {x r : Nat} (h : Ieee.double.mul x 4751297606875873280 = some r) (w : World) : (binOp .mul 27 (.float .f64 x) (.float .f64 4751297606875873280)).run Try.prog w = .ok (.float .f64 r) w :=
  run_float_arith w .mul 27 .f64 x 4751297606875873280 r h

theorem get_facts {x : Nat} (hf : fin x) : ∃ r n, Ieee.double.mul x 4751297606875873280 = some r ∧ num r ∧ Ieee.double.write ((Ieee.double.read r).integral .even) = n ∧
    (FloatKind.f64.format.order n 4890909195324358656 == some .gt || FloatKind.f64.format.order n 4890909195324358656 == some .eq) = decide (9223372036854775808 ≤ getV x) ∧
    (FloatKind.f64.format.order n 14114281232179134464 == some .lt) = decide (getV x < -9223372036854775808) ∧
    (getV x < 9223372036854775808 → -9223372036854775808 ≤ getV x → (Ieee.double.read n).toInt .zero = some (getV x)) :=
  ⟨_, _, mul_32 hf, num_wr _ _ _, round_get, get_ge hf, get_lt hf, get_int hf⟩

theorem int_of_run {n : Nat} {V : Int} (h1 : V < 9223372036854775808) (h2 : -9223372036854775808 ≤ V) (h : (Ieee.double.read n).toInt .zero = some V) (w : World) :
    (convert 27 22 (.float .f64 n)).run Try.prog w = .ok (.int .i64 V) w := by
  refine run_convert_float_int w 27 22 .f64 .i64 _ _ (by kernel_rfl) Try.underlying22 ?_
  unfold floatToIntVal
  have e : FloatKind.f64.decode n = Ieee.double.read n := rfl
  rw [e, h]
  show (if _ then _ else _) = _
  rw [if_pos ⟨by show -9223372036854775808 ≤ _; omega, by show _ ≤ 9223372036854775807; omega⟩]

theorem get_any (x : Nat) (hx : x < 18446744073709551616) (w : World) :
    Calls Try.prog 16 #[.float .f64 x] w fun e w' => e = .returned (.tuple #[.int .i64 (getA x), .int .i64 (getE x)]) ∧ w = w' := by
  have HX := Lib.hid hx
  by_cases hn : num x
  · by_cases hf : fin x
    · obtain ⟨c1, c2⟩ := cls_fin hf
      have e1 := beq_f (show cls x ≠ 1 by omega)
      have e2 := beq_f (show cls x ≠ 2 by omega)
      have e3 := beq_f (show cls x ≠ 3 by omega)
      obtain ⟨r, n, hm0, hr0, hr1, e4, e5, hc0⟩ := get_facts hf
      have hm := mul_run hm0
      have hr := fun w => round_run r hr0 w
      rw [hr1] at hr
      by_cases h1 : 9223372036854775808 ≤ getV x
      · have ea : getA x = 0 := by unfold getA; rw [if_neg (by omega)]
        have ee : getE x = 3 := by unfold getE; rw [if_neg (by simp [hn]), if_neg (by simp [hf]), if_pos (.inl h1)]
        rw [ea, ee]
        rw [decide_eq_true h1] at e4
        exact get_over x r n HX w e1 e2 e3 hm hr e4
      · rw [decide_eq_false h1] at e4
        by_cases h2 : getV x < -9223372036854775808
        · have ea : getA x = 0 := by unfold getA; rw [if_neg (by omega)]
          have ee : getE x = 3 := by unfold getE; rw [if_neg (by simp [hn]), if_neg (by simp [hf]), if_pos (.inr h2)]
          rw [ea, ee]
          rw [decide_eq_true h2] at e5
          exact get_under x r n HX w e1 e2 e3 hm hr e4 e5
        · rw [decide_eq_false h2] at e5
          have ea : getA x = getV x := by unfold getA; rw [if_pos ⟨hn, hf, by omega, by omega⟩]
          have ee : getE x = 0 := by unfold getE; rw [if_neg (by simp [hn]), if_neg (by simp [hf]), if_neg (by omega)]
          rw [ea, ee]
          have hc := hc0 (by omega) (by omega)
          generalize getV x = V at *
          exact get_ok x r n V HX w e1 e2 e3 hm hr e4 e5 (int_of_run (by omega) (by omega) hc)
    · have hc := cls_23 hn hf
      have ea : getA x = 0 := by unfold getA; rw [if_neg (by intro h; exact hf h.2.1)]
      have ee : getE x = 2 := by unfold getE; rw [if_neg (by simp [hn]), if_pos hf]
      rw [ea, ee]
      cases hs : neg x
      · rw [hs] at hc
        exact get_inf2 x HX w (beq_f (by rw [hc]; decide)) (beq_t (by rw [hc]; rfl))
      · rw [hs] at hc
        exact get_inf x HX w (beq_f (by rw [hc]; decide)) (beq_f (by rw [hc]; decide)) (beq_t (by rw [hc]; rfl))
  · have hc := cls_1 hn
    have ea : getA x = 0 := by unfold getA; rw [if_neg (by intro h; exact hn h.1)]
    have ee : getE x = 1 := by unfold getE; rw [if_pos hn]
    rw [ea, ee]
    exact get_nan x HX w (beq_t hc)

theorem int_run (a : Int) (w : World) : (convert 22 27 (.int .i64 a)).run Try.prog w = .ok (.float .f64 (ofInt a)) w := by
  rw [← nearest_of]; kernel_rfl

theorem div_run {x r : Nat} (h : Ieee.double.div x 4751297606875873280 = some r) (w : World) : (binOp .quo 27 (.float .f64 x) (.float .f64 4751297606875873280)).run Try.prog w = .ok (.float .f64 r) w :=
  run_float_arith w .quo 27 .f64 x 4751297606875873280 r h

theorem put_walk (a : Int) (y r : Nat) (hc : ∀ w, (convert 22 27 (.int .i64 a)).run Try.prog w = .ok (.float .f64 y) w)
    (hd : ∀ w, (binOp .quo 27 (.float .f64 y) (.float .f64 4751297606875873280)).run Try.prog w = .ok (.float .f64 r) w) (w : World) :
    Calls Try.prog 17 #[.int .i64 a] w fun e w' => e = .returned (.float .f64 r) ∧ w = w' := by
  go_enter Try.func17, Try.ntmps17
  go_wp2
  go_ret
  exact ⟨rfl, rfl⟩

theorem put_any (a : Int) (ha : a.natAbs ≤ 9223372036854775808) (w : World) :
    Calls Try.prog 17 #[.int .i64 a] w fun e w' => e = .returned (.float .f64 (putW a)) ∧ w = w' :=
  put_walk a _ _ (int_run a) (div_run (put_is (by omega))) w

theorem same_eq (x y : Nat) : ((x : Int) == (y : Int)) = decide (x = y) := by
  rw [Bool.eq_iff_iff]; simp only [beq_iff_eq, decide_eq_true_eq]; omega

theorem same_any (x y : Nat) (w : World) :
    Calls Try.prog 25 #[.float .f64 x, .float .f64 y] w fun e w' => e = .returned (.bool (decide (x = y))) ∧ w = w' := by
  go_enter Try.func25, Try.ntmps25
  go_wp2
  go_ret
  exact ⟨ret_bool (same_eq x y), rfl⟩

/-- Order's answer, by the kinds and the two comparisons -/
def ordB (cx cy : Int) (lt gt : Bool) : Int :=
  if cx == 1 then (if cy == 1 then 0 else -1) else if cy == 1 then 1
  else if lt || (cx == 5 && cy == 4) then -1
  else if gt || (cx == 4 && cy == 5) then 1 else 0

def ordA (x y : Nat) : Int := ordB (cls x) (cls y) (Ieee.double.order x y == some .lt) (Ieee.double.order x y == some .gt)

set_option maxHeartbeats 1000000 in
theorem order_any (x y : Nat) (hx : x < 18446744073709551616) (hy : y < 18446744073709551616) (w : World) :
    Calls Try.prog 19 #[.float .f64 x, .float .f64 y] w fun e w' => e = .returned (.int .i64 (ordA x y)) ∧ w = w' := by
  have HX := Lib.hid hx
  have HY := Lib.hid hy
  clear hx hy
  have he : ordA x y = ordB (cls x) (cls y) (FloatKind.f64.format.order x y == some .lt) (FloatKind.f64.format.order x y == some .gt) := rfl
  rw [he]
  clear he
  cases hl : (FloatKind.f64.format.order x y == some .lt) <;> cases hg : (FloatKind.f64.format.order x y == some .gt)
  all_goals
    go_enter Try.func19, Try.ntmps19
    go_wp2_with (go_at_call 21; refine (class_any _ (by first | exact HX.out | exact HY.out) _).mono ?_; rintro e w' ⟨rfl, rfl⟩)
    all_goals (go_ret; exact ⟨ret_int (by simp [ordB, *]), rfl⟩)

end Go.Proofs.Ytopkfjnhaikpaaa
