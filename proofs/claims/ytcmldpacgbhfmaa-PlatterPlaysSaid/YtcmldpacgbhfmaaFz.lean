/- Zeros (the kit's printed walk), Fill: a page that begins with bytes. -/
import Derived.Test.YtcmldpacgbhfmaaPPlatterTearsx0
import Derived.Test.YtcmldpacgbhfmaaP6
namespace Go.Proofs.Ytcmldpacgbhfmaa.PPlatterTears
open Go.RowKit Go.Proofs.YtcmldpacgbhfmaaW.PrintWords Go.Proofs.YtcmldpacgbhfmaaW.PrintLast Go.Proofs.YtcmldpacgbhfmaaW.PrintMore
attribute [local go_sem] max2_int min2_int max_two min_two max_three min_three max_four min_four
set_option linter.unusedVariables false
set_option linter.unusedSimpArgs false

/-! ### maquetteref13_Zeros: function 18 -/
def maquetteref13_Zeros.f (a0 : Int) : Option (ByteArray) := if 0 ≤ (mx a0 0) then (if (mx a0 0 : Int).toNat ≤ 281474976710656 then (some (strOfNums (List.replicate (mx a0 0 : Int).toNat 0))) else (none)) else (none)
set_option maxHeartbeats 8000000 in
set_option maxRecDepth 100000 in
theorem maquetteref13_Zeros.calls (a0 : Int) (r : ByteArray) (w : World) (h : maquetteref13_Zeros.f a0 = some r) :
    Calls Try.prog 18 #[.int .i64 a0] w fun e w' => e = .returned (.string r) ∧ Below w.heap.size w w' := by
  have HB := Aside0.mk (Below.refl w.heap.size w)
  have H : (if 0 ≤ (mx a0 0) then (if (mx a0 0 : Int).toNat ≤ 281474976710656 then (some (strOfNums (List.replicate (mx a0 0 : Int).toNat 0))) else (none)) else (none)) = some r := h
  clear h
  obtain ⟨ji2, hji2⟩ : ∃ j_ : Int, (mx a0 0) = j_ := ⟨_, rfl⟩
  replace H : (if 0 ≤ (ji2) then (if (ji2 : Int).toNat ≤ 281474976710656 then (some (strOfNums (List.replicate (ji2 : Int).toNat 0))) else (none)) else (none)) = some r := by first | (rw [hji2] at H; exact H) | (simp only [hji2] at H ⊢; exact H)
  (try (have hji2l : 0 ≤ ji2 := by (rw [← hji2]; unfold mx; (repeat' split) <;> omega)))
  (try (have hji2m : 0 ≤ ji2 := by omega))
  have hji2_ : (if a0 < 0 then 0 else a0) = ji2 := hji2
  by_cases c3 : 0 ≤ (ji2)
  · rw [if_pos c3] at H
    have c3b0 := eq_true c3
    have c3b1 : decide (0 ≤ (ji2)) = true := decide_eq_true c3
    clear c3
    by_cases c4 : (ji2 : Int).toNat ≤ 281474976710656
    · rw [if_pos c4] at H
      have c4b0 := eq_true c4
      have c4b1 : decide ((ji2 : Int).toNat ≤ 281474976710656) = true := decide_eq_true c4
      clear c4
      obtain ⟨y104, hy104⟩ : ∃ y_ : List Int, y_ = (List.replicate (ji2 : Int).toNat 0) := ⟨_, rfl⟩
      replace H : (some (strOfNums y104)) = some r := by first | (rw [hy104]; with_reducible exact H) | (have H2_ := (Option.bind_some _ _).symm.trans H; rw [hy104]; with_reducible exact H2_) | (have H2_ := (Option.bind_some _ _).symm.trans H; with_reducible exact H2_) | with_reducible exact H | (rw [hy104]; exact H) | exact H
      have Ny104 := Aside0.mk hy104
      clear hy104
      obtain rfl := Option.some.inj H
      go_enter Try.func18, Try.ntmps18
      go_wp2_with (first | ((with_reducible refine gate_dst (N := 5) rfl ?_); refine Kd.R_make (Kd.int .u8) _ 5 rfl (N := 5) rfl 43 _ _ rfl ji2 rfl rfl Try.underlying43 (.int .u8 0) 1 info5 rfl (by decide) (by omega) 0 (ok := fun _ => True) (okp := fun _ => True) rfl (fun _ hk => hk) trivial (of_decide_eq_true (by first | (with_reducible assumption) | assumption)) (Nat.le_trans (Nat.mul_le_mul_right _ (of_decide_eq_true (by first | (with_reducible assumption) | assumption) : ji2.toNat ≤ 281474976710656)) (by omega)) (Below.refl _ _) (Nat.le_refl _) ?_; intro v105 w5 ho6 hb hg_ hnew_; clear hg_ hnew_; (first | rw [← Ny104.out] at ho6 | (simp only [Int.reduceToNat] at ho6; rw [← Ny104.out] at ho6)); have n0_ := Aside0.mk (Kd.R_lower ho6 (below_size (by repeat (first | (with_reducible first | exact HB.out | apply below_alloc | apply pw_below_drewN | apply below_drew1) | exact HB.out)))); have n1_ := Aside0.mk (below_step (by repeat (first | (with_reducible first | exact HB.out | apply below_alloc | apply pw_below_drewN | apply below_drew1) | exact HB.out)) hb); clear HB; have HO106 := n0_; have HB := n1_; clear n0_ n1_; clear hb ho6; have hcv7 := own_string (P := Try.prog) Try.underlying43 Try.underlying5 Try.underlying9 (Kd.own_of_R HO106.out)))
      go_ret
      exact ⟨by first | rfl | (simp [errW_none, errW_some] <;> rfl) | (simp only [← hji2]; first | rfl | (simp [errW_none, errW_some] <;> rfl)) | (simp [*, errW_none, errW_some] <;> rfl), by repeat (first | (with_reducible first | exact HB.out | apply below_alloc | apply pw_below_drewN | apply below_drew1) | exact HB.out)⟩
    · rw [if_neg c4] at H
      exact absurd H (by simp)
  · rw [if_neg c3] at H
    exact absurd H (by simp)

end Go.Proofs.Ytcmldpacgbhfmaa.PPlatterTears
namespace Go.Proofs.Ytcmldpacgbhfmaa.V
open Go.RowKit Go.Proofs.YtcmldpacgbhfmaaW.PrintWords Go.Proofs.YtcmldpacgbhfmaaW.PrintLast Go.Proofs.YtcmldpacgbhfmaaW.PrintMore
set_option linter.unusedVariables false
set_option linter.unusedSimpArgs false
open PPlatterTears

theorem strOfZeros (n : Nat) : strOfNums (List.replicate n 0) = zer n := by
  unfold strOfNums zer
  simp
theorem zeros_any (n : Nat) (h : n ≤ 1000) (w : World) : Calls Try.prog 18 #[.int .i64 n] w fun e w' => e = .returned (.string (zer n)) ∧ Below w.heap.size w w' := by
  refine maquetteref13_Zeros.calls n (zer n) w ?_
  unfold maquetteref13_Zeros.f
  have e : mx (n : Int) 0 = n := by unfold mx; split <;> omega
  rw [e, if_pos (by omega), Int.toNat_natCast, if_pos (by omega), strOfZeros]
/-- a page that begins with bytes -/
def fill (a : ByteArray) : ByteArray := if 128 < a.size then a.extract 0 128 else a ++ zer (128 - a.size)
theorem fill_size (a : ByteArray) : (fill a).size = 128 := by
  unfold fill
  split
  · rw [ByteArray.size_extract]; omega
  · rw [ByteArray.size_append, zer_size]; omega
set_option maxHeartbeats 8000000 in
set_option maxRecDepth 100000 in
theorem fill_any (a : ByteArray) (w : World) : Calls Try.prog 13 #[.string a] w fun e w' => e = .returned (.string (fill a)) ∧ Below w.heap.size w w' := by
  have HB := Aside0.mk (Below.refl w.heap.size w)
  unfold fill
  by_cases h : 128 < a.size
  · rw [if_pos h]
    have c2b0 : decide (128 < (a.size : Int)) = true := decide_eq_true (by omega)
    have c2b1 : decide (128 < a.size) = true := decide_eq_true (by omega)
    have c2b2 : decide (128 ≤ a.size) = true := decide_eq_true (by omega)
    have c2b3 : (128 ≤ a.size) = True := eq_true (by omega)
    have c2b4 : (128 ≤ (a.size : Int)) = True := eq_true (by omega)
    clear h
    go_enter Try.func13, Try.ntmps13
    go_wp2
    go_ret
    exact ⟨by first | rfl | simp, HB.out⟩
  · rw [if_neg h]
    have c2b0 : decide (128 < (a.size : Int)) = false := decide_eq_false (by omega)
    have c2b1 : decide (128 < a.size) = false := decide_eq_false h
    have HN := Aside0.mk h
    have hz := zeros_any (128 - a.size) (by omega)
    have hc : (((128 - a.size : Nat)) : Int) = wrap64 (128 - (a.size : Int)) := by unfold wrap64; omega
    rw [hc] at hz
    have HZ := Aside0.mk hz
    have hs : (9223372036854775807 < a.size + (zer (128 - a.size)).size) = False := eq_false (by rw [zer_size]; omega)
    clear h hz
    go_enter Try.func13, Try.ntmps13
    go_wp2_with (first | (go_at_call 18; go_must (refine (HZ.out _).mono ?_); rintro e w1 ⟨rfl, hb⟩; have n0_ := Aside0.mk (below_step HB.out hb); clear HB; have HB := n0_; clear n0_))
    go_ret
    exact ⟨rfl, HB.out⟩
end Go.Proofs.Ytcmldpacgbhfmaa.V
