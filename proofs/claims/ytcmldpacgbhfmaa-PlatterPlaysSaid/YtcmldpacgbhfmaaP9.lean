/- A platter that stands: Settle refused; Fail without cuts. -/
import Derived.Test.YtcmldpacgbhfmaaP8
namespace Go.Proofs.Ytcmldpacgbhfmaa.V
open Go.RowKit Go.Proofs.YtcmldpacgbhfmaaW.PrintWords Go.Proofs.YtcmldpacgbhfmaaW.PrintLast Go.Proofs.YtcmldpacgbhfmaaW.PrintMore
set_option linter.unusedVariables false
set_option linter.unusedSimpArgs false

set_option maxHeartbeats 8000000 in
set_option maxRecDepth 100000 in
theorem settle_no {base : Nat} {F : Nat → Prop} {w : World} {g : Nat} {S : PS} (h : IsP base F w g S) (hm : S.halted = true) :
    Calls Try.prog 15 #[.pointer (some ⟨g, 0, none⟩)] w fun e w' => e = .returned (.int .i64 7) ∧ Below w.heap.size w w' := by
  have HP := Aside0.mk h
  have HB := Aside0.mk (Below.refl w.heap.size w)
  go_enter Try.func15, Try.ntmps15
  go_wp2_with (first | (go_at_call 21; (with_reducible refine (halted_any HP.out).mono ?_); rintro e w1 ⟨rfl, hb⟩; rw [hm]; have n0_ := Aside0.mk (below_step (by repeat (first | (with_reducible first | exact HB.out | apply below_alloc | apply pw_below_drewN | apply below_drew1) | exact HB.out)) hb); clear HB; have HB := n0_; clear n0_))
  go_ret
  exact ⟨rfl, HB.out⟩
theorem failed_nil (S : PS) (i : Nat) : failed S [] i = (S.safe, 0) := by
  induction i with
  | zero => rfl
  | succ i ih => rw [failed, if_neg (fun h => by simp at h), ih]
section
variable {w0 w w' : World} {g : Nat} {S : PS}
theorem q_settle_no (h : IsQ w0 w g S) (hm : S.halted = true) :
    Calls Try.prog 15 #[.pointer (some ⟨g, 0, none⟩)] w fun e w' => e = .returned (.int .i64 7) ∧ IsQ w0 w' g S := by
  refine (settle_no h.2 hm).mono ?_
  rintro e w' ⟨rfl, hb⟩
  exact ⟨rfl, h.below hb⟩
theorem q_fail_nil (h : IsQ w0 w g S) (hw : pagesOk S) (hl : S.afl.length ≤ 1000) :
    Calls Try.prog 16 #[.pointer (some ⟨g, 0, none⟩), .slice none 0 0] w fun e w' => e = .returned (.int .i64 0) ∧ IsQ w0 w' g (faS S []) := by
  have := q_fail h hw hl none 0 [] (fun W' _ => Kd.C_nil _ _)
  rw [failed_nil] at this
  exact this
theorem fa_nil_well {N : Nat} (hw : pagesOk S) (hN : S.safe.length = N) : WellS (faS S []) N 0 := by
  have e : (faS S []).safe = S.safe := by unfold faS; rw [failed_nil]
  exact ⟨rfl, rfl, rfl, ⟨by rw [e]; exact hw.1, fun p hp => by simp [faS] at hp⟩, by rw [e]; exact hN, rfl⟩
end
end Go.Proofs.Ytcmldpacgbhfmaa.V
