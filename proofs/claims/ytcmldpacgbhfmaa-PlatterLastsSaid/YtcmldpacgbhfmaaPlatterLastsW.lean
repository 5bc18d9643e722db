/- PlatterLasts, walked. -/
import Derived.Test.YtcmldpacgbhfmaaP9
import Derived.BigQuiet
namespace Go.Proofs.Ytcmldpacgbhfmaa.V
open Go.RowKit Go.Proofs.YtcmldpacgbhfmaaW.PrintWords Go.Proofs.YtcmldpacgbhfmaaW.PrintLast Go.Proofs.YtcmldpacgbhfmaaW.PrintMore
set_option linter.unusedVariables false
set_option linter.unusedSimpArgs false

/-- the page of the i-th string -/
def pg (l : List ByteArray) (i : Nat) : ByteArray := fill (rdOf ByteArray.empty l (i : Int))
theorem pg_def (l : List ByteArray) (i : Nat) : pg l i = fill (rdOf ByteArray.empty l (i : Int)) := rfl
theorem pg_size (l : List ByteArray) (i : Nat) : (pg l i).size = 128 := fill_size _
structure In1 (l : List ByteArray) (j : Nat) (S : PS) : Prop where
  well : WellS S 20 j
  at_ : ∀ i, i < j → rd_T65 S.afl i = ⟨(i : Int), pg l i⟩
theorem rd65_push_lt (l : List S65) (p : S65) (i : Nat) (h : i < l.length) : rd_T65 (l ++ [p]) (i : Int) = rd_T65 l (i : Int) := by
  unfold rd_T65
  simp [List.getD, List.getElem?_append_left h]
theorem rd65_push_eq (l : List S65) (p : S65) (i : Nat) (h : i = l.length) : rd_T65 (l ++ [p]) (i : Int) = p := by
  subst h
  unfold rd_T65
  simp [List.getD]
theorem In1.step {l : List ByteArray} {j : Nat} {S : PS} (h : In1 l j S) (hj : j < 20) : In1 l (j + 1) (stS S j (pg l j)) := by
  refine ⟨h.well.st (by omega) (by omega) (fill_size _), fun i hi => ?_⟩
  show rd_T65 (S.afl ++ [⟨(j : Int), pg l j⟩]) i = _
  by_cases hij : i < j
  · rw [rd65_push_lt _ _ _ (by rw [h.well.few]; exact hij)]; exact h.at_ i hij
  · obtain rfl : i = j := by omega
    rw [rd65_push_eq _ _ _ h.well.few.symm]
theorem settled_at {l : List ByteArray} {j : Nat} {S : PS} (h : In1 l j S) (hj : j ≤ 20) (k : Nat) (hk : k ≤ j) : ∀ i, i < k → (settled S k)[i]? = some (pg l i) := by
  induction k with
  | zero => intro i hi; omega
  | succ k ih =>
    intro i hi
    rw [settled_succ S k (by rw [h.well.few]; omega), h.at_ k (by omega)]
    show ((settled S k).set ((k : Int)).toNat (pg l k))[i]? = _
    rw [Int.toNat_natCast, List.getElem?_set]
    by_cases hik : k = i
    · subst hik
      rw [if_pos rfl, if_pos (by rw [settled_length, h.well.len]; omega)]
    · rw [if_neg hik]; exact ih (by omega) i (by omega)
structure In2 (l : List ByteArray) (j : Nat) (S : PS) : Prop where
  well : WellS S 20 j
  at_ : ∀ i, i < l.length → S.safe[i]? = some (pg l i)
theorem In1.last {l : List ByteArray} {S : PS} (h : In1 l l.length S) (hl : l.length ≤ 20) : In2 l 0 (seS S) :=
  ⟨h.well.se, fun i hi => by show (settled S S.afl.length)[i]? = _; rw [h.well.few]; exact settled_at h hl _ (Nat.le_refl _) i hi⟩
theorem In2.step {l : List ByteArray} {j : Nat} {S : PS} (h : In2 l j S) (hj : j < 20) (b : ByteArray) (hb : b.size = 128) : In2 l (j + 1) (stS S j b) :=
  ⟨h.well.st (by omega) (by omega) hb, h.at_⟩
theorem In2.fail {l : List ByteArray} {j : Nat} {S : PS} (h : In2 l j S) (hl : l.length ≤ 20) {i : Nat} (hi : i < l.length) : loadE (faS S []) i = (pg l i, 0) := by
  have hw := fa_nil_well h.well.pages h.well.len
  unfold loadE
  rw [if_pos (hw.may (by omega) (by omega))]
  show ((((failed S [] S.afl.length).1.getD ((i : Int)).toNat ⟨#[]⟩, (0 : Int)))) = _
  rw [failed_nil, Int.toNat_natCast]
  simp [List.getD, h.at_ i hi]
set_option maxHeartbeats 8000000 in
set_option maxRecDepth 100000 in
theorem lasts_any (w0 : World) (A : Option Addr) (c : Nat) (l : List ByteArray) (A2 : Option Addr) (c2 : Nat) (l2 : List ByteArray) (hr : Kd.C Kd.string w0 A l.length l) (hc : l.length ≤ c) (hr2 : Kd.C Kd.string w0 A2 l2.length l2) (hc2 : l2.length ≤ c2) :
    Calls Try.prog 4 #[.slice A l.length c, .slice A2 l2.length c2] w0 fun e w' => e = .returned (.bool true) ∧ Below w0.heap.size w0 w' := by
  have HB := Aside0.mk (Below.refl w0.heap.size w0)
  have HR := Aside0.mk hr
  have HR2 := Aside0.mk hr2
  clear hr hr2 hc hc2
  by_cases h0 : 15 < l.length
  · have t0 := decide_eq_true h0
    have u0 : decide (15 < (l.length : Int)) = true := decide_eq_true (by omega)
    clear h0
    go_enter Try.func4, Try.ntmps4
    go_wp2_with (first | (go_at_call 11; (with_reducible refine (alive_any _).mono ?_); rintro e w1 ⟨rfl, hb⟩; have n0_ := Aside0.mk (below_step HB.out hb); clear HB; have HB := n0_; clear n0_))
    go_ret
    exact ⟨by first | rfl | simp, HB.out⟩
  have t0 := decide_eq_false h0
  have u0 : decide (15 < (l.length : Int)) = false := decide_eq_false (by omega)
  by_cases h1 : 15 < l2.length
  · have t1 := decide_eq_true h1
    have u1 : decide (15 < (l2.length : Int)) = true := decide_eq_true (by omega)
    clear h0
    clear h1
    go_enter Try.func4, Try.ntmps4
    go_wp2_with (first | (go_at_call 11; (with_reducible refine (alive_any _).mono ?_); rintro e w1 ⟨rfl, hb⟩; have n0_ := Aside0.mk (below_step HB.out hb); clear HB; have HB := n0_; clear n0_))
    go_ret
    exact ⟨by first | rfl | simp, HB.out⟩
  have t1 := decide_eq_false h1
  have u1 : decide (15 < (l2.length : Int)) = false := decide_eq_false (by omega)
  have L1 := Aside0.mk (show l.length ≤ 15 by omega)
  have L2 := Aside0.mk (show l2.length ≤ 15 by omega)
  clear h0 h1
  have hn : ∀ w, Below w0.heap.size w0 w → Calls Try.prog 12 #[.int .i64 20] w fun e w' => ∃ g, e = .returned (.pointer (some ⟨g, 0, none⟩)) ∧ IsQ w0 w' g (newS 20) := fun w h => q_new w0 w h 20 (by decide) (by decide)
  have hf : ∀ (s : ByteArray) w g S, IsQ w0 w g S → Calls Try.prog 13 #[.string s] w fun e w' => e = .returned (.string (fill s)) ∧ IsQ w0 w' g S := fun s w g S h => q_fill h s
  have X0 := Aside0.mk hn
  have XF := Aside0.mk hf
  clear hn hf
  go_enter Try.func4, Try.ntmps4
  go_wp2_with (first
    | (go_at_call 11; (with_reducible refine (alive_any _).mono ?_); rintro e w1 ⟨rfl, hb⟩; have n0_ := Aside0.mk (below_step HB.out hb); clear HB; have HB := n0_; clear n0_)
    | (go_at_call 12; go_must (with_reducible refine (X0.out _ HB.out).mono ?_); rintro e w1 ⟨g, rfl, hq⟩; have IPc := Aside0.mk hq; clear hq))
  go_loopg [32] l.length (fun kq v32 w' => ∃ j : Nat, v32 = .int .i64 j ∧ Aside0 (j ≤ l.length ∧ l.length ≤ j + kq) ∧ ∃ S, Aside0 (In1 l j S) ∧ Aside0 (IsQ w0 w' g S))
  case atStart => exact ⟨0, rfl, ⟨Nat.zero_le _, by omega⟩, _, ⟨WellS.new 20, fun i hi => by omega⟩, IPc⟩
  case round =>
    clear IPc
    obtain ⟨j, rfl, HJ, S, HS, IPc⟩ := hrel
    by_cases hjn : j < l.length
    · have d1 : decide ((j : Int) < (l.length : Int)) = true := decide_eq_true (by omega)
      have d2 : decide (j < l.length) = true := decide_eq_true hjn; have d5 : (j < l.length) = True := eq_true hjn; have d6 : ((j : Int) < (l.length : Int)) = True := eq_true (by omega)
      have d3 : (0 ≤ (j : Int)) = True := eq_true (by omega)
      cases gk with
      | zero => have := HJ.out; omega
      | succ kk =>
        obtain ⟨ad, e0, hx⟩ := Kd.at_string (Kd.C_below HR.out IPc.out.1) (j : Int) (by omega) (by omega)
        simp only [Int.toNat_natCast] at hx
        subst e0
        have HN := Aside0.mk hjn
        clear hjn
        go_wp2_with (first
          | (go_at_call 13; go_must (with_reducible refine (XF.out _ _ _ _ IPc.out).mono ?_); rintro e w1 ⟨rfl, hq⟩; rw [← pg_def]; clear IPc; have IPc := Aside0.mk hq; clear hq)
          | (go_at_call 14; go_must (with_reducible refine (q_st IPc.out HS.out.well j (pg l j) (by omega) (by have := HN.out; have := L1.out; omega) (pg_size _ _) (by have := HN.out; have := L1.out; omega) (by decide)).mono ?_); rintro e w1 ⟨rfl, hq, -⟩; clear IPc; have IPc := Aside0.mk hq; clear hq))
        go_roundg kk
        case measure => omega
        case rel =>
          refine ⟨j + 1, ?_, ⟨by have := HJ.out; have := HN.out; omega⟩, _, ⟨HS.out.step (by have := HN.out; have := L1.out; omega)⟩, IPc⟩
          rw [Value.int.injEq]; refine ⟨rfl, ?_⟩; have := HN.out; have := L1.out; first | (rw [IntKind.wrap_i64]; omega) | (unfold wrap64; omega)
    · have hj : j = l.length := by have := HJ.out; omega
      have HS1 : Aside0 (In1 l l.length S) := ⟨hj ▸ HS.out⟩
      have d1 : decide ((j : Int) < (l.length : Int)) = false := decide_eq_false (by omega)
      have d2 : decide (j < l.length) = false := decide_eq_false hjn
      clear hjn hj HS HJ
      go_wp2_with (first
          | (go_at_call 15; go_must (with_reducible refine (q_se IPc.out HS1.out.well (by have := L1.out; omega)).mono ?_); rintro e w1 ⟨rfl, hq⟩; clear IPc; have IPc := Aside0.mk hq; clear hq))
      go_loopg [49] l2.length (fun kq v49 w' => ∃ j : Nat, v49 = .int .i64 j ∧ Aside0 (j ≤ l2.length ∧ l2.length ≤ j + kq) ∧ ∃ S, Aside0 (In2 l j S) ∧ Aside0 (IsQ w0 w' g S))
      case atStart => exact ⟨0, rfl, ⟨Nat.zero_le _, by omega⟩, _, ⟨HS1.out.last (by have := L1.out; omega)⟩, IPc⟩
      case round =>
        clear IPc HS1
        obtain ⟨i, rfl, HJ, S, HS, IPc⟩ := hrel
        by_cases hjn : i < l2.length
        · have d1 : decide ((i : Int) < (l2.length : Int)) = true := decide_eq_true (by omega)
          have d2 : decide (i < l2.length) = true := decide_eq_true hjn; have d5 : (i < l2.length) = True := eq_true hjn; have d6 : ((i : Int) < (l2.length : Int)) = True := eq_true (by omega)
          have d3 : (0 ≤ (i : Int)) = True := eq_true (by omega)
          cases gk with
          | zero => have := HJ.out; omega
          | succ kk =>
            obtain ⟨ad, e0, hx⟩ := Kd.at_string (Kd.C_below HR2.out IPc.out.1) (i : Int) (by omega) (by omega)
            simp only [Int.toNat_natCast] at hx
            subst e0
            have HN := Aside0.mk hjn
            clear hjn
            go_wp2_with (first
              | (go_at_call 13; go_must (with_reducible refine (XF.out _ _ _ _ IPc.out).mono ?_); rintro e w1 ⟨rfl, hq⟩; rw [← pg_def]; clear IPc; have IPc := Aside0.mk hq; clear hq)
              | (go_at_call 14; go_must (with_reducible refine (q_st IPc.out HS.out.well i (pg l2 i) (by omega) (by have := HN.out; have := L2.out; omega) (pg_size _ _) (by have := HN.out; have := L2.out; omega) (by decide)).mono ?_); rintro e w1 ⟨rfl, hq, -⟩; clear IPc; have IPc := Aside0.mk hq; clear hq))
            go_roundg kk
            case measure => omega
            case rel =>
              refine ⟨i + 1, ?_, ⟨by have := HJ.out; have := HN.out; omega⟩, _, ⟨HS.out.step (by have := HN.out; have := L2.out; omega) _ (fill_size _)⟩, IPc⟩
              rw [Value.int.injEq]; refine ⟨rfl, ?_⟩; have := HN.out; have := L2.out; first | (rw [IntKind.wrap_i64]; omega) | (unfold wrap64; omega)
        · have HJ2 := HJ.out
          have d1 : decide ((i : Int) < (l2.length : Int)) = false := decide_eq_false (by omega)
          have d2 : decide (i < l2.length) = false := decide_eq_false hjn
          clear hjn HJ2
          go_wp2_with (first
            | (go_at_call 16; go_must (with_reducible refine (q_fail_nil IPc.out HS.out.well.pages (by rw [HS.out.well.few]; have := HJ.out; have := L2.out; omega)).mono ?_); rintro e w1 ⟨rfl, hq⟩; clear IPc; have IPc := Aside0.mk hq; clear hq))
          go_loopg [66] l.length (fun kq v66 w' => ∃ j : Nat, v66 = .int .i64 j ∧ Aside0 (j ≤ l.length ∧ l.length ≤ j + kq) ∧ Aside0 (IsQ w0 w' g (faS S [])))
          case atStart => exact ⟨0, rfl, ⟨Nat.zero_le _, by omega⟩, IPc⟩
          case round =>
            clear IPc
            obtain ⟨k, rfl, HK, IPc⟩ := hrel
            by_cases hjn : k < l.length
            · have d1 : decide ((k : Int) < (l.length : Int)) = true := decide_eq_true (by omega)
              have d2 : decide (k < l.length) = true := decide_eq_true hjn; have d5 : (k < l.length) = True := eq_true hjn; have d6 : ((k : Int) < (l.length : Int)) = True := eq_true (by omega)
              have d3 : (0 ≤ (k : Int)) = True := eq_true (by omega)
              cases gk with
              | zero => have := HK.out; omega
              | succ kk =>
                obtain ⟨ad, e0, hx⟩ := Kd.at_string (Kd.C_below HR.out IPc.out.1) (k : Int) (by omega) (by omega)
                simp only [Int.toNat_natCast] at hx
                subst e0
                have HN := Aside0.mk hjn
                clear hjn
                have HLD := Aside0.mk (HS.out.fail (by have := L1.out; omega) HN.out)
                go_wp2_with (first
                  | (go_at_call 13; go_must (with_reducible refine (XF.out _ _ _ _ IPc.out).mono ?_); rintro e w1 ⟨rfl, hq⟩; rw [← pg_def]; clear IPc; have IPc := Aside0.mk hq; clear hq)
                  | (go_at_call 17; go_must (with_reducible refine (q_load IPc.out k (Go.WalkArith.wf_i64 (by have := HN.out; have := L1.out; omega)) HLD.out).mono ?_); rintro e w1 ⟨rfl, hq⟩; clear IPc; have IPc := Aside0.mk hq; clear hq))
                go_roundg kk
                case measure => omega
                case rel =>
                  refine ⟨k + 1, ?_, ⟨by have := HK.out; have := HN.out; omega⟩, IPc⟩
                  rw [Value.int.injEq]; refine ⟨rfl, ?_⟩; have := HN.out; have := L1.out; first | (rw [IntKind.wrap_i64]; omega) | (unfold wrap64; omega)
            · have d1 : decide ((k : Int) < (l.length : Int)) = false := decide_eq_false (by omega)
              have d2 : decide (k < l.length) = false := decide_eq_false hjn
              clear hjn
              go_wp2
              go_ret
              exact ⟨by first | rfl | simp, by have HB := Aside0.mk IPc.out.1; repeat (first | (with_reducible first | exact HB.out | apply below_alloc | apply pw_below_drewN | apply below_drew1) | exact HB.out)⟩
end Go.Proofs.Ytcmldpacgbhfmaa.V
