/- PlatterEdges, walked. -/
import Derived.Test.YtcmldpacgbhfmaaP8
import Derived.BigQuiet
namespace Go.Proofs.Ytcmldpacgbhfmaa.V
open Go.RowKit Go.Proofs.YtcmldpacgbhfmaaW.PrintWords Go.Proofs.YtcmldpacgbhfmaaW.PrintLast Go.Proofs.YtcmldpacgbhfmaaW.PrintMore
set_option linter.unusedVariables false
set_option linter.unusedSimpArgs false

def E0 (n : Nat) : PS := haltE (newS n) 1
def sX : ByteArray := ⟨#[120]⟩
theorem strOfNums_zer (m : Nat) : strOfNums (List.replicate ((m : Int)).toNat 0) = zer m := by rw [Int.toNat_natCast, strOfZeros]
theorem E0may (n : Nat) (i : Int) : mayE (E0 n) i = if i < 0 then 6 else if (n : Int) ≤ i then 6 else 0 := by
  unfold mayE E0 haltE newS
  simp
theorem E0may0 (n : Nat) (h : 1 ≤ n) : mayE (E0 n) 0 = 0 := by
  have h0 : ¬ ((0 : Int) < 0) := by decide
  have h1 : ¬ ((n : Int) ≤ 0) := by omega
  rw [E0may, if_neg h0, if_neg h1]
theorem E0go (n : Nat) : (if (E0 n).halts = true then (if (E0 n).after = 0 then (7 : Int) else 0) else 0) = 0 := by
  show (if true = true then (if (1 : Int) = 0 then (7 : Int) else 0) else 0) = 0
  decide
theorem E0max (n : Nat) : max (wrap64 ((E0 n).after - 1)) 0 = 0 := by
  show max (wrap64 (1 - 1)) 0 = 0
  unfold wrap64
  decide
set_option maxHeartbeats 8000000 in
set_option maxRecDepth 100000 in
theorem edges_any (n at_ size : Int) (wn : (Lit.int .i64 n).wf = true) (wa : (Lit.int .i64 at_).wf = true) (ws : (Lit.int .i64 size).wf = true) (w0 : World) :
    Calls Try.prog 8 #[.int .i64 n, .int .i64 at_, .int .i64 size] w0 fun e w' => e = .returned (.bool true) ∧ Below w0.heap.size w0 w' := by
  have HB := Aside0.mk (Below.refl w0.heap.size w0)
  by_cases h0 : n < 1
  · have t0 := decide_eq_true h0
    clear h0
    go_enter Try.func8, Try.ntmps8
    go_wp2_with (first | (go_at_call 11; (with_reducible refine (alive_any _).mono ?_); rintro e w1 ⟨rfl, hb⟩; have n0_ := Aside0.mk (below_step HB.out hb); clear HB; have HB := n0_; clear n0_))
    go_ret
    exact ⟨by first | rfl | simp, HB.out⟩
  have t0 := decide_eq_false h0
  by_cases h1 : 30 < n
  · have t1 := decide_eq_true h1
    clear h0
    clear h1
    go_enter Try.func8, Try.ntmps8
    go_wp2_with (first | (go_at_call 11; (with_reducible refine (alive_any _).mono ?_); rintro e w1 ⟨rfl, hb⟩; have n0_ := Aside0.mk (below_step HB.out hb); clear HB; have HB := n0_; clear n0_))
    go_ret
    exact ⟨by first | rfl | simp, HB.out⟩
  have t1 := decide_eq_false h1
  by_cases h2 : size < 0
  · have t2 := decide_eq_true h2
    clear h0
    clear h1
    clear h2
    go_enter Try.func8, Try.ntmps8
    go_wp2_with (first | (go_at_call 11; (with_reducible refine (alive_any _).mono ?_); rintro e w1 ⟨rfl, hb⟩; have n0_ := Aside0.mk (below_step HB.out hb); clear HB; have HB := n0_; clear n0_))
    go_ret
    exact ⟨by first | rfl | simp, HB.out⟩
  have t2 := decide_eq_false h2
  by_cases h3 : 300 < size
  · have t3 := decide_eq_true h3
    clear h0
    clear h1
    clear h2
    clear h3
    go_enter Try.func8, Try.ntmps8
    go_wp2_with (first | (go_at_call 11; (with_reducible refine (alive_any _).mono ?_); rintro e w1 ⟨rfl, hb⟩; have n0_ := Aside0.mk (below_step HB.out hb); clear HB; have HB := n0_; clear n0_))
    go_ret
    exact ⟨by first | rfl | simp, HB.out⟩
  have t3 := decide_eq_false h3
  obtain ⟨n, rfl⟩ : ∃ m : Nat, n = m := ⟨n.toNat, by omega⟩
  obtain ⟨m, rfl⟩ : ∃ m : Nat, size = m := ⟨size.toNat, by omega⟩
  have n0 : 1 ≤ n := by omega
  have n1 : n ≤ 30 := by omega
  have m1 : m ≤ 300 := by omega
  clear h0 h1 h2 h3
  have v0 : decide (n < 1) = false := decide_eq_false (by omega)
  have v1 : decide (30 < n) = false := decide_eq_false (by omega)
  have v2 : decide (300 < m) = false := decide_eq_false (by omega)
  have v3 : (n = 0) = False := eq_false (by omega)
  obtain ⟨y, hy⟩ : ∃ y : List Int, y = List.replicate ((m : Int)).toNat 0 := ⟨_, rfl⟩
  obtain ⟨s, hs⟩ : ∃ s, s = strOfNums y := ⟨_, rfl⟩
  have ss : s.size = m := by rw [hs, hy, strOfNums_zer, zer_size]
  have hn : ∀ w, Below w0.heap.size w0 w → Calls Try.prog 12 #[.int .i64 n] w fun e w' => ∃ g, e = .returned (.pointer (some ⟨g, 0, none⟩)) ∧ IsQ w0 w' g (newS n) := fun w h => q_new w0 w h n n0 (by omega)
  have hh : ∀ w g, IsQ w0 w g (newS n) → Calls Try.prog 20 #[.pointer (some ⟨g, 0, none⟩), .int .i64 1] w fun e w' => e = .returned (.tuple #[]) ∧ IsQ w0 w' g (E0 n) := fun w g h => q_halt h 1
  have hst : ∀ w g, IsQ w0 w g (E0 n) → Calls Try.prog 14 #[.pointer (some ⟨g, 0, none⟩), .int .i64 at_, .string (strOfNums y)] w fun e w' => e = .returned (.int .i64 (storeE (E0 n) at_ s)) ∧ IsQ w0 w' g (storeS (E0 n) at_ s) ∧ Others w w' := fun w g h => by rw [← hs]; exact q_storeG h at_ s wa (by show 0 ≤ 1000; decide)
  have M0 := Aside0.mk (show 0 ≤ (m : Int) by omega)
  have M1 := Aside0.mk (show ((m : Int)).toNat ≤ 281474976710656 by omega)
  have NY := Aside0.mk hy
  have SS := Aside0.mk ss
  have N1 := Aside0.mk (show 1 ≤ n ∧ n ≤ 30 from ⟨n0, n1⟩)
  have X0 := Aside0.mk hn
  have X1 := Aside0.mk hh
  have X2 := Aside0.mk hst
  clear hn hh hst n0 n1 m1 hs hy ss
  by_cases ha : at_ < 0
  · have d0 := decide_eq_true ha
    have EE : Aside0 (storeE (E0 n) at_ s = 6) := ⟨by unfold storeE; rw [E0may, if_pos ha]; rfl⟩
    have hS : storeS (E0 n) at_ s = E0 n := by
      unfold storeS
      rw [E0may, if_pos ha]; rfl
    have hx4 : ∀ w g, IsQ w0 w g (storeS (E0 n) at_ s) → Calls Try.prog 14 #[.pointer (some ⟨g, 0, none⟩), .int .i64 0, .string (fill sX)] w fun e w' => e = .returned (.int .i64 0) ∧ IsQ w0 w' g (storeS (E0 n) 0 (fill sX)) ∧ Others w w' := by
      intro w g h
      rw [hS] at h
      have := q_storeG h 0 (fill sX) (by decide) (by show 0 ≤ 1000; decide)
      have e : storeE (E0 n) 0 (fill sX) = 0 := by
        unfold storeE
        rw [E0may0 n N1.out.1, if_pos rfl, if_pos (fill_size _)]; exact E0go n
      rw [e] at this
      exact this
    have X4 := Aside0.mk hx4
    clear hx4 hS
    clear ha
    have hfl : ∀ w g, IsQ w0 w g (storeS (E0 n) at_ s) → Calls Try.prog 13 #[.string ⟨#[120]⟩] w fun e w' => e = .returned (.string (fill sX)) ∧ IsQ w0 w' g (storeS (E0 n) at_ s) := fun w g h => q_fill h _
    have X3 := Aside0.mk hfl
    clear hfl
    go_enter Try.func8, Try.ntmps8
    go_wp2_with (first
      | (go_at_call 11; (with_reducible refine (alive_any _).mono ?_); rintro e w1 ⟨rfl, hb⟩; have n0_ := Aside0.mk (below_step HB.out hb); clear HB; have HB := n0_; clear n0_)
      | (go_at_call 12; go_must (with_reducible refine (X0.out _ HB.out).mono ?_); rintro e w1 ⟨g, rfl, hq⟩; have IPc := Aside0.mk hq; clear hq)
      | (go_at_call 20; go_must (with_reducible refine (X1.out _ _ IPc.out).mono ?_); rintro e w1 ⟨rfl, hq⟩; clear IPc; have IPc := Aside0.mk hq; clear hq)
      | (go_at_call 13; go_must (with_reducible refine (X3.out _ _ IPc.out).mono ?_); rintro e w1 ⟨rfl, hq⟩; clear IPc; have IPc := Aside0.mk hq; clear hq)
      | ((with_reducible refine gate_dst (N := 49) rfl ?_); refine Kd.R_make (Kd.int .u8) _ 5 rfl (N := 49) rfl 43 _ _ rfl (m : Int) rfl rfl Try.underlying43 (.int .u8 0) 1 PPlatterTears.info5 rfl (by decide) (by omega) 0 (ok := fun _ => True) (okp := fun _ => True) rfl (fun _ hk => hk) trivial M0.out (Nat.le_trans (Nat.mul_le_mul_right _ M1.out) (by omega)) (Below.refl _ _) (Nat.le_refl _) ?_; intro v105 w5 ho6 hb hg_ hnew_; clear hg_ hnew_; rw [← NY.out] at ho6; have n1_ := Aside0.mk (IPc.out.below hb); have HO := Aside0.mk ho6; clear IPc; have IPc := n1_; clear n1_ hb ho6; have hcv7 := own_string (P := Try.prog) Try.underlying43 Try.underlying5 Try.underlying9 (Kd.own_of_R HO.out))
      | (go_at_call 14; (with_reducible first | refine (X2.out _ _ IPc.out).mono ?_ | refine (X4.out _ _ IPc.out).mono ?_); rintro e w1 ⟨rfl, hq, -⟩; (try rw [EE.out]); clear IPc; have IPc := Aside0.mk hq; clear hq))
    go_ret
    exact ⟨by first | rfl | simp, by have HB := Aside0.mk IPc.out.1; repeat (first | (with_reducible first | exact HB.out | apply below_alloc | apply pw_below_drewN | apply below_drew1) | exact HB.out)⟩
  have d0 := decide_eq_false ha
  by_cases hb : (n : Int) ≤ at_
  · have d1 := decide_eq_true hb
    have EE : Aside0 (storeE (E0 n) at_ s = 6) := ⟨by unfold storeE; rw [E0may, if_neg ha, if_pos hb]; rfl⟩
    have hS : storeS (E0 n) at_ s = E0 n := by
      unfold storeS
      rw [E0may, if_neg ha, if_pos hb]; rfl
    have hx4 : ∀ w g, IsQ w0 w g (storeS (E0 n) at_ s) → Calls Try.prog 14 #[.pointer (some ⟨g, 0, none⟩), .int .i64 0, .string (fill sX)] w fun e w' => e = .returned (.int .i64 0) ∧ IsQ w0 w' g (storeS (E0 n) 0 (fill sX)) ∧ Others w w' := by
      intro w g h
      rw [hS] at h
      have := q_storeG h 0 (fill sX) (by decide) (by show 0 ≤ 1000; decide)
      have e : storeE (E0 n) 0 (fill sX) = 0 := by
        unfold storeE
        rw [E0may0 n N1.out.1, if_pos rfl, if_pos (fill_size _)]; exact E0go n
      rw [e] at this
      exact this
    have X4 := Aside0.mk hx4
    clear hx4 hS
    clear ha hb
    have hfl : ∀ w g, IsQ w0 w g (storeS (E0 n) at_ s) → Calls Try.prog 13 #[.string ⟨#[120]⟩] w fun e w' => e = .returned (.string (fill sX)) ∧ IsQ w0 w' g (storeS (E0 n) at_ s) := fun w g h => q_fill h _
    have X3 := Aside0.mk hfl
    clear hfl
    go_enter Try.func8, Try.ntmps8
    go_wp2_with (first
      | (go_at_call 11; (with_reducible refine (alive_any _).mono ?_); rintro e w1 ⟨rfl, hb⟩; have n0_ := Aside0.mk (below_step HB.out hb); clear HB; have HB := n0_; clear n0_)
      | (go_at_call 12; go_must (with_reducible refine (X0.out _ HB.out).mono ?_); rintro e w1 ⟨g, rfl, hq⟩; have IPc := Aside0.mk hq; clear hq)
      | (go_at_call 20; go_must (with_reducible refine (X1.out _ _ IPc.out).mono ?_); rintro e w1 ⟨rfl, hq⟩; clear IPc; have IPc := Aside0.mk hq; clear hq)
      | (go_at_call 13; go_must (with_reducible refine (X3.out _ _ IPc.out).mono ?_); rintro e w1 ⟨rfl, hq⟩; clear IPc; have IPc := Aside0.mk hq; clear hq)
      | ((with_reducible refine gate_dst (N := 49) rfl ?_); refine Kd.R_make (Kd.int .u8) _ 5 rfl (N := 49) rfl 43 _ _ rfl (m : Int) rfl rfl Try.underlying43 (.int .u8 0) 1 PPlatterTears.info5 rfl (by decide) (by omega) 0 (ok := fun _ => True) (okp := fun _ => True) rfl (fun _ hk => hk) trivial M0.out (Nat.le_trans (Nat.mul_le_mul_right _ M1.out) (by omega)) (Below.refl _ _) (Nat.le_refl _) ?_; intro v105 w5 ho6 hb hg_ hnew_; clear hg_ hnew_; rw [← NY.out] at ho6; have n1_ := Aside0.mk (IPc.out.below hb); have HO := Aside0.mk ho6; clear IPc; have IPc := n1_; clear n1_ hb ho6; have hcv7 := own_string (P := Try.prog) Try.underlying43 Try.underlying5 Try.underlying9 (Kd.own_of_R HO.out))
      | (go_at_call 14; (with_reducible first | refine (X2.out _ _ IPc.out).mono ?_ | refine (X4.out _ _ IPc.out).mono ?_); rintro e w1 ⟨rfl, hq, -⟩; (try rw [EE.out]); clear IPc; have IPc := Aside0.mk hq; clear hq))
    go_ret
    exact ⟨by first | rfl | simp, by have HB := Aside0.mk IPc.out.1; repeat (first | (with_reducible first | exact HB.out | apply below_alloc | apply pw_below_drewN | apply below_drew1) | exact HB.out)⟩
  have d1 := decide_eq_false hb
  by_cases hc : m = 128
  · have d2 : ((m : Int) == 128) = true := beq_iff_eq.2 (by omega)
    have d3 : (m == 128) = true := beq_iff_eq.2 hc
    have d4 : ((m : Int) = 128) = True := eq_true (by omega)
    have mm : mayE (E0 n) at_ = 0 := by rw [E0may, if_neg ha, if_neg hb]
    have EE : Aside0 (storeE (E0 n) at_ s = 0) := ⟨by unfold storeE; rw [mm, if_pos rfl, if_pos (SS.out.trans hc)]; exact E0go n⟩
    have hx4 : ∀ w g, IsQ w0 w g (storeS (E0 n) at_ s) → Calls Try.prog 14 #[.pointer (some ⟨g, 0, none⟩), .int .i64 0, .string (fill sX)] w fun e w' => e = .returned (.int .i64 7) ∧ IsQ w0 w' g (storeS (storeS (E0 n) at_ s) 0 (fill sX)) ∧ Others w w' := by
      intro w g h
      have hS : storeS (E0 n) at_ s = { E0 n with after := 0, afl := [⟨at_, s⟩], last := upd (fun _ => none) at_ s } := by
        unfold storeS
        rw [mm, if_pos rfl, if_pos (SS.out.trans hc), if_neg (fun h => absurd h.2 (by show ¬ ((1 : Int) = 0); decide)), E0max]
        rfl
      have := q_storeG h 0 (fill sX) (by decide) (by rw [hS]; show 1 ≤ 1000; decide)
      have e : storeE (storeS (E0 n) at_ s) 0 (fill sX) = 7 := by
        unfold storeE
        have e0 : mayE (storeS (E0 n) at_ s) 0 = 0 := by
          rw [hS]
          exact E0may0 n N1.out.1
        rw [e0, if_pos rfl, if_pos (fill_size _), hS]; rfl
      rw [e] at this
      exact this
    have X4 := Aside0.mk hx4
    clear hx4 ha hb hc mm
    have hfl : ∀ w g, IsQ w0 w g (storeS (E0 n) at_ s) → Calls Try.prog 13 #[.string ⟨#[120]⟩] w fun e w' => e = .returned (.string (fill sX)) ∧ IsQ w0 w' g (storeS (E0 n) at_ s) := fun w g h => q_fill h _
    have X3 := Aside0.mk hfl
    clear hfl
    go_enter Try.func8, Try.ntmps8
    go_wp2_with (first
      | (go_at_call 11; (with_reducible refine (alive_any _).mono ?_); rintro e w1 ⟨rfl, hb⟩; have n0_ := Aside0.mk (below_step HB.out hb); clear HB; have HB := n0_; clear n0_)
      | (go_at_call 12; go_must (with_reducible refine (X0.out _ HB.out).mono ?_); rintro e w1 ⟨g, rfl, hq⟩; have IPc := Aside0.mk hq; clear hq)
      | (go_at_call 20; go_must (with_reducible refine (X1.out _ _ IPc.out).mono ?_); rintro e w1 ⟨rfl, hq⟩; clear IPc; have IPc := Aside0.mk hq; clear hq)
      | (go_at_call 13; go_must (with_reducible refine (X3.out _ _ IPc.out).mono ?_); rintro e w1 ⟨rfl, hq⟩; clear IPc; have IPc := Aside0.mk hq; clear hq)
      | ((with_reducible refine gate_dst (N := 49) rfl ?_); refine Kd.R_make (Kd.int .u8) _ 5 rfl (N := 49) rfl 43 _ _ rfl (m : Int) rfl rfl Try.underlying43 (.int .u8 0) 1 PPlatterTears.info5 rfl (by decide) (by omega) 0 (ok := fun _ => True) (okp := fun _ => True) rfl (fun _ hk => hk) trivial M0.out (Nat.le_trans (Nat.mul_le_mul_right _ M1.out) (by omega)) (Below.refl _ _) (Nat.le_refl _) ?_; intro v105 w5 ho6 hb hg_ hnew_; clear hg_ hnew_; rw [← NY.out] at ho6; have n1_ := Aside0.mk (IPc.out.below hb); have HO := Aside0.mk ho6; clear IPc; have IPc := n1_; clear n1_ hb ho6; have hcv7 := own_string (P := Try.prog) Try.underlying43 Try.underlying5 Try.underlying9 (Kd.own_of_R HO.out))
      | (go_at_call 14; (with_reducible first | refine (X2.out _ _ IPc.out).mono ?_ | refine (X4.out _ _ IPc.out).mono ?_); rintro e w1 ⟨rfl, hq, -⟩; (try rw [EE.out]); clear IPc; have IPc := Aside0.mk hq; clear hq))
    go_ret
    exact ⟨by first | rfl | simp, by have HB := Aside0.mk IPc.out.1; repeat (first | (with_reducible first | exact HB.out | apply below_alloc | apply pw_below_drewN | apply below_drew1) | exact HB.out)⟩
  have d2 : ((m : Int) == 128) = false := beq_eq_false_iff_ne.2 (by omega)
  have d3 : (m == 128) = false := beq_eq_false_iff_ne.2 hc
  have d4 : ((m : Int) = 128) = False := eq_false (by omega)
  have mm : mayE (E0 n) at_ = 0 := by rw [E0may, if_neg ha, if_neg hb]
  have hne : ¬ s.size = 128 := by rw [SS.out]; exact hc
  have EE : Aside0 (storeE (E0 n) at_ s = 9) := ⟨by unfold storeE; rw [mm, if_pos rfl, if_neg hne]⟩
  have hS : storeS (E0 n) at_ s = E0 n := by
    unfold storeS
    rw [mm, if_pos rfl, if_neg hne]
  have hx4 : ∀ w g, IsQ w0 w g (storeS (E0 n) at_ s) → Calls Try.prog 14 #[.pointer (some ⟨g, 0, none⟩), .int .i64 0, .string (fill sX)] w fun e w' => e = .returned (.int .i64 0) ∧ IsQ w0 w' g (storeS (E0 n) 0 (fill sX)) ∧ Others w w' := by
    intro w g h
    rw [hS] at h
    have := q_storeG h 0 (fill sX) (by decide) (by show 0 ≤ 1000; decide)
    have e : storeE (E0 n) 0 (fill sX) = 0 := by
      unfold storeE
      rw [E0may0 n N1.out.1, if_pos rfl, if_pos (fill_size _)]; exact E0go n
    rw [e] at this
    exact this
  have X4 := Aside0.mk hx4
  clear hx4 hS
  clear ha hb hc mm hne
  have hfl : ∀ w g, IsQ w0 w g (storeS (E0 n) at_ s) → Calls Try.prog 13 #[.string ⟨#[120]⟩] w fun e w' => e = .returned (.string (fill sX)) ∧ IsQ w0 w' g (storeS (E0 n) at_ s) := fun w g h => q_fill h _
  have X3 := Aside0.mk hfl
  clear hfl
  go_enter Try.func8, Try.ntmps8
  go_wp2_with (first
    | (go_at_call 11; (with_reducible refine (alive_any _).mono ?_); rintro e w1 ⟨rfl, hb⟩; have n0_ := Aside0.mk (below_step HB.out hb); clear HB; have HB := n0_; clear n0_)
    | (go_at_call 12; go_must (with_reducible refine (X0.out _ HB.out).mono ?_); rintro e w1 ⟨g, rfl, hq⟩; have IPc := Aside0.mk hq; clear hq)
    | (go_at_call 20; go_must (with_reducible refine (X1.out _ _ IPc.out).mono ?_); rintro e w1 ⟨rfl, hq⟩; clear IPc; have IPc := Aside0.mk hq; clear hq)
    | (go_at_call 13; go_must (with_reducible refine (X3.out _ _ IPc.out).mono ?_); rintro e w1 ⟨rfl, hq⟩; clear IPc; have IPc := Aside0.mk hq; clear hq)
    | ((with_reducible refine gate_dst (N := 49) rfl ?_); refine Kd.R_make (Kd.int .u8) _ 5 rfl (N := 49) rfl 43 _ _ rfl (m : Int) rfl rfl Try.underlying43 (.int .u8 0) 1 PPlatterTears.info5 rfl (by decide) (by omega) 0 (ok := fun _ => True) (okp := fun _ => True) rfl (fun _ hk => hk) trivial M0.out (Nat.le_trans (Nat.mul_le_mul_right _ M1.out) (by omega)) (Below.refl _ _) (Nat.le_refl _) ?_; intro v105 w5 ho6 hb hg_ hnew_; clear hg_ hnew_; rw [← NY.out] at ho6; have n1_ := Aside0.mk (IPc.out.below hb); have HO := Aside0.mk ho6; clear IPc; have IPc := n1_; clear n1_ hb ho6; have hcv7 := own_string (P := Try.prog) Try.underlying43 Try.underlying5 Try.underlying9 (Kd.own_of_R HO.out))
    | (go_at_call 14; (with_reducible first | refine (X2.out _ _ IPc.out).mono ?_ | refine (X4.out _ _ IPc.out).mono ?_); rintro e w1 ⟨rfl, hq, -⟩; (try rw [EE.out]); clear IPc; have IPc := Aside0.mk hq; clear hq))
  go_ret
  exact ⟨by first | rfl | simp, by have HB := Aside0.mk IPc.out.1; repeat (first | (with_reducible first | exact HB.out | apply below_alloc | apply pw_below_drewN | apply below_drew1) | exact HB.out)⟩
end Go.Proofs.Ytcmldpacgbhfmaa.V
