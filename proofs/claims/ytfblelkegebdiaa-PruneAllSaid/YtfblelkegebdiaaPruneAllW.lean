/- PruneAll, walked. -/
import Derived.Test.YtfblelkegebdiaaPruneFarW
import Derived.Test.YtfblelkegebdiaaPM
namespace Go.Proofs.Ytfblelkegebdiaa.V
open Go.Proofs Go.RowKit Go.Lib Go.Proofs.YtfblelkegebdiaaW.PrintWords Go.Proofs.YtfblelkegebdiaaW.PrintLast Go.Proofs.YtfblelkegebdiaaW.PrintMore
set_option linter.unusedVariables false
set_option linter.unusedSimpArgs false

set_option maxHeartbeats 8000000 in
set_option maxRecDepth 100000 in
theorem all_out (n x y : Int) (h : n < 0 ∨ 30 < n ∨ 1152921504606846976 < x ∨ x < -1152921504606846976 ∨ 1152921504606846976 < y ∨ y < -1152921504606846976) (w : World) :
    Calls Try.prog 7 #[.int .i64 n, .agg #[.int .i64 x, .int .i64 y]] w (T_ok w) := by
  have HA := Aside0.mk alive_any
  have HB0 := Aside0.mk (below_alloc (Below.refl w.heap.size w) (.cells #[.int .i64 x, .int .i64 y] 26))
  obtain ⟨b1, hb1⟩ : ∃ b, b = decide (n < 0) := ⟨_, rfl⟩
  obtain ⟨b2, hb2⟩ : ∃ b, b = decide (30 < n) := ⟨_, rfl⟩
  obtain ⟨b3, hb3⟩ : ∃ b, b = decide (1152921504606846976 < x) := ⟨_, rfl⟩
  obtain ⟨b4, hb4⟩ : ∃ b, b = decide (x < -1152921504606846976) := ⟨_, rfl⟩
  obtain ⟨b5, hb5⟩ : ∃ b, b = decide (1152921504606846976 < y) := ⟨_, rfl⟩
  obtain ⟨b6, hb6⟩ : ∃ b, b = decide (y < -1152921504606846976) := ⟨_, rfl⟩
  have hf : b1 = true ∨ b2 = true ∨ b3 = true ∨ b4 = true ∨ b5 = true ∨ b6 = true := by rw [hb1, hb2, hb3, hb4, hb5, hb6]; simp only [decide_eq_true_eq]; omega
  have HF := Aside0.mk hf
  clear h hf
  replace hb1 := hb1.symm
  replace hb2 := hb2.symm
  replace hb3 := hb3.symm
  replace hb4 := hb4.symm
  replace hb5 := hb5.symm
  replace hb6 := hb6.symm
  go_enter Try.func7, Try.ntmps7
  go_wp2_with (fail)
  all_goals (with_reducible refine (HA.out _).mono ?_)
  all_goals (rintro e w1 ⟨rfl, hb⟩)
  all_goals (have HB := Aside0.mk (below_step HB0.out hb))
  all_goals (clear hb hb1 hb2 hb3 hb4 hb5 hb6)
  all_goals first
    | (exfalso; have hf := HF.out; simp_all; done)
    | (go_wp2_with (fail)
       go_ret
       exact ⟨rfl, HB.out⟩)
set_option maxHeartbeats 8000000 in
set_option maxRecDepth 100000 in
theorem all_in (N : Nat) (x y : Int) (hN : N ≤ 30) (x1 : -1152921504606846976 ≤ x) (x2 : x ≤ 1152921504606846976) (y1 : -1152921504606846976 ≤ y) (y2 : y ≤ 1152921504606846976) (w : World) :
    Calls Try.prog 7 #[.int .i64 (N : Int), .agg #[.int .i64 x, .int .i64 y]] w (T_ok w) := by
  have HA := Aside0.mk alive_any
  have HB0 := Aside0.mk (below_alloc (Below.refl w.heap.size w) (.cells #[.int .i64 x, .int .i64 y] 26))
  have HX0 := Aside0.mk ((MapKept.heap_alloc w (.cells #[.int .i64 x, .int .i64 y] 26)).1)
  have d1 : decide ((N : Int) < 0) = false := decide_eq_false (by omega)
  have d2 : decide (30 < (N : Int)) = false := decide_eq_false (by omega)
  have d22 : decide (30 < N) = false := decide_eq_false (by omega)
  have d3 : decide (1152921504606846976 < x) = false := decide_eq_false (by omega)
  have d4 : decide (x < -1152921504606846976) = false := decide_eq_false (by omega)
  have d5 : decide (1152921504606846976 < y) = false := decide_eq_false (by omega)
  have d6 : decide (y < -1152921504606846976) = false := decide_eq_false (by omega)
  go_enter Try.func7, Try.ntmps7
  go_wp2_with (fail)
  with_reducible refine (HA.out _).mono ?_
  rintro e w1 ⟨rfl, hb⟩
  have HB1 := Aside0.mk (below_step HB0.out hb)
  have HX1 := Aside0.mk ((hb.block _ (blk_lt HX0.out)).trans HX0.out)
  clear hb HA HB0 HX0
  go_wp2_with (fail)
  clear d1 d2 d22 d3 d4 d5 d6
  go_loopg [5, 6] N (fun kx v5 v6 wr => ∃ k : Nat, v6 = .int .i64 k ∧ Aside0 (k + kx = N) ∧ Aside0 (k28.R 28 wr w.heap.size (fun k => w.heap.size ≤ k) v5 (allL x y k)) ∧ Aside0 (Below w.heap.size w wr) ∧ Aside0 (wr.heap[w.heap.size]? = some (.cells #[.int .i64 x, .int .i64 y] 26)))
  case atStart => exact ⟨0, rfl, ⟨by omega⟩, ⟨Kd.R_nil _ _ _ _ _⟩, HB1, HX1⟩
  case round =>
    clear HB1 HX1
    obtain ⟨k, rfl, HK, HR, HB, HX⟩ := hrel
    cases gk with
    | zero =>
      have hk : k = N := by have := HK.out; omega
      subst hk
      have d1 : decide ((k : Int) < (k : Int)) = false := decide_eq_false (by omega)
      have d2 : decide (k < k) = false := decide_eq_false (by omega)
      obtain ⟨A, c, rfl, hc, hC⟩ := Kd.R_reads HR.out
      have HP := Aside0.mk (pairs_any wr A c (allL x y k) hC hc (by rw [allL_length]; omega))
      have HS := Aside0.mk (fun (W : World) (h : Below wr.heap.size wr W) => sorted_full W A c (allL x y k) (Kd.C_below hC h) hc (by rw [allL_length]; omega))
      rw [all_pairs] at HP
      rw [allL_length] at HP HS ⊢
      clear hC hc HR
      obtain ⟨L, hL⟩ : ∃ L, L = (allP k).length := ⟨_, rfl⟩
      have hcount := all_count k (by omega)
      rw [← hL] at hcount
      have e0 : ((L : Int) == wrap64 ((wrap64 ((k : Int) * ((k : Int) - 1))).tdiv 2)) = true := beq_iff_eq.2 hcount
      have HE := Aside0.mk e0
      clear hcount e0
      go_wp2_with (fail)
      with_reducible refine (HP.out).mono ?_
      rintro e w2 ⟨v, rfl, hR, hb⟩
      obtain ⟨A2, c2, rfl⟩ := Kd.R_slice hR
      rw [← hL]
      have HB2 := Aside0.mk hb
      clear HP hb hR hL
      have e0 := HE.out
      by_cases hk1 : k < 1
      · have d3 : decide ((k : Int) < 1) = true := decide_eq_true (by omega)
        have d4 : decide (k < 1) = true := decide_eq_true hk1
        clear hk1
        go_wp2_with (fail)
        go_ret
        exact ⟨rfl, below_step HB.out HB2.out⟩
      · have d3 : decide ((k : Int) < 1) = false := decide_eq_false (by omega)
        have d4 : decide (k < 1) = false := decide_eq_false hk1
        have d5 : (k = 0) = False := eq_false (by omega)
        go_wp2_with (fail)
        with_reducible refine (HS.out _ HB2.out).mono ?_
        rintro e w3 ⟨v, d, rfl, hR, hP, hb, _⟩
        obtain ⟨A3, c3, rfl⟩ := Kd.R_slice hR
        rw [show (List.map (fun i : Nat => (i : Int)) d).length = k by rw [List.length_map, hP.length_eq, List.length_range]]
        have HB3 := Aside0.mk (below_step HB2.out hb)
        clear hR hP hb e0
        go_wp2_with (fail)
        with_reducible refine (HS.out _ HB3.out).mono ?_
        rintro e w4 ⟨v, d, rfl, hR, hP, hb, hs⟩
        obtain ⟨r, hd⟩ := all_first x y k d hP hs (by omega)
        obtain ⟨A4, c4, rfl, _, hC4⟩ := Kd.R_reads hR
        have hlen : (List.map (fun i : Nat => (i : Int)) d).length = k := by rw [List.length_map, hP.length_eq, List.length_range]
        obtain ⟨ad, rfl, hx⟩ := Kd.at_int hC4 0 (by omega) (by rw [hlen]; omega)
        rw [hlen]
        have hr0 : rd (List.map (fun i : Nat => (i : Int)) d) 0 = (k : Int) - 1 := by rw [hd]; show ((k - 1 : Nat) : Int) = (k : Int) - 1; omega
        rw [hr0, show ad.add (Int.toNat 0) = ad from by cases ad; simp [Addr.add]] at hx
        have HB4 := Aside0.mk (below_step HB3.out hb)
        clear hR hP hb hs hd hlen hr0 hC4
        have f1 : (0 < (k : Int)) = True := eq_true (by omega)
        have f2 : (0 < k) = True := eq_true (by omega)
        go_wp2_with (fail)
        go_ret
        exact ⟨by first | rfl | simp, below_step HB.out HB4.out⟩
    | succ gk =>
      have hk : k < N := by have := HK.out; omega
      have d1 : decide ((k : Int) < (N : Int)) = true := decide_eq_true (by omega)
      have d2 : decide (k < N) = true := decide_eq_true (by omega)
      have hl : (allL x y k).length ≤ 30 := by rw [allL_length]; omega
      have x0 := blk_cell HX.out 0
      have xx1 := blk_cell HX.out 1
      change wr.cell? ⟨w.heap.size, 0, none⟩ = some (.int .i64 x) at x0
      change wr.cell? ⟨w.heap.size, 1, none⟩ = some (.int .i64 y) at xx1
      have e2 : IntKind.i64.wrap (2 * (k : Int)) = 2 * (k : Int) := by rw [IntKind.wrap_i64]; omega
      go_wp2_with (first
        | ((with_reducible refine gate_builtin (b := .append) (xs := #[.tmp 45, .tmp 66]) rfl ?_); at_builtin; go_must (refine Kd.R_append k28 w.heap.size rfl (.tmp 45) (.tmp 66) 22 28 (.agg #[(.int .i64 0), (.int .i64 0), (.int .i64 0), (.int .i64 0)]) 32 rfl Try.underlying22 info28 rfl (by decide) (by omega) u5 (allL x y k) (allB x y k) [.int .i64 (x - k), .int .i64 (y - 2 * k), .int .i64 (x + k), .int .i64 (y + k)] (fun k => w.heap.size ≤ k) (fun _ => False) rfl rfl (k28_mkM _ _ _ _) (fun _ hk => hk.elim) ?aF HR.out HB.out HB.out.size (by omega) ?_); (case aF => exact fun k hk => Nat.le_trans HB.out.size hk); intro v5_ w5_ ho_ hb_ hg_ hat_; rw [← allL_snoc] at ho_; have HR2 := Aside0.mk ho_; have HB2 := Aside0.mk hb_; have HX2 := Aside0.mk ((hg_.block _ (blk_lt HX.out) (Kd.R_ne HR.out HX.out (by decide))).trans HX.out); clear ho_ hb_ hg_ hat_))
      go_roundg gk
      case measure => omega
      case rel => exact ⟨k + 1, by first | rfl | go_num, ⟨by have := HK.out; omega⟩, HR2, HB2, HX2⟩
theorem all_any (n x y : Int) (wn : (Lit.int .i64 n).wf = true) (wx : (Lit.int .i64 x).wf = true) (wy : (Lit.int .i64 y).wf = true) (w : World) :
    Calls Try.prog 7 #[.int .i64 n, .agg #[.int .i64 x, .int .i64 y]] w fun e w' => e = .returned (.bool true) ∧ Below w.heap.size w w' := by
  by_cases h : n < 0 ∨ 30 < n ∨ 1152921504606846976 < x ∨ x < -1152921504606846976 ∨ 1152921504606846976 < y ∨ y < -1152921504606846976
  · exact all_out n x y h w
  · obtain ⟨N, rfl⟩ : ∃ N : Nat, n = (N : Int) := ⟨n.toNat, by omega⟩
    exact all_in N x y (by omega) (by omega) (by omega) (by omega) (by omega) w
end Go.Proofs.Ytfblelkegebdiaa.V
