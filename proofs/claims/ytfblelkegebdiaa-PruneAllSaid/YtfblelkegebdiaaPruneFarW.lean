/- PruneFar, walked. -/
import Derived.Test.YtfblelkegebdiaaT5
namespace Go.Proofs.Ytfblelkegebdiaa.V
open Go.Proofs Go.RowKit Go.Lib Go.Proofs.YtfblelkegebdiaaW.PrintWords Go.Proofs.YtfblelkegebdiaaW.PrintLast Go.Proofs.YtfblelkegebdiaaW.PrintMore
set_option linter.unusedVariables false
set_option linter.unusedSimpArgs false

def T_ok (w0 : World) (e : Ending) (w' : World) : Prop := e = .returned (.bool true) ∧ Below w0.heap.size w0 w'
set_option maxHeartbeats 8000000 in
set_option maxRecDepth 100000 in
theorem far_out (n gap : Int) (h : n < 1 ∨ 30 < n ∨ gap < -2 ∨ 1073741824 < gap) (w : World) :
    Calls Try.prog 4 #[.int .i64 n, .int .i64 gap] w (T_ok w) := by
  have HA := Aside0.mk (alive_any w)
  by_cases h1 : n < 1
  · have d1 := decide_eq_true h1
    clear h h1
    go_enter Try.func4, Try.ntmps4
    go_wp2_with (fail)
    with_reducible refine (HA.out).mono ?_
    rintro e w1 ⟨rfl, hb⟩
    have HB := Aside0.mk hb
    clear hb
    go_wp2_with (fail)
    go_ret
    exact ⟨rfl, HB.out⟩
  have d1 := decide_eq_false h1
  by_cases h2 : 30 < n
  · have d2 := decide_eq_true h2
    clear h h1 h2
    go_enter Try.func4, Try.ntmps4
    go_wp2_with (fail)
    with_reducible refine (HA.out).mono ?_
    rintro e w1 ⟨rfl, hb⟩
    have HB := Aside0.mk hb
    clear hb
    go_wp2_with (fail)
    go_ret
    exact ⟨rfl, HB.out⟩
  have d2 := decide_eq_false h2
  by_cases h3 : gap < -2
  · have d3 := decide_eq_true h3
    clear h h1 h2 h3
    go_enter Try.func4, Try.ntmps4
    go_wp2_with (fail)
    with_reducible refine (HA.out).mono ?_
    rintro e w1 ⟨rfl, hb⟩
    have HB := Aside0.mk hb
    clear hb
    go_wp2_with (fail)
    go_ret
    exact ⟨rfl, HB.out⟩
  have d3 := decide_eq_false h3
  have h4 : 1073741824 < gap := by omega
  have d4 := decide_eq_true h4
  clear h h1 h2 h3 h4
  go_enter Try.func4, Try.ntmps4
  go_wp2_with (fail)
  with_reducible refine (HA.out).mono ?_
  rintro e w1 ⟨rfl, hb⟩
  have HB := Aside0.mk hb
  clear hb
  go_wp2_with (fail)
  go_ret
  exact ⟨rfl, HB.out⟩
set_option maxHeartbeats 8000000 in
set_option maxRecDepth 100000 in
theorem far_in (M : Nat) (gap : Int) (h0 : M < 30) (h1 : -2 ≤ gap) (h2 : gap ≤ 1073741824) (w : World) :
    Calls Try.prog 4 #[.int .i64 ((M + 1 : Nat) : Int), .int .i64 gap] w (T_ok w) := by
  have HA := Aside0.mk (alive_any w)
  obtain ⟨N, hN⟩ : ∃ N, N = M + 1 := ⟨_, rfl⟩
  have HN := Aside0.mk hN
  rw [← hN]
  have hN1 : 1 ≤ N := by omega
  have hN2 : N ≤ 30 := by omega
  clear hN
  have d1 : decide ((N : Int) < 1) = false := decide_eq_false (by omega)
  have d2 : decide (30 < (N : Int)) = false := decide_eq_false (by omega)
  have d3 : decide (gap < -2) = false := decide_eq_false (by omega)
  have d4 : decide (1073741824 < gap) = false := decide_eq_false (by omega)
  have d5 : decide (N < 1) = false := decide_eq_false (by omega)
  have d6 : decide (30 < N) = false := decide_eq_false (by omega)
  have d7 : (N = 0) = False := eq_false (by omega)
  have HG := Aside0.mk (And.intro h1 h2)
  go_enter Try.func4, Try.ntmps4
  go_wp2_with (fail)
  with_reducible refine (HA.out).mono ?_
  rintro e w1 ⟨rfl, hb⟩
  have HB1 := Aside0.mk hb
  clear hb HA
  go_wp2_with (fail)
  clear d1 d2 d3 d4 d5 d6 d7
  go_loopg [5, 6] N (fun kx v5 v6 wr => ∃ k : Nat, v6 = .int .i64 k ∧ Aside0 (k + kx = N) ∧ Aside0 (k28.R 28 wr w.heap.size (fun _ => True) v5 (farL (10 + gap) k)) ∧ Aside0 (Below w.heap.size w wr))
  case atStart => exact ⟨0, rfl, ⟨by omega⟩, ⟨Kd.R_nil _ _ _ _ _⟩, HB1⟩
  case round =>
    clear HB1
    obtain ⟨k, rfl, HK, HR, HB⟩ := hrel
    cases gk with
    | zero =>
      have hk : k = N := by have := HK.out; omega
      subst hk
      have d1 : decide ((k : Int) < (k : Int)) = false := decide_eq_false (by omega)
      have d2 : decide (k < k) = false := decide_eq_false (by omega)
      obtain ⟨A, c, rfl, hc, hC⟩ := Kd.R_reads HR.out
      have HP := fun (W : World) (hh : k28.C W A (farL (10 + gap) k).length (farL (10 + gap) k)) => pairs_any W A c (farL (10 + gap) k) hh hc (by rw [farL_length]; omega)
      have HPP := Aside0.mk (HP _ hC)
      rw [farL_length] at HPP ⊢
      clear HP hC hc
      go_wp2_with (fail)
      with_reducible refine (HPP.out).mono ?_
      rintro e w2 ⟨v, rfl, hR, hb⟩
      have HB2 := Aside0.mk (below_step HB.out hb)
      clear HPP hb HB
      by_cases hg : 0 < gap
      · have d3 : decide (0 < gap) = true := decide_eq_true hg
        rw [far_none (10 + gap) k (by omega)] at hR
        obtain ⟨A2, c2, rfl⟩ := Kd.R_slice hR
        have e0 : (([] : List Pr).length : Int) = 0 := rfl
        clear hR hg
        go_wp2_with (fail)
        go_ret
        exact ⟨by first | rfl | simp, HB2.out⟩
      · have d3 : decide (0 < gap) = false := decide_eq_false hg
        rw [far_next (10 + gap) k (by omega) (by omega)] at hR
        obtain ⟨xs, hxs⟩ : ∃ xs, xs = (List.range (k - 1)).map fun i : Nat => (⟨(i : Nat), (i + 1 : Nat)⟩ : Pr) := ⟨_, rfl⟩
        rw [← hxs] at hR
        have hlen : xs.length = M := by rw [hxs]; simp; have := HN.out; omega
        have hat : ∀ i, i < M → atP xs i = ⟨(i : Nat), (i + 1 : Nat)⟩ := fun i hi => by rw [hxs]; unfold atP; have := HN.out; simp [List.getD, show i < k - 1 by omega]
        obtain ⟨A2, c2, rfl, hc2, hC2⟩ := Kd.R_reads hR
        rw [hlen] at hC2 hc2 ⊢
        have HAT := Aside0.mk hat
        have HC2 := Aside0.mk hC2
        have e1 : ((M : Int) != (k : Int) - 1) = false := by have := HN.out; simp; omega
        have e2 : ((M : Int) == (k : Int) - 1) = true := by have := HN.out; simp; omega
        clear hR hg hxs hlen hat hC2
        go_wp2_with (fail)
        clear e1 e2 d3
        go_loopg [62] M (fun kx v62 wr => ∃ i : Nat, v62 = .int .i64 i ∧ Aside0 (i + kx = M) ∧ Aside0 (k50.C wr A2 M xs) ∧ Aside0 (Below w.heap.size w wr))
        case atStart => exact ⟨0, rfl, ⟨by omega⟩, HC2, HB2⟩
        case round =>
          clear HC2 HB2
          obtain ⟨i, rfl, HI, HC, HB⟩ := hrel
          cases gk with
          | zero =>
            have hi : i = M := by have := HI.out; omega
            subst hi
            have f1 : decide ((i : Int) < (i : Int)) = false := decide_eq_false (by omega)
            have f2 : decide (i < i) = false := decide_eq_false (by omega)
            go_wp2_with (fail)
            go_ret
            exact ⟨rfl, HB.out⟩
          | succ gk =>
            have hi : i < M := by have := HI.out; omega
            have f1 : decide ((i : Int) < (M : Int)) = true := decide_eq_true (by omega)
            have f2 : decide (i < M) = true := decide_eq_true hi
            have f3 : (i < M) = True := eq_true hi
            have f4 : ((i : Int) < (M : Int)) = True := eq_true (by omega)
            have f5 : (0 ≤ (i : Int)) = True := eq_true (by omega)
            obtain ⟨ad, rfl, x0, x1⟩ := at_T50 HC.out i hi
            rw [HAT.out i hi] at x0 x1
            have x0' : wr.cell? (ad.add (i * 2)) = some (.int .i64 (i : Int)) := x0
            have x1' : wr.cell? ⟨(ad.add (i * 2)).block, (ad.add (i * 2)).off + 1, none⟩ = some (.int .i64 ((i : Int) + 1)) := x1
            clear x0 x1
            go_wp2_with (fail)
            go_roundg gk
            case measure => omega
            case rel => exact ⟨i + 1, by first | rfl | go_num, ⟨by have := HI.out; omega⟩, ⟨Kd.C_below HC.out (below_alloc (Below.refl _ _) _)⟩, ⟨below_alloc HB.out _⟩⟩
    | succ gk =>
      have hk : k < N := by have := HK.out; omega
      have d1 : decide ((k : Int) < (N : Int)) = true := decide_eq_true (by omega)
      have d2 : decide (k < N) = true := decide_eq_true (by omega)
      have ht0 : 0 ≤ (k : Int) * (10 + gap) := Int.mul_nonneg (by omega) (by omega)
      have ht1 : (k : Int) * (10 + gap) ≤ 30 * (10 + gap) := Int.mul_le_mul_of_nonneg_right (by omega) (by omega)
      have ht2 : (k : Int) * (10 + gap) ≤ 32212255020 := by omega
      clear ht1
      have hl : (farL (10 + gap) k).length ≤ 30 := by rw [farL_length]; omega
      go_wp2_with (first
        | ((with_reducible refine gate_builtin (b := .append) (xs := #[.tmp 39, .tmp 46]) rfl ?_); at_builtin; go_must (refine Kd.R_append k28 w.heap.size rfl (.tmp 39) (.tmp 46) 22 28 (.agg #[(.int .i64 0), (.int .i64 0), (.int .i64 0), (.int .i64 0)]) 32 rfl Try.underlying22 info28 rfl (by decide) (by omega) u5 (farL (10 + gap) k) (farB (10 + gap) k) [.int .i64 ((k : Int) * (10 + gap)), .int .i64 0, .int .i64 ((k : Int) * (10 + gap) + 10), .int .i64 5] (fun _ => True) (fun _ => False) rfl rfl (k28_mkM _ _ _ _) (fun _ hk => hk.elim) (fun _ _ => trivial) HR.out HB.out HB.out.size (by omega) ?_); intro v5_ w5_ ho_ hb_ hg_ hat_; rw [← farL_snoc] at ho_; have HR2 := Aside0.mk ho_; have HB2 := Aside0.mk hb_; clear ho_ hb_ hg_ hat_))
      go_roundg gk
      case measure => omega
      case rel => exact ⟨k + 1, by first | rfl | go_num, ⟨by have := HK.out; omega⟩, HR2, HB2⟩
theorem far_any (n gap : Int) (w0 : (Lit.int .i64 n).wf = true) (w1 : (Lit.int .i64 gap).wf = true) (w : World) :
    Calls Try.prog 4 #[.int .i64 n, .int .i64 gap] w fun e w' => e = .returned (.bool true) ∧ Below w.heap.size w w' := by
  by_cases h : n < 1 ∨ 30 < n ∨ gap < -2 ∨ 1073741824 < gap
  · exact far_out n gap h w
  · obtain ⟨M, hM⟩ : ∃ M : Nat, n = ((M + 1 : Nat) : Int) := ⟨(n - 1).toNat, by omega⟩
    subst hM
    exact far_in M gap (by omega) (by omega) (by omega) w
end Go.Proofs.Ytfblelkegebdiaa.V
