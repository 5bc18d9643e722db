/- maquetteref1.Pairs, walked: all two that meet, in order. -/
import Derived.Test.YtfblelkegebdiaaT4
import Derived.Test.YtfblelkegebdiaaMr
namespace Go.Proofs.Ytfblelkegebdiaa.V
open Go.Proofs Go.RowKit Go.Lib Go.Proofs.YtfblelkegebdiaaW.PrintWords Go.Proofs.YtfblelkegebdiaaW.PrintLast Go.Proofs.YtfblelkegebdiaaW.PrintMore
set_option linter.unusedVariables false
set_option linter.unusedSimpArgs false

def rowP (l : List Bx) (i k : Nat) : List Pr := ((List.range k).filter fun j => decide (i < j) && meetB (at_ l i) (at_ l j)).map fun j => ⟨(i : Nat), (j : Nat)⟩
def rowsP (l : List Bx) (i : Nat) : List Pr := (List.range i).flatMap fun i => rowP l i l.length
theorem rowsP_all (l : List Bx) : rowsP l l.length = pairsOf l := rfl
theorem rowsP_succ (l : List Bx) (i : Nat) : rowsP l (i + 1) = rowsP l i ++ rowP l i l.length := by
  unfold rowsP
  rw [List.range_succ, List.flatMap_append]
  simp
theorem rowP_start (l : List Bx) (i : Nat) : ∀ k, k ≤ i + 1 → rowP l i k = [] := by
  intro k hk
  unfold rowP
  rw [List.map_eq_nil_iff, List.filter_eq_nil_iff]
  intro j hj
  rw [List.mem_range] at hj
  simp
  omega
theorem rowP_succ (l : List Bx) (i k : Nat) (h : i < k) : rowP l i (k + 1) = rowP l i k ++ (if meetB (at_ l i) (at_ l k) then [⟨(i : Nat), (k : Nat)⟩] else []) := by
  unfold rowP
  rw [List.range_succ, List.filter_append, List.map_append]
  congr 1
  by_cases hm : meetB (at_ l i) (at_ l k) = true
  · simp [hm, h]
  · simp [hm, h]
theorem rowP_few (l : List Bx) (i k : Nat) : (rowP l i k).length ≤ k := by
  unfold rowP
  rw [List.length_map]
  exact Nat.le_trans (List.length_filter_le _ _) (by simp)
theorem rowsP_few (l : List Bx) : ∀ i, (rowsP l i).length ≤ i * l.length
  | 0 => by unfold rowsP; simp
  | i + 1 => by
    rw [rowsP_succ, List.length_append, Nat.add_mul]
    have h1 := rowsP_few l i
    have h2 := rowP_few l i l.length
    omega
set_option maxHeartbeats 8000000 in
set_option maxRecDepth 100000 in
theorem refPairs_any (w : World) (A : Option Addr) (cp : Nat) (l : List Bx) (hr : Kd.C k28 w A l.length l) (hl : l.length ≤ 100) :
    Calls Try.prog 14 #[.slice A l.length cp] w fun e w' => ∃ v, e = .returned v ∧ k50.R 50 w' w.heap.size (fun k => w.heap.size ≤ k) v (pairsOf l) ∧ Below w.heap.size w w' := by
  have HR := Aside0.mk hr
  obtain ⟨n, hn⟩ : ∃ n, n = l.length := ⟨_, rfl⟩
  have HN := Aside0.mk hn
  have hn1 : n ≤ 100 := by omega
  rw [← hn]
  clear hr hl hn
  go_enter Try.func14, Try.ntmps14
  go_wp2_with (fail)
  go_loopg [3, 4] n (fun kx v3 v4 wr => ∃ i : Nat, v4 = .int .i64 i ∧ Aside0 (i + kx = n) ∧ Aside0 (k50.R 50 wr w.heap.size (fun k => w.heap.size ≤ k) v3 (rowsP l i)) ∧ Aside0 (Below w.heap.size w wr))
  case atStart => exact ⟨0, rfl, ⟨by omega⟩, ⟨Kd.R_nil _ _ _ _ _⟩, ⟨Below.refl _ _⟩⟩
  case round =>
    obtain ⟨i, rfl, HK, HQ, HB⟩ := hrel
    cases gk with
    | zero =>
      have hk : i = n := by have := HK.out; omega
      subst hk
      have d1 : decide ((i : Int) < (i : Int)) = false := decide_eq_false (by omega)
      have d2 : decide (i < i) = false := decide_eq_false (by omega)
      go_wp2_with (fail)
      go_ret
      refine ⟨_, rfl, ?_, HB.out⟩
      have h := HQ.out
      rw [HN.out, rowsP_all] at h
      exact h
    | succ gkA =>
    have hi : i < n := by have := HK.out; omega
    have d1 : decide ((i : Int) < (n : Int)) = true := decide_eq_true (by omega)
    have d2 : decide (i < n) = true := decide_eq_true (by omega)
    go_wp2_with (fail)
    clear d1 d2
    go_loopg [3, 5] (n - (i + 1)) (fun ky v3 v5 w' => ∃ k : Nat, v5 = .int .i64 k ∧ Aside0 (k + ky = n) ∧ Aside0 (i < k) ∧ Aside0 (k50.R 50 w' w.heap.size (fun k => w.heap.size ≤ k) v3 (rowsP l i ++ rowP l i k)) ∧ Aside0 (Below w.heap.size w w'))
    case atStart => exact ⟨i + 1, by first | rfl | go_num, ⟨by omega⟩, ⟨by omega⟩, ⟨by rw [rowP_start l i _ (Nat.le_refl _), List.append_nil]; exact HQ.out⟩, HB⟩
    case round =>
      clear HQ HB
      obtain ⟨k, rfl, HK2, HIK, HQ, HB⟩ := hrel
      cases gk with
      | zero =>
        have hk : k = n := by have := HK2.out; omega
        subst hk
        have d1 : decide ((k : Int) < (k : Int)) = false := decide_eq_false (by omega)
        have d2 : decide (k < k) = false := decide_eq_false (by omega)
        have HQ2 := Aside0.mk (show k50.R 50 wr w.heap.size (fun k => w.heap.size ≤ k) u3 (rowsP l (i + 1)) by rw [rowsP_succ, ← HN.out]; exact HQ.out)
        go_wp2_with (fail)
        go_roundg gkA
        case measure => omega
        case rel => exact ⟨i + 1, by first | rfl | go_num, ⟨by have := HK.out; omega⟩, HQ2, HB⟩
      | succ gk =>
      have hk : k < n := by have := HK2.out; omega
      have hik := HIK.out
      have d1 : decide ((k : Int) < (n : Int)) = true := decide_eq_true (by omega)
      have d2 : decide (k < n) = true := decide_eq_true (by omega)
      have hL := Kd.C_below HR.out HB.out
      rw [← HN.out] at hL
      obtain ⟨ab, rfl, x0, x1, x2, x3⟩ := at_T28 hL i hi
      obtain ⟨ab', e, y0, y1, y2, y3⟩ := at_T28 hL k hk
      cases e
      have i1 : (i < n) = True := eq_true hi
      have i2 : ((i : Int) < (n : Int)) = True := eq_true (by omega)
      have i3 : (0 ≤ (i : Int)) = True := eq_true (by omega)
      have j1 : (k < n) = True := eq_true hk
      have j2 : ((k : Int) < (n : Int)) = True := eq_true (by omega)
      have j3 : (0 ≤ (k : Int)) = True := eq_true (by omega)
      have hS := rowP_succ l i k hik
      obtain ⟨p0, hp0⟩ : ∃ x, x = at_ l i := ⟨_, rfl⟩
      obtain ⟨q0, hq0⟩ : ∃ x, x = at_ l k := ⟨_, rfl⟩
      rw [← hp0] at x0 x1 x2 x3
      rw [← hq0] at y0 y1 y2 y3
      rw [← hp0, ← hq0] at hS
      have HMEET := Aside0.mk (fun W => rmeet_any p0 q0 W)
      obtain ⟨a0, a1, a2, a3⟩ := p0
      obtain ⟨b0, b1, b2, b3⟩ := q0
      cases hmt : meetB ⟨a0, a1, a2, a3⟩ ⟨b0, b1, b2, b3⟩ with
      | false =>
        rw [hmt] at HMEET hS
        rw [if_neg (by decide), List.append_nil] at hS
        have HSS := Aside0.mk hS
        clear hS hp0 hq0 hmt hL hik
        go_wp2_with (fail)
        refine wp_region_still_tail 8 (by kernel_rfl) (by kernel_rfl) ?_
        change wpStill _ _ wr.drew (fun a' => wpList _ _ _ _ a' wr.drew) _ _
        simp only [List.take_succ_cons, List.take_zero, List.drop_succ_cons, List.drop_zero]
        still_step
        still_step
        still_step
        still_step
        still_step
        still_step
        still_step
        still_step
        refine wpStill_nil ?_
        go_wp2_with (fail)
        with_reducible refine (HMEET.out _).mono ?_
        rintro e w2 ⟨rfl, hb2⟩
        have B2 := Aside0.mk (below_step (below_drew1 HB.out) hb2)
        have Q2 := Aside0.mk (show k50.R 50 w2 w.heap.size (fun k => w.heap.size ≤ k) u3 (rowsP l i ++ rowP l i (k + 1)) by rw [HSS.out]; exact Kd.R_below (Kd.R_drew HQ.out) hb2)
        clear hb2 HB HQ x0 x1 x2 x3 y0 y1 y2 y3 i1 i2 i3 j1 j2 j3 d1 d2
        go_wp2_with (fail)
        go_roundg gk
        case measure => omega
        case rel => exact ⟨k + 1, by first | rfl | go_num, ⟨by have := HK2.out; omega⟩, ⟨by have := HIK.out; omega⟩, Q2, B2⟩
      | true =>
        rw [hmt] at HMEET hS
        rw [if_pos (by decide)] at hS
        have HSS := Aside0.mk hS
        clear hS hp0 hq0 hmt hL hik
        go_wp2_with (fail)
        refine wp_region_still_tail 8 (by kernel_rfl) (by kernel_rfl) ?_
        change wpStill _ _ wr.drew (fun a' => wpList _ _ _ _ a' wr.drew) _ _
        simp only [List.take_succ_cons, List.take_zero, List.drop_succ_cons, List.drop_zero]
        still_step
        still_step
        still_step
        still_step
        still_step
        still_step
        still_step
        still_step
        refine wpStill_nil ?_
        go_wp2_with (fail)
        with_reducible refine (HMEET.out _).mono ?_
        rintro e w2 ⟨rfl, hb2⟩
        have B2 := Aside0.mk (below_step (below_drew1 HB.out) hb2)
        have Q2 := Aside0.mk (Kd.R_below (Kd.R_drew HQ.out) hb2)
        clear hb2 HB HQ x0 x1 x2 x3 y0 y1 y2 y3 i1 i2 i3 j1 j2 j3 d1 d2
        have hlen : (rowsP l i ++ rowP l i k).length ≤ 100000 := by
          have h1 := rowsP_few l i
          have h2 := rowP_few l i k
          have h3 : i * l.length ≤ 100 * 100 := Nat.mul_le_mul (by omega) (by have := HN.out; omega)
          rw [List.length_append]
          omega
        go_wp2_with (first
          | ((with_reducible refine gate_builtin (b := .append) (xs := #[.tmp 29, .tmp 33]) rfl ?_); at_builtin; go_must (refine Kd.R_append k50 w.heap.size rfl (.tmp 29) (.tmp 33) 29 50 (.agg #[(.int .i64 0), (.int .i64 0)]) 16 rfl Try.underlying29 info50 rfl (by decide) (by omega) u3 (rowsP l i ++ rowP l i k) (⟨(i : Nat), (k : Nat)⟩ : Pr) [.int .i64 i, .int .i64 k] (fun k => w.heap.size ≤ k) (fun _ => False) rfl rfl (k50_mkM _ _ _ (⟨(i : Nat), (k : Nat)⟩ : Pr)) (fun _ hk => hk.elim) ?aF Q2.out B2.out B2.out.size (by omega) ?_); (case aF => exact fun k hk => Nat.le_trans B2.out.size hk); intro v5_ w5_ ho_ hb_ hg_ hat_; have Q3 := Aside0.mk ho_; have B3 := Aside0.mk hb_; clear ho_ hb_ hg_ hat_))
        go_roundg gk
        case measure => omega
        case rel => exact ⟨k + 1, by first | rfl | go_num, ⟨by have := HK2.out; omega⟩, ⟨by have := HIK.out; omega⟩, ⟨by rw [HSS.out, ← List.append_assoc]; exact Q3.out⟩, B3⟩
end Go.Proofs.Ytfblelkegebdiaa.V
