/- prune.Pairs, walked: all two that meet, in order. -/
import Derived.Test.YtfblelkegebdiaaT2
import Derived.Test.YtfblelkegebdiaaT3
import Derived.Test.YtfblelkegebdiaaMt
import Derived.Outline
namespace Go.Proofs.Ytfblelkegebdiaa.V
open Go.Proofs Go.RowKit Go.Lib Go.Proofs.YtfblelkegebdiaaW.PrintWords Go.Proofs.YtfblelkegebdiaaW.PrintLast Go.Proofs.YtfblelkegebdiaaW.PrintMore
attribute [local go_sem] max_two min_two   -- for this text's walks alone
set_option linter.unusedVariables false
set_option linter.unusedSimpArgs false

def D_ (d : List Nat) : List Int := d.map fun i : Nat => (i : Int)
theorem D_length (d : List Nat) : (D_ d).length = d.length := by unfold D_; simp
theorem rd_D (d : List Nat) (i : Nat) (h : i < d.length) : rd (D_ d) (i : Int) = (d[i] : Int) := by unfold rd D_; simp [h]
theorem D_drop (d : List Nat) (i : Nat) : (D_ d).drop i = D_ (d.drop i) := by unfold D_; rw [List.map_drop]
theorem raw_few (l : List Bx) : ∀ r : List Nat, (rawOf l r).length ≤ r.length * r.length
  | [] => Nat.le_refl _
  | i :: r => by
    rw [rawOf, List.length_append, List.length_map, List.length_cons]
    have h1 := List.length_filter_le (fun j => meetB (at_ l i) (at_ l j)) r
    have h2 := raw_few l r
    have h3 : (r.length + 1) * (r.length + 1) = r.length * r.length + 2 * r.length + 1 := by rw [Nat.add_mul, Nat.mul_add]; omega
    omega
theorem raw_step (l : List Bx) (d : List Nat) (k : Nat) (h : k < d.length) : rawOf l (d.drop k) = ((d.drop (k + 1)).filter fun j => meetB (at_ l d[k]) (at_ l j)).map (mk d[k]) ++ rawOf l (d.drop (k + 1)) := by
  rw [List.drop_eq_getElem_cons h, rawOf]
theorem row_step (l : List Bx) (i : Nat) (r : List Nat) (m : Nat) (h : m < r.length) : ((r.drop m).filter fun j => meetB (at_ l i) (at_ l j)).map (mk i) = (if meetB (at_ l i) (at_ l r[m]) then [mk i r[m]] else []) ++ ((r.drop (m + 1)).filter fun j => meetB (at_ l i) (at_ l j)).map (mk i) := by
  rw [List.drop_eq_getElem_cons h, List.filter_cons]
  by_cases hm : meetB (at_ l i) (at_ l r[m]) = true
  · rw [if_pos hm, if_pos hm]; rfl
  · rw [if_neg hm, if_neg hm]; rfl

set_option maxHeartbeats 8000000 in
set_option maxRecDepth 100000 in
theorem pairs_any (w : World) (A : Option Addr) (cp : Nat) (l : List Bx) (hr : Kd.C k28 w A l.length l) (hc : l.length ≤ cp) (hl : l.length ≤ 100) :
    Calls Try.prog 9 #[.slice A l.length cp] w fun e w' => ∃ v, e = .returned v ∧ k50.R 50 w' w.heap.size (fun k => w.heap.size ≤ k) v (pairsOf l) ∧ Below w.heap.size w w' := by
  have HR := Aside0.mk hr
  have HL := Aside0.mk hl
  have HS := Aside0.mk (sorted_any w A cp l hr hc (by omega))
  obtain ⟨n, hn⟩ : ∃ n, n = l.length := ⟨_, rfl⟩
  have HN := Aside0.mk hn
  have hn1 : n ≤ 100 := by omega
  rw [← hn] at HS ⊢
  clear hr hl hc hn
  obtain ⟨i3, hi3, hz3⟩ := Option.map_eq_some_iff.1 info3
  have hsz3 : i3.size = 1 := by simp only [Prod.mk.injEq] at hz3; exact hz3.2.1
  have HI3 := Aside0.mk hi3
  have HZ3 := Aside0.mk hsz3
  clear hi3 hz3 hsz3
  go_enter Try.func9, Try.ntmps9
  go_wp2_with (fail)
  with_reducible refine (HS.out).mono ?_
  rintro e w1 ⟨V, d, rfl, hR, hp, hb, -⟩
  change (Kd.int .i64).R 3 w1 w.heap.size (fun k => w.heap.size ≤ k) V (D_ d) at hR
  have hdl : d.length = n := by have h := hp.length_eq; rw [List.length_range] at h; exact h
  have hmem : ∀ x, x ∈ d → x < n := fun x hx => by have h := hp.mem_iff.1 hx; rw [List.mem_range] at h; exact h
  obtain ⟨A1, c1, rfl, hc1, hC⟩ := Kd.R_reads hR
  rw [D_length, hdl] at hR hc1 hC ⊢
  have HP := Aside0.mk hp
  have HO := Aside0.mk hR
  have HB := Aside0.mk hb
  have HDL := Aside0.mk hdl
  have HM := Aside0.mk hmem
  have HC1 := Aside0.mk hc1
  clear hp hR hb hdl hmem hC hc1 HS
  go_wp2_with (fail)
  go_loopg [3, 13] n (fun kx v3 v13 wr => ∃ (k : Nat) (out : List Pr), v13 = .int .i64 k ∧ Aside0 (k + kx = n) ∧ Aside0 (out ++ rawOf l (d.drop k) = rawOf l d) ∧ Aside0 (k50.R 50 wr w.heap.size (fun k => w.heap.size ≤ k) v3 out) ∧ Aside0 (out = [] → v3 = .slice none 0 0) ∧ Aside0 ((Kd.int .i64).R 3 wr w.heap.size (fun k => w.heap.size ≤ k) (.slice A1 n c1) (D_ d)) ∧ Aside0 (Below w.heap.size w wr))
  case atStart => exact ⟨0, [], rfl, ⟨by omega⟩, ⟨by simp⟩, ⟨Kd.R_nil _ _ _ _ _⟩, ⟨fun _ => rfl⟩, HO, HB⟩
  case round =>
    clear HO HB
    obtain ⟨k, out, rfl, HK, HX, HQ, HZ, HO, HB⟩ := hrel
    cases gk with
    | zero =>
      have hk : k = n := by have := HK.out; omega
      have d1 : decide ((k : Int) < (n : Int)) = false := decide_eq_false (by omega)
      have d2 : decide (k < n) = false := decide_eq_false (by omega)
      have hX := HX.out
      rw [List.drop_of_length_le (by have := HDL.out; omega), rawOf, List.append_nil] at hX
      have hlen : out.length ≤ 1000000 := by
        have h1 := raw_few l d
        have h2 := HDL.out
        have h3 : d.length * d.length ≤ 100 * 100 := Nat.mul_le_mul (by omega) (by omega)
        rw [hX]; omega
      have hs := sort_pairs HQ.out HZ.out hlen
      have HSP := Aside0.mk hs
      have HXX := Aside0.mk hX
      clear hX hs hk hlen
      go_wp2_with (fail)
      with_reducible refine (HSP.out).mono ?_
      rintro e w2 ⟨rfl, ys, h1, h2, h3, h4⟩
      have G1 := Aside0.mk h1
      have G2 := Aside0.mk h2
      have G3 := Aside0.mk h3
      have G4 := Aside0.mk h4
      clear h1 h2 h3 h4
      go_wp2_with (fail)
      go_ret
      have e : ys = pairsOf l := sorted_pairs l d (by rw [← HN.out]; exact HP.out) ys (by have h := G1.out; rw [HXX.out] at h; exact h) G2.out
      subst e
      exact ⟨_, rfl, G3.out, pw_below_grown HB.out _ HB.out.size G4.out (fun k hk => Kd.R_base HQ.out k hk)⟩
    | succ gq =>
      have hk : k < n := by have := HK.out; omega
      have d1 : decide ((k : Int) < (n : Int)) = true := decide_eq_true (by omega)
      have d2 : decide (k < n) = true := decide_eq_true (by omega)
      have d3 : (k < n) = True := eq_true hk
      have d4 : ((k : Int) < (n : Int)) = True := eq_true (by omega)
      have d5 : (0 ≤ (k : Int)) = True := eq_true (by omega)
      have hdl := HDL.out
      have hkd : k < d.length := by omega
      obtain ⟨i, hi⟩ : ∃ i, i = d[k] := ⟨_, rfl⟩
      have hC := (Kd.R_reads' HO.out).2.2
      rw [D_length, hdl] at hC
      obtain ⟨ad, rfl, hx0⟩ := Kd.at_int hC (k : Int) (by omega) (by omega)
      rw [rd_D d k hkd, ← hi, Int.toNat_natCast] at hx0
      have hin : i < n := by rw [hi]; exact HM.out _ (List.getElem_mem hkd)
      obtain ⟨A2, hcut, hread, hcap⟩ := print_drop_of (P := Try.prog) (Value.int .i64) (0 : Int) 31 3 .i64 Try.underlying31 HI3.out HZ3.out (some ad) c1 (D_ d) ((k : Int) + 1) (by omega) (by rw [D_length]; omega) (by rw [D_length, hdl]; exact HC1.out)
      rw [D_length, hdl] at hcut
      rw [show ((k : Int) + 1).toNat = k + 1 by omega, D_drop] at hcut hread hcap
      rw [D_length] at hcut
      rw [D_length] at hread hcap
      have hX := HX.out
      rw [raw_step l d k hkd, ← hi] at hX
      obtain ⟨rest, hrest⟩ : ∃ r, r = d.drop (k + 1) := ⟨_, rfl⟩
      rw [← hrest] at hcut hread hcap hX
      have hmr : ∀ x, x ∈ rest → x < n := fun x hx => HM.out x (by rw [hrest] at hx; exact List.mem_of_mem_drop hx)
      have hrl : rest.length + (k + 1) = n := by rw [hrest, List.length_drop]; omega
      obtain ⟨mm, hmm⟩ : ∃ m, m = rest.length := ⟨_, rfl⟩
      rw [← hmm] at hcut hcap hrl
      have HXX := Aside0.mk hX
      have HREAD := Aside0.mk hread
      have HMR := Aside0.mk hmr
      have HRL := Aside0.mk hrl
      have HMM := Aside0.mk hmm
      have HREST := Aside0.mk hrest
      have HDD := Aside0.mk hdl
      have hnn : ((k + 1 : Nat) : Int) = (k : Int) + 1 := by omega
      clear hX hread hmr hrest hdl hkd hi hC hcap hnn hrl hmm
      go_wp2_with (fail)
      clear hx0 d1 d2 d3 d4 d5
      go_loopg [3, 23] mm (fun ky v3 v23 w' => ∃ (m : Nat) (ou : List Pr), v23 = .int .i64 m ∧ Aside0 (m + ky = mm) ∧ Aside0 (ou ++ (((rest.drop m).filter fun j => meetB (at_ l i) (at_ l j)).map (mk i) ++ rawOf l rest) = rawOf l d) ∧ Aside0 (k50.R 50 w' w.heap.size (fun k => w.heap.size ≤ k) v3 ou) ∧ Aside0 (ou = [] → v3 = .slice none 0 0) ∧ Aside0 ((Kd.int .i64).R 3 w' w.heap.size (fun k => w.heap.size ≤ k) (.slice (some ad) n c1) (D_ d)) ∧ Aside0 (Below w.heap.size w w'))
      case atStart => exact ⟨0, out, rfl, ⟨by omega⟩, HXX, HQ, HZ, HO, HB⟩
      case round =>
        clear HX HXX HQ HZ HO HB
        obtain ⟨m, ou, rfl, HK2, HX, HQ, HZ, HO, HB⟩ := hrel
        have hrl := HRL.out
        have hmm := HMM.out
        cases gk with
        | zero =>
          have hk : m = mm := by have := HK2.out; omega
          have d1 : decide ((m : Int) < (mm : Int)) = false := decide_eq_false (by omega)
          have d2 : decide (m < mm) = false := decide_eq_false (by omega)
          have hX := HX.out
          rw [List.drop_of_length_le (by omega), List.filter_nil, List.map_nil, List.nil_append, HREST.out] at hX
          have HXX := Aside0.mk hX
          clear hX hk hmm hcut
          go_wp2_with (fail)
          go_roundg gq
          case measure => omega
          case rel => exact ⟨k + 1, ou, by first | rfl | go_num, ⟨by have := HK.out; omega⟩, HXX, HQ, HZ, HO, HB⟩
        | succ gk =>
          have hk : m < mm := by have := HK2.out; omega
          have hm2 : m < rest.length := by omega
          have d1 : decide ((m : Int) < (mm : Int)) = true := decide_eq_true (by omega)
          have d2 : decide (m < mm) = true := decide_eq_true (by omega)
          have d3 : (m < mm) = True := eq_true hk
          have d4 : ((m : Int) < (mm : Int)) = True := eq_true (by omega)
          have d5 : (0 ≤ (m : Int)) = True := eq_true (by omega)
          obtain ⟨j, hj⟩ : ∃ j, j = rest[m] := ⟨_, rfl⟩
          have hjn : j < n := by rw [hj]; exact HMR.out _ (List.getElem_mem hm2)
          have hC := (Kd.R_reads' HO.out).2.2
          rw [D_length, HDD.out] at hC
          have hC2 := HREAD.out wr (by have h := Kd.reads_of_C (d := (0 : Int)) hC; rw [HDD.out]; exact h)
          obtain ⟨ad2, rfl, hx0⟩ := Kd.at_int (Kd.C_of_reads (enc := Value.int .i64) (h1 := fun _ => rfl) hC2) (m : Int) (by omega) (by rw [D_length]; omega)
          rw [rd_D rest m hm2, ← hj, Int.toNat_natCast] at hx0
          have hL := Kd.C_below HR.out HB.out
          rw [← HN.out] at hL
          obtain ⟨ab, rfl, x0, x1, x2, x3⟩ := at_T28 hL i hin
          obtain ⟨ab', e, y0, y1, y2, y3⟩ := at_T28 hL j hjn
          cases e
          have i1 : (i < n) = True := eq_true hin
          have i2 : ((i : Int) < (n : Int)) = True := eq_true (by omega)
          have i3 : (0 ≤ (i : Int)) = True := eq_true (by omega)
          have j1 : (j < n) = True := eq_true hjn
          have j2 : ((j : Int) < (n : Int)) = True := eq_true (by omega)
          have j3 : (0 ≤ (j : Int)) = True := eq_true (by omega)
          have hX := HX.out
          rw [row_step l i rest m hm2, ← hj] at hX
          obtain ⟨lo, hi, hmk, hmin, hmax⟩ : ∃ lo hi : Nat, mk i j = ⟨(lo : Nat), (hi : Nat)⟩ ∧ Builtin.min2 (.int .i64 i) (.int .i64 j) = pure (.int .i64 lo) ∧ Builtin.max2 (.int .i64 i) (.int .i64 j) = pure (.int .i64 hi) := by
            refine ⟨min i j, max i j, rfl, ?_, ?_⟩
            · rw [min2_int]; congr 2; split <;> omega
            · rw [max2_int]; congr 2; split <;> omega
          rw [hmk] at hX
          obtain ⟨p0, hp0⟩ : ∃ x, x = at_ l i := ⟨_, rfl⟩
          obtain ⟨q0, hq0⟩ : ∃ x, x = at_ l j := ⟨_, rfl⟩
          rw [← hp0] at x0 x1 x2 x3
          rw [← hq0] at y0 y1 y2 y3
          have HMEET := Aside0.mk (fun W => meet_any p0 q0 W)
          have hme : meetB (at_ l i) (at_ l j) = meetB p0 q0 := by rw [hp0, hq0]
          rw [hme] at hX
          clear hme
          obtain ⟨a0, a1, a2, a3⟩ := p0
          obtain ⟨b0, b1, b2, b3⟩ := q0
          cases hmt : meetB ⟨a0, a1, a2, a3⟩ ⟨b0, b1, b2, b3⟩ with
          | false =>
            rw [hmt] at HMEET hX
            rw [if_neg (by decide), List.nil_append] at hX
            have HXX := Aside0.mk hX
            clear hX hj hC hC2 hL hp0 hq0 hmt hmk hm2 hmm
            go_wp2_with (fail)
            refine wp_region_still_tail 8 (by kernel_rfl) (by kernel_rfl) ?_
            change wpStill _ _ wr.drew (fun a' => wpList _ _ _ _ a' wr.drew) _ _
            simp only [List.take_succ_cons, List.take_zero, List.drop_succ_cons, List.drop_zero]
            still_step
            still_step
            still_step
            still_step
            still_step
            still_step
            still_step
            still_step
            refine wpStill_nil ?_
            go_wp2_with (fail)
            with_reducible refine (HMEET.out _).mono ?_
            rintro e w2 ⟨rfl, hb2⟩
            have B2 := Aside0.mk (below_step (below_drew1 HB.out) hb2)
            have Q2 := Aside0.mk (Kd.R_below (Kd.R_drew HQ.out) hb2)
            have O2 := Aside0.mk (Kd.R_below (Kd.R_drew HO.out) hb2)
            clear hb2 HB HQ HO x0 x1 x2 x3 y0 y1 y2 y3 hx0 i1 i2 i3 j1 j2 j3 d1 d2 d3 d4 d5 hcut
            go_wp2_with (fail)
            go_roundg gk
            case measure => omega
            case rel => exact ⟨m + 1, ou, by first | rfl | go_num, ⟨by have := HK2.out; omega⟩, HXX, Q2, HZ, O2, B2⟩
          | true =>
            rw [hmt] at HMEET hX
            rw [if_pos (by decide), List.append_assoc] at hX
            have HXX := Aside0.mk hX
            clear hX hj hC hC2 hL hp0 hq0 hmt hmk hm2 hmm
            go_wp2_with (fail)
            refine wp_region_still_tail 8 (by kernel_rfl) (by kernel_rfl) ?_
            change wpStill _ _ wr.drew (fun a' => wpList _ _ _ _ a' wr.drew) _ _
            simp only [List.take_succ_cons, List.take_zero, List.drop_succ_cons, List.drop_zero]
            still_step
            still_step
            still_step
            still_step
            still_step
            still_step
            still_step
            still_step
            refine wpStill_nil ?_
            go_wp2_with (fail)
            with_reducible refine (HMEET.out _).mono ?_
            rintro e w2 ⟨rfl, hb2⟩
            have B2 := Aside0.mk (below_step (below_drew1 HB.out) hb2)
            have Q2 := Aside0.mk (Kd.R_below (Kd.R_drew HQ.out) hb2)
            have O2 := Aside0.mk (Kd.R_below (Kd.R_drew HO.out) hb2)
            clear hb2 HB HQ HO x0 x1 x2 x3 y0 y1 y2 y3 hx0 i1 i2 i3 j1 j2 j3 d1 d2 d3 d4 d5 hcut
            have hlen : ou.length ≤ 10000 := by
              have h1 := raw_few l d
              have h2 := congrArg List.length HXX.out
              have h3 := HDL.out
              have h4 : d.length * d.length ≤ 100 * 100 := Nat.mul_le_mul (by omega) (by omega)
              rw [List.length_append] at h2
              omega
            go_wp2_with (first
              | ((with_reducible refine gate_builtin (b := .append) (xs := #[.tmp 36, .tmp 44]) rfl ?_); at_builtin; go_must (refine Kd.R_append k50 w.heap.size rfl (.tmp 36) (.tmp 44) 29 50 (.agg #[(.int .i64 0), (.int .i64 0)]) 16 rfl Try.underlying29 info50 rfl (by decide) (by omega) u3 ou (⟨(lo : Nat), (hi : Nat)⟩ : Pr) [.int .i64 lo, .int .i64 hi] (fun k => w.heap.size ≤ k) (fun _ => False) rfl rfl (k50_mkM _ _ _ (⟨(lo : Nat), (hi : Nat)⟩ : Pr)) (fun _ hk => hk.elim) ?aF Q2.out B2.out B2.out.size (by omega) ?_); (case aF => exact fun k hk => Nat.le_trans B2.out.size hk); intro v5_ w5_ ho_ hb_ hg_ hat_; have O3 := Aside0.mk (Kd.R_over O2.out Q2.out (by decide) hg_); have Q3 := Aside0.mk ho_; have B3 := Aside0.mk hb_; clear ho_ hb_ hg_ hat_))
            go_roundg gk
            case measure => omega
            case rel => exact ⟨m + 1, ou ++ [⟨(lo : Nat), (hi : Nat)⟩], by first | rfl | go_num, ⟨by have := HK2.out; omega⟩, ⟨by rw [List.append_assoc]; exact HXX.out⟩, Q3, ⟨fun h => by simp at h⟩, O3, B3⟩
end Go.Proofs.Ytfblelkegebdiaa.V
