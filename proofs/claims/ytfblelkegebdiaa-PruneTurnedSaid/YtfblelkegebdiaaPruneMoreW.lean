/- PruneMore, walked. -/
import Derived.Test.YtfblelkegebdiaaPruneFarW
import Derived.Deep.DeepCutAuto
import Derived.Deep.CutBlock
namespace Go.Proofs.Ytfblelkegebdiaa.V
open Go.Proofs Go.RowKit Go.Lib Go.Proofs.YtfblelkegebdiaaW.PrintWords Go.Proofs.YtfblelkegebdiaaW.PrintLast Go.Proofs.YtfblelkegebdiaaW.PrintMore
set_option linter.unusedVariables false
set_option linter.unusedSimpArgs false

def kf (pc : List Pr) (n i : Nat) : Nat := ((pc.take i).filter fun p => !atL p n).length
def mf (pc : List Pr) (n i : Nat) : Nat := ((pc.take i).filter fun p => atL p n).length
theorem kf_le (pc : List Pr) (n i : Nat) : kf pc n i ≤ i := Nat.le_trans (List.length_filter_le _ _) (List.length_take_le _ _)
theorem mf_le (pc : List Pr) (n i : Nat) : mf pc n i ≤ i := Nat.le_trans (List.length_filter_le _ _) (List.length_take_le _ _)
theorem kf_new (pc : List Pr) (n i : Nat) (hi : i < pc.length) (h : atL (atP pc i) n = true) : kf pc n (i + 1) = kf pc n i ∧ mf pc n (i + 1) = mf pc n i + 1 := by
  have e : atP pc i = pc[i] := by unfold atP; simp [List.getD, hi]
  rw [e] at h
  unfold kf mf
  rw [List.take_succ_eq_append_getElem hi, List.filter_append, List.filter_append]
  simp [h]
theorem kf_old (pa pc : List Pr) (n i : Nat) (hp : (pc.filter fun p => !atL p n) = pa) (hi : i < pc.length) (h : atL (atP pc i) n = false) : kf pc n (i + 1) = kf pc n i + 1 ∧ mf pc n (i + 1) = mf pc n i ∧ kf pc n i < pa.length ∧ atP pa (kf pc n i) = atP pc i := by
  have e : atP pc i = pc[i] := by unfold atP; simp [List.getD, hi]
  rw [e] at h ⊢
  refine ⟨?_, ?_, ?_⟩
  · unfold kf
    rw [List.take_succ_eq_append_getElem hi, List.filter_append]
    simp [h]
  · unfold mf
    rw [List.take_succ_eq_append_getElem hi, List.filter_append]
    simp [h]
  · have hd : pa = (pc.take i).filter (fun p => !atL p n) ++ (pc[i] :: (pc.drop (i + 1)).filter (fun p => !atL p n)) := by
      rw [← hp]
      conv => lhs; rw [← List.take_append_drop i pc, List.drop_eq_getElem_cons hi]
      rw [List.filter_append, List.filter_cons, if_pos (by simp [h])]
    have hk : kf pc n i < pa.length := by rw [hd]; unfold kf; simp
    refine ⟨hk, ?_⟩
    unfold atP kf
    rw [hd]
    simp [List.getD]
set_option maxHeartbeats 8000000 in
set_option maxRecDepth 100000 in
theorem more_in (w : World) (A : Option Addr) (cp : Nat) (l : List Bx) (b : Bx) (hr : Kd.C k28 w A l.length l) (hc : l.length ≤ cp) (hl : l.length ≤ 30) :
    Calls Try.prog 6 #[.slice A l.length cp, .agg #[.int .i64 b.f0, .int .i64 b.f1, .int .i64 b.f2, .int .i64 b.f3]] w (T_ok w) := by
  have HR := Aside0.mk hr
  have HC := Aside0.mk hc
  obtain ⟨n, hn⟩ : ∃ n, n = l.length := ⟨_, rfl⟩
  have HN := Aside0.mk hn
  have hn1 : n ≤ 30 := by omega
  have hPA := fun (W : World) (h : Below w.heap.size w W) => pairs_any W A cp l (Kd.C_below hr h) hc (by omega)
  have HPA := Aside0.mk hPA
  have d1 : decide (30 < (n : Int)) = false := decide_eq_false (by omega)
  have d2 : decide (30 < n) = false := decide_eq_false (by omega)
  obtain ⟨b0, b1, b2, b3⟩ := b
  rw [← hn] at HPA ⊢
  clear hr hc hl hPA hn
  have HAL := Aside0.mk alive_any
  have HB0 := Aside0.mk (below_alloc (Below.refl w.heap.size w) (.cells #[.int .i64 b0, .int .i64 b1, .int .i64 b2, .int .i64 b3] 28))
  have HX0 := Aside0.mk ((MapKept.heap_alloc w (.cells #[.int .i64 b0, .int .i64 b1, .int .i64 b2, .int .i64 b3] 28)).1)
  go_enter Try.func6, Try.ntmps6
  go_wp2_with (fail)
  with_reducible refine (HAL.out _).mono ?_
  rintro e w1 ⟨rfl, hb⟩
  have HB1 := Aside0.mk (below_step HB0.out hb)
  have HX1 := Aside0.mk ((hb.block _ (blk_lt HX0.out)).trans HX0.out)
  clear hb HB0 HX0 HAL
  go_wp2_with (fail)
  with_reducible refine (HPA.out _ HB1.out).mono ?_
  rintro e w2 ⟨v, rfl, hR, hb⟩
  have HB2 := Aside0.mk (below_step HB1.out hb)
  have HX2 := Aside0.mk ((hb.block _ (blk_lt HX1.out)).trans HX1.out)
  have HP := Aside0.mk (Kd.R_lower hR HB1.out.size)
  clear hb HB1 HX1 hR
  go_wp2_with (fail)
  clear d1 d2
  have x0 := blk_cell HX2.out 0
  have x1 := blk_cell HX2.out 1
  have x2 := blk_cell HX2.out 2
  have x3 := blk_cell HX2.out 3
  change w2.cell? ⟨w.heap.size, 0, none⟩ = some (.int .i64 b0) at x0
  change w2.cell? ⟨w.heap.size, 1, none⟩ = some (.int .i64 b1) at x1
  change w2.cell? ⟨w.heap.size, 2, none⟩ = some (.int .i64 b2) at x2
  change w2.cell? ⟨w.heap.size, 3, none⟩ = some (.int .i64 b3) at x3
  have lt2 := blk_lt HX2.out
  have HL2 := Aside0.mk (show k28.C w2.drew A n l by have h := Kd.C_drew (Kd.C_below HR.out HB2.out); rw [← HN.out] at h; exact h)
  obtain ⟨wa, hwa⟩ : ∃ wa, wa = (w2.alloc (.cells #[.int .i64 b0, .int .i64 b1, .int .i64 b2, .int .i64 b3] 28)).drew := ⟨_, rfl⟩
  have HWA := Aside0.mk hwa
  have HLA := Aside0.mk (show k28.C (w2.alloc (.cells #[.int .i64 b0, .int .i64 b1, .int .i64 b2, .int .i64 b3] 28)).drew A n l by have h := Kd.C_drew (Kd.C_alloc (Kd.C_below HR.out HB2.out) (.cells #[.int .i64 b0, .int .i64 b1, .int .i64 b2, .int .i64 b3] 28)); rw [← HN.out] at h; exact h)
  have HMA := Aside0.mk ((MapKept.heap_alloc w2 (.cells #[.int .i64 b0, .int .i64 b1, .int .i64 b2, .int .i64 b3] 28)).1)
  clear hwa
  go_region_law (first
    | (refine Kd.R_append_rows_step k28 (Rr := k28.K w2.drew) w.heap.size rfl (.const (Value.slice none 0 0)) (.tmp 21) 22 28 (.agg #[(.int .i64 0), (.int .i64 0), (.int .i64 0), (.int .i64 0)]) 32 rfl Try.underlying22 info28 rfl (by decide) (by omega) (.slice none 0 0) [] l A n cp (fun _ => True) (fun _ => False) rfl rfl (Kd.R_nil _ _ _ _ _) HL2.out (fun x cs hx => by rw [k28_open hx]; exact k28_mkM _ _ _ _) (fun _ hk => hk.elim) (fun _ _ => trivial) (below_drew1 HB2.out) HB2.out.size (by simp; omega) ?_; intro v3 w3 ho_ hb_ hg_ hat_; rw [List.nil_append] at ho_; have R3 := Aside0.mk ho_; have B3 := Aside0.mk hb_; have P3 := Aside0.mk (Kd.R_grown (Kd.R_drew HP.out) hg_ (fun k hk => by simp [Value.ownBlock])); have HX3 := Aside0.mk ((hg_.block _ lt2 (by simp [Value.ownBlock])).trans HX2.out); have y0 := blk_cell HX3.out 0; have y1 := blk_cell HX3.out 1; have y2 := blk_cell HX3.out 2; have y3 := blk_cell HX3.out 3; change w3.cell? ⟨w.heap.size, 0, none⟩ = some (.int .i64 b0) at y0; change w3.cell? ⟨w.heap.size, 1, none⟩ = some (.int .i64 b1) at y1; change w3.cell? ⟨w.heap.size, 2, none⟩ = some (.int .i64 b2) at y2; change w3.cell? ⟨w.heap.size, 3, none⟩ = some (.int .i64 b3) at y3; clear ho_ hb_ hg_ hat_)
    | (refine Kd.R_append_rows_step k28 (Rr := k28.K (w2.alloc (.cells #[.int .i64 b0, .int .i64 b1, .int .i64 b2, .int .i64 b3] 28)).drew) w.heap.size rfl (.const (Value.slice none 0 0)) (.tmp 21) 22 28 (.agg #[(.int .i64 0), (.int .i64 0), (.int .i64 0), (.int .i64 0)]) 32 rfl Try.underlying22 info28 rfl (by decide) (by omega) (.slice none 0 0) [] l A n cp (fun _ => True) (fun _ => False) rfl rfl (Kd.R_nil _ _ _ _ _) HLA.out (fun x cs hx => by rw [k28_open hx]; exact k28_mkM _ _ _ _) (fun _ hk => hk.elim) (fun _ _ => trivial) (below_drew1 (below_alloc HB2.out _)) (below_size (below_drew1 (below_alloc HB2.out _))) (by simp; omega) ?_; intro v3 w3 ho_ hb_ hg_ hat_; rw [List.nil_append] at ho_; have R3 := Aside0.mk ho_; have B3 := Aside0.mk hb_; have P3 := Aside0.mk (Kd.R_grown (Kd.R_drew (Kd.R_alloc HP.out _)) hg_ (fun k hk => by simp [Value.ownBlock])); have C3 := Aside0.mk (show k28.C w3 (some ⟨w2.heap.size, 0, none⟩) 1 [(⟨b0, b1, b2, b3⟩ : Bx)] from C_block (d := k28) (xs := [(⟨b0, b1, b2, b3⟩ : Bx)]) ((hg_.block _ (blk_lt HMA.out) (by simp [Value.ownBlock])).trans HMA.out) ((Reps.none _ _).snoc (k28_mk _ ⟨b0, b1, b2, b3⟩) rfl) (by show 1 ≤ 9223372036854775807; omega)); clear ho_ hb_ hg_ hat_)
    | (refine Kd.R_append_rows_step k28 (Rr := k28.K w3) w.heap.size rfl (.tmp 22) (.tmp 24) 22 28 (.agg #[(.int .i64 0), (.int .i64 0), (.int .i64 0), (.int .i64 0)]) 32 rfl Try.underlying22 info28 rfl (by decide) (by omega) v3 l [(⟨b0, b1, b2, b3⟩ : Bx)] (some ⟨w2.heap.size, 0, none⟩) 1 1 (fun _ => True) (fun _ => False) rfl rfl R3.out C3.out (fun x cs hx => by rw [k28_open hx]; exact k28_mkM _ _ _ _) (fun _ hk => hk.elim) (fun _ _ => trivial) B3.out B3.out.size (by have := HN.out; omega) ?_; intro v4 w4 ho_ hb_ hg_ hat_; obtain ⟨A4, c4, rfl, hc4, hC4⟩ := Kd.R_reads ho_; have HQ := Aside0.mk (pairs_any w4 A4 c4 (l ++ [⟨b0, b1, b2, b3⟩]) hC4 hc4 (by have := HN.out; simp; omega)); rw [show (l ++ [(⟨b0, b1, b2, b3⟩ : Bx)]).length = n + 1 by rw [List.length_append, HN.out]; rfl] at HQ ⊢; have B4 := Aside0.mk hb_; have P4 := Aside0.mk (Kd.R_over P3.out R3.out (by decide) hg_); clear ho_ hb_ hg_ hat_ hc4 hC4)
    | (refine Kd.R_append_step k28 w.heap.size rfl (.tmp 22) (.tmp 24) 22 28 (.agg #[(.int .i64 0), (.int .i64 0), (.int .i64 0), (.int .i64 0)]) 32 rfl Try.underlying22 info28 rfl (by decide) (by omega) v3 l (⟨b0, b1, b2, b3⟩ : Bx) [.int .i64 b0, .int .i64 b1, .int .i64 b2, .int .i64 b3] (fun _ => True) (fun _ => False) rfl rfl (k28_mkM _ _ _ _) (fun _ hk => hk.elim) (fun _ _ => trivial) R3.out B3.out B3.out.size (by have := HN.out; omega) ?_; intro v4 w4 ho_ hb_ hg_ hat_; obtain ⟨A4, c4, rfl, hc4, hC4⟩ := Kd.R_reads ho_; have HQ := Aside0.mk (pairs_any w4 A4 c4 (l ++ [⟨b0, b1, b2, b3⟩]) hC4 hc4 (by have := HN.out; simp; omega)); rw [show (l ++ [(⟨b0, b1, b2, b3⟩ : Bx)]).length = n + 1 by rw [List.length_append, HN.out]; rfl] at HQ ⊢; have B4 := Aside0.mk hb_; have P4 := Aside0.mk (Kd.R_over P3.out R3.out (by decide) hg_); clear ho_ hb_ hg_ hat_ hc4 hC4)
    | (go_simp; go_at_call 9; (refine (HQ.out).mono ?_); rintro e w5 ⟨v5, rfl, hR, hb⟩; have B5 := Aside0.mk (below_step B4.out hb); have P5 := Aside0.mk (Kd.R_below P4.out hb); have Q5 := Aside0.mk (Kd.R_lower hR B4.out.size); clear hb hR))
  all_goals
    obtain ⟨Aa, ca, rfl, hca, hCa⟩ := Kd.R_reads P5.out
    obtain ⟨Ac, cc, rfl, hcc, hCc⟩ := Kd.R_reads Q5.out
    have hfl := more_filter l ⟨b0, b1, b2, b3⟩
    have hfew := more_few l ⟨b0, b1, b2, b3⟩
    rw [← HN.out] at hfl hfew
    obtain ⟨pa, hpa⟩ : ∃ pa, pa = pairsOf l := ⟨_, rfl⟩
    obtain ⟨pc, hpc⟩ : ∃ pc, pc = pairsOf (l ++ [⟨b0, b1, b2, b3⟩]) := ⟨_, rfl⟩
    rw [← hpa, ← hpc] at hfl
    rw [← hpa] at hCa
    rw [← hpc] at hCc hfew
    rw [← hpa, ← hpc]
    obtain ⟨na, hna⟩ : ∃ na, na = pa.length := ⟨_, rfl⟩
    obtain ⟨nc, hnc⟩ : ∃ nc, nc = pc.length := ⟨_, rfl⟩
    rw [← hna] at hCa ⊢
    rw [← hnc] at hCc ⊢
    have hnc2 : nc ≤ 9223372036854775807 := hCc.2.1
    have G1 := Aside0.mk hfl
    have G2 := Aside0.mk hfew
    have G3 := Aside0.mk hCa
    have G4 := Aside0.mk hCc
    have G5 := Aside0.mk hna
    have G6 := Aside0.mk hnc
    clear hfl hfew hpa hpc hCa hCc hna hnc hca hcc P5 Q5
    go_wp2_with (fail)
    go_loopg [7, 8, 29] nc (fun kx v7 v8 v29 wr => ∃ i : Nat, v29 = .int .i64 i ∧ v7 = .int .i64 (kf pc n i) ∧ v8 = .int .i64 (mf pc n i) ∧ Aside0 (i + kx = nc) ∧ Aside0 (k50.C wr Aa na pa) ∧ Aside0 (k50.C wr Ac nc pc) ∧ Aside0 (Below w.heap.size w wr))
    case atStart => exact ⟨0, rfl, rfl, rfl, ⟨by omega⟩, G3, G4, B5⟩
    case round =>
      clear G3 G4 B5
      obtain ⟨i, rfl, rfl, rfl, HI, HCa, HCc, HB⟩ := hrel
      have HKL := Aside0.mk (kf_le pc n i)
      have HML := Aside0.mk (mf_le pc n i)
      cases gk with
      | zero =>
        have hi : i = nc := by have := HI.out; omega
        have f1 : decide ((i : Int) < (nc : Int)) = false := decide_eq_false (by omega)
        have f2 : decide (i < nc) = false := decide_eq_false (by omega)
        have hk : kf pc n i = na := by unfold kf; rw [hi, G6.out, List.take_length, G1.out, G5.out]
        have hm : mf pc n i ≤ n := by unfold mf; rw [hi, G6.out, List.take_length]; exact G2.out
        obtain ⟨kk, hkk⟩ : ∃ kk, kk = kf pc n i := ⟨_, rfl⟩
        obtain ⟨mm, hmm⟩ : ∃ mm, mm = mf pc n i := ⟨_, rfl⟩
        rw [← hkk] at hk ⊢
        rw [← hmm] at hm ⊢
        have e1 : ((kk : Int) == (na : Int)) = true := by simp; omega
        have e2 : (kk == na) = true := by simp; omega
        have e3 : decide ((mm : Int) ≤ (n : Int)) = true := decide_eq_true (by omega)
        have e4 : decide (mm ≤ n) = true := decide_eq_true (by omega)
        clear hk hm hkk hmm hi
        go_wp2_with (fail)
        go_ret
        exact ⟨rfl, HB.out⟩
      | succ gk =>
        have hi : i < nc := by have := HI.out; omega
        have f1 : decide ((i : Int) < (nc : Int)) = true := decide_eq_true (by omega)
        have f2 : decide (i < nc) = true := decide_eq_true hi
        have f3 : (i < nc) = True := eq_true hi
        have f4 : ((i : Int) < (nc : Int)) = True := eq_true (by omega)
        have f5 : (0 ≤ (i : Int)) = True := eq_true (by omega)
        obtain ⟨ad, rfl, x0, x1⟩ := at_T50 HCc.out i hi
        cases hat : atL (atP pc i) n with
        | true =>
          have hs := kf_new pc n i (by have := G6.out; omega) hat
          have hv : (atP pc i).f1 = (n : Int) := of_decide_eq_true hat
          rw [hv] at x1
          have HS := Aside0.mk hs
          obtain ⟨z0, hz0⟩ : ∃ z, z = (atP pc i).f0 := ⟨_, rfl⟩
          rw [← hz0] at x0
          obtain ⟨kk, hkk⟩ : ∃ kk, kk = kf pc n i := ⟨_, rfl⟩
          obtain ⟨mm, hmm⟩ : ∃ mm, mm = mf pc n i := ⟨_, rfl⟩
          rw [← hkk, ← hmm] at HS ⊢
          rw [← hkk] at HKL
          rw [← hmm] at HML
          have hkk2 : mm ≤ i := HML.out
          have e1 : ((n : Int) == (n : Int)) = true := by simp
          clear hs hv hat hz0 hkk hmm
          go_wp2_with (fail)
          go_roundg gk
          case measure => omega
          case rel => exact ⟨i + 1, by first | rfl | go_num, by rw [HS.out.1], by rw [HS.out.2]; first | rfl | go_num, ⟨by have := HI.out; omega⟩, ⟨Kd.C_below HCa.out (below_alloc (Below.refl _ _) _)⟩, ⟨Kd.C_below HCc.out (below_alloc (Below.refl _ _) _)⟩, ⟨below_alloc HB.out _⟩⟩
        | false =>
          have hs := kf_old pa pc n i G1.out (by have := G6.out; omega) hat
          have hv : ¬ (atP pc i).f1 = (n : Int) := of_decide_eq_false hat
          have HS := Aside0.mk hs
          obtain ⟨ad2, rfl, y0, y1⟩ := at_T50 HCa.out (kf pc n i) (by rw [G5.out]; exact hs.2.2.1)
          rw [hs.2.2.2] at y0 y1
          obtain ⟨z0, hz0⟩ : ∃ z, z = (atP pc i).f0 := ⟨_, rfl⟩
          obtain ⟨z1, hz1⟩ : ∃ z, z = (atP pc i).f1 := ⟨_, rfl⟩
          rw [← hz0] at x0 y0
          rw [← hz1] at x1 y1 hv
          have hkna : kf pc n i < na := by rw [G5.out]; exact hs.2.2.1
          obtain ⟨kk, hkk⟩ : ∃ kk, kk = kf pc n i := ⟨_, rfl⟩
          obtain ⟨mm, hmm⟩ : ∃ mm, mm = mf pc n i := ⟨_, rfl⟩
          rw [← hkk, ← hmm] at HS
          rw [← hkk] at y0 y1 hkna HKL
          rw [← hmm] at HML
          rw [← hkk, ← hmm]
          have hkk2 : kk ≤ i := HKL.out
          have e1 : (z1 == (n : Int)) = false := by simp; exact hv
          have k1 : decide ((kk : Int) < (na : Int)) = true := decide_eq_true (by omega)
          have k2 : decide (kk < na) = true := decide_eq_true (by omega)
          have k3 : (kk < na) = True := eq_true hkna
          have k4 : ((kk : Int) < (na : Int)) = True := eq_true (by omega)
          have k5 : (0 ≤ (kk : Int)) = True := eq_true (by omega)
          have ya0 := pw_cell_below (below_alloc (Below.refl wr.heap.size wr) (.cells #[.int .i64 z0, .int .i64 z1] 50)) y0
          have ya1 := pw_cell_below (below_alloc (Below.refl wr.heap.size wr) (.cells #[.int .i64 z0, .int .i64 z1] 50)) y1
          clear hs hv hat hz0 hz1 hkk hmm y0 y1
          go_wp2_with (fail)
          go_quiet (fail)
          go_wp2_with (fail)
          go_roundg gk
          case measure => omega
          case rel => exact ⟨i + 1, by first | rfl | go_num, by rw [HS.out.1]; first | rfl | go_num, by rw [HS.out.2.1], ⟨by have := HI.out; omega⟩, ⟨Kd.C_below HCa.out (pw_below_drewN (below_alloc (Below.refl _ _) _) _)⟩, ⟨Kd.C_below HCc.out (pw_below_drewN (below_alloc (Below.refl _ _) _) _)⟩, ⟨pw_below_drewN (below_alloc HB.out _) _⟩⟩
set_option maxHeartbeats 8000000 in
theorem more_any (w : World) (A : Option Addr) (cp : Nat) (l : List Bx) (b : Bx) (hr : Kd.C k28 w A l.length l) (hc : l.length ≤ cp) :
    Calls Try.prog 6 #[.slice A l.length cp, .agg #[.int .i64 b.f0, .int .i64 b.f1, .int .i64 b.f2, .int .i64 b.f3]] w fun e w' => e = .returned (.bool true) ∧ Below w.heap.size w w' := by
  by_cases hl : l.length ≤ 30
  · exact more_in w A cp l b hr hc hl
  · have HAL := Aside0.mk alive_any
    obtain ⟨n, hn⟩ : ∃ n, n = l.length := ⟨_, rfl⟩
    rw [← hn] at hl ⊢
    have d1 : decide (30 < (n : Int)) = true := decide_eq_true (by omega)
    have d2 : decide (30 < n) = true := decide_eq_true (by omega)
    obtain ⟨b0, b1, b2, b3⟩ := b
    have HB0 := Aside0.mk (below_alloc (Below.refl w.heap.size w) (.cells #[.int .i64 b0, .int .i64 b1, .int .i64 b2, .int .i64 b3] 28))
    clear hr hc hl hn
    go_enter Try.func6, Try.ntmps6
    go_wp2_with (fail)
    with_reducible refine (HAL.out _).mono ?_
    rintro e w1 ⟨rfl, hb⟩
    have HB1 := Aside0.mk (below_step HB0.out hb)
    clear hb HB0 HAL
    go_wp2_with (fail)
    go_ret
    exact ⟨rfl, HB1.out⟩
end Go.Proofs.Ytfblelkegebdiaa.V
