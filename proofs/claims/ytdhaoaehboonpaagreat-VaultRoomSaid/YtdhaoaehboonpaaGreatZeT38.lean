/- Of the texts that the row stands on, what it needs (part 38), put together by a program of this session. -/
import Derived.Test.YtdhaoaehboonpaaGreatZeT37
namespace Go.Proofs.YtdhaoaehboonpaaGreat.V
open Go.RowKit Go.Proofs.YtdhaoaehboonpaaGreatW.PrintWords Go.Proofs.YtdhaoaehboonpaaGreatW.PrintLast Go.Proofs.YtdhaoaehboonpaaGreatW.PrintMore Go.Proofs.YtdhaoaehboonpaaGreatM
set_option linter.unusedVariables false
set_option linter.unusedSimpArgs false
theorem reps_one {R : Int → List Value → Prop} {x : Int} {u : Value} (h : R x [u]) : Reps R 1 [x] [u] := by
  refine ⟨rfl, fun j p hj => ?_⟩
  cases j with
  | zero =>
    have : x = p := by simpa using hj
    subst this
    simpa using h
  | succ j => simp at hj
set_option maxHeartbeats 64000000 in
set_option maxRecDepth 100000 in
theorem room_any (n q : Int) (wn : (Lit.int .i64 n).wf = true) (wq : (Lit.int .i64 q).wf = true) (w : World) :
    Calls Tryz.prog 8 #[.int .i64 n, .int .i64 q] w fun e w' => e = .returned (.bool true) ∧ Below w.heap.size w w' := by
  have HAL := Aside0.mk (fun W => alive_any W)
  have HB0 := Aside0.mk (Below.refl w.heap.size w)
  clear wn wq
  by_cases h8 : n < 8
  · have d0 := decide_eq_true h8
    clear h8
    go_enter Tryz.func8, Tryz.ntmps8
    go_wp2_with (go_at_call 11; (with_reducible refine (HAL.out _).mono ?_); rintro e w2 ⟨rfl, hb2⟩; have n0_ := Aside0.mk (below_step HB0.out hb2); clear hb2 HB0; have HB0 := n0_; clear n0_)
    go_ret
    exact ⟨rfl, HB0.out⟩
  have d0 := decide_eq_false h8
  by_cases h60 : 60 < n
  · have d1 := decide_eq_true h60
    clear h8 h60
    go_enter Tryz.func8, Tryz.ntmps8
    go_wp2_with (go_at_call 11; (with_reducible refine (HAL.out _).mono ?_); rintro e w2 ⟨rfl, hb2⟩; have n0_ := Aside0.mk (below_step HB0.out hb2); clear hb2 HB0; have HB0 := n0_; clear n0_)
    go_ret
    exact ⟨rfl, HB0.out⟩
  have d1 := decide_eq_false h60
  by_cases q0 : q < 0
  · have d2 := decide_eq_true q0
    clear h8 h60 q0
    go_enter Tryz.func8, Tryz.ntmps8
    go_wp2_with (go_at_call 11; (with_reducible refine (HAL.out _).mono ?_); rintro e w2 ⟨rfl, hb2⟩; have n0_ := Aside0.mk (below_step HB0.out hb2); clear hb2 HB0; have HB0 := n0_; clear n0_)
    go_ret
    exact ⟨rfl, HB0.out⟩
  have d2 := decide_eq_false q0
  by_cases q7 : 7 < q
  · have d3 := decide_eq_true q7
    clear h8 h60 q0 q7
    go_enter Tryz.func8, Tryz.ntmps8
    go_wp2_with (go_at_call 11; (with_reducible refine (HAL.out _).mono ?_); rintro e w2 ⟨rfl, hb2⟩; have n0_ := Aside0.mk (below_step HB0.out hb2); clear hb2 HB0; have HB0 := n0_; clear n0_)
    go_ret
    exact ⟨rfl, HB0.out⟩
  have d3 := decide_eq_false q7
  obtain ⟨m, hnm⟩ : ∃ m : Nat, n = ((m + 2 : Nat) : Int) := ⟨(n - 2).toNat, by omega⟩
  obtain ⟨Q, hQ⟩ : ∃ Q : Nat, q = (Q : Int) := ⟨q.toNat, by omega⟩
  have hm6 : 6 ≤ m := by omega
  have hm198 : m ≤ 198 := by omega
  have hQ7 : Q ≤ 7 := by omega
  obtain ⟨hp, _⟩ := plan_none (m := m) (by omega) (by omega)
  obtain ⟨hd, hh, hl2, ha, hf⟩ := fmt_disk (N := m + 2) (l := []) (by omega) (by omega) hp
  have hrm := room_first hm6 hm198
  have HFM := Aside0.mk (fun (W : World) (hb : Below w.heap.size w W) => show Calls Tryz.prog 12 #[.int .i64 n, .slice none 0 0] W fun e w' => ∃ g, e = .returned (.tuple #[.pointer (some ⟨g, 0, none⟩), .int .i64 0]) ∧ VP.IsQ w w' g (fmtS (m + 2) []) ∧ Below W.heap.size W w' from by rw [hnm]; exact format_law hb (m + 2) (by omega) (by omega) none 0 [] (Kd.C_nil _ _) (Nat.le_refl _) (by decide) hp)
  have HOP := Aside0.mk (fun (W : World) (g : Nat) (hq : VP.IsQ w W g (fmtS (m + 2) [])) => (show Calls Tryz.prog 13 #[.pointer (some ⟨g, 0, none⟩)] W fun e w' => ∃ gv, e = .returned (.tuple #[.pointer (some ⟨gv, 0, none⟩), .int .i64 0]) ∧ IsV w w' gv g (fmtV (m + 2) []) ∧ Below W.heap.size W w' from open_disk hq hd hh hl2))
  obtain ⟨V0, hV0⟩ : ∃ V, V = fmtV (m + 2) [] := ⟨_, rfl⟩
  have HV0 := Aside0.mk (show Rm m 0 V0 ∧ V0.gen = 1 from by rw [hV0]; exact ⟨hrm, rfl⟩)
  rw [← hV0] at HOP
  obtain ⟨S0, hS0⟩ : ∃ S, S = fmtS (m + 2) [] := ⟨_, rfl⟩
  rw [← hS0] at HFM HOP
  have HM := Aside0.mk (And.intro hnm (And.intro hm6 hm198))
  obtain ⟨mm, hmm⟩ : ∃ x : Int, x = (m : Int) := ⟨_, rfl⟩
  have hw2 : IntKind.i64.wrap (n - 2) = mm := by rw [IntKind.wrap_i64, hmm]; omega
  have HMM0 := Aside0.mk hmm
  obtain ⟨NB, hNB⟩ : ∃ x : Int, x = 120 * q := ⟨_, rfl⟩
  have hw3 : IntKind.i64.wrap (120 * q) = NB := by rw [IntKind.wrap_i64, hNB]; omega
  have HNB := Aside0.mk (show 0 ≤ NB ∧ NB ≤ 840 from by rw [hNB]; omega)
  clear hp hd hh hl2 ha hf hrm hV0 hS0 h8 h60 q0 q7 hnm hQ hQ7 hm6 hm198 hmm hNB
  go_enter Tryz.func8, Tryz.ntmps8
  go_upto_region 6 with (first
    | (go_at_call 11; (with_reducible refine (HAL.out _).mono ?_); rintro e w2 ⟨rfl, hb2⟩; have HB2 := Aside0.mk (below_step HB0.out hb2); clear hb2 HB0)
    | (go_at_call 12; (with_reducible refine (HFM.out _ HB2.out).mono ?_); rintro e w3 ⟨g, rfl, hq, hb⟩; have HQ3 := Aside0.mk hq; clear hq hb HFM HB2))
  go_upto_region 9 with (go_at_call 13; (with_reducible refine (HOP.out _ _ HQ3.out).mono ?_); rintro e w4 ⟨gv, rfl, hv, hb⟩; have HV4 := Aside0.mk hv; clear hv hb HQ3 HOP)
  go_upto_region 10 with ((with_reducible refine gate_dst (N := 55) rfl ?_); refine Kd.R_make (Kd.int .u8) _ 5 rfl (N := 55) rfl 52 _ _ rfl NB rfl rfl Tryz.underlying52 (.int .u8 0) 1 info5 rfl (by decide) (by omega) 0 (ok := fun _ => True) (okp := fun _ => True) rfl (fun _ hk => hk) trivial HNB.out.1 (by have := HNB.out.2; omega) (Below.refl _ _) (Nat.le_refl _) ?_; intro v5 w5 ho5 hb hg_ hnew_; clear hg_ hnew_; have HV5 := Aside0.mk (HV4.out.below hb); have HO5 := Aside0.mk ho5; have HB5 := Aside0.mk hb; clear hb ho5)
  obtain ⟨xs0, hxs0⟩ : ∃ x : List Int, x = List.replicate NB.toNat 0 := ⟨_, rfl⟩
  have HX0 := Aside0.mk (show xs0.length = NB.toNat from by rw [hxs0, List.length_replicate])
  rw [← hxs0] at HO5
  obtain ⟨A5, c5, ev⟩ := Kd.R_slice HO5.out
  obtain ⟨bn, hbn⟩ : ∃ k, k = xs0.length := ⟨_, rfl⟩
  have HBN := Aside0.mk hbn
  rw [← hbn] at ev
  subst ev
  have HB8 := Aside0.mk (show bn ≤ 840 from by have h1 := HNB.out; have h2 := HX0.out; omega)
  clear hxs0 hbn
  go_wp2_with (fail)
  go_loopg [58] bn (fun kq v58 W => ∃ (i : Nat) (xs : List Int), v58 = .int .i64 i ∧ Aside0 (i + kq = bn) ∧ Aside0 (xs.length = bn) ∧ Aside0 ((Kd.int .u8).R 5 W w4.heap.size (fun _ => True) (.slice A5 bn c5) xs) ∧ Aside0 (Below w4.heap.size w4 W))
  case atStart => exact ⟨0, xs0, rfl, ⟨by omega⟩, ⟨HBN.out.symm⟩, HO5, HB5⟩
  case round =>
    obtain ⟨i, xs, rfl, HI, HXL, HO, HB⟩ := hrel
    clear HO5 HB5 HV5 HX0 HBN
    rename World => wr
    cases gk with
    | zero =>
      have hi : i = bn := by have := HI.out; omega
      subst hi
      have e1 : decide ((i : Int) < (i : Int)) = false := decide_eq_false (by omega)
      have e2 : decide (i < i) = false := decide_eq_false (by omega)
      have HVa := Aside0.mk (HV4.out.below HB.out)
      go_wp2_with (fail)
      clear e1 e2
      have HXI := Aside0.mk HXL.out
      have HOA := HO
      go_loopg [10] 30 (fun kq v10 W => ∃ (k : Nat) (V : VS) (ys : List Int), v10 = .int .i64 k ∧ Aside0 (k + kq = 30) ∧ Aside0 (Rm m k V ∧ 1 ≤ V.gen ∧ V.gen ≤ 1 + k) ∧ Aside0 (IsV w W gv g V) ∧ Aside0 (ys.length = i) ∧ Aside0 ((Kd.int .u8).R 5 W w4.heap.size (fun _ => True) (.slice A5 i c5) ys))
      case atStart => exact ⟨0, V0, xs, rfl, ⟨rfl⟩, ⟨HV0.out.1, by have := HV0.out.2; omega, by have := HV0.out.2; omega⟩, HVa, HXI, HOA⟩
      case round =>
        clear HVa HOA HO HB HXL HXI HV0
        obtain ⟨k, V, ys, rfl, HK, HRM, HV, HYL, HY⟩ := hrel
        rename World => wr2
        cases gk with
        | zero =>
          have hk : k = 30 := by have := HK.out; omega
          subst hk
          have HLAST := Aside0.mk (fun (W : World) (h : IsV w W gv g V) => room_last h HM.out.2.2 HRM.out.1 (by have := HRM.out.2.2; omega))
          have HRC := Aside0.mk (fun (W : World) (V : VS) (h : IsV w W gv g V) (he : V.recs = []) => records_any h (by rw [he]; decide))
          have HLV := Aside0.mk (fun (W : World) (V : VS) (h : IsV w W gv g V) (he : V.live.length = 1) => live_any h (by rw [he]; decide))
          go_wp2_with (first
            | (go_at_call 15; (with_reducible refine (HLAST.out _ HV.out).mono ?_); rintro e w7 ⟨V2, rfl, hv, hok, hr, hl⟩; have HV7 := Aside0.mk hv; have HR7 := Aside0.mk hr; have HL7 := Aside0.mk hl; clear hv hok hr hl HV)
            | (go_at_call 18; (with_reducible refine (HRC.out _ _ HV7.out HR7.out).mono ?_); rintro e w8 ⟨v8, rfl, hr, hb⟩; obtain ⟨A8, c8, ev⟩ := Kd.R_slice hr; rw [HR7.out, List.length_nil] at ev; subst ev; have HV8 := Aside0.mk (HV7.out.below hb); clear hr hb HV7)
            | (go_at_call 22; (with_reducible refine (HLV.out _ _ HV8.out HL7.out).mono ?_); rintro e w9 ⟨v9, rfl, hr, hb⟩; obtain ⟨A9, c9, ev⟩ := Kd.R_slice hr; rw [List.length_map, HL7.out] at ev; subst ev; have HV9 := Aside0.mk (HV8.out.below hb); clear hr hb HV8))
          go_ret
          exact ⟨rfl, IsQ_bel HV9.out.q⟩
        | succ og =>
          have hk : k < 30 := by have := HK.out; omega
          obtain ⟨x, hx⟩ : ∃ x : Int, x = (k : Int) := ⟨_, rfl⟩
          have f1 : decide (x < 30) = true := decide_eq_true (by omega)
          obtain ⟨rb, hrb⟩ : ∃ r : List Int, r = [x % 256] ++ ys := ⟨_, rfl⟩
          have HRB := Aside0.mk hrb
          rw [← hx]
          have HX := Aside0.mk (And.intro hx hk)
          clear hrb hx hk
          go_upto_region 19 with (first
            | ((with_reducible refine gate_dst (N := 74) rfl ?_); refine Kd.R_lit (Kd.int .u8) _ 5 ?hg (N := 74) ?hd (xs := [x % 256]) (inner := [.int .u8 (x % 256)]) (ok := fun _ => True) (okp := fun _ => True) ?hr ?hp (fun _ hk => hk) trivial (Below.refl _ _) (Nat.le_refl _) (by simp) ?_; (case hd => rfl); (case hg => rfl); (case hr => first | (go_simp; done) | (go_simp; rfl)); (case hp => exact reps_one (show Kd.M (Kd.int .u8) _ _ _ (x % 256) [.int .u8 (x % 256)] from rfl)); intro v10 w10 ho hb hg_ hnew_; clear hg_ hnew_; obtain ⟨A10, c10, ev⟩ := Kd.R_slice ho; subst ev; have HL10 := Aside0.mk ho; have HB10 := Aside0.mk hb; have HV10 := Aside0.mk (HV.out.below hb); have HY10 := Aside0.mk (Kd.R_below HY.out hb); clear hb ho)
            | ((with_reducible refine gate_builtin (b := .append) (xs := #[.tmp 74, .tmp 75]) rfl ?_); at_builtin; go_must (refine Kd.R_append_rows (Kd.int .u8) (Rr := (Kd.int .u8).K w10) wr2.heap.size rfl (.tmp 74) (.tmp 75) 52 5 (.int .u8 0) 1 rfl Tryz.underlying52 info5 rfl (by decide) (by omega) _ [x % 256] ys A5 i c5 (fun _ => True) (fun _ => False) rfl rfl HL10.out (by have := (Kd.R_reads' HY10.out).2.2; rw [HYL.out] at this; exact this) (fun x cs hx => by rw [show cs = [.int .u8 x] from hx]; rfl) (fun _ hk => hk.elim) (fun _ _ => trivial) (Below.refl _ _ |>.trans HB10.out) HB10.out.size (by have := HB8.out; simp; omega) ?_); intro v11 w11 ho_ hb_ hg_ hat_; rw [← HRB.out] at ho_; obtain ⟨A11, c11, ev⟩ := Kd.R_slice ho_; subst ev; have HR11 := Aside0.mk ho_; have HB11 := Aside0.mk hb_; clear ho_ hb_ hg_ hat_))
          have hcv := Kd.C_string (P := Tryz.prog) (src := 52) (dst := 9) (e := 5) (c := c11) Tryz.underlying52 Tryz.underlying5 Tryz.underlying9 ((Kd.R_reads' HR11.out).2.2)
          obtain ⟨sB, hsB⟩ : ∃ s, s = strOfNums rb := ⟨_, rfl⟩
          have HSB := Aside0.mk hsB
          rw [← hsB] at hcv
          clear hsB
          go_upto_region 20 with (fail)
          clear hcv
          obtain ⟨qb, hqb⟩ : ∃ q, q = w11.heap.size := ⟨_, rfl⟩
          obtain ⟨wA, hwA⟩ : ∃ W, W = w11.alloc (.cells #[.int .i64 x, .string sB] 50) := ⟨_, rfl⟩
          have HQB := Aside0.mk (show wA.heap[qb]? = some (.cells #[.int .i64 x, .string sB] 50 (0, 0)) from by rw [hqb, hwA]; exact (MapKept.heap_alloc w11 _).1)
          have HVA := Aside0.mk (show IsV w wA gv g V from by rw [hwA]; exact (HV.out.below HB11.out).below (below_alloc (Below.refl _ _) _))
          have HYA := Aside0.mk (show (Kd.int .u8).R 5 wA w4.heap.size (fun _ => True) (.slice A5 i c5) ys from by rw [hwA]; exact Kd.R_alloc (Kd.R_below HY.out HB11.out) _)
          rw [← hqb, ← hwA]
          clear hqb hwA
          have c0 := (blk_cell HQB.out 0).trans rfl
          have c1 := (blk_cell HQB.out 1).trans rfl
          obtain ⟨nI, hnI⟩ : ∃ y : Int, y = (needE [(x, sB)] : Int) := ⟨_, rfl⟩
          have HND := Aside0.mk (fun (W : World) (q : Nat) (hq : W.heap[q]? = some (.cells #[.int .i64 x, .string sB] 50 (0, 0))) => (show Calls Tryz.prog 30 #[.slice (some ⟨q, 0, none⟩) 1 1] W fun e w' => e = .returned (.int .i64 nI) ∧ Below W.heap.size W w' from by rw [hnI]; exact need_any W _ 1 [(x, sB)] (one_rec hq) (Nat.le_refl _) (by show 1 ≤ 9000; decide)))
          have HNI := Aside0.mk hnI
          clear hnI
          have HLV := Aside0.mk (fun (W : World) (h : IsV w W gv g V) => live_any h (by have := HRM.out.1.2.2.2; have := HM.out.2.2; omega))
          go_upto_region 21 with (first
            | (go_at_call 30; (with_reducible refine (HND.out _ _ (Cr.alloc_at rfl)).mono ?_); rintro e w12 ⟨rfl, hb⟩; have HB12 := Aside0.mk (below_step (below_alloc (Below.refl _ _) _) hb); clear hb)
            | (go_at_call 22; (with_reducible refine (HLV.out _ (HVA.out.below HB12.out)).mono ?_); rintro e w13 ⟨v13, rfl, hr, hb⟩; obtain ⟨A13, c13, ev⟩ := Kd.R_slice hr; subst ev; have HB13 := Aside0.mk (below_step HB12.out hb); clear hr hb))
          obtain ⟨lw, hlw⟩ : ∃ k, k = V.live.length := ⟨_, rfl⟩
          try rw [← hlw]
          have HLW := Aside0.mk hlw
          have HV13 := Aside0.mk (HVA.out.below HB13.out)
          have HY13 := Aside0.mk (Kd.R_below HYA.out HB13.out)
          have HQ13 := Aside0.mk ((HB13.out.block qb (blk_lt HQB.out)).trans HQB.out)
          clear c0 c1 hlw
          have c0 := (blk_cell HQ13.out 0).trans rfl
          have c1 := (blk_cell HQ13.out 1).trans rfl
          have hsz : sB.size ≤ 900 := by
            rw [HSB.out, strOfNums_size, HRB.out, List.length_append, HYL.out]
            have := HB8.out
            simp; omega
          have hsv := fun (W : World) (q : Nat) (hq : W.heap[q]? = some (.cells #[.int .i64 x, .string sB] 50 (0, 0))) (h : IsV w W gv g V) => room_save (r := (x, sB)) h HM.out.2.2 (k := x) (by rw [HX.out.1]; exact HRM.out.1) (by have := HRM.out.2.2; have := HX.out.2; omega) (some ⟨q, 0, none⟩) 1 rfl (by have := HX.out.1; omega) (by have := HX.out; omega) hsz (one_rec hq) (Nat.le_refl _)
          have HSV := Aside0.mk (fun (W : World) (q : Nat) (hq : W.heap[q]? = some (.cells #[.int .i64 x, .string sB] 50 (0, 0))) (h : IsV w W gv g V) => (show Calls Tryz.prog 15 #[.pointer (some ⟨gv, 0, none⟩), .slice (some ⟨q, 0, none⟩) 1 1] W fun e w' => ∃ ec V2, e = .returned (.int .i64 ec) ∧ IsV w w' gv g V2 ∧ OthersV W w' ∧ Rm m (x + 1) V2 ∧ (V.gen ≤ V2.gen ∧ V2.gen ≤ V.gen + 1) ∧ (ec = 0 ∨ (ec = 8 ∧ m < needE [(x, sB)] + V.live.length)) from hsv W q hq h))
          clear hsv hsz
          go_upto_region 22 with (go_at_call 15; (with_reducible refine (HSV.out _ _ (Cr.alloc_at rfl) (HV13.out.below (below_alloc (Below.refl _ _) _))).mono ?_); rintro e w14 ⟨ec, V2, rfl, hv, ho, hrm, hg, hw⟩; have HV14 := Aside0.mk hv; have HO14 := Aside0.mk ho; have HR14 := Aside0.mk hrm; have HG14 := Aside0.mk hg; have HW14 := Aside0.mk hw; clear hv ho hrm hg hw)
          have T5ov : ∀ q, q ∈ 5 :: (Kd.int .u8).E → q ≠ 114 ∧ q ≠ 9 ∧ q ≠ 116 ∧ q ≠ 103 := by intro q hq; simp [Kd.int, Kd.scalar] at hq; omega
          have HY14 := Aside0.mk (R_othersV (Kd.R_alloc HY13.out _) HO14.out T5ov)
          have hwx : IntKind.i64.wrap (x + 1) = ((k + 1 : Nat) : Int) := by have := HX.out; rw [IntKind.wrap_i64]; omega
          obtain ⟨sm, hsm⟩ : ∃ y, y = IntKind.i64.wrap (nI + (lw : Int)) := ⟨_, rfl⟩
          have hwr : IntKind.i64.wrap (nI + (lw : Int)) = sm := hsm.symm
          have hnd2 : needE [(x, sB)] ≤ 198 := by have := planE_len [(x, sB)] [] (pgs 198); rw [pgs_length] at this; exact this
          have hsv : sm = nI + (lw : Int) := by
            rw [hsm, IntKind.wrap_i64]
            have h1 := HNI.out
            have h2 := HLW.out
            have h3 := HRM.out.1.2.2.2
            have h4 := HM.out.2.2
            omega
          clear hsm c0 c1 hnd2 T5ov
          rcases HW14.out with hec | ⟨hec, hroom⟩
          · subst hec
            clear hsv
            go_wp2_with (fail)
            go_roundg og
            case measure => omega
            case rel => exact ⟨k + 1, V2, ys, by first | rfl | go_num, ⟨by have := HK.out; omega⟩, ⟨by have h1 := HR14.out; rw [HX.out.1] at h1; exact h1, by have := HG14.out; have := HRM.out.2; omega, by have := HG14.out; have := HRM.out.2; omega⟩, HV14, HYL, HY14⟩
          · subst hec
            have b2 : decide (sm ≤ mm) = false := decide_eq_false (by
              have h1 := HNI.out
              have h2 := HLW.out
              have h4 := HMM0.out
              omega)
            clear hroom hsv
            go_wp2_with (fail)
            go_roundg og
            case measure => omega
            case rel => exact ⟨k + 1, V2, ys, by first | rfl | go_num, ⟨by have := HK.out; omega⟩, ⟨by have h1 := HR14.out; rw [HX.out.1] at h1; exact h1, by have := HG14.out; have := HRM.out.2; omega, by have := HG14.out; have := HRM.out.2; omega⟩, HV14, HYL, HY14⟩
    | succ gk =>
      have hi : i < bn := by have := HI.out; omega
      have hbn840 : bn ≤ 840 := HB8.out
      obtain ⟨x, hx⟩ : ∃ x : Int, x = (i : Int) := ⟨_, rfl⟩
      have e1 : decide (x < (bn : Int)) = true := decide_eq_true (by omega)
      have p1 : 0 ≤ x := by omega
      have p2 : x < (bn : Int) := by omega
      have hwx : IntKind.i64.wrap (x + 1) = ((i + 1 : Nat) : Int) := by rw [IntKind.wrap_i64]; omega
      obtain ⟨g0, cap, eo, gb, gl, cells, hcl⟩ := Kd.R_form HO.out (by rw [HXL.out]; omega)
      rw [HXL.out] at eo
      injection eo with ea en ec
      subst ea ec
      have GB := Aside0.mk gb
      obtain ⟨hx0, hf0⟩ := Kd.R_celln 0 HO.out x p1 p2
      have HP := Kd.R_putg HO.out x ((wrap64 (Int.tdiv x 120)) % 256)
      rw [← hx]
      clear gb gl hcl en hx hi
      replace p1 := eq_true p1
      replace p2 := eq_true p2
      go_wp2_with (first | ((with_reducible refine gate_store (t := 5) (p := 66) rfl ?_); refine store_event (t := 5) (p := 66) (v := ?vo) (w1 := (wr.setCell ⟨g0, x.toNat, none⟩ (.int .u8 ((wrap64 (Int.tdiv x 120)) % 256)))) ?hg ?ho ?hn ?hr ?_; (case ho => rfl); (case hg => rfl); (case hn => rfl); (case hr => first | (go_simp; done) | (go_simp; rfl)); intro w20 hw; have HO2 := Aside0.mk (show (Kd.int .u8).R 5 w20 w4.heap.size (fun _ => True) (.slice (some ⟨g0, 0, none⟩) bn c5) (xs.set x.toNat ((wrap64 (Int.tdiv x 120)) % 256)) from by rw [hw]; exact HP.1); have HB2 := Aside0.mk (show Below w4.heap.size w4 w20 from by rw [hw]; exact below_set HB.out GB.out); clear HP hw hx0 hf0))
      go_roundg gk
      case measure => omega
      case rel => exact ⟨i + 1, _, by first | rfl | go_num, ⟨by have := HI.out; omega⟩, ⟨by rw [List.length_set]; exact HXL.out⟩, HO2, HB2⟩
end Go.Proofs.YtdhaoaehboonpaaGreat.V
