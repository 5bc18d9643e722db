/- ShelfMore: walked. -/
import Derived.Test.YtpeeojbhfebcdaaQ3
import Derived.Test.YtpeeojbhfebcdaaQ4
namespace Go.Proofs.Ytpeeojbhfebcdaa.V
open Go.RowKit Go.Proofs.YtpeeojbhfebcdaaW.PrintWords Go.Proofs.YtpeeojbhfebcdaaW.PrintLast Go.Proofs.YtpeeojbhfebcdaaW.PrintMore
open Go.Proofs.Ytpeeojbhfebcdaa.PAll
set_option linter.unusedVariables false
set_option linter.unusedSimpArgs false

theorem need_more (l m : List R2) : needE l = 0 ∨ needE (l ++ m) = 0 ∨ needE l ≤ needE (l ++ m) := by
  by_cases h : (planE l [] (pgs 198)).2.2 = 0
  · by_cases h2 : (planE (l ++ m) [] (pgs 198)).2.2 = 0
    · exact .inr (.inr (plan_more h h2))
    · refine .inr (.inl ?_)
      unfold needE; rw [(planE_no h2).1]; rfl
  · refine .inl ?_
    unfold needE; rw [(planE_no h).1]; rfl
/-- the last key, or 0 -/
def lastK (l : List S45) : Int := if 0 < l.length then (l.getD (l.length - 1) z45).f0 else 0
set_option maxHeartbeats 8000000 in
set_option maxRecDepth 100000 in
theorem more_any (w : World) (A : Option Addr) (c : Nat) (l : List S45) (b : ByteArray) (hr : Kd.C k45 w A l.length l) (hc : l.length ≤ c) :
    Calls Try.prog 8 #[.slice A l.length c, .string b] w fun e w' => e = .returned (.bool true) ∧ Below w.heap.size w w' := by
  obtain ⟨fw, hf, hfw⟩ := few_f l hr.2.1 (l.length + 1) (by omega)
  have HF := Aside0.mk (maquettelaw16_Few.calls (l.length + 1) A c l fw w hr hc hf)
  have HAL := Aside0.mk (fun W => maquettelaw16_alive.calls 200 true W (alive_f 200 (Nat.le_refl _)))
  have hn63 : l.length ≤ 9223372036854775807 := hr.2.1
  cases fw with
  | false =>
    obtain ⟨n, hn⟩ : ∃ n, n = l.length := ⟨_, rfl⟩
    rw [← hn] at HF ⊢
    clear hf hfw hr hc hn
    go_enter Try.func8, Try.ntmps8
    go_wp2_with (fail)
    with_reducible refine (HF.out).mono ?_
    rintro e w1 ⟨rfl, hb1⟩
    have HB1 := Aside0.mk hb1.below
    clear hb1
    go_wp2_with (fail)
    with_reducible refine (HAL.out _).mono ?_
    rintro e w2 ⟨rfl, hb2⟩
    have HB2 := Aside0.mk (below_step HB1.out hb2)
    clear hb2
    go_wp2_with (fail)
    go_ret
    exact ⟨rfl, HB2.out⟩
  | true =>
    have hl := hfw rfl
    by_cases h300 : 300 < b.size
    · have d1 : decide ((b.size : Int) > 300) = true := decide_eq_true (by omega)
      have d2 : decide (b.size > 300) = true := decide_eq_true h300
      obtain ⟨n, hn⟩ : ∃ n, n = l.length := ⟨_, rfl⟩
      rw [← hn] at HF ⊢
      clear hf hfw hr hc hn h300
      go_enter Try.func8, Try.ntmps8
      go_wp2_with (fail)
      with_reducible refine (HF.out).mono ?_
      rintro e w1 ⟨rfl, hb1⟩
      have HB1 := Aside0.mk hb1.below
      clear hb1
      go_wp2_with (fail)
      with_reducible refine (HAL.out _).mono ?_
      rintro e w2 ⟨rfl, hb2⟩
      have HB2 := Aside0.mk (below_step HB1.out hb2)
      clear hb2
      go_wp2_with (fail)
      go_ret
      exact ⟨rfl, HB2.out⟩
    · have d1 : decide ((b.size : Int) > 300) = false := decide_eq_false (by omega)
      have d2 : decide (b.size > 300) = false := decide_eq_false h300
      have HR := Aside0.mk (fun (W : World) (hb : Below w.heap.size w W) => right_any A c (tR l) W (by rw [List.length_map]; exact C_iso (Kd.C_below hr hb)) (by rw [List.length_map]; exact hc) (by rw [List.length_map]; omega))
      rw [List.length_map] at HR
      have HNL := Aside0.mk (fun (W : World) (hb : Below w.heap.size w W) => shelf_Need.calls 199 A c l _ W (Kd.C_below hr hb) hc (need_f l (by omega) 199 (Nat.le_refl _)))
      have HL := Aside0.mk hr
      obtain ⟨rt, hrt⟩ : ∃ r, r = rightF (-1) (tR l) := ⟨_, rfl⟩
      rw [← hrt] at HR
      obtain ⟨ky, hky⟩ : ∃ k, k = lastK l := ⟨_, rfl⟩
      have hnm := need_more (tR l) (tR [(⟨wrap64 (ky + 1), b⟩ : S45)])
      rw [show tR l ++ tR [(⟨wrap64 (ky + 1), b⟩ : S45)] = tR (l ++ [(⟨wrap64 (ky + 1), b⟩ : S45)]) from by unfold tR; rw [List.map_append]] at hnm
      have HND := Aside0.mk (fun (W : World) (A3 : Option Addr) (c3 : Nat) (h1 : Kd.C k45 W A3 (l ++ [(⟨wrap64 (ky + 1), b⟩ : S45)]).length (l ++ [(⟨wrap64 (ky + 1), b⟩ : S45)])) (h2 : (l ++ [(⟨wrap64 (ky + 1), b⟩ : S45)]).length ≤ c3) => shelf_Need.calls 199 A3 c3 _ _ W h1 h2 (need_f _ (by simp; omega) 199 (Nat.le_refl _)))
      obtain ⟨x, hx⟩ : ∃ x, x = needE (tR l) := ⟨_, rfl⟩
      obtain ⟨y, hy⟩ : ∃ y, y = needE (tR (l ++ [(⟨wrap64 (ky + 1), b⟩ : S45)])) := ⟨_, rfl⟩
      rw [← hx] at hnm HNL
      rw [← hy] at hnm HND
      have HNM := Aside0.mk hnm
      have HKY := Aside0.mk hky
      have HXX := Aside0.mk (show ((x : Int) == 0) = decide (x = 0) ∧ ((y : Int) == 0) = decide (y = 0) from ⟨by by_cases h : x = 0 <;> simp [h], by by_cases h : y = 0 <;> simp [h]⟩)
      obtain ⟨n, hn⟩ : ∃ n, n = l.length := ⟨_, rfl⟩
      have HN := Aside0.mk hn
      have HC := Aside0.mk hc
      rw [← hn] at HF HR HNL hl hn63 ⊢
      clear hf hfw hr hc hrt hky hnm hx hy h300
      by_cases h0 : 0 < n
      · have e1 : decide ((n : Int) > 0) = true := decide_eq_true (by omega)
        have e2 : decide (n > 0) = true := decide_eq_true h0
        have hlk : ky = (rd_T45 l ((n : Int) - 1)).f0 := by
          rw [HKY.out]; unfold lastK rd_T45
          rw [if_pos (by rw [← hn]; exact h0), ← hn]
          congr 2; omega
        have hcell := fun (W : World) (hb : Below w.heap.size w W) => at_T45 (by rw [hn]; exact Kd.C_below HL.out hb) ((n : Int) - 1) (by omega) (by omega : (n : Int) - 1 < n)
        have HCE := Aside0.mk hcell
        have HLK := Aside0.mk hlk
        clear hcell hlk hn
        go_enter Try.func8, Try.ntmps8
        go_wp2_with (fail)
        with_reducible refine (HF.out).mono ?_
        rintro e w1 ⟨rfl, hb1⟩
        have HB1 := Aside0.mk hb1.below
        clear hb1
        go_wp2_with (fail)
        with_reducible refine (HAL.out _).mono ?_
        rintro e w2 ⟨rfl, hb2⟩
        have HB2 := Aside0.mk (below_step HB1.out hb2)
        clear hb2
        obtain ⟨ad, rfl, z0, _⟩ := HCE.out w2 HB2.out
        rw [← HLK.out, show ((n : Int) - 1).toNat = n - 1 by omega] at z0
        clear HLK HCE
        go_wp2_with (fail)
        with_reducible refine (HR.out _ HB2.out).mono ?_
        rintro e w3 ⟨rfl, hb3⟩
        have HB3 := Aside0.mk (below_step HB2.out hb3)
        clear hb3 z0
        cases rt with
        | false =>
          go_wp2_with (fail)
          go_ret
          exact ⟨rfl, HB3.out⟩
        | true =>
          by_cases hbig : 2147483647 ≤ ky
          · have e3 : decide (ky ≥ 2147483647) = true := decide_eq_true hbig
            go_wp2_with (fail)
            go_ret
            exact ⟨rfl, HB3.out⟩
          · have e3 : decide (ky ≥ 2147483647) = false := decide_eq_false hbig
            have hCW := Kd.C_below HL.out HB3.out
            rw [← HN.out] at hCW
            have HCW := Aside0.mk hCW
            clear hCW
            go_wp2_with (first
              | ((with_reducible refine gate_builtin (b := .append) (xs := #[.const (Value.slice none 0 0), .tmp 39]) rfl ?_); at_builtin; go_must (refine Kd.R_append_rows k45 (Rr := k45.K w3) w.heap.size rfl (.const (Value.slice none 0 0)) (.tmp 39) 22 45 (.agg #[(.int .i64 0), (.string ⟨#[]⟩)]) 24 rfl Try.underlying22 info45 rfl (by decide) (by omega) (.slice none 0 0) [] l (some ad) n c (fun _ => True) (fun _ => False) rfl rfl (Kd.R_nil _ _ _ _ _) HCW.out (fun x cs hx => by rw [k45_open hx]; exact k45_mkM _ _ _ _) (fun _ hk => hk.elim) (fun _ _ => trivial) HB3.out HB3.out.size (by have := HN.out; simp; omega) ?_); intro v4 w4 ho_ hb_ hg_ hat_; rw [List.nil_append] at ho_; have R4 := Aside0.mk ho_; have B4 := Aside0.mk hb_; clear ho_ hb_ hg_ hat_)
              | ((with_reducible refine gate_builtin (b := .append) (xs := #[.tmp 40, .tmp 45]) rfl ?_); at_builtin; go_must (refine Kd.R_append k45 w.heap.size rfl (.tmp 40) (.tmp 45) 22 45 (.agg #[(.int .i64 0), (.string ⟨#[]⟩)]) 24 rfl Try.underlying22 info45 rfl (by decide) (by omega) v4 l (⟨wrap64 (ky + 1), b⟩ : S45) [.int .i64 (wrap64 (ky + 1)), .string b] (fun _ => True) (fun _ => False) rfl rfl (k45_mkM _ _ _ (⟨wrap64 (ky + 1), b⟩ : S45)) (fun _ hk => hk.elim) (fun _ _ => trivial) R4.out B4.out B4.out.size (by have := HN.out; omega) ?_); intro v5 w5 ho_ hb_ hg_ hat_; obtain ⟨A5, c5, e5, hc5, hC5⟩ := Kd.R_reads ho_; have HD5 := Aside0.mk (fun (W : World) (hb : Below w5.heap.size w5 W) => HND.out W A5 c5 (Kd.C_below hC5 hb) hc5); obtain ⟨q, hq⟩ : ∃ q, q = (l ++ [(⟨wrap64 (ky + 1), b⟩ : S45)]).length := ⟨_, rfl⟩; rw [← hq] at HD5 e5; subst e5; clear hq; have HL5 := Aside0.mk (HNL.out w5 hb_); have B5 := Aside0.mk hb_; clear ho_ hb_ hg_ hat_ hc5 hC5))
            with_reducible refine (HL5.out).mono ?_
            rintro e w6 ⟨rfl, hb6⟩
            have HD6 := Aside0.mk (HD5.out w6 hb6)
            have HB6 := Aside0.mk (below_step B5.out hb6)
            clear hb6
            clear HD5 HL5 HND
            go_wp2_with (fail)
            with_reducible refine (HD6.out).mono ?_
            rintro e w7 ⟨rfl, hb7⟩
            have HB7 := Aside0.mk (below_step HB6.out hb7)
            clear hb7
            obtain ⟨f1, f2⟩ := HXX.out
            by_cases hx0 : x = 0
            · rw [decide_eq_true hx0] at f1
              go_wp2_with (fail)
              go_ret
              exact ⟨rfl, HB7.out⟩
            · rw [decide_eq_false hx0] at f1
              by_cases hy0 : y = 0
              · rw [decide_eq_true hy0] at f2
                go_wp2_with (fail)
                go_ret
                exact ⟨rfl, HB7.out⟩
              · rw [decide_eq_false hy0] at f2
                have hxy : x ≤ y := (HNM.out.resolve_left hx0).resolve_left hy0
                have f3 : decide ((y : Int) ≥ (x : Int)) = true := decide_eq_true (by omega)
                have f4 : decide (y ≥ x) = true := decide_eq_true hxy
                go_wp2_with (fail)
                go_ret
                exact ⟨rfl, HB7.out⟩
      · have hky0 : ky = 0 := by rw [HKY.out]; unfold lastK; rw [if_neg (by rw [← HN.out]; exact h0)]
        have e1 : decide ((n : Int) > 0) = false := decide_eq_false (by omega)
        have e2 : decide (n > 0) = false := decide_eq_false h0
        clear hn h0
        subst hky0
        rw [show wrap64 ((0 : Int) + 1) = 1 from by unfold wrap64; omega] at HND
        go_enter Try.func8, Try.ntmps8
        go_wp2_with (fail)
        with_reducible refine (HF.out).mono ?_
        rintro e w1 ⟨rfl, hb1⟩
        have HB1 := Aside0.mk hb1.below
        clear hb1
        go_wp2_with (fail)
        with_reducible refine (HAL.out _).mono ?_
        rintro e w2 ⟨rfl, hb2⟩
        have HB2 := Aside0.mk (below_step HB1.out hb2)
        clear hb2
        go_wp2_with (fail)
        with_reducible refine (HR.out _ HB2.out).mono ?_
        rintro e w3 ⟨rfl, hb3⟩
        have HB3 := Aside0.mk (below_step HB2.out hb3)
        clear hb3 
        cases rt with
        | false =>
          go_wp2_with (fail)
          go_ret
          exact ⟨rfl, HB3.out⟩
        | true =>
          by_cases hbig : 2147483647 ≤ (0 : Int)
          · have e3 : decide ((0 : Int) ≥ 2147483647) = true := decide_eq_true hbig
            go_wp2_with (fail)
            go_ret
            exact ⟨rfl, HB3.out⟩
          · have e3 : decide ((0 : Int) ≥ 2147483647) = false := decide_eq_false hbig
            have hCW := Kd.C_below HL.out HB3.out
            rw [← HN.out] at hCW
            have HCW := Aside0.mk hCW
            clear hCW
            go_wp2_with (first
              | ((with_reducible refine gate_builtin (b := .append) (xs := #[.const (Value.slice none 0 0), .tmp 39]) rfl ?_); at_builtin; go_must (refine Kd.R_append_rows k45 (Rr := k45.K w3) w.heap.size rfl (.const (Value.slice none 0 0)) (.tmp 39) 22 45 (.agg #[(.int .i64 0), (.string ⟨#[]⟩)]) 24 rfl Try.underlying22 info45 rfl (by decide) (by omega) (.slice none 0 0) [] l A n c (fun _ => True) (fun _ => False) rfl rfl (Kd.R_nil _ _ _ _ _) HCW.out (fun x cs hx => by rw [k45_open hx]; exact k45_mkM _ _ _ _) (fun _ hk => hk.elim) (fun _ _ => trivial) HB3.out HB3.out.size (by have := HN.out; simp; omega) ?_); intro v4 w4 ho_ hb_ hg_ hat_; rw [List.nil_append] at ho_; have R4 := Aside0.mk ho_; have B4 := Aside0.mk hb_; clear ho_ hb_ hg_ hat_)
              | ((with_reducible refine gate_builtin (b := .append) (xs := #[.tmp 40, .tmp 45]) rfl ?_); at_builtin; go_must (refine Kd.R_append k45 w.heap.size rfl (.tmp 40) (.tmp 45) 22 45 (.agg #[(.int .i64 0), (.string ⟨#[]⟩)]) 24 rfl Try.underlying22 info45 rfl (by decide) (by omega) v4 l (⟨(1 : Int), b⟩ : S45) [.int .i64 ((1 : Int)), .string b] (fun _ => True) (fun _ => False) rfl rfl (k45_mkM _ _ _ (⟨(1 : Int), b⟩ : S45)) (fun _ hk => hk.elim) (fun _ _ => trivial) R4.out B4.out B4.out.size (by have := HN.out; omega) ?_); intro v5 w5 ho_ hb_ hg_ hat_; obtain ⟨A5, c5, e5, hc5, hC5⟩ := Kd.R_reads ho_; have HD5 := Aside0.mk (fun (W : World) (hb : Below w5.heap.size w5 W) => HND.out W A5 c5 (Kd.C_below hC5 hb) hc5); obtain ⟨q, hq⟩ : ∃ q, q = (l ++ [(⟨(1 : Int), b⟩ : S45)]).length := ⟨_, rfl⟩; rw [← hq] at HD5 e5; subst e5; clear hq; have HL5 := Aside0.mk (HNL.out w5 hb_); have B5 := Aside0.mk hb_; clear ho_ hb_ hg_ hat_ hc5 hC5))
            with_reducible refine (HL5.out).mono ?_
            rintro e w6 ⟨rfl, hb6⟩
            have HD6 := Aside0.mk (HD5.out w6 hb6)
            have HB6 := Aside0.mk (below_step B5.out hb6)
            clear hb6
            clear HD5 HL5 HND
            go_wp2_with (fail)
            with_reducible refine (HD6.out).mono ?_
            rintro e w7 ⟨rfl, hb7⟩
            have HB7 := Aside0.mk (below_step HB6.out hb7)
            clear hb7
            obtain ⟨f1, f2⟩ := HXX.out
            by_cases hx0 : x = 0
            · rw [decide_eq_true hx0] at f1
              go_wp2_with (fail)
              go_ret
              exact ⟨rfl, HB7.out⟩
            · rw [decide_eq_false hx0] at f1
              by_cases hy0 : y = 0
              · rw [decide_eq_true hy0] at f2
                go_wp2_with (fail)
                go_ret
                exact ⟨rfl, HB7.out⟩
              · rw [decide_eq_false hy0] at f2
                have hxy : x ≤ y := (HNM.out.resolve_left hx0).resolve_left hy0
                have f3 : decide ((y : Int) ≥ (x : Int)) = true := decide_eq_true (by omega)
                have f4 : decide (y ≥ x) = true := decide_eq_true hxy
                go_wp2_with (fail)
                go_ret
                exact ⟨rfl, HB7.out⟩
end Go.Proofs.Ytpeeojbhfebcdaa.V
