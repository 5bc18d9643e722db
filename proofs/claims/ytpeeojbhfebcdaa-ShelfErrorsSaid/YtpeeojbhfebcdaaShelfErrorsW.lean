/- ShelfErrors: walked. -/
import Derived.Test.YtpeeojbhfebcdaaQ5
namespace Go.Proofs.Ytpeeojbhfebcdaa.V
open Go.RowKit Go.Proofs.YtpeeojbhfebcdaaW.PrintWords Go.Proofs.YtpeeojbhfebcdaaW.PrintLast Go.Proofs.YtpeeojbhfebcdaaW.PrintMore
open Go.Proofs.Ytpeeojbhfebcdaa.PAll
set_option linter.unusedVariables false
set_option linter.unusedSimpArgs false

set_option maxHeartbeats 8000000 in
set_option maxRecDepth 100000 in
theorem errors_any (w : World) (A : Option Addr) (c : Nat) (l : List S45) (bad fr : Int) (hr : Kd.C k45 w A l.length l) (hc : l.length ≤ c) (wf : (Lit.int .i64 fr).wf = true) :
    Calls Try.prog 6 #[.slice A l.length c, .int .i64 bad, .int .i64 fr] w fun e w' => e = .returned (.bool true) ∧ Below w.heap.size w w' := by
  obtain ⟨fw, hf, hfw⟩ := few_f l hr.2.1 (l.length + 1) (by omega)
  have HF := Aside0.mk (maquettelaw16_Few.calls (l.length + 1) A c l fw w hr hc hf)
  have HAL := Aside0.mk (fun W => maquettelaw16_alive.calls 200 true W (alive_f 200 (Nat.le_refl _)))
  have hn63 : l.length ≤ 9223372036854775807 := hr.2.1
  have early : (fw = false ∨ fr < 0 ∨ 150 < fr) → Calls Try.prog 6 #[.slice A l.length c, .int .i64 bad, .int .i64 fr] w fun e w' => e = .returned (.bool true) ∧ Below w.heap.size w w' := by
    intro hb
    have hb : fw = false ∨ (fw = true ∧ fr < 0) ∨ (fw = true ∧ ¬ fr < 0 ∧ 150 < fr) := by
      cases fw with
      | false => exact .inl rfl
      | true =>
        by_cases h0 : fr < 0
        · exact .inr (.inl ⟨rfl, h0⟩)
        · exact .inr (.inr ⟨rfl, h0, by rcases hb with h | h | h; cases h; exact absurd h h0; exact h⟩)
    obtain ⟨n, hn⟩ : ∃ n, n = l.length := ⟨_, rfl⟩
    rw [← hn] at HF ⊢
    clear hf hfw hr hc hn
    rcases hb with rfl | ⟨rfl, h0⟩ | ⟨rfl, h0, h1⟩
    · go_enter Try.func6, Try.ntmps6
      go_wp2_with (fail)
      with_reducible refine (HF.out).mono ?_
      rintro e w1 ⟨rfl, hb1⟩
      have HB1 := Aside0.mk hb1.below
      clear hb1
      go_wp2_with (fail)
      with_reducible refine (HAL.out _).mono ?_
      rintro e w2 ⟨rfl, hb2⟩
      have HB2 := Aside0.mk (below_step HB1.out hb2)
      clear hb2
      go_wp2_with (fail)
      go_ret
      exact ⟨rfl, HB2.out⟩
    · have d1 : decide (fr < 0) = true := decide_eq_true h0
      go_enter Try.func6, Try.ntmps6
      go_wp2_with (fail)
      with_reducible refine (HF.out).mono ?_
      rintro e w1 ⟨rfl, hb1⟩
      have HB1 := Aside0.mk hb1.below
      clear hb1
      go_wp2_with (fail)
      with_reducible refine (HAL.out _).mono ?_
      rintro e w2 ⟨rfl, hb2⟩
      have HB2 := Aside0.mk (below_step HB1.out hb2)
      clear hb2
      go_wp2_with (fail)
      go_ret
      exact ⟨rfl, HB2.out⟩
    · have d1 : decide (fr < 0) = false := decide_eq_false h0
      have d2 : decide (fr > 150) = true := decide_eq_true h1
      go_enter Try.func6, Try.ntmps6
      go_wp2_with (fail)
      with_reducible refine (HF.out).mono ?_
      rintro e w1 ⟨rfl, hb1⟩
      have HB1 := Aside0.mk hb1.below
      clear hb1
      go_wp2_with (fail)
      with_reducible refine (HAL.out _).mono ?_
      rintro e w2 ⟨rfl, hb2⟩
      have HB2 := Aside0.mk (below_step HB1.out hb2)
      clear hb2
      go_wp2_with (fail)
      go_ret
      exact ⟨rfl, HB2.out⟩
  cases fw with
  | false => exact early (.inl rfl)
  | true =>
    by_cases h0 : fr < 0
    · exact early (.inr (.inl h0))
    by_cases h1 : 150 < fr
    · exact early (.inr (.inr h1))
    clear early
    obtain ⟨m, rfl⟩ : ∃ m : Nat, fr = m := ⟨fr.toNat, by omega⟩
    have hl := hfw rfl
    have hm : m ≤ 150 := by omega
    have d1 : decide ((m : Int) < 0) = false := decide_eq_false (by omega)
    have d2 : decide ((m : Int) > 150) = false := decide_eq_false (by omega)
    have d3 : decide (m > 150) = false := decide_eq_false (by omega)
    have HN := Aside0.mk (fun (W : World) (hb : Below w.heap.size w W) => shelf_Need.calls 199 A c l _ W (Kd.C_below hr hb) hc (need_f l (by omega) 199 (Nat.le_refl _)))
    have HR := Aside0.mk (fun (W : World) (hb : Below w.heap.size w W) => right_any A c (tR l) W (by rw [List.length_map]; exact C_iso (Kd.C_below hr hb)) (by rw [List.length_map]; exact hc) (by rw [List.length_map]; omega))
    rw [List.length_map] at HR
    have HP := Aside0.mk (fun (W : World) (hb : Below w.heap.size w W) (D : Option Addr) (d : Nat) (f : List Int) (hD : Kd.C (Kd.int .i64) W D f.length f) (hd : f.length ≤ d) (hf : f.length ≤ 10000) => shelf_Plan.calls A c l none 0 [] D d f _ _ _ W (Kd.C_below hr hb) hc (Kd.C_nil _ _) (Nat.le_refl _) hD hd (plan_f l [] f (by omega) (by simp) hf (by intro x hx; cases hx)))
    obtain ⟨rt, hrt⟩ : ∃ r, r = rightF (-1) (tR l) := ⟨_, rfl⟩
    rw [← hrt] at HR
    have hpf := fun h => plan_few (l := tR l) (m := m) (by omega) h
    have herr := planE_err (tR l) (tW []) (pgs m)
    have hbad := fun h => plan_bad (l := tR l) (m := m) (x := bad) h
    obtain ⟨x, hx⟩ : ∃ x, x = needE (tR l) := ⟨_, rfl⟩
    rw [← hx] at HN hpf
    have HP1 := Aside0.mk (fun (W : World) (hb : Below w.heap.size w W) (D : Option Addr) (d : Nat) (hD : Kd.C (Kd.int .i64) W D (pgs m).length (pgs m)) (hd : (pgs m).length ≤ d) => HP.out W hb D d (pgs m) hD hd (by rw [pgs_length]; omega))
    have HP2 := Aside0.mk (fun (W : World) (hb : Below w.heap.size w W) (D : Option Addr) (d : Nat) (hD : Kd.C (Kd.int .i64) W D (pgs m ++ [bad]).length (pgs m ++ [bad])) (hd : (pgs m ++ [bad]).length ≤ d) => HP.out W hb D d (pgs m ++ [bad]) hD hd (by rw [List.length_append, pgs_length]; simp; omega))
    obtain ⟨e1, he1⟩ : ∃ e, e = (planE (tR l) (tW []) (pgs m)).2.2 := ⟨_, rfl⟩
    obtain ⟨e2, he2⟩ : ∃ e, e = (planE (tR l) (tW []) (pgs m ++ [bad])).2.2 := ⟨_, rfl⟩
    change _ → ((planE (tR l) (tW []) (pgs m)).2.2 = 0 ↔ _) at hpf
    change _ → (planE (tR l) (tW []) (pgs m ++ [bad])).2.2 = 9 at hbad
    rw [← he1] at HP1 herr hpf
    rw [← he2] at HP2 hbad
    clear HP
    have HBAD := Aside0.mk hbad
    have HPF := Aside0.mk hpf
    have HERR := Aside0.mk herr
    have hpl : (pgs m).length = m := pgs_length m
    have hpl2 : (pgs m ++ [bad]).length = m + 1 := by rw [List.length_append, hpl]; rfl
    rw [hpl] at HP1
    rw [hpl2] at HP2
    simp only [List.length_nil] at HP1 HP2
    have HM := Aside0.mk (And.intro hm (And.intro hpl hpl2))
    obtain ⟨n, hn⟩ : ∃ n, n = l.length := ⟨_, rfl⟩
    rw [← hn] at HF HR HN HP1 HP2 hl hn63 ⊢
    have HXX := Aside0.mk (show ((x : Int) == 0) = decide (x = 0) from by by_cases h : x = 0 <;> simp [h])
    clear hf hfw hr hc hrt hbad hpf herr hpl hpl2 he1 he2 hx hn h0 h1
    go_enter Try.func6, Try.ntmps6
    go_wp2_with (fail)
    with_reducible refine (HF.out).mono ?_
    rintro e w1 ⟨rfl, hb1⟩
    have HB1 := Aside0.mk hb1.below
    clear hb1
    go_wp2_with (fail)
    with_reducible refine (HAL.out _).mono ?_
    rintro e w2 ⟨rfl, hb2⟩
    have HB := Aside0.mk (below_step HB1.out hb2)
    clear hb2 HB1
    go_wp2_with (fail)
    clear d1 d2 d3
    go_loopg [7, 8] (m + 1) (fun kq v7 v8 w' => ∃ (i : Nat), v8 = .int .i64 (i : Int) ∧ Aside0 (i ≤ m ∧ m + 1 ≤ i + kq) ∧ Aside0 (Kd.R (Kd.int .i64) 3 w' w.heap.size (fun _ => True) v7 (pgs i)) ∧ Aside0 (Below w.heap.size w w'))
    case atStart => exact ⟨0, rfl, ⟨Nat.zero_le _, by omega⟩, ⟨Kd.R_nil _ _ _ _ _⟩, HB⟩
    case round =>
      clear HB
      obtain ⟨i, rfl, HI, HO, HB⟩ := hrel
      cases gk with
      | zero => have := HI.out; omega
      | succ k1 =>
        by_cases him : i < m
        · have d1 : decide ((i : Int) < (m : Int)) = true := decide_eq_true (by omega)
          have d2 : decide (i < m) = true := decide_eq_true him
          have hi2 := HI.out.1
          go_wp2_with (first | ((with_reducible refine gate_builtin (b := .append) (xs := #[.tmp 38, .tmp 41]) rfl ?_); at_builtin; go_must (refine Kd.R_append (Kd.int .i64) w.heap.size rfl (.tmp 38) (.tmp 41) 24 3 (.int .i64 0) 8 rfl Try.underlying24 info3 rfl (by decide) (by omega) u7 (pgs i) ((i : Int) + 2) [.int .i64 ((i : Int) + 2)] (fun _ => True) (fun _ => False) rfl rfl rfl (fun _ hk => hk.elim) (fun _ _ => trivial) (by (with_reducible repeat (first | apply Kd.R_alloc | apply Kd.R_drewN | apply Kd.R_drew)); exact HO.out) (by repeat (first | (with_reducible first | exact HB.out | apply below_alloc | apply pw_below_drewN | apply below_drew1) | exact HB.out)) (below_size (by repeat (first | (with_reducible first | exact HB.out | apply below_alloc | apply pw_below_drewN | apply below_drew1) | exact HB.out))) (by have := HI.out; have := HM.out; rw [pgs_length]; omega) ?_); intro v3 w3 ho_ hb_ hg_ hat_; rw [← pgs_snoc] at ho_; clear HO HB; have HO := Aside0.mk ho_; have HB := Aside0.mk hb_; clear ho_ hb_ hg_ hat_))
          go_roundg k1
          case measure => omega
          case rel => exact ⟨i + 1, by go_num, ⟨him, by have := HI.out; omega⟩, HO, HB⟩
        · have d1 : decide ((i : Int) < (m : Int)) = false := decide_eq_false (by omega)
          have d2 : decide (i < m) = false := decide_eq_false him
          obtain rfl : i = m := by have := HI.out; omega
          clear him HI
          obtain ⟨Ao, co, eo⟩ := Kd.R_slice HO.out
          rw [HM.out.2.1] at eo
          subst eo
          go_wp2_with (fail)
          with_reducible refine (HN.out _ (by repeat (first | (with_reducible first | exact HB.out | apply below_alloc | apply pw_below_drewN | apply below_drew1) | exact HB.out))).mono ?_
          rintro e w4 ⟨rfl, hb4⟩
          have HB4 := Aside0.mk (below_step HB.out hb4)
          have HO4 := Aside0.mk (Kd.R_below HO.out hb4)
          clear hb4 HB HO
          go_wp2_with (fail)
          with_reducible refine (HP1.out _ HB4.out _ _ (by have := (Kd.R_reads' HO4.out).2.2; rwa [HM.out.2.1] at this) (by have := (Kd.R_reads' HO4.out).2.1; exact this)).mono ?_
          rintro e w5 ⟨v0, rfl, ho5, hb5⟩
          have HB5 := Aside0.mk (below_step HB4.out hb5)
          have HO5 := Aside0.mk (Kd.R_below HO4.out hb5)
          clear hb5 HB4 HO4 ho5
          go_upto_region 10 with (fail)
          have hx1 : decide ((x : Int) > 0) = decide (0 < x) := by by_cases h : 0 < x <;> simp [h]
          have hx2 : decide ((i : Int) ≥ (x : Int)) = decide (x ≤ i) := by by_cases h : x ≤ i <;> simp [h]
          have hP := HPF.out
          have hE := HERR.out
          obtain ⟨cx, hcx⟩ : ∃ b, b = decide (0 < x) := ⟨_, rfl⟩
          obtain ⟨cm, hcm⟩ : ∃ b, b = decide (x ≤ i) := ⟨_, rfl⟩
          rw [← hcx] at hx1
          rw [← hcm] at hx2
          have hx3 : decide (i ≥ x) = cm := hcm.symm
          have hx4 : decide (x > 0) = cx := hcx.symm
          have hk : cx = true → ((e1 = 0) ↔ cm = true) := fun h => by rw [hcm]; rw [hcx] at h; have := hP (of_decide_eq_true h); simpa using this
          clear hP HPF HERR hcx hcm HXX
          have HK := Aside0.mk hk
          clear hk
          go_cut [81] (fun v81 wc => v81 = .bool false ∧ Aside0 (Kd.R (Kd.int .i64) 3 wc w.heap.size (fun _ => True) (.slice Ao i co) (pgs i)) ∧ Aside0 (Below w.heap.size w wc))
          case first =>
            go_wp2_with (fail)
            with_reducible refine (HR.out _ HB5.out).mono ?_
            rintro e w6 ⟨rfl, hb6⟩
            have HB6 := Aside0.mk (below_step HB5.out hb6)
            have HO6 := Aside0.mk (Kd.R_below HO5.out hb6)
            clear hb6 HB5 HO5
            have fin : ∀ {P : Prop}, (cx = true → cm = true → P) → True := fun _ => trivial
            rcases hE with rfl | rfl | rfl | rfl
            all_goals
              cases rt
              case false =>
                clear HK
                go_wp2_with (fail)
                go_meet
                exact ⟨rfl, HO6, HB6⟩
              case true =>
                cases cx
                case false =>
                  clear HK
                  go_wp2_with (fail)
                  go_meet
                  exact ⟨rfl, HO6, HB6⟩
                case true =>
                  cases cm
                  all_goals
                    first
                    | (exfalso; have := HK.out rfl; simp at this; done)
                    | (clear HK
                       go_wp2_with (fail)
                       go_meet
                       exact ⟨rfl, HO6, HB6⟩)
          case rest =>
            obtain ⟨rfl, HO6, HB6⟩ := hcut
            clear HB5 HO5 hx1 hx2 hx3 hx4 HK hE HR
            have HC6 := Aside0.mk ((Kd.R_reads' HO6.out).2.2)
            rw [HM.out.2.1] at HC6
            go_wp2_with (first
              | ((with_reducible refine gate_builtin (b := .append) (xs := #[.const (Value.slice none 0 0), .tmp 84]) rfl ?_); at_builtin; go_must (refine Kd.R_append_rows (Kd.int .i64) (Rr := (Kd.int .i64).K wc) w.heap.size rfl (.const (Value.slice none 0 0)) (.tmp 84) 24 3 (.int .i64 0) 8 rfl Try.underlying24 info3 rfl (by decide) (by omega) (.slice none 0 0) [] (pgs i) Ao i co (fun _ => True) (fun _ => False) rfl rfl (Kd.R_nil _ _ _ _ _) HC6.out (fun x cs hx => hx) (fun _ hk => hk.elim) (fun _ _ => trivial) HB6.out HB6.out.size (by have := HM.out; simp; omega) ?_); intro v4 w4 ho_ hb_ hg_ hat_; rw [List.nil_append] at ho_; have R4 := Aside0.mk ho_; have B4 := Aside0.mk hb_; clear ho_ hb_ hg_ hat_)
              | ((with_reducible refine gate_builtin (b := .append) (xs := #[.tmp 85, .tmp 87]) rfl ?_); at_builtin; go_must (refine Kd.R_append (Kd.int .i64) w.heap.size rfl (.tmp 85) (.tmp 87) 24 3 (.int .i64 0) 8 rfl Try.underlying24 info3 rfl (by decide) (by omega) v4 (pgs i) bad [.int .i64 bad] (fun _ => True) (fun _ => False) rfl rfl rfl (fun _ hk => hk.elim) (fun _ _ => trivial) (by (with_reducible repeat (first | apply Kd.R_alloc | apply Kd.R_drewN | apply Kd.R_drew)); exact R4.out) (by repeat (first | (with_reducible first | exact B4.out | apply below_alloc | apply pw_below_drewN | apply below_drew1) | exact B4.out)) (below_size (by repeat (first | (with_reducible first | exact B4.out | apply below_alloc | apply pw_below_drewN | apply below_drew1) | exact B4.out))) (by have := HM.out; omega) ?_); intro v5 w5 ho_ hb_ hg_ hat_; obtain ⟨A5, c5, e5, hc5, hC5⟩ := Kd.R_reads ho_; rw [HM.out.2.2] at hc5 e5 hC5; subst e5; have C5 := Aside0.mk hC5; have Q5 := Aside0.mk hc5; have B5 := Aside0.mk hb_; clear ho_ hb_ hg_ hat_ hc5 hC5))
            with_reducible refine (HP2.out _ B5.out _ _ C5.out Q5.out).mono ?_
            rintro e w7 ⟨v0, rfl, ho7, hb7⟩
            have HB7 := Aside0.mk (below_step B5.out hb7)
            clear hb7 ho7
            by_cases hbd : (i : Int) + 2 ≤ bad ∧ bad < 200
            · have q1 : decide (bad ≥ (i : Int) + 2) = true := decide_eq_true hbd.1
              have q2 : decide (bad < 200) = true := decide_eq_true hbd.2
              clear hbd
              go_wp2_with (fail)
              go_ret
              exact ⟨rfl, HB7.out⟩
            · obtain rfl := HBAD.out hbd
              by_cases hb1 : (i : Int) + 2 ≤ bad
              · have q1 : decide (bad ≥ (i : Int) + 2) = true := decide_eq_true hb1
                have q2 : decide (bad < 200) = false := decide_eq_false (fun h => hbd ⟨hb1, h⟩)
                clear hbd
                go_wp2_with (fail)
                go_ret
                exact ⟨rfl, HB7.out⟩
              · have q1 : decide (bad ≥ (i : Int) + 2) = false := decide_eq_false hb1
                clear hbd
                go_wp2_with (fail)
                go_ret
                exact ⟨rfl, HB7.out⟩
end Go.Proofs.Ytpeeojbhfebcdaa.V
