/- ShelfRights: walked. -/
import Derived.Test.YtpeeojbhfebcdaaQ6
namespace Go.Proofs.Ytpeeojbhfebcdaa.V
open Go.RowKit Go.Proofs.YtpeeojbhfebcdaaW.PrintWords Go.Proofs.YtpeeojbhfebcdaaW.PrintLast Go.Proofs.YtpeeojbhfebcdaaW.PrintMore
open Go.Proofs.Ytpeeojbhfebcdaa.PAll
set_option linter.unusedVariables false
set_option linter.unusedSimpArgs false

/-- a key that may be -/
def inB (k : Int) : Bool := decide (0 ≤ k) && decide (k ≤ 2147483647)
theorem in_any (k : Int) (w : World) : Calls Try.prog 20 #[.int .i64 k] w fun e w' => e = .returned (.bool (inB k)) ∧ w' = w := by
  unfold inB
  by_cases h1 : 0 ≤ k
  · have d1 := decide_eq_true h1
    have d0 : decide (k ≥ 0) = true := d1
    obtain ⟨b, hb⟩ : ∃ b, b = decide (k ≤ 2147483647) := ⟨_, rfl⟩
    have d2 := hb.symm
    rw [d1, ← hb]
    clear h1 hb
    cases b
    all_goals
      go_enter Try.func20, Try.ntmps20
      go_wp2
      go_ret
      exact ⟨by first | rfl | (rw [d2]; rfl), rfl⟩
  · have d1 := decide_eq_false h1
    have d0 : decide (k ≥ 0) = false := d1
    clear h1
    rw [d1, Bool.false_and]
    go_enter Try.func20, Try.ntmps20
    go_wp2
    go_ret
    exact ⟨by first | rfl | (rw [d1]; rfl), rfl⟩
def mayR (a b s : Int) : Bool := inB a && inB b && decide (a < b) && decide (s ≤ 900)
def twoR (a b : Int) (n : Nat) : List S45 := [⟨a, strOfNums (List.replicate n 0)⟩, ⟨b, ⟨#[]⟩⟩]
theorem twoR_right (a b : Int) (n : Nat) : rightF (-1) (tR (twoR a b n)) = mayR a b (n : Int) := by
  have hs : (strOfNums (List.replicate n 0)).size = n := by rw [strOfNums_size, List.length_replicate]
  have e : rightF (-1) (tR (twoR a b n)) = (decide (-1 < a) && (decide (a ≤ 2147483647) && (decide ((strOfNums (List.replicate n 0)).size ≤ 900) && (decide (a < b) && (decide (b ≤ 2147483647) && (decide ((0 : Nat) ≤ 900) && true)))))) := rfl
  rw [e, hs]
  unfold mayR inB
  rw [Bool.eq_iff_iff]
  simp only [Bool.and_eq_true, decide_eq_true_eq]
  constructor
  · rintro ⟨h1, h2, h3, h4, h5, h6, h7⟩
    exact ⟨⟨⟨⟨by omega, h2⟩, by omega, h5⟩, h4⟩, by omega⟩
  · rintro ⟨⟨⟨⟨h1, h2⟩, h3, h4⟩, h5⟩, h6⟩
    exact ⟨by omega, h2, by omega, h5, h4, by omega, trivial⟩
theorem need_nil : needE [] = 1 := by decide +kernel
theorem twoR_need (a b : Int) (n : Nat) : decide (0 < needE (tR (twoR a b n))) = mayR a b (n : Int) := by
  have hr := twoR_right a b n
  cases hm : mayR a b (n : Int) with
  | false =>
    rw [hm] at hr
    unfold needE
    rw [planE_right hr]
    rfl
  | true =>
    rw [hm] at hr
    have hl := lvs_length ((tR (twoR a b n)).map (cellE · 2)) []
    have hll : ((tR (twoR a b n)).map (cellE · 2)).length = 2 := rfl
    have h0 := plan_fits (hv := []) (fr := pgs 198) hr (pgs_may (Nat.le_refl _)) (by omega) (by rw [pgs_length]; show 8 * 2 + 22 < 198; omega)
    have h1 := plan_count h0
    exact decide_eq_true (by unfold needE; omega)
set_option maxHeartbeats 8000000 in
set_option maxRecDepth 100000 in
theorem rights_any (w : World) (a b s : Int) (w0 : (Lit.int .i64 a).wf = true) (w1 : (Lit.int .i64 b).wf = true) (w2 : (Lit.int .i64 s).wf = true) :
    Calls Try.prog 7 #[.int .i64 a, .int .i64 b, .int .i64 s] w fun e w' => e = .returned (.bool true) ∧ Below w.heap.size w w' := by
  have HB := Aside0.mk (Below.refl w.heap.size w)
  have HAL := Aside0.mk (fun W => maquettelaw16_alive.calls 200 true W (alive_f 200 (Nat.le_refl _)))
  by_cases h0 : s < 0
  · have d1 : decide (s < 0) = true := decide_eq_true h0
    go_enter Try.func7, Try.ntmps7
    go_wp2_with (fail)
    with_reducible refine (HAL.out _).mono ?_
    rintro e w3 ⟨rfl, hb3⟩
    have HB3 := Aside0.mk (below_step HB.out hb3)
    clear hb3
    go_wp2_with (fail)
    go_ret
    exact ⟨rfl, HB3.out⟩
  by_cases h1 : 1200 < s
  · have d1 : decide (s < 0) = false := decide_eq_false h0
    have d2 : decide (s > 1200) = true := decide_eq_true h1
    go_enter Try.func7, Try.ntmps7
    go_wp2_with (fail)
    with_reducible refine (HAL.out _).mono ?_
    rintro e w3 ⟨rfl, hb3⟩
    have HB3 := Aside0.mk (below_step HB.out hb3)
    clear hb3
    go_wp2_with (fail)
    go_ret
    exact ⟨rfl, HB3.out⟩
  obtain ⟨n, rfl⟩ : ∃ n : Nat, s = n := ⟨s.toNat, by omega⟩
  have hn : n ≤ 1200 := by omega
  have d1 : decide ((n : Int) < 0) = false := decide_eq_false h0
  have d2 : decide ((n : Int) > 1200) = false := decide_eq_false h1
  have d2' : decide (n > 1200) = false := decide_eq_false (by omega)
  have d3 : (0 ≤ (n : Int)) = True := eq_true (by omega)
  have d4 : (n ≤ 281474976710656) = True := eq_true (by omega)
  obtain ⟨z, hz⟩ : ∃ z : List Int, z = List.replicate n 0 := ⟨_, rfl⟩
  have hzl : z.length = n := by rw [hz, List.length_replicate]
  have hZ : List.replicate ((n : Int)).toNat (0 : Int) = z := by rw [Int.toNat_natCast, hz]
  have htw : twoR a b n = [(⟨a, strOfNums z⟩ : S45), ⟨b, ⟨#[]⟩⟩] := by unfold twoR; rw [hz]
  have hR := fun (W : World) (A : Option Addr) (c : Nat) (h : Kd.C k45 W A 2 (twoR a b n)) (hc : 2 ≤ c) => right_any A c (tR (twoR a b n)) W (by exact C_iso h) hc (by show 2 ≤ 1000000; omega)
  have hN := fun (W : World) (A : Option Addr) (c : Nat) (h : Kd.C k45 W A 2 (twoR a b n)) (hc : 2 ≤ c) => shelf_Need.calls 199 A c (twoR a b n) _ W h hc (need_f _ (by show 2 ≤ 9000; omega) 199 (Nat.le_refl _))
  have hR0 := fun (W : World) => right_any none 0 [] W (Kd.C_nil _ _) (Nat.le_refl _) (by show 0 ≤ 1000000; omega)
  have hN0 := fun (W : World) => shelf_Need.calls 199 none 0 [] _ W (Kd.C_nil _ _) (Nat.le_refl _) (need_f _ (by show 0 ≤ 9000; omega) 199 (Nat.le_refl _))
  have hnd := twoR_need a b n
  obtain ⟨x, hx⟩ : ∃ x, x = needE (tR (twoR a b n)) := ⟨_, rfl⟩
  rw [← hx] at hN hnd
  rw [twoR_right] at hR
  rw [show needE (tR []) = 1 from need_nil] at hN0
  obtain ⟨m, hm⟩ : ∃ m, m = mayR a b (n : Int) := ⟨_, rfl⟩
  rw [← hm] at hR hnd
  rw [htw] at hR hN
  simp only [List.length_nil] at hR0 hN0
  rw [show rightF (-1) [] = true from rfl] at hR0
  have HR := Aside0.mk hR
  have HN := Aside0.mk hN
  have HR0 := Aside0.mk hR0
  have HN0 := Aside0.mk hN0
  have HM := Aside0.mk hm
  have HND := Aside0.mk hnd
  have HZ := Aside0.mk hZ
  have HZL := Aside0.mk hzl
  have HN1 := Aside0.mk hn
  clear hR hN hR0 hN0 hx hm htw hz hnd h0 h1 hZ hzl hn
  go_enter Try.func7, Try.ntmps7
  go_wp2_with (fail)
  with_reducible refine (HAL.out _).mono ?_
  rintro e w3 ⟨rfl, hb3⟩
  have HB3 := Aside0.mk (below_step HB.out hb3)
  clear hb3 HB
  have hI := fun W => in_any a W
  have hJ := fun W => in_any b W
  have HI := Aside0.mk hI
  have HJ := Aside0.mk hJ
  clear hI hJ
  go_upto_region 5 with (first
    | ((with_reducible refine gate_dst (N := 23) rfl ?_); go_must (refine Kd.R_make (Kd.int .u8) _ 5 rfl (N := 23) rfl 43 _ _ rfl (n : Int) rfl rfl Try.underlying43 (.int .u8 0) 1 info5 rfl (by decide) (by omega) 0 (ok := fun _ => True) (okp := fun _ => True) rfl (fun _ hk => hk) trivial (by omega) (by rw [Int.toNat_natCast]; have := HN1.out; omega) (Below.refl _ _) (Nat.le_refl _) ?_); intro v202 w12 ho13 hb hg_ hnew_; rw [HZ.out] at ho13; have hcv := own_string (P := Try.prog) Try.underlying43 Try.underlying5 Try.underlying9 (Kd.own_of_R ho13); have HB4 := Aside0.mk (below_step HB3.out hb); clear hg_ hnew_ hb; obtain ⟨Ao14, co14, eo14⟩ := Kd.R_slice ho13; rw [HZL.out] at eo14; subst eo14; clear ho13)
    | ((with_reducible refine gate_dst (N := 28) rfl ?_); go_must (refine Kd.R_lit k45 _ 45 ?hg (N := 28) ?hd (xs := ([(⟨a, strOfNums z⟩ : S45), ⟨b, ⟨#[]⟩⟩] : List (S45))) (inner := [.int .i64 a, .string (strOfNums z), .int .i64 b, .string ⟨#[]⟩]) (ok := fun _ => True) (okp := fun _ => True) ?hr ?hp (fun _ hk => hk) trivial (Below.refl _ _) (Nat.le_refl _) (by simp) ?_); (case hd => rfl); (case hg => rfl); (case hr => first | (go_simp; done) | (go_simp; rfl)); (case hp => exact (Reps.c2 (show Kd.M k45 _ _ _ (⟨a, strOfNums z⟩ : S45) [.int .i64 a, .string (strOfNums z)] from (k45_mkM _ _ _ (⟨a, strOfNums z⟩ : S45) )) (Reps.c2 (show Kd.M k45 _ _ _ (⟨b, ⟨#[]⟩⟩ : S45) [.int .i64 b, .string ⟨#[]⟩] from (k45_mkM _ _ _ (⟨b, ⟨#[]⟩⟩ : S45) )) (Reps.none _ _)))); intro v206 w24 ho25 hb hg_ hnew_; clear hg_ hnew_; have HO := Aside0.mk (Kd.R_lower ho25 (below_size (by repeat (first | (with_reducible first | exact HB4.out | apply below_alloc | apply pw_below_drewN | apply below_drew1) | exact HB4.out)))); have HB5 := Aside0.mk (below_step (by repeat (first | (with_reducible first | exact HB4.out | apply below_alloc | apply pw_below_drewN | apply below_drew1) | exact HB4.out)) hb); clear HB4 hb ho25; obtain ⟨Ao26, co26, eo26⟩ := Kd.R_slice HO.out; subst eo26))
  have hE : (decide (a < b) = true ∨ decide (a < b) = false) := by cases decide (a < b) <;> simp
  go_cut [9] (fun v9 wc => v9 = .bool m ∧ Aside0 (Kd.R k45 45 wc w.heap.size (fun _ => True) (.slice Ao26 2 co26) [(⟨a, strOfNums z⟩ : S45), ⟨b, ⟨#[]⟩⟩]) ∧ Aside0 (Below w.heap.size w wc))
  case first =>
    have hm := HM.out
    unfold mayR at hm
    have q4 : decide ((n : Int) ≤ 900) = decide (n ≤ 900) := by by_cases h : n ≤ 900 <;> simp [h] <;> omega
    obtain ⟨b1, hb1⟩ : ∃ c, c = inB a := ⟨_, rfl⟩
    obtain ⟨b2, hb2⟩ : ∃ c, c = inB b := ⟨_, rfl⟩
    obtain ⟨b3, hb3⟩ : ∃ c, c = decide (a < b) := ⟨_, rfl⟩
    obtain ⟨b4, hb4⟩ : ∃ c, c = decide (n ≤ 900) := ⟨_, rfl⟩
    have HI2 := HI.out
    have HJ2 := HJ.out
    rw [← hb1] at hm HI2
    rw [← hb2] at hm HJ2
    rw [← hb3, q4, ← hb4] at hm
    rw [← hb4] at q4
    have q3 := hb3.symm
    have q5 := hb4.symm
    have HI3 := Aside0.mk HI2
    have HJ3 := Aside0.mk HJ2
    clear HI2 HJ2 HI HJ hb1 hb2 hb3 hb4 HM hE
    have eg : ∀ args w, (callFunc 20 args).run Try.prog w = .ok (.enter 20 args) w := enters_of Try.func20 (by kernel_rfl) rfl
    cases b1
    case false =>
      subst hm
      go_wp2_with (fail)
      with_reducible refine (HI3.out _).mono ?_
      rintro e w' ⟨rfl, rfl⟩
      go_wp2_with (fail)
      go_meet
      exact ⟨rfl, HO, HB5⟩
    case true =>
      cases b2
      case false =>
        subst hm
        go_wp2_with (fail)
        with_reducible refine (HI3.out _).mono ?_
        rintro e w' ⟨rfl, rfl⟩
        go_wp2_with (fail)
        with_reducible refine (HJ3.out _).mono ?_
        rintro e w' ⟨rfl, rfl⟩
        go_wp2_with (fail)
        go_meet
        exact ⟨rfl, HO, HB5⟩
      case true =>
        cases b3
        all_goals
          cases b4
          all_goals
            subst hm
            go_wp2_with (fail)
            with_reducible refine (HI3.out _).mono ?_
            rintro e w' ⟨rfl, rfl⟩
            go_wp2_with (fail)
            with_reducible refine (HJ3.out _).mono ?_
            rintro e w' ⟨rfl, rfl⟩
            go_wp2_with (fail)
            go_meet
            exact ⟨rfl, HO, HB5⟩
  case rest =>
    obtain ⟨rfl, HO, HB6⟩ := hcut
    clear HB5 HI HJ HM hE
    have hlen : (tR [(⟨a, strOfNums z⟩ : S45), ⟨b, ⟨#[]⟩⟩]).length = 2 := rfl
    have hR := HR.out
    have hN := HN.out
    have hlen2 : ([(⟨a, strOfNums z⟩ : S45), ⟨b, ⟨#[]⟩⟩]).length = 2 := rfl
    simp only [hlen] at hR
    simp only [hlen2] at hN
    have hR := hR wc _ _ (Kd.R_reads' HO.out).2.2 (Kd.R_reads' HO.out).2.1
    have HRR := Aside0.mk hR
    have HNN := Aside0.mk (fun (W : World) (hb : Below wc.heap.size wc W) => hN W _ _ (Kd.C_below (Kd.R_reads' HO.out).2.2 hb) (Kd.R_reads' HO.out).2.1)
    have q1 : decide ((x : Int) > 0) = m := by rw [← HND.out]; by_cases h : 0 < x <;> simp [h]
    have q2 : decide (x > 0) = m := HND.out
    clear hR hN HR HN hlen hlen2 HND
    cases m
    all_goals
      go_wp2_with (fail)
      with_reducible refine (HRR.out).mono ?_
      rintro e w7 ⟨rfl, hb7⟩
      have HNQ := Aside0.mk (HNN.out _ hb7)
      have HB7 := Aside0.mk (below_step HB6.out hb7)
      clear hb7 HRR HNN
      go_wp2_with (fail)
      with_reducible refine (HNQ.out).mono ?_
      rintro e w8 ⟨rfl, hb8⟩
      have HB8 := Aside0.mk (below_step HB7.out hb8)
      clear hb8
      go_wp2_with (fail)
      with_reducible refine (HR0.out _).mono ?_
      rintro e w9 ⟨rfl, hb9⟩
      have HB9 := Aside0.mk (below_step HB8.out hb9)
      clear hb9
      go_wp2_with (fail)
      with_reducible refine (HN0.out _).mono ?_
      rintro e w10 ⟨rfl, hb10⟩
      have HB10 := Aside0.mk (below_step HB9.out hb10)
      clear hb10
      go_wp2_with (fail)
      go_ret
      exact ⟨rfl, HB10.out⟩
end Go.Proofs.Ytpeeojbhfebcdaa.V
