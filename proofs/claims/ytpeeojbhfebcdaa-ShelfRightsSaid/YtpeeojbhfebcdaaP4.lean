/- May pages be asked for: may, walked. -/
import Derived.Test.YtpeeojbhfebcdaaP3
namespace Go.Proofs.Ytpeeojbhfebcdaa.V
open Go.RowKit Go.Proofs.YtpeeojbhfebcdaaW.PrintWords Go.Proofs.YtpeeojbhfebcdaaW.PrintLast Go.Proofs.YtpeeojbhfebcdaaW.PrintMore Go.Proofs.YtpeeojbhfebcdaaM
set_option linter.unusedVariables false
set_option linter.unusedSimpArgs false

theorem index_l0 (l : List Int) (x : Int) (hl : l.length ≤ 1000000) (d : Nat) : ∀ (k i : Nat), l.length - i = d → i ≤ l.length → d < k → ∃ r, PShelfMore.slices_Index_int_int.l0 k l x (l.length : Int) (i : Int) = some r ∧ (0 ≤ r ↔ x ∈ l.drop i) := by
  induction d with
  | zero =>
    intro k i hd hi hk
    obtain ⟨k, rfl⟩ : ∃ m, k = m + 1 := ⟨k - 1, by omega⟩
    refine ⟨-1, ?_, ?_⟩
    · simp only [PShelfMore.slices_Index_int_int.l0]; rw [if_neg (by omega)]
    · rw [List.drop_of_length_le (by omega)]; simp
  | succ d ih =>
    intro k i hd hi hk
    obtain ⟨k, rfl⟩ : ∃ m, k = m + 1 := ⟨k - 1, by omega⟩
    have hi2 : i < l.length := by omega
    simp only [PShelfMore.slices_Index_int_int.l0]
    rw [if_pos (by omega), if_pos (by omega), if_pos (by omega), List.drop_eq_getElem_cons hi2]
    have hrd : rd l (i : Int) = l[i] := by unfold rd; simp [hi2]
    rw [hrd]
    by_cases h : x = l[i]
    · rw [if_pos h]; exact ⟨_, rfl, by constructor; · intro _; rw [h]; exact List.mem_cons_self
                                       · intro _; omega⟩
    · rw [if_neg h]
      obtain ⟨r, h1, h2⟩ := ih k (i + 1) (by omega) (by omega) (by omega)
      rw [show wrap64 ((i : Int) + 1) = ((i + 1 : Nat) : Int) from by unfold wrap64; omega]
      exact ⟨r, h1, by rw [h2, List.mem_cons]; exact ⟨.inr, fun h3 => h3.resolve_left h⟩⟩
theorem contains_f (l : List Int) (x : Int) (hl : l.length ≤ 1000000) : PShelfMore.slices_Contains_int_int.f (l.length + 1) l x = some (decide (x ∈ l)) := by
  unfold PShelfMore.slices_Contains_int_int.f PShelfMore.slices_Index_int_int.f
  obtain ⟨r, h1, h2⟩ := index_l0 l x hl l.length (l.length + 1) 0 (by omega) (by omega) (by omega)
  rw [List.drop_zero] at h2
  rw [show ((0 : Nat) : Int) = 0 from rfl] at h1
  rw [h1, Option.bind_some]
  congr 1
  exact decide_eq_decide.2 h2
theorem contains_any (A : Option Addr) (c : Nat) (l : List Int) (x : Int) (w : World) (h : Kd.C (Kd.int .i64) w A l.length l) (hc : l.length ≤ c) (hl : l.length ≤ 1000000) :
    Calls Try.prog 50 #[.slice A l.length c, .int .i64 x] w fun e w' => e = .returned (.bool (decide (x ∈ l))) ∧ Below w.heap.size w w' :=
  (PShelfMore.slices_Contains_int_int.calls (l.length + 1) A c l x _ w h hc (contains_f l x hl)).mono fun _ _ ⟨he, hb⟩ => ⟨he, by first | exact hb | exact hb.below⟩
def badP (n : Int) : Bool := decide (n < 2) || decide (200 ≤ n)
set_option maxHeartbeats 1000000 in
theorem bad_any (n : Int) (w : World) : Calls Try.prog 52 #[.int .i64 n] w fun e w' => e = .returned (.bool (badP n)) ∧ w' = w := by
  unfold badP
  by_cases h1 : n < 2
  · have d1 := decide_eq_true h1
    clear h1
    go_enter Try.func52, Try.ntmps52
    go_wp2
    go_ret
    exact ⟨by rw [d1]; rfl, rfl⟩
  · have d1 := decide_eq_false h1
    obtain ⟨b, hb⟩ : ∃ b, b = decide (200 ≤ n) := ⟨_, rfl⟩
    have d2 := hb.symm
    rw [d1, ← hb]
    clear h1 hb
    cases b
    all_goals
      go_enter Try.func52, Try.ntmps52
      go_wp2
      go_ret
      exact ⟨by first | rfl | (rw [d2]; rfl), rfl⟩
set_option maxHeartbeats 4000000 in
set_option maxRecDepth 100000 in
theorem indexFunc_any (A : Option Addr) (c : Nat) (l : List Int) (w : World) (h : Kd.C (Kd.int .i64) w A l.length l) (hl : l.length ≤ 1000000) :
    Calls Try.prog 79 #[.slice A l.length c, .func (.func 52) #[] #[]] w fun e w' => ∃ r : Int, e = .returned (.int .i64 r) ∧ (0 ≤ r ↔ l.any badP = true) ∧ -1 ≤ r ∧ w' = w := by
  have HC := Aside0.mk h
  obtain ⟨n, hn⟩ : ∃ n, n = l.length := ⟨_, rfl⟩
  have HN := Aside0.mk hn
  rw [← hn] at HC hl ⊢
  have eg : ∀ args w, (callFunc 52 args).run Try.prog w = .ok (.enter 52 args) w := enters_of Try.func52 (by kernel_rfl) rfl
  clear h hn
  go_enter Try.func79, Try.ntmps79
  go_wp2_with (fail)
  go_loopg [8] n (fun kx v8 wr => ∃ i : Nat, v8 = .int .i64 i ∧ Aside0 (i + kx = n) ∧ Aside0 ((l.take i).any badP = false) ∧ wr = w)
  case atStart => exact ⟨0, rfl, ⟨by omega⟩, ⟨by simp⟩, rfl⟩
  case round =>
    obtain ⟨i, rfl, HI, HA, rfl⟩ := hrel
    cases gk with
    | zero =>
      have hi : i = n := by have := HI.out; omega
      subst hi
      have d1 : decide ((i : Int) < (i : Int)) = false := decide_eq_false (by omega)
      have d2 : decide (i < i) = false := decide_eq_false (by omega)
      go_wp2_with (fail)
      go_ret
      have hA := HA.out
      rw [List.take_of_length_le (by have := HN.out; omega)] at hA
      exact ⟨-1, rfl, by rw [hA]; simp, by omega, rfl⟩
    | succ gk =>
      have hi : i < n := by have := HI.out; omega
      have hil : i < l.length := by have := HN.out; omega
      have d1 : decide ((i : Int) < (n : Int)) = true := decide_eq_true (by omega)
      have d2 : decide (i < n) = true := decide_eq_true hi
      have d3 : (i < n) = True := eq_true hi
      have d4 : ((i : Int) < (n : Int)) = True := eq_true (by omega)
      have d5 : (0 ≤ (i : Int)) = True := eq_true (by omega)
      obtain ⟨ad, rfl, x0⟩ := Kd.at_int HC.out (i : Int) (by omega) (by omega)
      have hrd : rd l (i : Int) = l[i] := by unfold rd; simp [hil]
      rw [hrd, Int.toNat_natCast] at x0
      obtain ⟨x, hx⟩ : ∃ x, x = l[i] := ⟨_, rfl⟩
      rw [← hx] at x0
      have hany : (l.take (i + 1)).any badP = badP x := by
        rw [List.take_succ_eq_append_getElem hil, List.any_append, HA.out, ← hx]; simp
      have HB := Aside0.mk (bad_any x wr)
      cases hb : badP x with
      | true =>
        rw [hb] at HB hany
        have hall : l.any badP = true := by
          have h1 := congrArg (fun m => m.any badP) (List.take_append_drop (i + 1) l)
          simp only [List.any_append] at h1
          rw [← h1, hany]; rfl
        have HALL := Aside0.mk hall
        clear hall hany hb hx hrd hil
        go_wp2_with (fail)
        with_reducible refine (HB.out).mono ?_
        rintro e w' ⟨rfl, rfl⟩
        go_wp2_with (fail)
        go_ret
        exact ⟨i, rfl, by rw [HALL.out]; simp, by omega, rfl⟩
      | false =>
        rw [hb] at HB hany
        have HANY := Aside0.mk hany
        clear hany hb hx hrd hil
        go_wp2_with (fail)
        with_reducible refine (HB.out).mono ?_
        rintro e w' ⟨rfl, rfl⟩
        go_wp2_with (fail)
        go_roundg gk
        case measure => omega
        case rel => exact ⟨i + 1, by first | rfl | go_num, ⟨by have := HI.out; omega⟩, HANY, rfl⟩
set_option maxHeartbeats 4000000 in
theorem containsFunc_any (A : Option Addr) (c : Nat) (l : List Int) (w : World) (h : Kd.C (Kd.int .i64) w A l.length l) (hl : l.length ≤ 1000000) :
    Calls Try.prog 51 #[.slice A l.length c, .func (.func 52) #[] #[]] w fun e w' => e = .returned (.bool (l.any badP)) ∧ w' = w := by
  have HI := Aside0.mk (indexFunc_any A c l w h hl)
  obtain ⟨n, hn⟩ : ∃ n, n = l.length := ⟨_, rfl⟩
  obtain ⟨r0, hr0⟩ : ∃ r, r = l.any badP := ⟨_, rfl⟩
  rw [← hn, ← hr0] at HI
  rw [← hn, ← hr0]
  clear h hn hr0 hl
  go_enter Try.func51, Try.ntmps51
  go_wp2_with (fail)
  with_reducible refine (HI.out).mono ?_
  rintro e w' ⟨r, rfl, hr, hr1, rfl⟩
  have HE := Aside0.mk (show r0 = decide (0 ≤ r) by cases r0 with
    | true => rw [decide_eq_true (hr.2 rfl)]
    | false => rw [decide_eq_false (fun h => by have := hr.1 h; cases this)])
  clear hr
  go_wp2_with (fail)
  go_ret
  exact ⟨by rw [HE.out]; rfl, rfl⟩
/-- free pages are none that are there, and each once -/
def frOk (hv fr : List Int) (k : Nat) : Bool := (List.range k).all fun i => !decide (fr.getD i 0 ∈ hv) && !decide (fr.getD i 0 ∈ fr.take i)
def mayE (hv fr : List Int) : Bool := frOk hv fr fr.length && !((hv ++ fr).any badP)
theorem frOk_snoc (hv fr : List Int) (k : Nat) : frOk hv fr (k + 1) = (frOk hv fr k && (!decide (fr.getD k 0 ∈ hv) && !decide (fr.getD k 0 ∈ fr.take k))) := by
  unfold frOk; rw [List.range_succ, List.all_append]; simp
theorem frOk_more (hv fr : List Int) (k : Nat) (h : frOk hv fr k = false) : ∀ d, frOk hv fr (k + d) = false
  | 0 => h
  | d + 1 => by rw [← Nat.add_assoc, frOk_snoc, frOk_more hv fr k h d]; rfl
set_option maxHeartbeats 8000000 in
set_option maxRecDepth 100000 in
theorem may_any (w : World) (A : Option Addr) (c : Nat) (l : List R2) (B : Option Addr) (d : Nat) (fr : List Int) (h : Kd.C kR w A l.length l) (hc : l.length ≤ c) (hl : l.length ≤ 100000) (h2 : Kd.C (Kd.int .i64) w B fr.length fr) (hd : fr.length ≤ d) (hl2 : fr.length ≤ 100000) :
    Calls Try.prog 26 #[.slice A l.length c, .slice B fr.length d] w fun e w' => e = .returned (.bool (mayE (l.map (·.1)) fr)) ∧ Below w.heap.size w w' := by
  have HC := Aside0.mk h
  have HD := Aside0.mk h2
  have HCC := Aside0.mk hc
  have HDD := Aside0.mk hd
  obtain ⟨n, hn⟩ : ∃ n, n = l.length := ⟨_, rfl⟩
  obtain ⟨q, hq⟩ : ∃ q, q = fr.length := ⟨_, rfl⟩
  obtain ⟨hv, hhv⟩ : ∃ hv, hv = l.map (·.1) := ⟨_, rfl⟩
  have hvl : hv.length = n := by rw [hhv, List.length_map, hn]
  have HN := Aside0.mk hn
  have HQ := Aside0.mk hq
  have HV := Aside0.mk hhv
  have HVL := Aside0.mk hvl
  rw [← hn] at hl ⊢
  rw [← hq] at hl2 ⊢
  rw [← hhv]
  obtain ⟨i3, hi3, hz3⟩ := Option.map_eq_some_iff.1 info3
  have hsz3 : i3.size = 1 := by simp only [Prod.mk.injEq] at hz3; exact hz3.2.1
  have hcut := fun (k : Nat) (hk : k ≤ q) => print_take_of (P := Try.prog) (Value.int .i64) (0 : Int) 24 3 .i64 Try.underlying24 hi3 hsz3 B d fr (k : Int) (by omega) (by omega) hd
  have HCUT := Aside0.mk hcut
  clear h hc h2 hd hn hq hhv hvl hi3 hz3 hsz3 hcut
  go_enter Try.func26, Try.ntmps26
  go_wp2_with (fail)
  go_loopg [5, 12] n (fun kx v5 v12 wr => ∃ i : Nat, v12 = .int .i64 i ∧ Aside0 (i + kx = n) ∧ Aside0 ((Kd.int .i64).R 3 wr w.heap.size (fun k => w.heap.size ≤ k) v5 (hv.take i)) ∧ Aside0 (Below w.heap.size w wr))
  case atStart => exact ⟨0, rfl, ⟨by omega⟩, ⟨Kd.R_nil _ _ _ _ _⟩, ⟨Below.refl _ _⟩⟩
  case round =>
    obtain ⟨i, rfl, HI, HR, HB⟩ := hrel
    cases gk with
    | zero =>
      have hi : i = n := by have := HI.out; omega
      subst hi
      have d1 : decide ((i : Int) < (i : Int)) = false := decide_eq_false (by omega)
      have d2 : decide (i < i) = false := decide_eq_false (by omega)
      have hR := HR.out
      rw [List.take_of_length_le (by have := HVL.out; omega)] at hR
      obtain ⟨A2, c2, rfl, hc2, hC2⟩ := Kd.R_reads hR
      rw [HVL.out] at hR hc2 hC2 ⊢
      have HR2 := Aside0.mk hR
      have HC2 := Aside0.mk hC2
      have hctn := fun (x : Int) (W : World) (hW : Below wr.heap.size wr W) => contains_any A2 c2 hv x W (by rw [HVL.out]; exact Kd.C_below HC2.out hW) (by have := HVL.out; omega) (by have := HVL.out; omega)
      rw [HVL.out] at hctn
      have HCT := Aside0.mk hctn
      have hctn2 := fun (k : Nat) (hk : k ≤ q) (x : Int) (W : World) (hW : Below wr.heap.size wr W) => contains_any B d (fr.take k) x W (Kd.C_take (Kd.C_below (Kd.C_below HD.out HB.out) hW) (by have := HQ.out; omega)) (by rw [List.length_take]; have := HDD.out; omega) (by rw [List.length_take]; have := HQ.out; omega)
      have HCT2 := Aside0.mk hctn2
      clear hR hc2 hC2 hctn hctn2 HR
      go_wp2_with (fail)
      clear d1 d2
      go_loopg [24] q (fun kx v24 W => ∃ j : Nat, v24 = .int .i64 j ∧ Aside0 (j + kx = q) ∧ Aside0 (frOk hv fr j = true) ∧ Aside0 (Below wr.heap.size wr W))
      case atStart => exact ⟨0, rfl, ⟨by omega⟩, ⟨rfl⟩, ⟨Below.refl _ _⟩⟩
      case round =>
        obtain ⟨j, rfl, HJ, HF, HW⟩ := hrel
        rename World => W
        cases gk with
        | zero =>
          have hj : j = q := by have := HJ.out; omega
          have d1 : decide ((j : Int) < (q : Int)) = false := decide_eq_false (by omega)
          have d2 : decide (j < q) = false := decide_eq_false (by omega)
          have hF := HF.out
          have hm : mayE hv fr = !((hv ++ fr).any badP) := by unfold mayE; rw [← HQ.out, ← hj, hF]; rfl
          have hRW := Kd.R_below HR2.out HW.out
          have hDW := Kd.C_below (Kd.C_below HD.out HB.out) HW.out
          rw [← HQ.out] at hDW
          have HRW := Aside0.mk hRW
          have HDW := Aside0.mk hDW
          have HBW := Aside0.mk (below_step HB.out HW.out)
          have hlv : hv.length + q ≤ 300000 := by have := HVL.out; omega
          obtain ⟨r0, hr0⟩ : ∃ r, r = (hv ++ fr).any badP := ⟨_, rfl⟩
          have HR0 := Aside0.mk hr0
          rw [← hr0] at hm
          have HM := Aside0.mk hm
          clear hj hF hm hRW hDW hr0
          go_wp2_with (first
            | ((with_reducible refine gate_builtin (b := .append) (xs := #[.tmp 40, .tmp 41]) rfl ?_); at_builtin; go_must (refine Kd.R_append_rows (Kd.int .i64) (Rr := (Kd.int .i64).K W) w.heap.size rfl (.tmp 40) (.tmp 41) 24 3 (.int .i64 0) 8 rfl Try.underlying24 info3 rfl (by decide) (by omega) (.slice A2 i c2) hv fr B q d (fun k => w.heap.size ≤ k) (fun _ => False) rfl rfl HRW.out HDW.out (fun x cs hx => hx) (fun _ hk => hk.elim) ?aF HBW.out HBW.out.size (by omega) ?_); (case aF => exact fun k hk => Nat.le_trans HBW.out.size hk); intro v5_ w5_ ho_ hb_ hg_ hat_; obtain ⟨A3, c3, rfl, hc3, hC3⟩ := Kd.R_reads ho_; have HB5 := Aside0.mk hb_; have HCF := Aside0.mk (containsFunc_any A3 c3 (hv ++ fr) w5_ hC3 (by rw [List.length_append]; have := HVL.out; have := HQ.out; omega)); obtain ⟨l3, hl3⟩ : ∃ l3, l3 = (hv ++ fr).length := ⟨_, rfl⟩; rw [← hl3, ← HR0.out] at HCF; rw [← hl3]; clear ho_ hb_ hg_ hat_ hc3 hC3 hl3))
          with_reducible refine (HCF.out).mono ?_
          rintro e w6 ⟨rfl, rfl⟩
          go_wp2_with (fail)
          go_ret
          exact ⟨by rw [HM.out]; rfl, HB5.out⟩
        | succ gk =>
          have hj : j < q := by have := HJ.out; omega
          have hjl : j < fr.length := by have := HQ.out; omega
          have d1 : decide ((j : Int) < (q : Int)) = true := decide_eq_true (by omega)
          have d2 : decide (j < q) = true := decide_eq_true hj
          have d3 : (j < q) = True := eq_true hj
          have d4 : ((j : Int) < (q : Int)) = True := eq_true (by omega)
          have d5 : (0 ≤ (j : Int)) = True := eq_true (by omega)
          have hCW := Kd.C_below (Kd.C_below HD.out HB.out) HW.out
          rw [← HQ.out] at hCW
          obtain ⟨ad, rfl, x0⟩ := Kd.at_int hCW (j : Int) (by omega) (by omega)
          have hrd : rd fr (j : Int) = fr.getD j 0 := by unfold rd; rw [Int.toNat_natCast]
          rw [hrd, Int.toNat_natCast] at x0
          have hsn := frOk_snoc hv fr j
          obtain ⟨x, hx⟩ : ∃ x, x = fr.getD j 0 := ⟨_, rfl⟩
          rw [← hx, HF.out] at hsn
          rw [← hx] at x0
          have hc1 := HCT.out x W HW.out
          have hno : frOk hv fr (j + 1) = false → mayE hv fr = false := fun h => by
            unfold mayE
            have h2 := frOk_more hv fr (j + 1) h (fr.length - (j + 1))
            rw [show j + 1 + (fr.length - (j + 1)) = fr.length by omega] at h2
            rw [h2]; rfl
          obtain ⟨hrun, _, _⟩ := HCUT.out j (by omega)
          rw [Int.toNat_natCast] at hrun
          have hlj : (fr.take j).length = j := by rw [List.length_take]; have := HQ.out; omega
          rw [hlj, ← HQ.out] at hrun
          by_cases m1 : x ∈ hv
          · rw [decide_eq_true m1] at hsn hc1
            have hmf := hno hsn
            have HMF := Aside0.mk hmf
            have HC1 := Aside0.mk hc1
            clear hsn hc1 hno hmf m1 hx hrd hCW hjl hlj
            go_wp2_with (fail)
            with_reducible refine (HC1.out).mono ?_
            rintro e w6 ⟨rfl, hb⟩
            have HB6 := Aside0.mk (below_step (below_step HB.out HW.out) hb)
            clear hb
            go_wp2_with (fail)
            go_ret
            exact ⟨by rw [HMF.out]; rfl, HB6.out⟩
          · rw [decide_eq_false m1] at hsn hc1
            have HC1 := Aside0.mk hc1
            have hc2 := fun (w6 : World) (hb : Below W.heap.size W w6) => HCT2.out j (by omega) x w6 (below_step HW.out hb)
            rw [hlj] at hc2
            by_cases m2 : x ∈ fr.take j
            · rw [decide_eq_true m2] at hsn hc2
              have hmf := hno hsn
              have HMF := Aside0.mk hmf
              have HC2 := Aside0.mk hc2
              clear hsn hc1 hc2 hno hmf m1 m2 hx hrd hCW hjl hlj
              go_wp2_with (fail)
              with_reducible refine (HC1.out).mono ?_
              rintro e w6 ⟨rfl, hb⟩
              have HB6 := Aside0.mk hb
              clear hb
              go_wp2_with (fail)
              with_reducible refine (HC2.out _ HB6.out).mono ?_
              rintro e w7 ⟨rfl, hb⟩
              have HB7 := Aside0.mk (below_step (below_step (below_step HB.out HW.out) HB6.out) hb)
              clear hb
              go_wp2_with (fail)
              go_ret
              exact ⟨by rw [HMF.out]; rfl, HB7.out⟩
            · rw [decide_eq_false m2] at hsn hc2
              have HC2 := Aside0.mk hc2
              have HS := Aside0.mk hsn
              clear hsn hc1 hc2 hno m1 m2 hx hrd hCW hjl hlj
              go_wp2_with (fail)
              with_reducible refine (HC1.out).mono ?_
              rintro e w6 ⟨rfl, hb⟩
              have HB6 := Aside0.mk hb
              clear hb
              go_wp2_with (fail)
              with_reducible refine (HC2.out _ HB6.out).mono ?_
              rintro e w7 ⟨rfl, hb⟩
              have HB7 := Aside0.mk (below_step (below_step HW.out HB6.out) hb)
              clear hb
              go_wp2_with (fail)
              go_roundg gk
              case measure => omega
              case rel => exact ⟨j + 1, by first | rfl | go_num, ⟨by have := HJ.out; omega⟩, HS, HB7⟩
    | succ gk =>
      have hi : i < n := by have := HI.out; omega
      have hil : i < l.length := by have := HN.out; omega
      have d1 : decide ((i : Int) < (n : Int)) = true := decide_eq_true (by omega)
      have d2 : decide (i < n) = true := decide_eq_true hi
      have d3 : (i < n) = True := eq_true hi
      have d4 : ((i : Int) < (n : Int)) = True := eq_true (by omega)
      have d5 : (0 ≤ (i : Int)) = True := eq_true (by omega)
      have hCW := Kd.C_below HC.out HB.out
      rw [← HN.out] at hCW
      obtain ⟨ad, rfl, x0, x1⟩ := at_R hCW i hi
      have hvi : hv.take (i + 1) = hv.take i ++ [(atR l i).1] := by
        rw [List.take_succ_eq_append_getElem (by have := HVL.out; omega)]
        congr 2
        simp only [HV.out, List.getElem_map]
        unfold atR
        simp [List.getD, hil]
      obtain ⟨a, ha⟩ : ∃ a, a = (atR l i).1 := ⟨_, rfl⟩
      obtain ⟨b, hb⟩ : ∃ b, b = (atR l i).2 := ⟨_, rfl⟩
      rw [← ha] at x0 hvi
      rw [← hb] at x1
      have HVI := Aside0.mk hvi
      have hlt : (hv.take i).length ≤ 100000 := by rw [List.length_take]; omega
      clear hvi ha hb hCW hil
      go_wp2_with (first
        | ((with_reducible refine gate_builtin (b := .append) (xs := #[.tmp 16, .tmp 19]) rfl ?_); at_builtin; go_must (refine Kd.R_append (W := wr.alloc (.cells #[.int .i64 a, .string b] 28)) (Kd.int .i64) w.heap.size rfl (.tmp 16) (.tmp 19) 24 3 (.int .i64 0) 8 rfl Try.underlying24 info3 rfl (by decide) (by omega) u5 (hv.take i) a [.int .i64 a] (fun k => w.heap.size ≤ k) (fun _ => False) rfl (congrArg (fun k => Value.slice (some ⟨k, 0, none⟩) 1 1) (show wr.heap.size + 1 = (wr.alloc (.cells #[.int .i64 a, .string b] 28)).heap.size by rw [World.size_alloc])) (ki_mkM _ _ _ _) (fun _ hk => hk.elim) ?aF (Kd.R_alloc HR.out _) (below_alloc HB.out _) (below_size (below_alloc HB.out _)) (by omega) ?_); (case aF => exact fun k hk => Nat.le_trans (below_size (below_alloc HB.out _)) hk); intro v5_ w5_ ho_ hb_ hg_ hat_; rw [← HVI.out] at ho_; have HR2 := Aside0.mk ho_; have HB2 := Aside0.mk hb_; clear ho_ hb_ hg_ hat_))
      go_roundg gk
      case measure => omega
      case rel => exact ⟨i + 1, by first | rfl | go_num, ⟨by have := HI.out; omega⟩, HR2, HB2⟩
end Go.Proofs.Ytpeeojbhfebcdaa.V
