/- PlatterKeeps, walked. -/
import Derived.Test.YtcmldpacgbhfmaaP10
import Derived.BigQuiet
namespace Go.Proofs.Ytcmldpacgbhfmaa.V
open Go.RowKit Go.Proofs.YtcmldpacgbhfmaaW.PrintWords Go.Proofs.YtcmldpacgbhfmaaW.PrintLast Go.Proofs.YtcmldpacgbhfmaaW.PrintMore
set_option linter.unusedVariables false
set_option linter.unusedSimpArgs false

def kp (l : List Bool) (i : Nat) : Bool := rdOf false l (i : Int)
def cutsL (l : List Bool) : Nat → List Int
  | 0 => []
  | i + 1 => cutsL l i ++ [if kp l i then 1000 else -5]
def cntL (l : List Bool) : Nat → Int
  | 0 => 0
  | i + 1 => if kp l i then cntL l i + 1 else cntL l i
theorem cutsL_length (l : List Bool) (i : Nat) : (cutsL l i).length = i := by
  induction i with
  | zero => rfl
  | succ i ih => rw [cutsL, List.length_append, ih]; rfl
theorem cutsL_rd (l : List Bool) (n i : Nat) (h : i < n) : rd (cutsL l n) (i : Int) = if kp l i then 1000 else -5 := by
  induction n with
  | zero => omega
  | succ n ih =>
    rw [cutsL]
    unfold rd
    rw [Int.toNat_natCast]
    by_cases hi : i < n
    · have := ih hi
      unfold rd at this
      rw [Int.toNat_natCast] at this
      rw [← this]
      simp [List.getD, List.getElem?_append_left (show i < (cutsL l n).length by rw [cutsL_length]; exact hi)]
    · obtain rfl : i = n := by omega
      have e : (cutsL l i ++ [if kp l i then (1000 : Int) else -5])[i]? = some (if kp l i then 1000 else -5) := by
        rw [List.getElem?_append_right (by rw [cutsL_length]; exact Nat.le_refl _), cutsL_length, Nat.sub_self]; rfl
      rw [List.getD, e]; rfl
theorem cntL_le (l : List Bool) (i : Nat) : 0 ≤ cntL l i ∧ cntL l i ≤ i := by
  induction i with
  | zero => exact ⟨Int.le_refl _, Int.le_refl _⟩
  | succ i ih => rw [cntL]; split <;> omega
def sX : ByteArray := ⟨#[120]⟩
def pX : ByteArray := fill sX
def pZ : ByteArray := fill ⟨#[]⟩
theorem pX_size : pX.size = 128 := fill_size _
theorem pZ_zer : pZ = zer 128 := by decide +kernel
theorem pX_ne : pX ≠ pZ := by decide +kernel
theorem pX_ne1 : (pX.toList == pZ.toList) = false := by decide +kernel
theorem pX_ne3 : (pZ.toList == pX.toList) = false := by decide +kernel
theorem pX_ne2 : pX.toList ≠ pZ.toList := by decide +kernel
structure In3 (j : Nat) (S : PS) : Prop where
  well : WellS S 20 j
  safe : S.safe = List.replicate 20 (zer 128)
  at_ : ∀ i, i < j → rd_T65 S.afl i = ⟨(i : Int), pX⟩
theorem rd65_push_lt (l : List S65) (p : S65) (i : Nat) (h : i < l.length) : rd_T65 (l ++ [p]) (i : Int) = rd_T65 l (i : Int) := by
  unfold rd_T65
  simp [List.getD, List.getElem?_append_left h]
theorem rd65_push_eq (l : List S65) (p : S65) (i : Nat) (h : i = l.length) : rd_T65 (l ++ [p]) (i : Int) = p := by
  subst h
  unfold rd_T65
  simp [List.getD]
theorem In3.step {j : Nat} {S : PS} (h : In3 j S) (hj : j < 20) : In3 (j + 1) (stS S j pX) := by
  refine ⟨h.well.st (by omega) (by omega) (fill_size _), h.safe, fun i hi => ?_⟩
  show rd_T65 (S.afl ++ [⟨(j : Int), pX⟩]) i = _
  by_cases hij : i < j
  · rw [rd65_push_lt _ _ _ (by rw [h.well.few]; exact hij)]; exact h.at_ i hij
  · obtain rfl : i = j := by omega
    rw [rd65_push_eq _ _ _ h.well.few.symm]
theorem cut_page (q : ByteArray) (hq : q.size = 128) : pX.extract 0 128 ++ q.extract 128 q.size = pX := by
  rw [hq]
  have h1 : q.extract 128 128 = ByteArray.empty := by simp
  have h2 : pX.extract 0 128 = pX := by rw [← pX_size]; exact ByteArray.extract_zero_size
  rw [h1, h2, ByteArray.append_empty]
theorem failed_keeps {l : List Bool} {S : PS} (h : In3 l.length S) (hl : l.length ≤ 20) (i : Nat) (hi : i ≤ l.length) :
    (failed S (cutsL l l.length) i).2 = cntL l i ∧ ∀ m, m < 20 → (failed S (cutsL l l.length) i).1[m]? = some (if m < i ∧ kp l m = true then pX else pZ) := by
  induction i with
  | zero =>
    refine ⟨rfl, fun m hm => ?_⟩
    show S.safe[m]? = _
    rw [h.safe, List.getElem?_replicate, if_pos hm, if_neg (fun hx => by omega), pZ_zer]
  | succ i ih =>
    obtain ⟨ih1, ih2⟩ := ih (by omega)
    rw [failed, cutsL_length, cutsL_rd l l.length i (by omega), cntL]
    by_cases hk : kp l i = true
    · rw [hk]
      simp only [if_true]
      rw [if_pos ⟨by omega, by decide⟩, h.at_ i (by omega)]
      refine ⟨by rw [ih1], fun m hm => ?_⟩
      show ((failed S (cutsL l l.length) i).1.set ((i : Int)).toNat (pX.extract 0 128 ++ (rdOf ByteArray.empty (failed S (cutsL l l.length) i).1 (i : Int)).extract 128 (rdOf ByteArray.empty (failed S (cutsL l l.length) i).1 (i : Int)).size))[m]? = _
      rw [cut_page _ (by
        refine failed_size h.well.pages (cutsL l l.length) i (by rw [h.well.few]; omega) _ (rdOf_mem (by omega) (by rw [failed_length, h.well.len]; omega))), Int.toNat_natCast, List.getElem?_set]
      by_cases hmi : i = m
      · subst hmi
        rw [if_pos rfl, if_pos (by rw [failed_length, h.well.len]; omega), if_pos ⟨by omega, hk⟩]
      · rw [if_neg hmi, ih2 m hm]
        congr 1
        by_cases h1 : m < i
        · by_cases h2 : kp l m = true
          · rw [if_pos ⟨h1, h2⟩, if_pos ⟨by omega, h2⟩]
          · rw [if_neg (fun hx => h2 hx.2), if_neg (fun hx => h2 hx.2)]
        · rw [if_neg (fun hx => h1 hx.1), if_neg (fun hx => by omega)]
    · have hk' : kp l i = false := by simpa using hk
      rw [hk']
      simp only [Bool.false_eq_true, if_false]
      rw [if_neg (fun hx => absurd hx.2 (by decide))]
      refine ⟨ih1, fun m hm => ?_⟩
      rw [ih2 m hm]
      congr 1
      by_cases h1 : m < i
      · by_cases h2 : kp l m = true
        · rw [if_pos ⟨h1, h2⟩, if_pos ⟨by omega, h2⟩]
        · rw [if_neg (fun hx => h2 hx.2), if_neg (fun hx => h2 hx.2)]
      · rw [if_neg (fun hx => h1 hx.1)]
        by_cases h2 : kp l m = true
        · have : m ≠ i := fun e => by rw [e] at h2; rw [hk'] at h2; cases h2
          rw [if_neg (fun hx => by omega)]
        · rw [if_neg (fun hx => h2 hx.2)]
theorem keeps_load {l : List Bool} {S : PS} (h : In3 l.length S) (hl : l.length ≤ 20) {i : Nat} (hi : i < l.length) : loadE (faS S (cutsL l l.length)) i = (if kp l i = true then pX else pZ, 0) := by
  have hw := h.well.fa (cutsL l l.length)
  unfold loadE
  rw [if_pos (hw.may (by omega) (by omega))]
  show ((((failed S (cutsL l l.length) S.afl.length).1.getD ((i : Int)).toNat ⟨#[]⟩, (0 : Int)))) = _
  have := (failed_keeps h hl l.length (Nat.le_refl _)).2 i (by omega)
  rw [h.well.few, Int.toNat_natCast, List.getD, this, Option.getD_some]
  by_cases h2 : kp l i = true
  · rw [if_pos ⟨hi, h2⟩, if_pos h2]
  · rw [if_neg (fun hx => h2 hx.2), if_neg h2]
set_option maxHeartbeats 8000000 in
set_option maxRecDepth 100000 in
theorem keeps_any (w0 : World) (A : Option Addr) (c : Nat) (l : List Bool) (hr : Kd.C Kd.bool w0 A l.length l) (hc : l.length ≤ c) :
    Calls Try.prog 6 #[.slice A l.length c] w0 fun e w' => e = .returned (.bool true) ∧ Below w0.heap.size w0 w' := by
  have HB := Aside0.mk (Below.refl w0.heap.size w0)
  have HR := Aside0.mk hr
  clear hr hc
  by_cases h0 : 20 < l.length
  · have t0 := decide_eq_true h0
    have u0 : decide (20 < (l.length : Int)) = true := decide_eq_true (by omega)
    clear h0
    go_enter Try.func6, Try.ntmps6
    go_wp2_with (first | (go_at_call 11; (with_reducible refine (alive_any _).mono ?_); rintro e w1 ⟨rfl, hb⟩; have n0_ := Aside0.mk (below_step HB.out hb); clear HB; have HB := n0_; clear n0_))
    go_ret
    exact ⟨by first | rfl | simp, HB.out⟩
  have t0 := decide_eq_false h0
  have u0 : decide (20 < (l.length : Int)) = false := decide_eq_false (by omega)
  have L1 := Aside0.mk (show l.length ≤ 20 by omega)
  clear h0
  have hn : ∀ w, Below w0.heap.size w0 w → Calls Try.prog 12 #[.int .i64 20] w fun e w' => ∃ g, e = .returned (.pointer (some ⟨g, 0, none⟩)) ∧ IsQ w0 w' g (newS 20) := fun w h => q_new w0 w h 20 (by decide) (by decide)
  have hf : ∀ w g S, IsQ w0 w g S → Calls Try.prog 13 #[.string ⟨#[120]⟩] w fun e w' => e = .returned (.string pX) ∧ IsQ w0 w' g S ∧ Below w.heap.size w w' := fun w g S h => by
    refine (fill_any ⟨#[120]⟩ w).mono ?_
    rintro e w' ⟨rfl, hb⟩
    exact ⟨rfl, h.below hb, hb⟩
  have hz : ∀ w g S, IsQ w0 w g S → Calls Try.prog 13 #[.string ⟨#[]⟩] w fun e w' => e = .returned (.string pZ) ∧ IsQ w0 w' g S ∧ Below w.heap.size w w' := fun w g S h => by
    refine (fill_any ⟨#[]⟩ w).mono ?_
    rintro e w' ⟨rfl, hb⟩
    exact ⟨rfl, h.below hb, hb⟩
  have X0 := Aside0.mk hn
  have XF := Aside0.mk hf
  have XZ := Aside0.mk hz
  clear hn hf hz
  go_enter Try.func6, Try.ntmps6
  go_wp2_with (first
    | (go_at_call 11; (with_reducible refine (alive_any _).mono ?_); rintro e w1 ⟨rfl, hb⟩; have n0_ := Aside0.mk (below_step HB.out hb); clear HB; have HB := n0_; clear n0_)
    | (go_at_call 12; go_must (with_reducible refine (X0.out _ HB.out).mono ?_); rintro e w1 ⟨g, rfl, hq⟩; have IPc := Aside0.mk hq; clear hq))
  go_loopg [4, 5, 25] l.length (fun kq v4 v5 v25 w' => ∃ (j : Nat) (V : Value), V = v4 ∧ v25 = .int .i64 j ∧ v5 = .int .i64 (cntL l j) ∧ Aside0 (j ≤ l.length ∧ l.length ≤ j + kq) ∧ Aside0 (Kd.R (Kd.int .i64) 3 w' w0.heap.size (fun _ => True) V (cutsL l j)) ∧ ∃ S, Aside0 (In3 j S) ∧ Aside0 (IsQ w0 w' g S))
  case atStart => exact ⟨0, _, rfl, rfl, rfl, ⟨Nat.zero_le _, by omega⟩, ⟨Kd.R_nil _ _ _ _ _⟩, _, ⟨WellS.new 20, rfl, fun i hi => by omega⟩, IPc⟩
  case round =>
    clear IPc
    obtain ⟨j, V, rfl, rfl, rfl, HJ, CU, S, HS, IPc⟩ := hrel
    by_cases hjn : j < l.length
    · have d1 : decide ((j : Int) < (l.length : Int)) = true := decide_eq_true (by omega)
      have d2 : decide (j < l.length) = true := decide_eq_true hjn
      have d3 : (0 ≤ (j : Int)) = True := eq_true (by omega)
      have d5 : (j < l.length) = True := eq_true hjn
      have d6 : ((j : Int) < (l.length : Int)) = True := eq_true (by omega)
      cases gk with
      | zero => have := HJ.out; omega
      | succ kk =>
        obtain ⟨ad, e0, hx⟩ := Kd.at_bool (Kd.C_below HR.out IPc.out.1) (j : Int) (by omega) (by omega)
        simp only [Int.toNat_natCast] at hx
        subst e0
        have HN := Aside0.mk hjn
        clear hjn
        cases hk : kp l j with
        | true =>
          have hk' : rdOf false l (j : Int) = true := hk
          rw [hk'] at hx
          have HKT := Aside0.mk hk
          clear hk hk'
          go_wp2_with (first
            | (go_at_call 13; go_must (with_reducible refine (XF.out _ _ _ IPc.out).mono ?_); rintro e w1 ⟨rfl, hq, hb⟩; have n1_ := Aside0.mk (Kd.R_below CU.out hb); clear CU hb; have CU := n1_; clear n1_; clear IPc; have IPc := Aside0.mk hq; clear hq)
            | (go_at_call 14; go_must (with_reducible refine (q_st IPc.out HS.out.well j pX (by omega) (by have := HN.out; have := L1.out; omega) pX_size (by have := HN.out; have := L1.out; omega) (by decide)).mono ?_); rintro e w1 ⟨rfl, hq, ho⟩; have n1_ := Aside0.mk (R_others CU.out ho); clear CU ho; have CU := n1_; clear n1_; clear IPc; have IPc := Aside0.mk hq; clear hq)
            | ((with_reducible refine gate_builtin (b := .append) (xs := #[.tmp 36, .tmp 37]) rfl ?_); at_builtin; go_must (refine Kd.R_append (Kd.int .i64) w0.heap.size rfl (.tmp 36) (.tmp 37) 38 3 (.int .i64 0) 8 rfl Try.underlying38 info3 rfl (by decide) (by omega) V (cutsL l j) (1000 : Int) [.int .i64 (1000)] (fun _ => True) (fun _ => False) rfl rfl (ki_mkM _ _ _ _) (fun _ hk => hk.elim) (fun _ _ => trivial) (CU.out) IPc.out.1 IPc.out.1.size (by rw [cutsL_length]; have := HN.out; have := L1.out; omega) ?_); intro v5_ w5_ ho_ hb_ hg_ hat_; have hq := IsQ.grown IPc.out CU.out hb_ hg_; clear IPc CU; have IPc := Aside0.mk hq; have CU := Aside0.mk ho_; clear hq ho_ hb_ hg_ hat_))
          go_roundg kk
          case measure => omega
          case rel =>
            refine ⟨j + 1, _, rfl, ?_, ?_, ⟨by have := HJ.out; have := HN.out; omega⟩, ⟨by rw [cutsL, HKT.out, if_pos rfl]; exact CU.out⟩, _, ⟨HS.out.step (by have := HN.out; have := L1.out; omega)⟩, IPc⟩
            · rw [Value.int.injEq]; refine ⟨rfl, ?_⟩; have := HN.out; have := L1.out; first | (rw [IntKind.wrap_i64]; omega) | (unfold wrap64; omega)
            · rw [Value.int.injEq]; refine ⟨rfl, ?_⟩; rw [cntL, HKT.out, if_pos rfl]; have := cntL_le l j; have := HN.out; have := L1.out; first | (rw [IntKind.wrap_i64]; omega) | (unfold wrap64; omega)
        | false =>
          have hk' : rdOf false l (j : Int) = false := hk
          rw [hk'] at hx
          have HKT := Aside0.mk hk
          clear hk hk'
          go_wp2_with (first
            | (go_at_call 13; go_must (with_reducible refine (XF.out _ _ _ IPc.out).mono ?_); rintro e w1 ⟨rfl, hq, hb⟩; have n1_ := Aside0.mk (Kd.R_below CU.out hb); clear CU hb; have CU := n1_; clear n1_; clear IPc; have IPc := Aside0.mk hq; clear hq)
            | (go_at_call 14; go_must (with_reducible refine (q_st IPc.out HS.out.well j pX (by omega) (by have := HN.out; have := L1.out; omega) pX_size (by have := HN.out; have := L1.out; omega) (by decide)).mono ?_); rintro e w1 ⟨rfl, hq, ho⟩; have n1_ := Aside0.mk (R_others CU.out ho); clear CU ho; have CU := n1_; clear n1_; clear IPc; have IPc := Aside0.mk hq; clear hq)
            | ((with_reducible refine gate_builtin (b := .append) (xs := #[.tmp 41, .tmp 42]) rfl ?_); at_builtin; go_must (refine Kd.R_append (Kd.int .i64) w0.heap.size rfl (.tmp 41) (.tmp 42) 38 3 (.int .i64 0) 8 rfl Try.underlying38 info3 rfl (by decide) (by omega) V (cutsL l j) (-5 : Int) [.int .i64 (-5)] (fun _ => True) (fun _ => False) rfl rfl (ki_mkM _ _ _ _) (fun _ hk => hk.elim) (fun _ _ => trivial) (CU.out) IPc.out.1 IPc.out.1.size (by rw [cutsL_length]; have := HN.out; have := L1.out; omega) ?_); intro v5_ w5_ ho_ hb_ hg_ hat_; have hq := IsQ.grown IPc.out CU.out hb_ hg_; clear IPc CU; have IPc := Aside0.mk hq; have CU := Aside0.mk ho_; clear hq ho_ hb_ hg_ hat_))
          go_roundg kk
          case measure => omega
          case rel =>
            refine ⟨j + 1, _, rfl, ?_, ?_, ⟨by have := HJ.out; have := HN.out; omega⟩, ⟨by rw [cutsL, HKT.out, if_neg (by decide)]; exact CU.out⟩, _, ⟨HS.out.step (by have := HN.out; have := L1.out; omega)⟩, IPc⟩
            · rw [Value.int.injEq]; refine ⟨rfl, ?_⟩; have := HN.out; have := L1.out; first | (rw [IntKind.wrap_i64]; omega) | (unfold wrap64; omega)
            · rw [Value.int.injEq]; refine ⟨rfl, ?_⟩; rw [cntL, HKT.out, if_neg (by decide)]
    · have hj : j = l.length := by have := HJ.out; omega
      have HS1 : Aside0 (In3 l.length S) := ⟨hj ▸ HS.out⟩
      have CU1 : Aside0 (Kd.R (Kd.int .i64) 3 _ w0.heap.size (fun _ => True) V (cutsL l l.length)) := ⟨hj ▸ CU.out⟩
      have d1 : decide ((j : Int) < (l.length : Int)) = false := decide_eq_false (by omega)
      have d2 : decide (j < l.length) = false := decide_eq_false hjn
      have hcn : cntL l j = cntL l l.length := by rw [hj]
      rw [hcn]
      clear hjn HS HJ CU hcn hj
      obtain ⟨C, cc, hv⟩ := Kd.R_slice CU1.out
      rw [cutsL_length] at hv
      subst hv
      have HF := Aside0.mk (failed_keeps HS1.out L1.out l.length (Nat.le_refl _)).1
      have HFA : Aside0 (WellS (faS S (cutsL l l.length)) 20 0) := ⟨HS1.out.well.fa _⟩
      go_wp2_with (first
          | (go_at_call 16; go_must (with_reducible refine (q_fa IPc.out HS1.out.well (by have := L1.out; omega) C cc (cutsL l l.length) l.length (cutsL_length _ _).symm (fun W' ho => (Kd.R_reads' (R_others CU1.out ho)).2.2) HF.out).mono ?_); rintro e w1 ⟨rfl, hq⟩; clear IPc; have IPc := Aside0.mk hq; clear hq))
      go_loopg [52] l.length (fun kq v52 w' => ∃ j : Nat, v52 = .int .i64 j ∧ Aside0 (j ≤ l.length ∧ l.length ≤ j + kq) ∧ Aside0 (IsQ w0 w' g (faS S (cutsL l l.length))))
      case atStart => exact ⟨0, rfl, ⟨Nat.zero_le _, by omega⟩, IPc⟩
      case round =>
        clear IPc CU1
        obtain ⟨k, rfl, HK, IPc⟩ := hrel
        by_cases hjn : k < l.length
        · have d1 : decide ((k : Int) < (l.length : Int)) = true := decide_eq_true (by omega)
          have d2 : decide (k < l.length) = true := decide_eq_true hjn
          have d3 : (0 ≤ (k : Int)) = True := eq_true (by omega)
          have d5 : (k < l.length) = True := eq_true hjn
          have d6 : ((k : Int) < (l.length : Int)) = True := eq_true (by omega)
          cases gk with
          | zero => have := HK.out; omega
          | succ kk =>
            obtain ⟨ad, e0, hx⟩ := Kd.at_bool (Kd.C_below HR.out IPc.out.1) (k : Int) (by omega) (by omega)
            simp only [Int.toNat_natCast] at hx
            subst e0
            have HN := Aside0.mk hjn
            clear hjn
            have HLD := Aside0.mk (keeps_load HS1.out L1.out HN.out)
            have PNE := Aside0.mk pX_ne
            cases hk : kp l k with
            | true =>
              have hk' : rdOf false l (k : Int) = true := hk
              rw [hk'] at hx
              have HL2 : Aside0 (loadE (faS S (cutsL l l.length)) k = (pX, 0)) := ⟨by rw [HLD.out, hk, if_pos rfl]⟩
              have g1 : (pX.toList == pZ.toList) = false := pX_ne1; have g2 : (pX.toList = pZ.toList) = False := eq_false pX_ne2
              clear hk hk' HLD
              go_wp2_with (first
                | (go_at_call 13; go_must (with_reducible first | refine (XF.out _ _ _ IPc.out).mono ?_ | refine (XZ.out _ _ _ IPc.out).mono ?_); rintro e w1 ⟨rfl, hq, -⟩; clear IPc; have IPc := Aside0.mk hq; clear hq)
                | (go_at_call 17; go_must (with_reducible refine (q_load IPc.out k (Go.WalkArith.wf_i64 (by have := HN.out; have := L1.out; omega)) HL2.out).mono ?_); rintro e w1 ⟨rfl, hq⟩; clear IPc; have IPc := Aside0.mk hq; clear hq))
              go_roundg kk
              case measure => omega
              case rel =>
                refine ⟨k + 1, ?_, ⟨by have := HK.out; have := HN.out; omega⟩, IPc⟩
                rw [Value.int.injEq]; refine ⟨rfl, ?_⟩; have := HN.out; have := L1.out; first | (rw [IntKind.wrap_i64]; omega) | (unfold wrap64; omega)
            | false =>
              have hk' : rdOf false l (k : Int) = false := hk
              rw [hk'] at hx
              have HL2 : Aside0 (loadE (faS S (cutsL l l.length)) k = (pZ, 0)) := ⟨by rw [HLD.out, hk, if_neg (by decide)]⟩
              have g1 : (pZ.toList == pX.toList) = false := pX_ne3; have g2 : (pZ.toList = pX.toList) = False := eq_false (Ne.symm pX_ne2)
              clear hk hk' HLD
              go_wp2_with (first
                | (go_at_call 13; go_must (with_reducible first | refine (XF.out _ _ _ IPc.out).mono ?_ | refine (XZ.out _ _ _ IPc.out).mono ?_); rintro e w1 ⟨rfl, hq, -⟩; clear IPc; have IPc := Aside0.mk hq; clear hq)
                | (go_at_call 17; go_must (with_reducible refine (q_load IPc.out k (Go.WalkArith.wf_i64 (by have := HN.out; have := L1.out; omega)) HL2.out).mono ?_); rintro e w1 ⟨rfl, hq⟩; clear IPc; have IPc := Aside0.mk hq; clear hq))
              go_roundg kk
              case measure => omega
              case rel =>
                refine ⟨k + 1, ?_, ⟨by have := HK.out; have := HN.out; omega⟩, IPc⟩
                rw [Value.int.injEq]; refine ⟨rfl, ?_⟩; have := HN.out; have := L1.out; first | (rw [IntKind.wrap_i64]; omega) | (unfold wrap64; omega)
        · have d1 : decide ((k : Int) < (l.length : Int)) = false := decide_eq_false (by omega)
          have d2 : decide (k < l.length) = false := decide_eq_false hjn
          clear hjn
          go_wp2_with (first
            | (go_at_call 19; go_must (with_reducible refine (q_afloat IPc.out (n := 0) (congrArg Nat.cast HFA.out.few)).mono ?_); rintro e w1 ⟨rfl, hq⟩; clear IPc; have IPc := Aside0.mk hq; clear hq))
          go_ret
          exact ⟨by first | rfl | simp, by have HB := Aside0.mk IPc.out.1; repeat (first | (with_reducible first | exact HB.out | apply below_alloc | apply pw_below_drewN | apply below_drew1) | exact HB.out)⟩
end Go.Proofs.Ytcmldpacgbhfmaa.V
