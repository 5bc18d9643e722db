/- PlatterStops, walked. -/
import Derived.Test.YtcmldpacgbhfmaaP9
import Derived.BigQuiet
namespace Go.Proofs.Ytcmldpacgbhfmaa.V
open Go.RowKit Go.Proofs.YtcmldpacgbhfmaaW.PrintWords Go.Proofs.YtcmldpacgbhfmaaW.PrintLast Go.Proofs.YtcmldpacgbhfmaaW.PrintMore
set_option linter.unusedVariables false
set_option linter.unusedSimpArgs false

structure St1 (n j : Nat) (S : PS) : Prop where
  halts : S.halts = true
  after : S.after = ((n - j : Nat) : Int)
  halted : S.halted = false
  len : S.safe.length = 20
  afl : S.afl.length = j
  pages : pagesOk S
structure St2 (n : Nat) (S : PS) : Prop where
  halts : S.halts = true
  after : S.after = 0
  len : S.safe.length = 20
  afl : S.afl.length = n
  pages : pagesOk S
theorem St1.start (n : Nat) : St1 n 0 (haltE (newS 20) n) := by
  have e : haltE (newS 20) n = { newS 20 with halts := true, after := n } := by
    unfold haltE
    rw [if_neg (by show ¬ (false = true); decide), decide_eq_true (by omega), show max (n : Int) 0 = n by omega]
  rw [e]
  exact ⟨rfl, rfl, rfl, by show (List.replicate 20 _).length = 20; rw [List.length_replicate], rfl, (WellS.new 20).pages⟩
theorem St1.may {n j : Nat} {S : PS} (h : St1 n j S) {i : Int} (h0 : 0 ≤ i) (h1 : i < 20) : mayE S i = 0 := by
  unfold mayE
  rw [h.halted, if_neg (by decide), if_neg (by omega), if_neg (by rw [h.len]; omega)]
theorem pages_push {S S' : PS} (h : pagesOk S) (hs : S'.safe = S.safe) {n : Int} {b : ByteArray} (ha : S'.afl = S.afl ++ [⟨n, b⟩]) (h0 : 0 ≤ n) (h1 : n < S.safe.length) (hb : b.size = 128) : pagesOk S' := by
  refine ⟨by rw [hs]; exact h.1, fun p hp => ?_⟩
  rw [hs]
  rw [ha] at hp
  rcases List.mem_append.1 hp with hp | hp
  · exact h.2 p hp
  · rw [List.mem_singleton] at hp
    subst hp
    exact ⟨⟨h0, h1⟩, hb⟩
theorem St1.step {n j : Nat} {S : PS} (h : St1 n j S) (hj : j < n) (hn : n ≤ 15) {b : ByteArray} (hb : b.size = 128) : storeE S j b = 0 ∧ St1 n (j + 1) (storeS S j b) := by
  have ha : S.after ≠ 0 := by rw [h.after]; omega
  have hm := h.may (i := j) (by omega) (by omega)
  refine ⟨?_, ?_⟩
  · unfold storeE
    rw [if_pos hm, if_pos hb, if_pos h.halts, if_neg ha]
  · have e : storeS S j b = { S with after := ((n - (j + 1) : Nat) : Int), afl := S.afl ++ [⟨j, b⟩], last := upd S.last j b } := by
      unfold storeS
      rw [if_pos hm, if_pos hb, if_neg (fun hx => ha hx.2), show max (wrap64 (S.after - 1)) 0 = ((n - (j + 1) : Nat) : Int) by rw [h.after]; unfold wrap64; omega]
    rw [e]
    exact ⟨h.halts, rfl, h.halted, h.len, by simp [h.afl], pages_push h.pages rfl rfl (by omega) (by rw [h.len]; omega) hb⟩
theorem St1.last {n : Nat} {S : PS} (h : St1 n n S) : St2 n S := ⟨h.halts, by rw [h.after]; omega, h.len, h.afl, h.pages⟩
theorem St2.step {n : Nat} {S : PS} (h : St2 n S) {b : ByteArray} (hb : b.size = 128) : storeE S 0 b = 7 ∧ St2 n (storeS S 0 b) ∧ (storeS S 0 b).halted = true := by
  cases hh : S.halted with
  | true =>
    have hm : mayE S 0 = 7 := by unfold mayE; rw [hh, if_pos rfl]
    have e : storeS S 0 b = S := by unfold storeS; rw [hm, if_neg (by decide)]
    exact ⟨by unfold storeE; rw [hm, if_neg (by decide)], by rw [e]; exact h, by rw [e]; exact hh⟩
  | false =>
    have hm : mayE S 0 = 0 := by unfold mayE; rw [hh, if_neg (by decide), if_neg (by decide), if_neg (by rw [h.len]; decide)]
    have e : storeS S 0 b = { S with halted := true } := by unfold storeS; rw [if_pos hm, if_pos hb, if_pos ⟨h.halts, h.after⟩]
    refine ⟨by unfold storeE; rw [if_pos hm, if_pos hb, if_pos h.halts, if_pos h.after], ?_, by rw [e]⟩
    rw [e]
    exact ⟨h.halts, h.after, h.len, h.afl, h.pages⟩
set_option maxHeartbeats 8000000 in
set_option maxRecDepth 100000 in
theorem stops_any (n more : Int) (wn : (Lit.int .i64 n).wf = true) (wm : (Lit.int .i64 more).wf = true) (w0 : World) :
    Calls Try.prog 7 #[.int .i64 n, .int .i64 more] w0 fun e w' => e = .returned (.bool true) ∧ Below w0.heap.size w0 w' := by
  have HB := Aside0.mk (Below.refl w0.heap.size w0)
  by_cases h0 : n < 0
  · have t0 := decide_eq_true h0
    clear h0
    go_enter Try.func7, Try.ntmps7
    go_wp2_with (first | (go_at_call 11; (with_reducible refine (alive_any _).mono ?_); rintro e w1 ⟨rfl, hb⟩; have n0_ := Aside0.mk (below_step HB.out hb); clear HB; have HB := n0_; clear n0_))
    go_ret
    exact ⟨by first | rfl | simp, HB.out⟩
  have t0 := decide_eq_false h0
  by_cases h1 : 15 < n
  · have t1 := decide_eq_true h1
    clear h0
    clear h1
    go_enter Try.func7, Try.ntmps7
    go_wp2_with (first | (go_at_call 11; (with_reducible refine (alive_any _).mono ?_); rintro e w1 ⟨rfl, hb⟩; have n0_ := Aside0.mk (below_step HB.out hb); clear HB; have HB := n0_; clear n0_))
    go_ret
    exact ⟨by first | rfl | simp, HB.out⟩
  have t1 := decide_eq_false h1
  by_cases h2 : more < 0
  · have t2 := decide_eq_true h2
    clear h0
    clear h1
    clear h2
    go_enter Try.func7, Try.ntmps7
    go_wp2_with (first | (go_at_call 11; (with_reducible refine (alive_any _).mono ?_); rintro e w1 ⟨rfl, hb⟩; have n0_ := Aside0.mk (below_step HB.out hb); clear HB; have HB := n0_; clear n0_))
    go_ret
    exact ⟨by first | rfl | simp, HB.out⟩
  have t2 := decide_eq_false h2
  by_cases h3 : 6 < more
  · have t3 := decide_eq_true h3
    clear h0
    clear h1
    clear h2
    clear h3
    go_enter Try.func7, Try.ntmps7
    go_wp2_with (first | (go_at_call 11; (with_reducible refine (alive_any _).mono ?_); rintro e w1 ⟨rfl, hb⟩; have n0_ := Aside0.mk (below_step HB.out hb); clear HB; have HB := n0_; clear n0_))
    go_ret
    exact ⟨by first | rfl | simp, HB.out⟩
  have t3 := decide_eq_false h3
  obtain ⟨n, rfl⟩ : ∃ m : Nat, n = m := ⟨n.toNat, by omega⟩
  obtain ⟨m, rfl⟩ : ∃ m : Nat, more = m := ⟨more.toNat, by omega⟩
  have n1 : n ≤ 15 := by omega
  have m1 : m ≤ 6 := by omega
  clear h0 h1 h2 h3
  have v1 : decide (15 < n) = false := decide_eq_false (by omega)
  have v2 : decide (6 < m) = false := decide_eq_false (by omega)
  have hn : ∀ w, Below w0.heap.size w0 w → Calls Try.prog 12 #[.int .i64 20] w fun e w' => ∃ g, e = .returned (.pointer (some ⟨g, 0, none⟩)) ∧ IsQ w0 w' g (newS 20) := fun w h => q_new w0 w h 20 (by decide) (by decide)
  have hf : ∀ (s : ByteArray) w g S, IsQ w0 w g S → Calls Try.prog 13 #[.string s] w fun e w' => e = .returned (.string (fill s)) ∧ IsQ w0 w' g S := fun s w g S h => q_fill h s
  have N1 := Aside0.mk n1
  have M1 := Aside0.mk m1
  have X0 := Aside0.mk hn
  have XF := Aside0.mk hf
  clear hn hf n1 m1
  obtain ⟨sx, hsx⟩ : ∃ s : ByteArray, s = fill ⟨#[120]⟩ := ⟨_, rfl⟩
  obtain ⟨sy, hsy⟩ : ∃ s : ByteArray, s = fill ⟨#[121]⟩ := ⟨_, rfl⟩
  obtain ⟨sz, hsz⟩ : ∃ s : ByteArray, s = fill ⟨#[122]⟩ := ⟨_, rfl⟩
  have ZX := Aside0.mk hsx
  have ZY := Aside0.mk hsy
  have ZZ := Aside0.mk hsz
  have LX : Aside0 (sx.size = 128) := ⟨by rw [hsx]; exact fill_size _⟩
  have LY : Aside0 (sy.size = 128) := ⟨by rw [hsy]; exact fill_size _⟩
  have LZ : Aside0 (sz.size = 128) := ⟨by rw [hsz]; exact fill_size _⟩
  clear hsx hsy hsz
  go_enter Try.func7, Try.ntmps7
  go_wp2_with (first
    | (go_at_call 11; (with_reducible refine (alive_any _).mono ?_); rintro e w1 ⟨rfl, hb⟩; have n0_ := Aside0.mk (below_step HB.out hb); clear HB; have HB := n0_; clear n0_)
    | (go_at_call 12; go_must (with_reducible refine (X0.out _ HB.out).mono ?_); rintro e w1 ⟨g, rfl, hq⟩; have IPc := Aside0.mk hq; clear hq)
    | (go_at_call 20; go_must (with_reducible refine (q_halt IPc.out n).mono ?_); rintro e w1 ⟨rfl, hq⟩; clear IPc; have IPc := Aside0.mk hq; clear hq))
  go_loopg [6] n (fun kq v6 w' => ∃ j : Nat, v6 = .int .i64 j ∧ Aside0 (j ≤ n ∧ n ≤ j + kq) ∧ ∃ S, Aside0 (St1 n j S) ∧ Aside0 (IsQ w0 w' g S))
  case atStart => exact ⟨0, rfl, ⟨Nat.zero_le _, by omega⟩, _, ⟨St1.start n⟩, IPc⟩
  case round =>
    clear IPc
    obtain ⟨j, rfl, HJ, S, HS, IPc⟩ := hrel
    by_cases hjn : j < n
    · have d1 : decide ((j : Int) < (n : Int)) = true := decide_eq_true (by omega)
      have d2 : decide (j < n) = true := decide_eq_true hjn
      cases gk with
      | zero => have := HJ.out; omega
      | succ kk =>
        have HST := Aside0.mk (HS.out.step hjn N1.out LX.out)
        have HN := Aside0.mk hjn
        clear hjn
        go_wp2_with (first
          | (go_at_call 13; go_must (with_reducible refine (XF.out _ _ _ _ IPc.out).mono ?_); rintro e w1 ⟨rfl, hq⟩; rw [← ZX.out]; clear IPc; have IPc := Aside0.mk hq; clear hq)
          | (go_at_call 14; go_must (with_reducible refine (q_storeG IPc.out j sx (Go.WalkArith.wf_i64 (by have := HJ.out; have := N1.out; omega)) (by rw [HS.out.afl]; have := HJ.out; have := N1.out; omega)).mono ?_); rintro e w1 ⟨rfl, hq, -⟩; rw [HST.out.1]; clear IPc; have IPc := Aside0.mk hq; clear hq)
          | (go_at_call 21; go_must (with_reducible refine (q_halted IPc.out HST.out.2.halted).mono ?_); rintro e w1 ⟨rfl, hq⟩; clear IPc; have IPc := Aside0.mk hq; clear hq))
        go_roundg kk
        case measure => omega
        case rel =>
          refine ⟨j + 1, ?_, ⟨by have := HJ.out; have := HN.out; omega⟩, _, ⟨HST.out.2⟩, IPc⟩
          rw [Value.int.injEq]; refine ⟨rfl, ?_⟩; have := HJ.out; have := N1.out; first | (rw [IntKind.wrap_i64]; omega) | (unfold wrap64; omega)
    · have hj : j = n := by have := HJ.out; omega
      subst hj
      clear hjn
      have H2 : Aside0 (St2 j S) := ⟨HS.out.last⟩
      clear HS
      have d1 : decide ((j : Int) < (j : Int)) = false := decide_eq_false (by omega)
      have d2 : decide (j < j) = false := decide_eq_false (by omega)
      go_wp2
      go_loopg [7] (m + 1) (fun kq v7 w' => ∃ i : Nat, v7 = .int .i64 i ∧ Aside0 (i ≤ m + 1 ∧ m + 1 ≤ i + kq) ∧ ∃ S, Aside0 (St2 j S ∧ (i = 0 ∨ S.halted = true)) ∧ Aside0 (IsQ w0 w' g S))
      case atStart => exact ⟨0, rfl, ⟨Nat.zero_le _, by omega⟩, _, ⟨H2.out, .inl rfl⟩, IPc⟩
      case round =>
        clear IPc H2 HJ
        obtain ⟨i, rfl, HI, S, HS, IPc⟩ := hrel
        by_cases him : i ≤ m
        · have d3 : decide ((i : Int) ≤ (m : Int)) = true := decide_eq_true (by omega)
          have d4 : decide (i ≤ m) = true := decide_eq_true him
          cases gk with
          | zero => have := HI.out; omega
          | succ kk =>
            have HST := Aside0.mk (HS.out.1.step LY.out)
            have HN := Aside0.mk him
            clear him
            go_wp2_with (first
              | (go_at_call 13; go_must (with_reducible refine (XF.out _ _ _ _ IPc.out).mono ?_); rintro e w1 ⟨rfl, hq⟩; rw [← ZY.out]; clear IPc; have IPc := Aside0.mk hq; clear hq)
              | (go_at_call 14; go_must (with_reducible refine (q_storeG IPc.out 0 sy (by decide) (by rw [HS.out.1.afl]; have := N1.out; omega)).mono ?_); rintro e w1 ⟨rfl, hq, -⟩; rw [HST.out.1]; clear IPc; have IPc := Aside0.mk hq; clear hq)
              | (go_at_call 21; go_must (with_reducible refine (q_halted IPc.out HST.out.2.2).mono ?_); rintro e w1 ⟨rfl, hq⟩; clear IPc; have IPc := Aside0.mk hq; clear hq)
              | (go_at_call 15; go_must (with_reducible refine (q_settle_no IPc.out HST.out.2.2).mono ?_); rintro e w1 ⟨rfl, hq⟩; clear IPc; have IPc := Aside0.mk hq; clear hq)
              | (go_at_call 19; go_must (with_reducible refine (q_afloat IPc.out (congrArg Nat.cast HST.out.2.1.afl)).mono ?_); rintro e w1 ⟨rfl, hq⟩; clear IPc; have IPc := Aside0.mk hq; clear hq))
            go_roundg kk
            case measure => omega
            case rel =>
              refine ⟨i + 1, ?_, ⟨by have := HI.out; have := HN.out; omega⟩, _, ⟨HST.out.2.1, .inr HST.out.2.2⟩, IPc⟩
              rw [Value.int.injEq]; refine ⟨rfl, ?_⟩; have := HI.out; have := M1.out; first | (rw [IntKind.wrap_i64]; omega) | (unfold wrap64; omega)
        · have d3 : decide ((i : Int) ≤ (m : Int)) = false := decide_eq_false (by omega)
          have d4 : decide (i ≤ m) = false := decide_eq_false him
          have H1 : Aside0 (S.halted = true) := ⟨HS.out.2.resolve_left (by omega)⟩
          have H2 : Aside0 (St2 j S) := ⟨HS.out.1⟩
          have HHE : Aside0 (haltE S (-1) = S) := ⟨by unfold haltE; rw [if_pos H1.out]⟩
          have HL : Aside0 (loadE S 0 = (⟨#[]⟩, 7)) := ⟨by
            have hm : mayE S 0 = 7 := by unfold mayE; rw [H1.out, if_pos rfl]
            unfold loadE
            rw [hm, if_neg (by decide)]⟩
          have HW : Aside0 (WellS (faS S []) 20 0) := ⟨fa_nil_well H2.out.pages H2.out.len⟩
          clear him HS
          go_wp2_with (first
            | (go_at_call 13; go_must (with_reducible refine (XF.out _ _ _ _ IPc.out).mono ?_); rintro e w1 ⟨rfl, hq⟩; rw [← ZZ.out]; clear IPc; have IPc := Aside0.mk hq; clear hq)
            | (go_at_call 20; go_must (with_reducible refine (q_halt IPc.out (-1)).mono ?_); rintro e w1 ⟨rfl, hq⟩; rw [HHE.out] at hq; clear IPc; have IPc := Aside0.mk hq; clear hq)
            | (go_at_call 17; go_must (with_reducible refine (q_load IPc.out 0 (by decide) HL.out).mono ?_); rintro e w1 ⟨rfl, hq⟩; clear IPc; have IPc := Aside0.mk hq; clear hq)
            | (go_at_call 14; go_must (with_reducible refine (q_st IPc.out HW.out 0 sz (by decide) (by decide) LZ.out (by decide) (by decide)).mono ?_); rintro e w1 ⟨rfl, hq, -⟩; clear IPc; have IPc := Aside0.mk hq; clear hq)
            | (go_at_call 21; go_must (with_reducible first | refine (q_halted IPc.out H1.out).mono ?_ | refine (q_halted IPc.out HW.out.halted).mono ?_); rintro e w1 ⟨rfl, hq⟩; clear IPc; have IPc := Aside0.mk hq; clear hq)
            | (go_at_call 16; go_must (with_reducible refine (q_fail_nil IPc.out H2.out.pages (by rw [H2.out.afl]; have := N1.out; omega)).mono ?_); rintro e w1 ⟨rfl, hq⟩; clear IPc; have IPc := Aside0.mk hq; clear hq))
          go_ret
          exact ⟨by first | rfl | simp, by have HB := Aside0.mk IPc.out.1; repeat (first | (with_reducible first | exact HB.out | apply below_alloc | apply pw_below_drewN | apply below_drew1) | exact HB.out)⟩
end Go.Proofs.Ytcmldpacgbhfmaa.V
