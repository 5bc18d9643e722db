/- ClayMixed, walked. -/
import Derived.Test.YtbjknbfagadhfaaQC6
namespace Go.Proofs.Ytbjknbfagadhfaa.PAll
open Go.RowKit Go.Proofs.YtbjknbfagadhfaaW.PrintWords Go.Proofs.YtbjknbfagadhfaaW.PrintLast Go.Proofs.YtbjknbfagadhfaaW.PrintMore
set_option linter.unusedVariables false
set_option linter.unusedSimpArgs false

theorem mixed_long (w : World) (a0 a1 a2 a3 a4 a5 a6 a7 a8 a9 a10 a11 a12 : Int) (A : Option Addr) (c : Nat) (l : List Int) (y : Int) (hl : 20 < l.length) :
    Calls Try.prog 9 #[.agg #[.int .i64 a0, .int .i64 a1, .int .i64 a2, .int .i64 a3, .int .i64 a4, .int .i64 a5, .int .i64 a6, .int .i64 a7, .int .i64 a8, .int .i64 a9, .int .i64 a10, .int .i64 a11, .int .i64 a12, .slice A l.length c], .int .i64 y] w fun e w' => e = .returned (.bool true) ∧ Below w.heap.size w w' := by
  have h0 : decide ((20 : Int) < (l.length : Int)) = true := decide_eq_true (by omega)
  clear hl
  go_enter Try.func9, Try.ntmps9
  go_wp2_with (first | (go_at_call 11; refine (maquettelaw18_alive.calls 60 true _ alive_60).mono ?_; rintro e w2 ⟨rfl, hB2⟩; have HB2 := Aside0.mk hB2; clear hB2))
  go_ret
  exact ⟨rfl, ((Below.refl _ _).alloc (Nat.le_refl _) _).trans (HB2.out.mono (by simp))⟩

theorem mixed_no (w : World) (a0 a1 a2 a3 a4 a5 a6 a7 a8 a9 a10 a11 a12 : Int) (A : Option Addr) (c : Nat) (l : List Int) (y : Int) (hr : Kd.C (Kd.int .i64) w A l.length l) (hc : l.length ≤ c) (hl : l.length ≤ 20) (hT : ¬ okT a0 a1 a2 a3 a4 a5 a6 a7 a8 a9 a10 a11 a12 l) :
    Calls Try.prog 9 #[.agg #[.int .i64 a0, .int .i64 a1, .int .i64 a2, .int .i64 a3, .int .i64 a4, .int .i64 a5, .int .i64 a6, .int .i64 a7, .int .i64 a8, .int .i64 a9, .int .i64 a10, .int .i64 a11, .int .i64 a12, .slice A l.length c], .int .i64 y] w fun e w' => e = .returned (.bool true) ∧ Below w.heap.size w w' := by
  have h0 : decide ((20 : Int) < (l.length : Int)) = false := decide_eq_false (by omega)
  have HR := Aside0.mk hr
  have HC := Aside0.mk hc
  have HT := Aside0.mk (show clay_Right.f 3000 a0 a1 a2 a3 a4 a5 a6 a7 a8 a9 a10 a11 a12 l = some false by rw [right_k _ _ _ _ _ _ _ _ _ _ _ _ _ l (by omega) _ (by omega), decide_eq_false hT])
  clear hl hT hr hc
  go_enter Try.func9, Try.ntmps9
  go_wp2_with (first | (go_at_call 18; refine (clay_Right.calls 3000 a0 a1 a2 a3 a4 a5 a6 a7 a8 a9 a10 a11 a12 A c l false _ (Kd.C_alloc HR.out _) HC.out HT.out).mono ?_; rintro e w1 ⟨rfl, hB1⟩; have HB1 := Aside0.mk hB1; clear hB1) | (go_at_call 11; refine (maquettelaw18_alive.calls 60 true _ alive_60).mono ?_; rintro e w2 ⟨rfl, hB2⟩; have HB2 := Aside0.mk hB2; clear hB2))
  go_ret
  exact ⟨rfl, (((Below.refl _ _).alloc (Nat.le_refl _) _).trans (HB1.out.mono (by simp))).trans (HB2.out.mono (by have := HB1.out.size; simp at this; omega))⟩

theorem mixed_yes (w : World) (a0 a1 a2 a3 a4 a5 a6 a7 a8 a9 a10 a11 a12 : Int) (A : Option Addr) (c : Nat) (l : List Int) (y : Int) (hr : Kd.C (Kd.int .i64) w A l.length l) (hc : l.length ≤ c) (hl : l.length ≤ 20) (hT : okT a0 a1 a2 a3 a4 a5 a6 a7 a8 a9 a10 a11 a12 l) :
    Calls Try.prog 9 #[.agg #[.int .i64 a0, .int .i64 a1, .int .i64 a2, .int .i64 a3, .int .i64 a4, .int .i64 a5, .int .i64 a6, .int .i64 a7, .int .i64 a8, .int .i64 a9, .int .i64 a10, .int .i64 a11, .int .i64 a12, .slice A l.length c], .int .i64 y] w fun e w' => e = .returned (.bool true) ∧ Below w.heap.size w w' := by
  have h0 : decide ((20 : Int) < (l.length : Int)) = false := decide_eq_false (by omega)
  have HR := Aside0.mk hr
  have HC := Aside0.mk hc
  have HT0 := Aside0.mk hT
  have HT := Aside0.mk (show clay_Right.f 3000 a0 a1 a2 a3 a4 a5 a6 a7 a8 a9 a10 a11 a12 l = some true by rw [right_k _ _ _ _ _ _ _ _ _ _ _ _ _ l (by omega) _ (by omega), decide_eq_true hT])
  clear hl hT hr hc
  go_enter Try.func9, Try.ntmps9
  go_upto_block 0 with (first | (go_at_call 18; refine (clay_Right.calls 3000 a0 a1 a2 a3 a4 a5 a6 a7 a8 a9 a10 a11 a12 A c l true _ (Kd.C_alloc HR.out _) HC.out HT.out).mono ?_; rintro e w1 ⟨rfl, hB1⟩; have hbx := blk_below (heap_alloc_new w _) hB1; have HB1 := Aside0.mk (((Below.refl _ _).alloc (Nat.le_refl _) _).trans (hB1.mono (by simp)) : Below w.heap.size w w1); have HX1 := Aside0.mk hbx; clear hB1 hbx) | (go_at_call 11; refine (maquettelaw18_alive.calls 60 true _ alive_60).mono ?_; rintro e w2 ⟨rfl, hB2⟩; have hbx := blk_below HX1.out hB2; obtain ⟨hz0, hz1, hz2, hz3, hz4, hz5, hz6, hz7, hz8, hz9, hz10, hz11, hz12, hz13⟩ := (⟨(blk_cell hbx 0).trans rfl, (blk_cell hbx 1).trans rfl, (blk_cell hbx 2).trans rfl, (blk_cell hbx 3).trans rfl, (blk_cell hbx 4).trans rfl, (blk_cell hbx 5).trans rfl, (blk_cell hbx 6).trans rfl, (blk_cell hbx 7).trans rfl, (blk_cell hbx 8).trans rfl, (blk_cell hbx 9).trans rfl, (blk_cell hbx 10).trans rfl, (blk_cell hbx 11).trans rfl, (blk_cell hbx 12).trans rfl, (blk_cell hbx 13).trans rfl⟩ : w2.cell? ⟨w.heap.size, 0, none⟩ = some (.int .i64 a0) ∧ w2.cell? ⟨w.heap.size, 1, none⟩ = some (.int .i64 a1) ∧ w2.cell? ⟨w.heap.size, 2, none⟩ = some (.int .i64 a2) ∧ w2.cell? ⟨w.heap.size, 3, none⟩ = some (.int .i64 a3) ∧ w2.cell? ⟨w.heap.size, 4, none⟩ = some (.int .i64 a4) ∧ w2.cell? ⟨w.heap.size, 5, none⟩ = some (.int .i64 a5) ∧ w2.cell? ⟨w.heap.size, 6, none⟩ = some (.int .i64 a6) ∧ w2.cell? ⟨w.heap.size, 7, none⟩ = some (.int .i64 a7) ∧ w2.cell? ⟨w.heap.size, 8, none⟩ = some (.int .i64 a8) ∧ w2.cell? ⟨w.heap.size, 9, none⟩ = some (.int .i64 a9) ∧ w2.cell? ⟨w.heap.size, 10, none⟩ = some (.int .i64 a10) ∧ w2.cell? ⟨w.heap.size, 11, none⟩ = some (.int .i64 a11) ∧ w2.cell? ⟨w.heap.size, 12, none⟩ = some (.int .i64 a12) ∧ w2.cell? ⟨w.heap.size, 13, none⟩ = some (.slice A l.length c)); have HX := Aside0.mk hbx; have HB := Aside0.mk (HB1.out.trans (hB2.mono HB1.out.size)); clear hB2 hbx HB1 HX1))
  have HU : Aside0 ((w2.alloc (.cells #[.int .i64 a0, .int .i64 a1, .int .i64 a2, .int .i64 a3, .int .i64 a4, .int .i64 a5, .int .i64 a6, .int .i64 a7, .int .i64 a8, .int .i64 a9, .int .i64 a10, .int .i64 a11, .int .i64 a12, .slice A l.length c] 31)).heap[w2.heap.size]? = some (.cells #[.int .i64 a0, .int .i64 a1, .int .i64 a2, .int .i64 a3, .int .i64 a4, .int .i64 a5, .int .i64 a6, .int .i64 a7, .int .i64 a8, .int .i64 a9, .int .i64 a10, .int .i64 a11, .int .i64 a12, .slice A l.length c] 31 (0, 0))) := ⟨heap_alloc_new w2 _⟩
  have HB3 : Aside0 (Below w.heap.size w (w2.alloc (.cells #[.int .i64 a0, .int .i64 a1, .int .i64 a2, .int .i64 a3, .int .i64 a4, .int .i64 a5, .int .i64 a6, .int .i64 a7, .int .i64 a8, .int .i64 a9, .int .i64 a10, .int .i64 a11, .int .i64 a12, .slice A l.length c] 31))) := ⟨HB.out.alloc HB.out.size _⟩
  have HS3 : Aside0 (w.heap.size ≤ w2.heap.size) := ⟨HB.out.size⟩
  clear hz0 hz1 hz2 hz3 hz4 hz5 hz6 hz7 hz8 hz9 hz10 hz11 hz12 hz13 HX HB
  generalize hw3 : w2.alloc (.cells #[.int .i64 a0, .int .i64 a1, .int .i64 a2, .int .i64 a3, .int .i64 a4, .int .i64 a5, .int .i64 a6, .int .i64 a7, .int .i64 a8, .int .i64 a9, .int .i64 a10, .int .i64 a11, .int .i64 a12, .slice A l.length c] 31) = w3 at HU HB3 ⊢
  clear hw3
  generalize hg : w2.heap.size = g at HU HS3 ⊢
  clear hg
  have hm0 : ∃ m : Int, m = (wrap64 (y.tmod 3 + 3)).tmod 3 := ⟨_, rfl⟩
  obtain ⟨m, hm⟩ := hm0
  rw [← hm]
  clear hm
  obtain ⟨hz0, hz1, hz2, hz3, hz4, hz5, hz6, hz7, hz8, hz9, hz10, hz11, hz12, hz13⟩ := (⟨(blk_cell HU.out 0).trans rfl, (blk_cell HU.out 1).trans rfl, (blk_cell HU.out 2).trans rfl, (blk_cell HU.out 3).trans rfl, (blk_cell HU.out 4).trans rfl, (blk_cell HU.out 5).trans rfl, (blk_cell HU.out 6).trans rfl, (blk_cell HU.out 7).trans rfl, (blk_cell HU.out 8).trans rfl, (blk_cell HU.out 9).trans rfl, (blk_cell HU.out 10).trans rfl, (blk_cell HU.out 11).trans rfl, (blk_cell HU.out 12).trans rfl, (blk_cell HU.out 13).trans rfl⟩ : w3.cell? ⟨g, 0, none⟩ = some (.int .i64 a0) ∧ w3.cell? ⟨g, 1, none⟩ = some (.int .i64 a1) ∧ w3.cell? ⟨g, 2, none⟩ = some (.int .i64 a2) ∧ w3.cell? ⟨g, 3, none⟩ = some (.int .i64 a3) ∧ w3.cell? ⟨g, 4, none⟩ = some (.int .i64 a4) ∧ w3.cell? ⟨g, 5, none⟩ = some (.int .i64 a5) ∧ w3.cell? ⟨g, 6, none⟩ = some (.int .i64 a6) ∧ w3.cell? ⟨g, 7, none⟩ = some (.int .i64 a7) ∧ w3.cell? ⟨g, 8, none⟩ = some (.int .i64 a8) ∧ w3.cell? ⟨g, 9, none⟩ = some (.int .i64 a9) ∧ w3.cell? ⟨g, 10, none⟩ = some (.int .i64 a10) ∧ w3.cell? ⟨g, 11, none⟩ = some (.int .i64 a11) ∧ w3.cell? ⟨g, 12, none⟩ = some (.int .i64 a12) ∧ w3.cell? ⟨g, 13, none⟩ = some (.slice A l.length c))
  have hf := blk_frozen HU.out
  have hf1 := hf 6
  have hf2 := hf 12
  have hf3 := hf 13
  clear hf
  by_cases m0 : m = 0
  · subst m0
    by_cases k1 : a1 = 1
    · subst k1
      go_wp2
      go_ret
      exact ⟨rfl, HB3.out⟩
    · have kb : (a1 == 1) = false := by simpa using k1
      have NT : ¬ okT a0 a1 a2 a3 a4 a5 1 a7 a8 a9 a10 a11 a12 l := by
        rintro ⟨_, h | h | h⟩
        · exact k1 h.1
        · exact absurd h.2.1.2.2.2.2.1 (by decide)
        · exact absurd h.2.1.2.2.2.2.1 (by decide)
      have hln : l.length ≤ 1000000000 := by have := okT_len HT0.out; omega
      have HP := Aside0.mk (show clay_Put.f 3000 a0 a1 a2 a3 a4 a5 1 a7 a8 a9 a10 a11 a12 l = some ((⟨#[]⟩ : ByteArray), false) by rw [put_k _ _ _ _ _ _ _ _ _ _ _ _ _ l hln _ (by have := okT_len HT0.out; omega), if_neg NT])
      have HQ := Aside0.mk (show clay_Right.f 3000 a0 a1 a2 a3 a4 a5 1 a7 a8 a9 a10 a11 a12 l = some false by rw [right_k _ _ _ _ _ _ _ _ _ _ _ _ _ l hln _ (by have := okT_len HT0.out; omega), decide_eq_false NT])
      have HU4 : Aside0 ((w3.setCell ⟨g, 6, none⟩ (.int .i64 1)).heap[g]? = some (.cells #[.int .i64 a0, .int .i64 a1, .int .i64 a2, .int .i64 a3, .int .i64 a4, .int .i64 a5, .int .i64 1, .int .i64 a7, .int .i64 a8, .int .i64 a9, .int .i64 a10, .int .i64 a11, .int .i64 a12, .slice A l.length c] 31 (0, 0))) := ⟨by simpa using blk_set HU.out 6 (.int .i64 1)⟩
      have HB4 : Aside0 (Below w.heap.size w (w3.setCell ⟨g, 6, none⟩ (.int .i64 1))) := ⟨HB3.out.setCell HS3.out _⟩
      clear NT hln k1
      go_wp2_with (first | (go_at_call 13; refine (clay_Put.calls 3000 a0 a1 a2 a3 a4 a5 1 a7 a8 a9 a10 a11 a12 A c l ⟨#[]⟩ false _ (Kd.C_below HR.out HB4.out) HC.out HP.out).mono ?_; rintro e w5 ⟨rfl, hB5⟩; have hbx := blk_below HU4.out hB5; have HB5 := Aside0.mk (HB4.out.trans (hB5.mono HB4.out.size)); obtain ⟨gz0, gz1, gz2, gz3, gz4, gz5, gz6, gz7, gz8, gz9, gz10, gz11, gz12, gz13⟩ := (⟨(blk_cell hbx 0).trans rfl, (blk_cell hbx 1).trans rfl, (blk_cell hbx 2).trans rfl, (blk_cell hbx 3).trans rfl, (blk_cell hbx 4).trans rfl, (blk_cell hbx 5).trans rfl, (blk_cell hbx 6).trans rfl, (blk_cell hbx 7).trans rfl, (blk_cell hbx 8).trans rfl, (blk_cell hbx 9).trans rfl, (blk_cell hbx 10).trans rfl, (blk_cell hbx 11).trans rfl, (blk_cell hbx 12).trans rfl, (blk_cell hbx 13).trans rfl⟩ : w5.cell? ⟨g, 0, none⟩ = some (.int .i64 a0) ∧ w5.cell? ⟨g, 1, none⟩ = some (.int .i64 a1) ∧ w5.cell? ⟨g, 2, none⟩ = some (.int .i64 a2) ∧ w5.cell? ⟨g, 3, none⟩ = some (.int .i64 a3) ∧ w5.cell? ⟨g, 4, none⟩ = some (.int .i64 a4) ∧ w5.cell? ⟨g, 5, none⟩ = some (.int .i64 a5) ∧ w5.cell? ⟨g, 6, none⟩ = some (.int .i64 1) ∧ w5.cell? ⟨g, 7, none⟩ = some (.int .i64 a7) ∧ w5.cell? ⟨g, 8, none⟩ = some (.int .i64 a8) ∧ w5.cell? ⟨g, 9, none⟩ = some (.int .i64 a9) ∧ w5.cell? ⟨g, 10, none⟩ = some (.int .i64 a10) ∧ w5.cell? ⟨g, 11, none⟩ = some (.int .i64 a11) ∧ w5.cell? ⟨g, 12, none⟩ = some (.int .i64 a12) ∧ w5.cell? ⟨g, 13, none⟩ = some (.slice A l.length c)); clear hbx hB5) | (go_at_call 18; refine (clay_Right.calls 3000 a0 a1 a2 a3 a4 a5 1 a7 a8 a9 a10 a11 a12 A c l false _ (Kd.C_below HR.out HB5.out) HC.out HQ.out).mono ?_; rintro e w6 ⟨rfl, hB6⟩; have HB6 := Aside0.mk (HB5.out.trans (hB6.mono HB5.out.size)); clear hB6))
      go_ret
      exact ⟨rfl, HB6.out⟩
  · by_cases m1 : m = 1
    · subst m1
      by_cases k1 : a1 = 2
      · subst k1
        go_wp2
        go_ret
        exact ⟨rfl, HB3.out⟩
      · have kb : (a1 == 2) = false := by simpa using k1
        have NT : ¬ okT a0 a1 a2 a3 a4 a5 a6 a7 a8 a9 a10 a11 1 l := by
          rintro ⟨_, h | h | h⟩
          · exact absurd h.2.1.2.2 (by decide)
          · exact k1 h.1
          · exact absurd h.2.2.1.2.2 (by decide)
        have hln : l.length ≤ 1000000000 := by have := okT_len HT0.out; omega
        have HP := Aside0.mk (show clay_Put.f 3000 a0 a1 a2 a3 a4 a5 a6 a7 a8 a9 a10 a11 1 l = some ((⟨#[]⟩ : ByteArray), false) by rw [put_k _ _ _ _ _ _ _ _ _ _ _ _ _ l hln _ (by have := okT_len HT0.out; omega), if_neg NT])
        have HQ := Aside0.mk (show clay_Right.f 3000 a0 a1 a2 a3 a4 a5 a6 a7 a8 a9 a10 a11 1 l = some false by rw [right_k _ _ _ _ _ _ _ _ _ _ _ _ _ l hln _ (by have := okT_len HT0.out; omega), decide_eq_false NT])
        have HU4 : Aside0 ((w3.setCell ⟨g, 12, none⟩ (.int .i64 1)).heap[g]? = some (.cells #[.int .i64 a0, .int .i64 a1, .int .i64 a2, .int .i64 a3, .int .i64 a4, .int .i64 a5, .int .i64 a6, .int .i64 a7, .int .i64 a8, .int .i64 a9, .int .i64 a10, .int .i64 a11, .int .i64 1, .slice A l.length c] 31 (0, 0))) := ⟨by simpa using blk_set HU.out 12 (.int .i64 1)⟩
        have HB4 : Aside0 (Below w.heap.size w (w3.setCell ⟨g, 12, none⟩ (.int .i64 1))) := ⟨HB3.out.setCell HS3.out _⟩
        clear NT hln k1 m0
        go_wp2_with (first | (go_at_call 13; refine (clay_Put.calls 3000 a0 a1 a2 a3 a4 a5 a6 a7 a8 a9 a10 a11 1 A c l ⟨#[]⟩ false _ (Kd.C_below HR.out HB4.out) HC.out HP.out).mono ?_; rintro e w5 ⟨rfl, hB5⟩; have hbx := blk_below HU4.out hB5; have HB5 := Aside0.mk (HB4.out.trans (hB5.mono HB4.out.size)); obtain ⟨gz0, gz1, gz2, gz3, gz4, gz5, gz6, gz7, gz8, gz9, gz10, gz11, gz12, gz13⟩ := (⟨(blk_cell hbx 0).trans rfl, (blk_cell hbx 1).trans rfl, (blk_cell hbx 2).trans rfl, (blk_cell hbx 3).trans rfl, (blk_cell hbx 4).trans rfl, (blk_cell hbx 5).trans rfl, (blk_cell hbx 6).trans rfl, (blk_cell hbx 7).trans rfl, (blk_cell hbx 8).trans rfl, (blk_cell hbx 9).trans rfl, (blk_cell hbx 10).trans rfl, (blk_cell hbx 11).trans rfl, (blk_cell hbx 12).trans rfl, (blk_cell hbx 13).trans rfl⟩ : w5.cell? ⟨g, 0, none⟩ = some (.int .i64 a0) ∧ w5.cell? ⟨g, 1, none⟩ = some (.int .i64 a1) ∧ w5.cell? ⟨g, 2, none⟩ = some (.int .i64 a2) ∧ w5.cell? ⟨g, 3, none⟩ = some (.int .i64 a3) ∧ w5.cell? ⟨g, 4, none⟩ = some (.int .i64 a4) ∧ w5.cell? ⟨g, 5, none⟩ = some (.int .i64 a5) ∧ w5.cell? ⟨g, 6, none⟩ = some (.int .i64 a6) ∧ w5.cell? ⟨g, 7, none⟩ = some (.int .i64 a7) ∧ w5.cell? ⟨g, 8, none⟩ = some (.int .i64 a8) ∧ w5.cell? ⟨g, 9, none⟩ = some (.int .i64 a9) ∧ w5.cell? ⟨g, 10, none⟩ = some (.int .i64 a10) ∧ w5.cell? ⟨g, 11, none⟩ = some (.int .i64 a11) ∧ w5.cell? ⟨g, 12, none⟩ = some (.int .i64 1) ∧ w5.cell? ⟨g, 13, none⟩ = some (.slice A l.length c)); clear hbx hB5) | (go_at_call 18; refine (clay_Right.calls 3000 a0 a1 a2 a3 a4 a5 a6 a7 a8 a9 a10 a11 1 A c l false _ (Kd.C_below HR.out HB5.out) HC.out HQ.out).mono ?_; rintro e w6 ⟨rfl, hB6⟩; have HB6 := Aside0.mk (HB5.out.trans (hB6.mono HB5.out.size)); clear hB6))
        go_ret
        exact ⟨rfl, HB6.out⟩
    · have mb0 : (m == 0) = false := by simpa using m0
      have mb1 : (m == 1) = false := by simpa using m1
      clear m0 m1
      by_cases k1 : a1 = 3
      · subst k1
        go_wp2
        go_ret
        exact ⟨rfl, HB3.out⟩
      · have kb : (a1 == 3) = false := by simpa using k1
        have NT : ¬ okT a0 a1 a2 a3 a4 a5 a6 a7 a8 a9 a10 a11 a12 [900] := by
          rintro ⟨_, h | h | h⟩
          · exact absurd h.2.2.1 (by decide)
          · exact absurd h.2.2.1 (by decide)
          · exact k1 h.1
        have HP := Aside0.mk (show clay_Put.f 3000 a0 a1 a2 a3 a4 a5 a6 a7 a8 a9 a10 a11 a12 [900] = some ((⟨#[]⟩ : ByteArray), false) by rw [put_k _ _ _ _ _ _ _ _ _ _ _ _ _ [900] (by decide) _ (by decide), if_neg NT])
        have HQ := Aside0.mk (show clay_Right.f 3000 a0 a1 a2 a3 a4 a5 a6 a7 a8 a9 a10 a11 a12 [900] = some false by rw [right_k _ _ _ _ _ _ _ _ _ _ _ _ _ [900] (by decide) _ (by decide), decide_eq_false NT])
        have HU4 : Aside0 (((w3.alloc (.cells #[.int .i64 900] 3)).setCell ⟨g, 13, none⟩ (.slice (some ⟨w3.heap.size, 0, none⟩) 1 1)).heap[g]? = some (.cells #[.int .i64 a0, .int .i64 a1, .int .i64 a2, .int .i64 a3, .int .i64 a4, .int .i64 a5, .int .i64 a6, .int .i64 a7, .int .i64 a8, .int .i64 a9, .int .i64 a10, .int .i64 a11, .int .i64 a12, .slice (some ⟨w3.heap.size, 0, none⟩) 1 1] 31 (0, 0))) := ⟨by simpa using blk_set (blk_alloc HU.out (.cells #[.int .i64 900] 3)) 13 (.slice (some ⟨w3.heap.size, 0, none⟩) 1 1)⟩
        have HB4 : Aside0 (Below w.heap.size w ((w3.alloc (.cells #[.int .i64 900] 3)).setCell ⟨g, 13, none⟩ (.slice (some ⟨w3.heap.size, 0, none⟩) 1 1))) := ⟨(HB3.out.alloc HB3.out.size _).setCell HS3.out _⟩
        have HN : g ≠ w3.heap.size := by have := blk_lt HU.out; omega
        have HN4 : ((w3.alloc (.cells #[.int .i64 900] 3)).setCell ⟨g, 13, none⟩ (.slice (some ⟨w3.heap.size, 0, none⟩) 1 1)).heap[w3.heap.size]? = some (.cells #[.int .i64 900] 3 (0, 0)) := (Below.heap_setCell _ ⟨g, 13, none⟩ _ _ (fun h => HN h.symm)).trans (heap_alloc_new w3 _)
        have HR4 : Aside0 (Kd.C (Kd.int .i64) ((w3.alloc (.cells #[.int .i64 900] 3)).setCell ⟨g, 13, none⟩ (.slice (some ⟨w3.heap.size, 0, none⟩) 1 1)) (some ⟨w3.heap.size, 0, none⟩) 1 [900]) := ⟨Kd.C_of_reads (d := (0 : Int)) (h1 := fun _ => rfl) ⟨rfl, by decide, fun _ => ⟨_, rfl, fun j hj => by
          obtain rfl : j = 0 := by omega
          exact (blk_cell HN4 0).trans rfl⟩⟩⟩
        have hf3' := blk_frozen (blk_alloc HU.out (.cells #[.int .i64 900] 3)) 13
        have hba := blk_alloc HU.out (.cells #[.int .i64 900] 3)
        obtain ⟨hy0, hy1, hy2, hy3, hy4, hy5, hy6, hy7, hy8, hy9, hy10, hy11, hy12, hy13⟩ := (⟨(blk_cell hba 0).trans rfl, (blk_cell hba 1).trans rfl, (blk_cell hba 2).trans rfl, (blk_cell hba 3).trans rfl, (blk_cell hba 4).trans rfl, (blk_cell hba 5).trans rfl, (blk_cell hba 6).trans rfl, (blk_cell hba 7).trans rfl, (blk_cell hba 8).trans rfl, (blk_cell hba 9).trans rfl, (blk_cell hba 10).trans rfl, (blk_cell hba 11).trans rfl, (blk_cell hba 12).trans rfl, (blk_cell hba 13).trans rfl⟩ : (w3.alloc (.cells #[.int .i64 900] 3)).cell? ⟨g, 0, none⟩ = some (.int .i64 a0) ∧ (w3.alloc (.cells #[.int .i64 900] 3)).cell? ⟨g, 1, none⟩ = some (.int .i64 a1) ∧ (w3.alloc (.cells #[.int .i64 900] 3)).cell? ⟨g, 2, none⟩ = some (.int .i64 a2) ∧ (w3.alloc (.cells #[.int .i64 900] 3)).cell? ⟨g, 3, none⟩ = some (.int .i64 a3) ∧ (w3.alloc (.cells #[.int .i64 900] 3)).cell? ⟨g, 4, none⟩ = some (.int .i64 a4) ∧ (w3.alloc (.cells #[.int .i64 900] 3)).cell? ⟨g, 5, none⟩ = some (.int .i64 a5) ∧ (w3.alloc (.cells #[.int .i64 900] 3)).cell? ⟨g, 6, none⟩ = some (.int .i64 a6) ∧ (w3.alloc (.cells #[.int .i64 900] 3)).cell? ⟨g, 7, none⟩ = some (.int .i64 a7) ∧ (w3.alloc (.cells #[.int .i64 900] 3)).cell? ⟨g, 8, none⟩ = some (.int .i64 a8) ∧ (w3.alloc (.cells #[.int .i64 900] 3)).cell? ⟨g, 9, none⟩ = some (.int .i64 a9) ∧ (w3.alloc (.cells #[.int .i64 900] 3)).cell? ⟨g, 10, none⟩ = some (.int .i64 a10) ∧ (w3.alloc (.cells #[.int .i64 900] 3)).cell? ⟨g, 11, none⟩ = some (.int .i64 a11) ∧ (w3.alloc (.cells #[.int .i64 900] 3)).cell? ⟨g, 12, none⟩ = some (.int .i64 a12) ∧ (w3.alloc (.cells #[.int .i64 900] 3)).cell? ⟨g, 13, none⟩ = some (.slice A l.length c))
        clear hba
        clear NT k1 HN HN4
        go_wp2_with (first | (go_at_call 13; refine (clay_Put.calls 3000 a0 a1 a2 a3 a4 a5 a6 a7 a8 a9 a10 a11 a12 (some ⟨w3.heap.size, 0, none⟩) 1 [900] ⟨#[]⟩ false _ HR4.out (by decide) HP.out).mono ?_; rintro e w5 ⟨rfl, hB5⟩; have hbx := blk_below HU4.out hB5; have HR5 := Aside0.mk (Kd.C_below HR4.out hB5); have HB5 := Aside0.mk (HB4.out.trans (hB5.mono HB4.out.size)); obtain ⟨gz0, gz1, gz2, gz3, gz4, gz5, gz6, gz7, gz8, gz9, gz10, gz11, gz12, gz13⟩ := (⟨(blk_cell hbx 0).trans rfl, (blk_cell hbx 1).trans rfl, (blk_cell hbx 2).trans rfl, (blk_cell hbx 3).trans rfl, (blk_cell hbx 4).trans rfl, (blk_cell hbx 5).trans rfl, (blk_cell hbx 6).trans rfl, (blk_cell hbx 7).trans rfl, (blk_cell hbx 8).trans rfl, (blk_cell hbx 9).trans rfl, (blk_cell hbx 10).trans rfl, (blk_cell hbx 11).trans rfl, (blk_cell hbx 12).trans rfl, (blk_cell hbx 13).trans rfl⟩ : w5.cell? ⟨g, 0, none⟩ = some (.int .i64 a0) ∧ w5.cell? ⟨g, 1, none⟩ = some (.int .i64 a1) ∧ w5.cell? ⟨g, 2, none⟩ = some (.int .i64 a2) ∧ w5.cell? ⟨g, 3, none⟩ = some (.int .i64 a3) ∧ w5.cell? ⟨g, 4, none⟩ = some (.int .i64 a4) ∧ w5.cell? ⟨g, 5, none⟩ = some (.int .i64 a5) ∧ w5.cell? ⟨g, 6, none⟩ = some (.int .i64 a6) ∧ w5.cell? ⟨g, 7, none⟩ = some (.int .i64 a7) ∧ w5.cell? ⟨g, 8, none⟩ = some (.int .i64 a8) ∧ w5.cell? ⟨g, 9, none⟩ = some (.int .i64 a9) ∧ w5.cell? ⟨g, 10, none⟩ = some (.int .i64 a10) ∧ w5.cell? ⟨g, 11, none⟩ = some (.int .i64 a11) ∧ w5.cell? ⟨g, 12, none⟩ = some (.int .i64 a12) ∧ w5.cell? ⟨g, 13, none⟩ = some (.slice (some ⟨w3.heap.size, 0, none⟩) 1 1)); clear hbx hB5) | (go_at_call 18; refine (clay_Right.calls 3000 a0 a1 a2 a3 a4 a5 a6 a7 a8 a9 a10 a11 a12 (some ⟨w3.heap.size, 0, none⟩) 1 [900] false _ HR5.out (by decide) HQ.out).mono ?_; rintro e w6 ⟨rfl, hB6⟩; have HB6 := Aside0.mk (HB5.out.trans (hB6.mono HB5.out.size)); clear hB6))
        go_ret
        exact ⟨rfl, HB6.out⟩

/-- whatever the thing and the number, the law returns true -/
theorem mixed_any (w : World) (a0 a1 a2 a3 a4 a5 a6 a7 a8 a9 a10 a11 a12 : Int) (A : Option Addr) (c : Nat) (l : List Int) (y : Int) (hr : Kd.C (Kd.int .i64) w A l.length l) (hc : l.length ≤ c) (wy : (Lit.int .i64 y).wf = true) :
    Calls Try.prog 9 #[.agg #[.int .i64 a0, .int .i64 a1, .int .i64 a2, .int .i64 a3, .int .i64 a4, .int .i64 a5, .int .i64 a6, .int .i64 a7, .int .i64 a8, .int .i64 a9, .int .i64 a10, .int .i64 a11, .int .i64 a12, .slice A l.length c], .int .i64 y] w fun e w' => e = .returned (.bool true) ∧ Below w.heap.size w w' := by
  by_cases hl : 20 < l.length
  · exact mixed_long w a0 a1 a2 a3 a4 a5 a6 a7 a8 a9 a10 a11 a12 A c l y hl
  · by_cases hT : okT a0 a1 a2 a3 a4 a5 a6 a7 a8 a9 a10 a11 a12 l
    · exact mixed_yes w a0 a1 a2 a3 a4 a5 a6 a7 a8 a9 a10 a11 a12 A c l y hr hc (by omega) hT
    · exact mixed_no w a0 a1 a2 a3 a4 a5 a6 a7 a8 a9 a10 a11 a12 A c l y hr hc (by omega) hT
end Go.Proofs.Ytbjknbfagadhfaa.PAll
