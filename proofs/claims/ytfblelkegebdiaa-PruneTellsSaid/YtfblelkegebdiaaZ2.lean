/- slices' stable sort of whole numbers: rotateCmpFunc permutes. -/
import Derived.Test.YtfblelkegebdiaaZ1
import Derived.WalkKit
namespace Go.Proofs.Ytfblelkegebdiaa.V
open Go.Proofs Go.Shelf Go.RowKit Go.Lib Go.Sort
set_option linter.unusedVariables false
set_option linter.unusedSimpArgs false
variable {α : Type} [Inhabited α]

theorem wr64 {x : Int} (h0 : -9223372036854775808 ≤ x) (h1 : x < 9223372036854775808) : wrap64 x = x := by unfold wrap64; omega
theorem rot_nums {a m b i j N : Nat} (ham : a < m) (hmb : m < b) (h3 : i ≤ m - a) (h4 : j ≤ b - m) (hb : b ≤ N) (hN : N < 4611686018427387904) : wrap64 ((m : Int) - (i : Int)) = (m : Int) - (i : Int) ∧ wrap64 ((m : Int) + (j : Int)) = (m : Int) + (j : Int) ∧ wrap64 ((m : Int) + (j : Int) - (i : Int)) = (m : Int) + (j : Int) - (i : Int) ∧ wrap64 ((i : Int) - (j : Int)) = (i : Int) - (j : Int) ∧ wrap64 ((j : Int) - (i : Int)) = (j : Int) - (i : Int) :=
  ⟨wr64 (by omega) (by omega), wr64 (by omega) (by omega), wr64 (by omega) (by omega), wr64 (by omega) (by omega), wr64 (by omega) (by omega)⟩
set_option maxHeartbeats 1000000 in
set_option maxRecDepth 1000000 in
theorem rotate_s (enc : α → Value) (g : Nat) (cb : Array Value) (blk off cap a m b : Nat) (d0 d : Array α) (w0 w : World)
    (R : Row1 enc w0 blk off d0) (hs : d0.size = d.size) (S : SW enc w0 blk off d w) (ham : a < m) (hmb : m < b) (hb : b ≤ d.size) (hsz : d.size < 4611686018427387904) :
    Calls Try.prog 94 #[.slice (some ⟨blk, off, none⟩) d.size cap, .int .i64 a, .int .i64 m, .int .i64 b, .func (.func g) #[] cb] w fun e w' => e = .returned (.tuple #[]) ∧ SQ enc w0 blk off d (Mv (rotIdx a m b) d) w' := by
  have mixed : Try.prog.follows Departure.mixedOrders = true := by kernel_rfl
  have S0 : Aside (SW enc w0 blk off d w) := S
  clear S
  have w12 : wrap64 ((m : Int) - (a : Int)) = (m : Int) - (a : Int) ∧ wrap64 ((b : Int) - (m : Int)) = (b : Int) - (m : Int) := ⟨wr64 (by omega) (by omega), wr64 (by omega) (by omega)⟩
  obtain ⟨w1, w2⟩ := w12
  go_enter Try.func94, Try.ntmps94
  go_wp2
  clear w1 w2
  go_loopg [10, 11] (b - a) (fun kx s10 s11 wr => ∃ (i j : Nat) (dk : Array α), s10 = .int .i64 i ∧ s11 = .int .i64 j ∧ 1 ≤ i ∧ 1 ≤ j ∧ i ≤ m - a ∧ j ≤ b - m ∧ i + j ≤ kx ∧ dk.size = d.size ∧ Aside (SW enc w0 blk off dk wr) ∧ Aside (PermIn 0 d.size d dk) ∧ Aside (RotRest a m b i j d dk))
  case atStart => exact ⟨m - a, b - m, d, Value.int.injEq .. |>.mpr ⟨rfl, by omega⟩, Value.int.injEq .. |>.mpr ⟨rfl, by omega⟩, by omega, by omega, Nat.le_refl _, Nat.le_refl _, by omega, rfl, S0, permIn_refl d 0 d.size, rr_start d ham hmb⟩
  case round =>
    clear S0
    obtain ⟨i, j, dk, rfl, rfl, h1, h2, h3, h4, h5, hds, S1, HP, HR⟩ := hrel
    have q1 : i ≤ m := by omega
    have q2 : m + j ≤ b := by omega
    have q3 : b < 4611686018427387904 := by omega
    by_cases hij : i = j
    · have hc : ∀ W, SW enc w0 blk off dk W → Calls Try.prog 96 #[.slice (some ⟨blk, off, none⟩) d.size cap, .int .i64 ((m : Int) - (i : Int)), .int .i64 m, .int .i64 i, .func (.func g) #[] cb] W fun e w' => e = .returned (.tuple #[]) ∧ SQ enc w0 blk off dk (Mv (swIdx (m - i) m i) dk) w' := by
        intro W hW
        have := swapRange_s enc g cb blk off cap (m - i) m i d0 dk w0 W R (by omega) hW (by omega) (by omega) (by omega) (by omega)
        rw [show ((m - i : Nat) : Int) = (m : Int) - (i : Int) by omega, hds] at this
        exact this
      have HC : Aside _ := hc
      have e1 : ((i : Int) == (j : Int)) = true := beq_iff_eq.2 (by omega)
      have e2 : (i == j) = true := beq_iff_eq.2 hij
      have HIJ : Aside (i = j) := hij
      have HDS : Aside (dk.size = d.size) := hds
      clear hc hij hds
      go_wp2_with (fail)
      with_reducible refine (HC.out _ S1.out).mono ?_
      rintro e w' ⟨rfl, d2, hp2, hm2, hs2⟩
      have S2 : Aside (SW enc w0 blk off d2 w') := hs2
      have HP2 : Aside (PermIn 0 dk.size dk d2) := hp2
      have HM2 : Aside (Mv (rotIdx a m b) d d2) := rr_end (by have := HR.out; rw [← HIJ.out] at this; exact this) HDS.out (by omega) (by have := HIJ.out; omega) hm2
      clear hs2 hp2 hm2 S1
      go_wp2_with (fail)
      go_end0
      exact ⟨rfl, d2, permIn_trans _ _ _ _ _ HP.out (by have := HP2.out; rw [HDS.out] at this; exact this), HM2.out, S2.out⟩
    · have e1 : ((i : Int) == (j : Int)) = false := beq_eq_false_iff_ne.2 (by omega)
      have e2 : (i == j) = false := beq_eq_false_iff_ne.2 hij
      by_cases hgt : j < i
      · have hgz : (j : Int) < (i : Int) := by omega
        have hc : ∀ W, SW enc w0 blk off dk W → Calls Try.prog 96 #[.slice (some ⟨blk, off, none⟩) d.size cap, .int .i64 ((m : Int) - (i : Int)), .int .i64 m, .int .i64 j, .func (.func g) #[] cb] W fun e w' => e = .returned (.tuple #[]) ∧ SQ enc w0 blk off dk (Mv (swIdx (m - i) m j) dk) w' := by
          intro W hW
          have := swapRange_s enc g cb blk off cap (m - i) m j d0 dk w0 W R (by omega) hW (by omega) (by omega) (by omega) (by omega)
          rw [show ((m - i : Nat) : Int) = (m : Int) - (i : Int) by omega, hds] at this
          exact this
        have HC : Aside _ := hc
        have HDS : Aside (dk.size = d.size) := hds
        clear hc hds
        go_wp2_with (fail)
        with_reducible refine (HC.out _ S1.out).mono ?_
        rintro e w' ⟨rfl, d2, hp2, hm2, hs2⟩
        have HM2 : Aside (RotRest a m b (i - j) j d d2) := rr_left HR.out HDS.out hgt (by omega) (by omega) hm2
        have S2 : Aside (SW enc w0 blk off d2 w') := hs2
        have HP2 : Aside (PermIn 0 dk.size dk d2) := hp2
        clear hs2 hp2 hm2 S1
        go_wp2_with (fail)
        go_roundg (i - j + j)
        case measure => omega
        case rel => exact ⟨i - j, j, d2, Value.int.injEq .. |>.mpr ⟨rfl, by omega⟩, rfl, by omega, h2, by omega, h4, Nat.le_refl _, (HP2.out.1).trans HDS.out, S2, permIn_trans _ _ _ _ _ HP.out (by have := HP2.out; rw [HDS.out] at this; exact this), HM2⟩
      · have hgz : ¬ (j : Int) < (i : Int) := by omega
        have hc : ∀ W, SW enc w0 blk off dk W → Calls Try.prog 96 #[.slice (some ⟨blk, off, none⟩) d.size cap, .int .i64 ((m : Int) - (i : Int)), .int .i64 ((m : Int) + (j : Int) - (i : Int)), .int .i64 i, .func (.func g) #[] cb] W fun e w' => e = .returned (.tuple #[]) ∧ SQ enc w0 blk off dk (Mv (swIdx (m - i) (m + j - i) i) dk) w' := by
          intro W hW
          have := swapRange_s enc g cb blk off cap (m - i) (m + j - i) i d0 dk w0 W R (by omega) hW (by omega) (by omega) (by omega) (by omega)
          rw [show ((m - i : Nat) : Int) = (m : Int) - (i : Int) by omega, show ((m + j - i : Nat) : Int) = (m : Int) + (j : Int) - (i : Int) by omega, hds] at this
          exact this
        have HC : Aside _ := hc
        have HDS : Aside (dk.size = d.size) := hds
        clear hc hds
        go_wp2_with (fail)
        with_reducible refine (HC.out _ S1.out).mono ?_
        rintro e w' ⟨rfl, d2, hp2, hm2, hs2⟩
        have HM2 : Aside (RotRest a m b i (j - i) d d2) := rr_right HR.out HDS.out (by omega) (by omega) (by omega) hm2
        have S2 : Aside (SW enc w0 blk off d2 w') := hs2
        have HP2 : Aside (PermIn 0 dk.size dk d2) := hp2
        clear hs2 hp2 hm2 S1
        go_wp2_with (fail)
        go_roundg (i + (j - i))
        case measure => omega
        case rel => exact ⟨i, j - i, d2, rfl, Value.int.injEq .. |>.mpr ⟨rfl, by omega⟩, h1, by omega, h3, by omega, Nat.le_refl _, (HP2.out.1).trans HDS.out, S2, permIn_trans _ _ _ _ _ HP.out (by have := HP2.out; rw [HDS.out] at this; exact this), HM2⟩
end Go.Proofs.Ytfblelkegebdiaa.V
