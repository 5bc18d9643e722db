/- slices' stable sort of whole numbers: symMergeCmpFunc permutes: its third case. -/
import Derived.Test.YtfblelkegebdiaaS5
namespace Go.Proofs.Ytfblelkegebdiaa.V
open Go.Proofs Go.Shelf Go.RowKit Go.Lib Go.Sort
set_option linter.unusedVariables false
set_option linter.unusedSimpArgs false
variable {α : Type} [Inhabited α]

def SymOK (enc : α → Value) (g : Nat) (cb : Array Value) (blk off cap : Nat) (d0 : Array α) (w0 : World) (a m b : Nat) : Prop :=
  ∀ (d : Array α) (w : World), d0.size = d.size → SW enc w0 blk off d w → Calls Try.prog 85 #[.slice (some ⟨blk, off, none⟩) d.size cap, .int .i64 a, .int .i64 m, .int .i64 b, .func (.func g) #[] cb] w fun e w' => e = .returned (.tuple #[]) ∧ SP enc w0 blk off d w'

set_option maxHeartbeats 2000000 in
set_option maxRecDepth 1000000 in
theorem symMergeC_s (enc : α → Value) (cf : α → α → Int) (g : Nat) (cb : Array Value) (blk off cap a m b : Nat) (d0 d : Array α) (w0 w : World)
    (eg : ∀ args w, (callFunc g args).run Try.prog w = .ok (.enter g args) w) (hcmp : CmpLays1 Try.prog g cb enc cf blk off d0.size w0)
    (R : Row1 enc w0 blk off d0) (hs : d0.size = d.size) (S : SW enc w0 blk off d w) (ham : a + 1 < m) (hmb : m + 1 < b) (hb : b ≤ d.size) (hsz : d.size < 4611686018427387904)
    (ih : ∀ a' m' b', b' - a' < b - a → a' < m' → m' < b' → b' ≤ d0.size → SymOK enc g cb blk off cap d0 w0 a' m' b') :
    Calls Try.prog 85 #[.slice (some ⟨blk, off, none⟩) d.size cap, .int .i64 a, .int .i64 m, .int .i64 b, .func (.func g) #[] cb] w fun e w' => e = .returned (.tuple #[]) ∧ SP enc w0 blk off d w' := by
  have mixed : Try.prog.follows Departure.mixedOrders = true := by kernel_rfl
  have hcl0 := R.hO.cells
  simp only [Value.cells] at hcl0
  have hst := R.hO.store Try.prog
  have HC : Aside (CmpLays1 Try.prog g cb enc cf blk off d0.size w0) := hcmp
  have IH : Aside (∀ a' m' b', b' - a' < b - a → a' < m' → m' < b' → b' ≤ d0.size → SymOK enc g cb blk off cap d0 w0 a' m' b') := ih
  have S0 : Aside (SW enc w0 blk off d w) := S
  clear S hcmp ih
  have eb : (((m : Int) - (a : Int)) == 1) = false := beq_eq_false_iff_ne.2 (by omega)
  have eb2 : (((b : Int) - (m : Int)) == 1) = false := beq_eq_false_iff_ne.2 (by omega)
  obtain ⟨mid, hmid⟩ : ∃ q, q = (a + b) / 2 := ⟨_, rfl⟩
  have hm1 : ((a : Int) + (b : Int)) / 2 = (mid : Int) := by omega
  have r1 : 2 * mid ≤ a + b := by omega
  have r2 : a + b ≤ 2 * mid + 1 := by omega
  clear hmid
  by_cases hgt : mid < m
  · have hgz : (mid : Int) < (m : Int) := by omega
    go_enter Try.func85, Try.ntmps85
    go_wp2_with (fail)
    go_loopg [20, 21] (mid - (mid + m - b)) (fun kx s20 s21 wr => ∃ (i j : Nat), s20 = .int .i64 i ∧ s21 = .int .i64 j ∧ (mid + m - b) ≤ i ∧ i ≤ j ∧ j ≤ mid ∧ j - i ≤ kx ∧ Aside (SW enc w0 blk off d wr))
    case atStart => exact ⟨(mid + m - b), mid, by first | rfl | exact (Value.int.injEq .. |>.mpr ⟨rfl, by omega⟩), by first | rfl | exact (Value.int.injEq .. |>.mpr ⟨rfl, by omega⟩), Nat.le_refl _, by omega, Nat.le_refl _, Nat.le_refl _, S0⟩
    case round =>
      clear S0
      obtain ⟨i, j, rfl, rfl, h1, h2, h3, h4, S1⟩ := hrel
      by_cases hlt : i < j
      · have hltz : (i : Int) < (j : Int) := by omega
        obtain ⟨iN, hiN⟩ : ∃ q, q = mid + m - 1 - (i + j) / 2 := ⟨_, rfl⟩
        obtain ⟨jN, hjN⟩ : ∃ q, q = (i + j) / 2 := ⟨_, rfl⟩
        have ea : ((mid : Int) + (m : Int) - 1 - ((i : Int) + (j : Int)) / 2).toNat = iN := by omega
        have pa : (0 : Int) ≤ (mid : Int) + (m : Int) - 1 - ((i : Int) + (j : Int)) / 2 := by omega
        have pa2 : ((i : Int) + (j : Int)) / 2 ≤ (mid : Int) + (m : Int) - 1 := by omega
        have ba : (mid : Int) + (m : Int) - 1 - ((i : Int) + (j : Int)) / 2 < (d.size : Int) := by omega
        have ra : IntKind.i64.wrap ((mid : Int) + (m : Int) - 1 - ((i : Int) + (j : Int)) / 2) = (mid : Int) + (m : Int) - 1 - ((i : Int) + (j : Int)) / 2 := by rw [IntKind.wrap_i64]; omega
        have ec : (((i : Int) + (j : Int)) / 2).toNat = jN := by omega
        have pc : (0 : Int) ≤ ((i : Int) + (j : Int)) / 2 := by omega
        have bc : ((i : Int) + (j : Int)) / 2 < (d.size : Int) := by omega
        obtain ⟨x, hx⟩ : ∃ x, x = d[mid + m - 1 - (i + j) / 2]! := ⟨_, rfl⟩
        obtain ⟨y, hy⟩ : ∃ x, x = d[(i + j) / 2]! := ⟨_, rfl⟩
        have l1 := S1.out.cl R (by omega) (mid + m - 1 - (i + j) / 2) (by omega)
        have l2 := S1.out.cl R (by omega) ((i + j) / 2) (by omega)
        rw [← hx, ← hiN] at l1
        rw [← hy, ← hjN] at l2
        have hc := S1.out.cmp HC.out (by omega) x y
        cases hlv : decide (cf x y < 0) with
        | true =>
          have hd : decide (cf x y < 0) = true := hlv
          have hv : cf x y < 0 := of_decide_eq_true hlv
          clear hx hy hiN hjN hlv
          go_wp2_with fail
          go_quiet_grown (first | (go_at_fn g; refine Calls.grown_of (hc _ _)))
          have S2 : Aside (SW enc w0 blk off d (grow (wr.drewN nq) osq)) := S1.out.grown nq osq
          clear l1 l2 hc S1
          generalize grow (wr.drewN nq) osq = w2 at S2 ⊢
          clear nq osq
          clear ea ec ra
          go_wp2_with (fail)
          go_roundg ((i + j) / 2 - i)
          case measure => omega
          case rel => exact ⟨i, (i + j) / 2, rfl, Value.int.injEq .. |>.mpr ⟨rfl, by omega⟩, h1, by omega, by omega, Nat.le_refl _, S2⟩
        | false =>
          have hd : decide (cf x y < 0) = false := hlv
          have hv : ¬ cf x y < 0 := of_decide_eq_false hlv
          clear hx hy hiN hjN hlv
          go_wp2_with fail
          go_quiet_grown (first | (go_at_fn g; refine Calls.grown_of (hc _ _)))
          have S2 : Aside (SW enc w0 blk off d (grow (wr.drewN nq) osq)) := S1.out.grown nq osq
          clear l1 l2 hc S1
          generalize grow (wr.drewN nq) osq = w2 at S2 ⊢
          clear nq osq
          clear ea ec ra
          go_wp2_with (fail)
          go_roundg (j - ((i + j) / 2 + 1))
          case measure => omega
          case rel => exact ⟨(i + j) / 2 + 1, j, Value.int.injEq .. |>.mpr ⟨rfl, by omega⟩, rfl, by omega, by omega, h3, Nat.le_refl _, S2⟩
      · have hltz : ¬ (i : Int) < (j : Int) := by omega
        by_cases c0 : i < m
        · by_cases c1 : i < mid
          · by_cases c2 : a < i
            · by_cases c3 : mid + m < b + i
              · have p0 : i < m := by omega
                have p1 : (i : Int) < (m : Int) := by omega
                have p2 : (m : Int) < (mid : Int) + (m : Int) - (i : Int) := by omega
                have p3 : a < i := by omega
                have p4 : i < mid := by omega
                have p5 : (mid : Int) < (mid : Int) + (m : Int) - (i : Int) := by omega
                have p6 : (mid : Int) + (m : Int) - (i : Int) < (b : Int) := by omega
                have hrot : ∀ (d1 : Array α) (W : World), d1.size = d.size → SW enc w0 blk off d1 W → Calls Try.prog 94 #[.slice (some ⟨blk, off, none⟩) d.size cap, .int .i64 i, .int .i64 m, .int .i64 ((mid : Int) + (m : Int) - (i : Int)), .func (.func g) #[] cb] W fun e w' => e = .returned (.tuple #[]) ∧ SP enc w0 blk off d1 w' := by
                  intro d1 W z hW
                  have := rotate_s enc g cb blk off cap i m (mid + m - i) d0 d1 w0 W R (by omega) hW (by omega) (by omega) (by omega) (by omega)
                  rw [show ((mid + m - i : Nat) : Int) = (mid : Int) + (m : Int) - (i : Int) by omega, z] at this
                  exact this
                have HROT : Aside (∀ (d1 : Array α) (W : World), d1.size = d.size → SW enc w0 blk off d1 W → Calls Try.prog 94 #[.slice (some ⟨blk, off, none⟩) d.size cap, .int .i64 i, .int .i64 m, .int .i64 ((mid : Int) + (m : Int) - (i : Int)), .func (.func g) #[] cb] W fun e w' => e = .returned (.tuple #[]) ∧ SP enc w0 blk off d1 w') := hrot
                clear hrot
                have hl : ∀ (d1 : Array α) (W : World), d1.size = d.size → SW enc w0 blk off d1 W → Calls Try.prog 85 #[.slice (some ⟨blk, off, none⟩) d.size cap, .int .i64 a, .int .i64 i, .int .i64 mid, .func (.func g) #[] cb] W fun e w' => e = .returned (.tuple #[]) ∧ SP enc w0 blk off d1 w' := by
                  intro d1 W z hW
                  have := IH.out a i mid (by omega) (by omega) (by omega) (by omega) d1 W (by omega) hW
                  rw [z] at this
                  exact this
                have HL : Aside (∀ (d1 : Array α) (W : World), d1.size = d.size → SW enc w0 blk off d1 W → Calls Try.prog 85 #[.slice (some ⟨blk, off, none⟩) d.size cap, .int .i64 a, .int .i64 i, .int .i64 mid, .func (.func g) #[] cb] W fun e w' => e = .returned (.tuple #[]) ∧ SP enc w0 blk off d1 w') := hl
                clear hl
                have hr : ∀ (d1 : Array α) (W : World), d1.size = d.size → SW enc w0 blk off d1 W → Calls Try.prog 85 #[.slice (some ⟨blk, off, none⟩) d.size cap, .int .i64 mid, .int .i64 ((mid : Int) + (m : Int) - (i : Int)), .int .i64 b, .func (.func g) #[] cb] W fun e w' => e = .returned (.tuple #[]) ∧ SP enc w0 blk off d1 w' := by
                  intro d1 W z hW
                  have := IH.out mid (mid + m - i) b (by omega) (by omega) (by omega) (by omega) d1 W (by omega) hW
                  rw [show ((mid + m - i : Nat) : Int) = (mid : Int) + (m : Int) - (i : Int) by omega, z] at this
                  exact this
                have HRR : Aside (∀ (d1 : Array α) (W : World), d1.size = d.size → SW enc w0 blk off d1 W → Calls Try.prog 85 #[.slice (some ⟨blk, off, none⟩) d.size cap, .int .i64 mid, .int .i64 ((mid : Int) + (m : Int) - (i : Int)), .int .i64 b, .func (.func g) #[] cb] W fun e w' => e = .returned (.tuple #[]) ∧ SP enc w0 blk off d1 w') := hr
                clear hr
                go_wp2_with (fail)
                all_goals (with_reducible refine (HROT.out d _ rfl S1.out).mono ?_)
                all_goals (rintro e w' ⟨rfl, e1, hp, hq⟩)
                all_goals (have P1 : Aside (PermIn 0 d.size d e1) := hp)
                all_goals (have Z1 : Aside (e1.size = d.size) := hp.1)
                all_goals (have T1 : Aside (SW enc w0 blk off e1 w') := hq)
                all_goals (clear hp hq)
                all_goals (go_wp2_with (fail))
                all_goals (with_reducible refine (HL.out e1 _ Z1.out T1.out).mono ?_)
                all_goals (rintro e w' ⟨rfl, e2, hp, hq⟩)
                all_goals (have P2 : Aside (PermIn 0 e1.size e1 e2) := hp)
                all_goals (have Z2 : Aside (e2.size = d.size) := (hp.1).trans Z1.out)
                all_goals (have T2 : Aside (SW enc w0 blk off e2 w') := hq)
                all_goals (clear hp hq)
                all_goals (go_wp2_with (fail))
                all_goals (with_reducible refine (HRR.out e2 _ Z2.out T2.out).mono ?_)
                all_goals (rintro e w' ⟨rfl, e3, hp, hq⟩)
                all_goals (have P3 : Aside (PermIn 0 e2.size e2 e3) := hp)
                all_goals (have Z3 : Aside (e3.size = d.size) := (hp.1).trans Z2.out)
                all_goals (have T3 : Aside (SW enc w0 blk off e3 w') := hq)
                all_goals (clear hp hq)
                all_goals (go_wp2_with (fail))
                all_goals (go_end0)
                all_goals (refine ⟨rfl, e3, ?_, T3.out⟩)
                all_goals (have q1 := P1.out)
                all_goals (have q2 : PermIn 0 d.size e1 e2 := by have := P2.out; rw [Z1.out] at this; exact this)
                all_goals (have q3 : PermIn 0 d.size e2 e3 := by have := P3.out; rw [Z2.out] at this; exact this)
                all_goals (exact (permIn_trans _ _ _ _ _ (permIn_trans _ _ _ _ _ q1 q2) q3))
              · have p0 : i < m := by omega
                have p1 : (i : Int) < (m : Int) := by omega
                have p2 : (m : Int) < (mid : Int) + (m : Int) - (i : Int) := by omega
                have p3 : a < i := by omega
                have p4 : i < mid := by omega
                have p5 : (mid : Int) < (mid : Int) + (m : Int) - (i : Int) := by omega
                have p6 : ¬ ((mid : Int) + (m : Int) - (i : Int) < (b : Int)) := by omega
                have hrot : ∀ (d1 : Array α) (W : World), d1.size = d.size → SW enc w0 blk off d1 W → Calls Try.prog 94 #[.slice (some ⟨blk, off, none⟩) d.size cap, .int .i64 i, .int .i64 m, .int .i64 ((mid : Int) + (m : Int) - (i : Int)), .func (.func g) #[] cb] W fun e w' => e = .returned (.tuple #[]) ∧ SP enc w0 blk off d1 w' := by
                  intro d1 W z hW
                  have := rotate_s enc g cb blk off cap i m (mid + m - i) d0 d1 w0 W R (by omega) hW (by omega) (by omega) (by omega) (by omega)
                  rw [show ((mid + m - i : Nat) : Int) = (mid : Int) + (m : Int) - (i : Int) by omega, z] at this
                  exact this
                have HROT : Aside (∀ (d1 : Array α) (W : World), d1.size = d.size → SW enc w0 blk off d1 W → Calls Try.prog 94 #[.slice (some ⟨blk, off, none⟩) d.size cap, .int .i64 i, .int .i64 m, .int .i64 ((mid : Int) + (m : Int) - (i : Int)), .func (.func g) #[] cb] W fun e w' => e = .returned (.tuple #[]) ∧ SP enc w0 blk off d1 w') := hrot
                clear hrot
                have hl : ∀ (d1 : Array α) (W : World), d1.size = d.size → SW enc w0 blk off d1 W → Calls Try.prog 85 #[.slice (some ⟨blk, off, none⟩) d.size cap, .int .i64 a, .int .i64 i, .int .i64 mid, .func (.func g) #[] cb] W fun e w' => e = .returned (.tuple #[]) ∧ SP enc w0 blk off d1 w' := by
                  intro d1 W z hW
                  have := IH.out a i mid (by omega) (by omega) (by omega) (by omega) d1 W (by omega) hW
                  rw [z] at this
                  exact this
                have HL : Aside (∀ (d1 : Array α) (W : World), d1.size = d.size → SW enc w0 blk off d1 W → Calls Try.prog 85 #[.slice (some ⟨blk, off, none⟩) d.size cap, .int .i64 a, .int .i64 i, .int .i64 mid, .func (.func g) #[] cb] W fun e w' => e = .returned (.tuple #[]) ∧ SP enc w0 blk off d1 w') := hl
                clear hl
                go_wp2_with (fail)
                all_goals (with_reducible refine (HROT.out d _ rfl S1.out).mono ?_)
                all_goals (rintro e w' ⟨rfl, e1, hp, hq⟩)
                all_goals (have P1 : Aside (PermIn 0 d.size d e1) := hp)
                all_goals (have Z1 : Aside (e1.size = d.size) := hp.1)
                all_goals (have T1 : Aside (SW enc w0 blk off e1 w') := hq)
                all_goals (clear hp hq)
                all_goals (go_wp2_with (fail))
                all_goals (with_reducible refine (HL.out e1 _ Z1.out T1.out).mono ?_)
                all_goals (rintro e w' ⟨rfl, e2, hp, hq⟩)
                all_goals (have P2 : Aside (PermIn 0 e1.size e1 e2) := hp)
                all_goals (have Z2 : Aside (e2.size = d.size) := (hp.1).trans Z1.out)
                all_goals (have T2 : Aside (SW enc w0 blk off e2 w') := hq)
                all_goals (clear hp hq)
                all_goals (go_wp2_with (fail))
                all_goals (go_end0)
                all_goals (refine ⟨rfl, e2, ?_, T2.out⟩)
                all_goals (have q1 := P1.out)
                all_goals (have q2 : PermIn 0 d.size e1 e2 := by have := P2.out; rw [Z1.out] at this; exact this)
                all_goals (exact (permIn_trans _ _ _ _ _ q1 q2))
            · by_cases c3 : mid + m < b + i
              · have p0 : i < m := by omega
                have p1 : (i : Int) < (m : Int) := by omega
                have p2 : (m : Int) < (mid : Int) + (m : Int) - (i : Int) := by omega
                have p3 : ¬ (a < i) := by omega
                have p4 : i < mid := by omega
                have p5 : (mid : Int) < (mid : Int) + (m : Int) - (i : Int) := by omega
                have p6 : (mid : Int) + (m : Int) - (i : Int) < (b : Int) := by omega
                have hrot : ∀ (d1 : Array α) (W : World), d1.size = d.size → SW enc w0 blk off d1 W → Calls Try.prog 94 #[.slice (some ⟨blk, off, none⟩) d.size cap, .int .i64 i, .int .i64 m, .int .i64 ((mid : Int) + (m : Int) - (i : Int)), .func (.func g) #[] cb] W fun e w' => e = .returned (.tuple #[]) ∧ SP enc w0 blk off d1 w' := by
                  intro d1 W z hW
                  have := rotate_s enc g cb blk off cap i m (mid + m - i) d0 d1 w0 W R (by omega) hW (by omega) (by omega) (by omega) (by omega)
                  rw [show ((mid + m - i : Nat) : Int) = (mid : Int) + (m : Int) - (i : Int) by omega, z] at this
                  exact this
                have HROT : Aside (∀ (d1 : Array α) (W : World), d1.size = d.size → SW enc w0 blk off d1 W → Calls Try.prog 94 #[.slice (some ⟨blk, off, none⟩) d.size cap, .int .i64 i, .int .i64 m, .int .i64 ((mid : Int) + (m : Int) - (i : Int)), .func (.func g) #[] cb] W fun e w' => e = .returned (.tuple #[]) ∧ SP enc w0 blk off d1 w') := hrot
                clear hrot
                have hr : ∀ (d1 : Array α) (W : World), d1.size = d.size → SW enc w0 blk off d1 W → Calls Try.prog 85 #[.slice (some ⟨blk, off, none⟩) d.size cap, .int .i64 mid, .int .i64 ((mid : Int) + (m : Int) - (i : Int)), .int .i64 b, .func (.func g) #[] cb] W fun e w' => e = .returned (.tuple #[]) ∧ SP enc w0 blk off d1 w' := by
                  intro d1 W z hW
                  have := IH.out mid (mid + m - i) b (by omega) (by omega) (by omega) (by omega) d1 W (by omega) hW
                  rw [show ((mid + m - i : Nat) : Int) = (mid : Int) + (m : Int) - (i : Int) by omega, z] at this
                  exact this
                have HRR : Aside (∀ (d1 : Array α) (W : World), d1.size = d.size → SW enc w0 blk off d1 W → Calls Try.prog 85 #[.slice (some ⟨blk, off, none⟩) d.size cap, .int .i64 mid, .int .i64 ((mid : Int) + (m : Int) - (i : Int)), .int .i64 b, .func (.func g) #[] cb] W fun e w' => e = .returned (.tuple #[]) ∧ SP enc w0 blk off d1 w') := hr
                clear hr
                go_wp2_with (fail)
                all_goals (with_reducible refine (HROT.out d _ rfl S1.out).mono ?_)
                all_goals (rintro e w' ⟨rfl, e1, hp, hq⟩)
                all_goals (have P1 : Aside (PermIn 0 d.size d e1) := hp)
                all_goals (have Z1 : Aside (e1.size = d.size) := hp.1)
                all_goals (have T1 : Aside (SW enc w0 blk off e1 w') := hq)
                all_goals (clear hp hq)
                all_goals (go_wp2_with (fail))
                all_goals (with_reducible refine (HRR.out e1 _ Z1.out T1.out).mono ?_)
                all_goals (rintro e w' ⟨rfl, e2, hp, hq⟩)
                all_goals (have P2 : Aside (PermIn 0 e1.size e1 e2) := hp)
                all_goals (have Z2 : Aside (e2.size = d.size) := (hp.1).trans Z1.out)
                all_goals (have T2 : Aside (SW enc w0 blk off e2 w') := hq)
                all_goals (clear hp hq)
                all_goals (go_wp2_with (fail))
                all_goals (go_end0)
                all_goals (refine ⟨rfl, e2, ?_, T2.out⟩)
                all_goals (have q1 := P1.out)
                all_goals (have q2 : PermIn 0 d.size e1 e2 := by have := P2.out; rw [Z1.out] at this; exact this)
                all_goals (exact (permIn_trans _ _ _ _ _ q1 q2))
              · have p0 : i < m := by omega
                have p1 : (i : Int) < (m : Int) := by omega
                have p2 : (m : Int) < (mid : Int) + (m : Int) - (i : Int) := by omega
                have p3 : ¬ (a < i) := by omega
                have p4 : i < mid := by omega
                have p5 : (mid : Int) < (mid : Int) + (m : Int) - (i : Int) := by omega
                have p6 : ¬ ((mid : Int) + (m : Int) - (i : Int) < (b : Int)) := by omega
                have hrot : ∀ (d1 : Array α) (W : World), d1.size = d.size → SW enc w0 blk off d1 W → Calls Try.prog 94 #[.slice (some ⟨blk, off, none⟩) d.size cap, .int .i64 i, .int .i64 m, .int .i64 ((mid : Int) + (m : Int) - (i : Int)), .func (.func g) #[] cb] W fun e w' => e = .returned (.tuple #[]) ∧ SP enc w0 blk off d1 w' := by
                  intro d1 W z hW
                  have := rotate_s enc g cb blk off cap i m (mid + m - i) d0 d1 w0 W R (by omega) hW (by omega) (by omega) (by omega) (by omega)
                  rw [show ((mid + m - i : Nat) : Int) = (mid : Int) + (m : Int) - (i : Int) by omega, z] at this
                  exact this
                have HROT : Aside (∀ (d1 : Array α) (W : World), d1.size = d.size → SW enc w0 blk off d1 W → Calls Try.prog 94 #[.slice (some ⟨blk, off, none⟩) d.size cap, .int .i64 i, .int .i64 m, .int .i64 ((mid : Int) + (m : Int) - (i : Int)), .func (.func g) #[] cb] W fun e w' => e = .returned (.tuple #[]) ∧ SP enc w0 blk off d1 w') := hrot
                clear hrot
                go_wp2_with (fail)
                all_goals (with_reducible refine (HROT.out d _ rfl S1.out).mono ?_)
                all_goals (rintro e w' ⟨rfl, e1, hp, hq⟩)
                all_goals (have P1 : Aside (PermIn 0 d.size d e1) := hp)
                all_goals (have Z1 : Aside (e1.size = d.size) := hp.1)
                all_goals (have T1 : Aside (SW enc w0 blk off e1 w') := hq)
                all_goals (clear hp hq)
                all_goals (go_wp2_with (fail))
                all_goals (go_end0)
                all_goals (refine ⟨rfl, e1, ?_, T1.out⟩)
                all_goals (have q1 := P1.out)
                all_goals (exact q1)
          · by_cases c2 : a < i
            · by_cases c3 : mid + m < b + i
              · have p0 : i < m := by omega
                have p1 : (i : Int) < (m : Int) := by omega
                have p2 : ¬ ((m : Int) < (mid : Int) + (m : Int) - (i : Int)) := by omega
                have p3 : a < i := by omega
                have p4 : ¬ (i < mid) := by omega
                have p5 : (mid : Int) < (mid : Int) + (m : Int) - (i : Int) := by omega
                have p6 : (mid : Int) + (m : Int) - (i : Int) < (b : Int) := by omega
                have hr : ∀ (d1 : Array α) (W : World), d1.size = d.size → SW enc w0 blk off d1 W → Calls Try.prog 85 #[.slice (some ⟨blk, off, none⟩) d.size cap, .int .i64 mid, .int .i64 ((mid : Int) + (m : Int) - (i : Int)), .int .i64 b, .func (.func g) #[] cb] W fun e w' => e = .returned (.tuple #[]) ∧ SP enc w0 blk off d1 w' := by
                  intro d1 W z hW
                  have := IH.out mid (mid + m - i) b (by omega) (by omega) (by omega) (by omega) d1 W (by omega) hW
                  rw [show ((mid + m - i : Nat) : Int) = (mid : Int) + (m : Int) - (i : Int) by omega, z] at this
                  exact this
                have HRR : Aside (∀ (d1 : Array α) (W : World), d1.size = d.size → SW enc w0 blk off d1 W → Calls Try.prog 85 #[.slice (some ⟨blk, off, none⟩) d.size cap, .int .i64 mid, .int .i64 ((mid : Int) + (m : Int) - (i : Int)), .int .i64 b, .func (.func g) #[] cb] W fun e w' => e = .returned (.tuple #[]) ∧ SP enc w0 blk off d1 w') := hr
                clear hr
                go_wp2_with (fail)
                all_goals (with_reducible refine (HRR.out d _ rfl S1.out).mono ?_)
                all_goals (rintro e w' ⟨rfl, e1, hp, hq⟩)
                all_goals (have P1 : Aside (PermIn 0 d.size d e1) := hp)
                all_goals (have Z1 : Aside (e1.size = d.size) := hp.1)
                all_goals (have T1 : Aside (SW enc w0 blk off e1 w') := hq)
                all_goals (clear hp hq)
                all_goals (go_wp2_with (fail))
                all_goals (go_end0)
                all_goals (refine ⟨rfl, e1, ?_, T1.out⟩)
                all_goals (have q1 := P1.out)
                all_goals (exact q1)
              · have p0 : i < m := by omega
                have p1 : (i : Int) < (m : Int) := by omega
                have p2 : ¬ ((m : Int) < (mid : Int) + (m : Int) - (i : Int)) := by omega
                have p3 : a < i := by omega
                have p4 : ¬ (i < mid) := by omega
                have p5 : (mid : Int) < (mid : Int) + (m : Int) - (i : Int) := by omega
                have p6 : ¬ ((mid : Int) + (m : Int) - (i : Int) < (b : Int)) := by omega
                go_wp2_with (fail)
                all_goals (go_end0)
                all_goals (refine ⟨rfl, d, ?_, S1.out⟩)
                all_goals (exact permIn_refl d 0 d.size)
            · by_cases c3 : mid + m < b + i
              · have p0 : i < m := by omega
                have p1 : (i : Int) < (m : Int) := by omega
                have p2 : ¬ ((m : Int) < (mid : Int) + (m : Int) - (i : Int)) := by omega
                have p3 : ¬ (a < i) := by omega
                have p4 : ¬ (i < mid) := by omega
                have p5 : (mid : Int) < (mid : Int) + (m : Int) - (i : Int) := by omega
                have p6 : (mid : Int) + (m : Int) - (i : Int) < (b : Int) := by omega
                have hr : ∀ (d1 : Array α) (W : World), d1.size = d.size → SW enc w0 blk off d1 W → Calls Try.prog 85 #[.slice (some ⟨blk, off, none⟩) d.size cap, .int .i64 mid, .int .i64 ((mid : Int) + (m : Int) - (i : Int)), .int .i64 b, .func (.func g) #[] cb] W fun e w' => e = .returned (.tuple #[]) ∧ SP enc w0 blk off d1 w' := by
                  intro d1 W z hW
                  have := IH.out mid (mid + m - i) b (by omega) (by omega) (by omega) (by omega) d1 W (by omega) hW
                  rw [show ((mid + m - i : Nat) : Int) = (mid : Int) + (m : Int) - (i : Int) by omega, z] at this
                  exact this
                have HRR : Aside (∀ (d1 : Array α) (W : World), d1.size = d.size → SW enc w0 blk off d1 W → Calls Try.prog 85 #[.slice (some ⟨blk, off, none⟩) d.size cap, .int .i64 mid, .int .i64 ((mid : Int) + (m : Int) - (i : Int)), .int .i64 b, .func (.func g) #[] cb] W fun e w' => e = .returned (.tuple #[]) ∧ SP enc w0 blk off d1 w') := hr
                clear hr
                go_wp2_with (fail)
                all_goals (with_reducible refine (HRR.out d _ rfl S1.out).mono ?_)
                all_goals (rintro e w' ⟨rfl, e1, hp, hq⟩)
                all_goals (have P1 : Aside (PermIn 0 d.size d e1) := hp)
                all_goals (have Z1 : Aside (e1.size = d.size) := hp.1)
                all_goals (have T1 : Aside (SW enc w0 blk off e1 w') := hq)
                all_goals (clear hp hq)
                all_goals (go_wp2_with (fail))
                all_goals (go_end0)
                all_goals (refine ⟨rfl, e1, ?_, T1.out⟩)
                all_goals (have q1 := P1.out)
                all_goals (exact q1)
              · have p0 : i < m := by omega
                have p1 : (i : Int) < (m : Int) := by omega
                have p2 : ¬ ((m : Int) < (mid : Int) + (m : Int) - (i : Int)) := by omega
                have p3 : ¬ (a < i) := by omega
                have p4 : ¬ (i < mid) := by omega
                have p5 : (mid : Int) < (mid : Int) + (m : Int) - (i : Int) := by omega
                have p6 : ¬ ((mid : Int) + (m : Int) - (i : Int) < (b : Int)) := by omega
                go_wp2_with (fail)
                all_goals (go_end0)
                all_goals (refine ⟨rfl, d, ?_, S1.out⟩)
                all_goals (exact permIn_refl d 0 d.size)
        · by_cases c1 : i < mid
          · by_cases c2 : a < i
            · by_cases c3 : mid + m < b + i
              · have p0 : ¬ (i < m) := by omega
                have p1 : ¬ ((i : Int) < (m : Int)) := by omega
                have p2 : (m : Int) < (mid : Int) + (m : Int) - (i : Int) := by omega
                have p3 : a < i := by omega
                have p4 : i < mid := by omega
                have p5 : ¬ ((mid : Int) < (mid : Int) + (m : Int) - (i : Int)) := by omega
                have p6 : (mid : Int) + (m : Int) - (i : Int) < (b : Int) := by omega
                have hl : ∀ (d1 : Array α) (W : World), d1.size = d.size → SW enc w0 blk off d1 W → Calls Try.prog 85 #[.slice (some ⟨blk, off, none⟩) d.size cap, .int .i64 a, .int .i64 i, .int .i64 mid, .func (.func g) #[] cb] W fun e w' => e = .returned (.tuple #[]) ∧ SP enc w0 blk off d1 w' := by
                  intro d1 W z hW
                  have := IH.out a i mid (by omega) (by omega) (by omega) (by omega) d1 W (by omega) hW
                  rw [z] at this
                  exact this
                have HL : Aside (∀ (d1 : Array α) (W : World), d1.size = d.size → SW enc w0 blk off d1 W → Calls Try.prog 85 #[.slice (some ⟨blk, off, none⟩) d.size cap, .int .i64 a, .int .i64 i, .int .i64 mid, .func (.func g) #[] cb] W fun e w' => e = .returned (.tuple #[]) ∧ SP enc w0 blk off d1 w') := hl
                clear hl
                go_wp2_with (fail)
                all_goals (with_reducible refine (HL.out d _ rfl S1.out).mono ?_)
                all_goals (rintro e w' ⟨rfl, e1, hp, hq⟩)
                all_goals (have P1 : Aside (PermIn 0 d.size d e1) := hp)
                all_goals (have Z1 : Aside (e1.size = d.size) := hp.1)
                all_goals (have T1 : Aside (SW enc w0 blk off e1 w') := hq)
                all_goals (clear hp hq)
                all_goals (go_wp2_with (fail))
                all_goals (go_end0)
                all_goals (refine ⟨rfl, e1, ?_, T1.out⟩)
                all_goals (have q1 := P1.out)
                all_goals (exact q1)
              · have p0 : ¬ (i < m) := by omega
                have p1 : ¬ ((i : Int) < (m : Int)) := by omega
                have p2 : (m : Int) < (mid : Int) + (m : Int) - (i : Int) := by omega
                have p3 : a < i := by omega
                have p4 : i < mid := by omega
                have p5 : ¬ ((mid : Int) < (mid : Int) + (m : Int) - (i : Int)) := by omega
                have p6 : ¬ ((mid : Int) + (m : Int) - (i : Int) < (b : Int)) := by omega
                have hl : ∀ (d1 : Array α) (W : World), d1.size = d.size → SW enc w0 blk off d1 W → Calls Try.prog 85 #[.slice (some ⟨blk, off, none⟩) d.size cap, .int .i64 a, .int .i64 i, .int .i64 mid, .func (.func g) #[] cb] W fun e w' => e = .returned (.tuple #[]) ∧ SP enc w0 blk off d1 w' := by
                  intro d1 W z hW
                  have := IH.out a i mid (by omega) (by omega) (by omega) (by omega) d1 W (by omega) hW
                  rw [z] at this
                  exact this
                have HL : Aside (∀ (d1 : Array α) (W : World), d1.size = d.size → SW enc w0 blk off d1 W → Calls Try.prog 85 #[.slice (some ⟨blk, off, none⟩) d.size cap, .int .i64 a, .int .i64 i, .int .i64 mid, .func (.func g) #[] cb] W fun e w' => e = .returned (.tuple #[]) ∧ SP enc w0 blk off d1 w') := hl
                clear hl
                go_wp2_with (fail)
                all_goals (with_reducible refine (HL.out d _ rfl S1.out).mono ?_)
                all_goals (rintro e w' ⟨rfl, e1, hp, hq⟩)
                all_goals (have P1 : Aside (PermIn 0 d.size d e1) := hp)
                all_goals (have Z1 : Aside (e1.size = d.size) := hp.1)
                all_goals (have T1 : Aside (SW enc w0 blk off e1 w') := hq)
                all_goals (clear hp hq)
                all_goals (go_wp2_with (fail))
                all_goals (go_end0)
                all_goals (refine ⟨rfl, e1, ?_, T1.out⟩)
                all_goals (have q1 := P1.out)
                all_goals (exact q1)
            · by_cases c3 : mid + m < b + i
              · have p0 : ¬ (i < m) := by omega
                have p1 : ¬ ((i : Int) < (m : Int)) := by omega
                have p2 : (m : Int) < (mid : Int) + (m : Int) - (i : Int) := by omega
                have p3 : ¬ (a < i) := by omega
                have p4 : i < mid := by omega
                have p5 : ¬ ((mid : Int) < (mid : Int) + (m : Int) - (i : Int)) := by omega
                have p6 : (mid : Int) + (m : Int) - (i : Int) < (b : Int) := by omega
                go_wp2_with (fail)
                all_goals (go_end0)
                all_goals (refine ⟨rfl, d, ?_, S1.out⟩)
                all_goals (exact permIn_refl d 0 d.size)
              · have p0 : ¬ (i < m) := by omega
                have p1 : ¬ ((i : Int) < (m : Int)) := by omega
                have p2 : (m : Int) < (mid : Int) + (m : Int) - (i : Int) := by omega
                have p3 : ¬ (a < i) := by omega
                have p4 : i < mid := by omega
                have p5 : ¬ ((mid : Int) < (mid : Int) + (m : Int) - (i : Int)) := by omega
                have p6 : ¬ ((mid : Int) + (m : Int) - (i : Int) < (b : Int)) := by omega
                go_wp2_with (fail)
                all_goals (go_end0)
                all_goals (refine ⟨rfl, d, ?_, S1.out⟩)
                all_goals (exact permIn_refl d 0 d.size)
          · by_cases c2 : a < i
            · by_cases c3 : mid + m < b + i
              · have p0 : ¬ (i < m) := by omega
                have p1 : ¬ ((i : Int) < (m : Int)) := by omega
                have p2 : ¬ ((m : Int) < (mid : Int) + (m : Int) - (i : Int)) := by omega
                have p3 : a < i := by omega
                have p4 : ¬ (i < mid) := by omega
                have p5 : ¬ ((mid : Int) < (mid : Int) + (m : Int) - (i : Int)) := by omega
                have p6 : (mid : Int) + (m : Int) - (i : Int) < (b : Int) := by omega
                go_wp2_with (fail)
                all_goals (go_end0)
                all_goals (refine ⟨rfl, d, ?_, S1.out⟩)
                all_goals (exact permIn_refl d 0 d.size)
              · have p0 : ¬ (i < m) := by omega
                have p1 : ¬ ((i : Int) < (m : Int)) := by omega
                have p2 : ¬ ((m : Int) < (mid : Int) + (m : Int) - (i : Int)) := by omega
                have p3 : a < i := by omega
                have p4 : ¬ (i < mid) := by omega
                have p5 : ¬ ((mid : Int) < (mid : Int) + (m : Int) - (i : Int)) := by omega
                have p6 : ¬ ((mid : Int) + (m : Int) - (i : Int) < (b : Int)) := by omega
                go_wp2_with (fail)
                all_goals (go_end0)
                all_goals (refine ⟨rfl, d, ?_, S1.out⟩)
                all_goals (exact permIn_refl d 0 d.size)
            · by_cases c3 : mid + m < b + i
              · have p0 : ¬ (i < m) := by omega
                have p1 : ¬ ((i : Int) < (m : Int)) := by omega
                have p2 : ¬ ((m : Int) < (mid : Int) + (m : Int) - (i : Int)) := by omega
                have p3 : ¬ (a < i) := by omega
                have p4 : ¬ (i < mid) := by omega
                have p5 : ¬ ((mid : Int) < (mid : Int) + (m : Int) - (i : Int)) := by omega
                have p6 : (mid : Int) + (m : Int) - (i : Int) < (b : Int) := by omega
                go_wp2_with (fail)
                all_goals (go_end0)
                all_goals (refine ⟨rfl, d, ?_, S1.out⟩)
                all_goals (exact permIn_refl d 0 d.size)
              · have p0 : ¬ (i < m) := by omega
                have p1 : ¬ ((i : Int) < (m : Int)) := by omega
                have p2 : ¬ ((m : Int) < (mid : Int) + (m : Int) - (i : Int)) := by omega
                have p3 : ¬ (a < i) := by omega
                have p4 : ¬ (i < mid) := by omega
                have p5 : ¬ ((mid : Int) < (mid : Int) + (m : Int) - (i : Int)) := by omega
                have p6 : ¬ ((mid : Int) + (m : Int) - (i : Int) < (b : Int)) := by omega
                go_wp2_with (fail)
                all_goals (go_end0)
                all_goals (refine ⟨rfl, d, ?_, S1.out⟩)
                all_goals (exact permIn_refl d 0 d.size)
  · have hgz : ¬ (mid : Int) < (m : Int) := by omega
    go_enter Try.func85, Try.ntmps85
    go_wp2_with (fail)
    go_loopg [20, 21] (m - a) (fun kx s20 s21 wr => ∃ (i j : Nat), s20 = .int .i64 i ∧ s21 = .int .i64 j ∧ a ≤ i ∧ i ≤ j ∧ j ≤ m ∧ j - i ≤ kx ∧ Aside (SW enc w0 blk off d wr))
    case atStart => exact ⟨a, m, by first | rfl | exact (Value.int.injEq .. |>.mpr ⟨rfl, by omega⟩), by first | rfl | exact (Value.int.injEq .. |>.mpr ⟨rfl, by omega⟩), Nat.le_refl _, by omega, Nat.le_refl _, Nat.le_refl _, S0⟩
    case round =>
      clear S0
      obtain ⟨i, j, rfl, rfl, h1, h2, h3, h4, S1⟩ := hrel
      by_cases hlt : i < j
      · have hltz : (i : Int) < (j : Int) := by omega
        obtain ⟨iN, hiN⟩ : ∃ q, q = mid + m - 1 - (i + j) / 2 := ⟨_, rfl⟩
        obtain ⟨jN, hjN⟩ : ∃ q, q = (i + j) / 2 := ⟨_, rfl⟩
        have ea : ((mid : Int) + (m : Int) - 1 - ((i : Int) + (j : Int)) / 2).toNat = iN := by omega
        have pa : (0 : Int) ≤ (mid : Int) + (m : Int) - 1 - ((i : Int) + (j : Int)) / 2 := by omega
        have pa2 : ((i : Int) + (j : Int)) / 2 ≤ (mid : Int) + (m : Int) - 1 := by omega
        have ba : (mid : Int) + (m : Int) - 1 - ((i : Int) + (j : Int)) / 2 < (d.size : Int) := by omega
        have ra : IntKind.i64.wrap ((mid : Int) + (m : Int) - 1 - ((i : Int) + (j : Int)) / 2) = (mid : Int) + (m : Int) - 1 - ((i : Int) + (j : Int)) / 2 := by rw [IntKind.wrap_i64]; omega
        have ec : (((i : Int) + (j : Int)) / 2).toNat = jN := by omega
        have pc : (0 : Int) ≤ ((i : Int) + (j : Int)) / 2 := by omega
        have bc : ((i : Int) + (j : Int)) / 2 < (d.size : Int) := by omega
        obtain ⟨x, hx⟩ : ∃ x, x = d[mid + m - 1 - (i + j) / 2]! := ⟨_, rfl⟩
        obtain ⟨y, hy⟩ : ∃ x, x = d[(i + j) / 2]! := ⟨_, rfl⟩
        have l1 := S1.out.cl R (by omega) (mid + m - 1 - (i + j) / 2) (by omega)
        have l2 := S1.out.cl R (by omega) ((i + j) / 2) (by omega)
        rw [← hx, ← hiN] at l1
        rw [← hy, ← hjN] at l2
        have hc := S1.out.cmp HC.out (by omega) x y
        cases hlv : decide (cf x y < 0) with
        | true =>
          have hd : decide (cf x y < 0) = true := hlv
          have hv : cf x y < 0 := of_decide_eq_true hlv
          clear hx hy hiN hjN hlv
          go_wp2_with fail
          go_quiet_grown (first | (go_at_fn g; refine Calls.grown_of (hc _ _)))
          have S2 : Aside (SW enc w0 blk off d (grow (wr.drewN nq) osq)) := S1.out.grown nq osq
          clear l1 l2 hc S1
          generalize grow (wr.drewN nq) osq = w2 at S2 ⊢
          clear nq osq
          clear ea ec ra
          go_wp2_with (fail)
          go_roundg ((i + j) / 2 - i)
          case measure => omega
          case rel => exact ⟨i, (i + j) / 2, rfl, Value.int.injEq .. |>.mpr ⟨rfl, by omega⟩, h1, by omega, by omega, Nat.le_refl _, S2⟩
        | false =>
          have hd : decide (cf x y < 0) = false := hlv
          have hv : ¬ cf x y < 0 := of_decide_eq_false hlv
          clear hx hy hiN hjN hlv
          go_wp2_with fail
          go_quiet_grown (first | (go_at_fn g; refine Calls.grown_of (hc _ _)))
          have S2 : Aside (SW enc w0 blk off d (grow (wr.drewN nq) osq)) := S1.out.grown nq osq
          clear l1 l2 hc S1
          generalize grow (wr.drewN nq) osq = w2 at S2 ⊢
          clear nq osq
          clear ea ec ra
          go_wp2_with (fail)
          go_roundg (j - ((i + j) / 2 + 1))
          case measure => omega
          case rel => exact ⟨(i + j) / 2 + 1, j, Value.int.injEq .. |>.mpr ⟨rfl, by omega⟩, rfl, by omega, by omega, h3, Nat.le_refl _, S2⟩
      · have hltz : ¬ (i : Int) < (j : Int) := by omega
        by_cases c0 : i < m
        · by_cases c1 : i < mid
          · by_cases c2 : a < i
            · by_cases c3 : mid + m < b + i
              · have p0 : i < m := by omega
                have p1 : (i : Int) < (m : Int) := by omega
                have p2 : (m : Int) < (mid : Int) + (m : Int) - (i : Int) := by omega
                have p3 : a < i := by omega
                have p4 : i < mid := by omega
                have p5 : (mid : Int) < (mid : Int) + (m : Int) - (i : Int) := by omega
                have p6 : (mid : Int) + (m : Int) - (i : Int) < (b : Int) := by omega
                have hrot : ∀ (d1 : Array α) (W : World), d1.size = d.size → SW enc w0 blk off d1 W → Calls Try.prog 94 #[.slice (some ⟨blk, off, none⟩) d.size cap, .int .i64 i, .int .i64 m, .int .i64 ((mid : Int) + (m : Int) - (i : Int)), .func (.func g) #[] cb] W fun e w' => e = .returned (.tuple #[]) ∧ SP enc w0 blk off d1 w' := by
                  intro d1 W z hW
                  have := rotate_s enc g cb blk off cap i m (mid + m - i) d0 d1 w0 W R (by omega) hW (by omega) (by omega) (by omega) (by omega)
                  rw [show ((mid + m - i : Nat) : Int) = (mid : Int) + (m : Int) - (i : Int) by omega, z] at this
                  exact this
                have HROT : Aside (∀ (d1 : Array α) (W : World), d1.size = d.size → SW enc w0 blk off d1 W → Calls Try.prog 94 #[.slice (some ⟨blk, off, none⟩) d.size cap, .int .i64 i, .int .i64 m, .int .i64 ((mid : Int) + (m : Int) - (i : Int)), .func (.func g) #[] cb] W fun e w' => e = .returned (.tuple #[]) ∧ SP enc w0 blk off d1 w') := hrot
                clear hrot
                have hl : ∀ (d1 : Array α) (W : World), d1.size = d.size → SW enc w0 blk off d1 W → Calls Try.prog 85 #[.slice (some ⟨blk, off, none⟩) d.size cap, .int .i64 a, .int .i64 i, .int .i64 mid, .func (.func g) #[] cb] W fun e w' => e = .returned (.tuple #[]) ∧ SP enc w0 blk off d1 w' := by
                  intro d1 W z hW
                  have := IH.out a i mid (by omega) (by omega) (by omega) (by omega) d1 W (by omega) hW
                  rw [z] at this
                  exact this
                have HL : Aside (∀ (d1 : Array α) (W : World), d1.size = d.size → SW enc w0 blk off d1 W → Calls Try.prog 85 #[.slice (some ⟨blk, off, none⟩) d.size cap, .int .i64 a, .int .i64 i, .int .i64 mid, .func (.func g) #[] cb] W fun e w' => e = .returned (.tuple #[]) ∧ SP enc w0 blk off d1 w') := hl
                clear hl
                have hr : ∀ (d1 : Array α) (W : World), d1.size = d.size → SW enc w0 blk off d1 W → Calls Try.prog 85 #[.slice (some ⟨blk, off, none⟩) d.size cap, .int .i64 mid, .int .i64 ((mid : Int) + (m : Int) - (i : Int)), .int .i64 b, .func (.func g) #[] cb] W fun e w' => e = .returned (.tuple #[]) ∧ SP enc w0 blk off d1 w' := by
                  intro d1 W z hW
                  have := IH.out mid (mid + m - i) b (by omega) (by omega) (by omega) (by omega) d1 W (by omega) hW
                  rw [show ((mid + m - i : Nat) : Int) = (mid : Int) + (m : Int) - (i : Int) by omega, z] at this
                  exact this
                have HRR : Aside (∀ (d1 : Array α) (W : World), d1.size = d.size → SW enc w0 blk off d1 W → Calls Try.prog 85 #[.slice (some ⟨blk, off, none⟩) d.size cap, .int .i64 mid, .int .i64 ((mid : Int) + (m : Int) - (i : Int)), .int .i64 b, .func (.func g) #[] cb] W fun e w' => e = .returned (.tuple #[]) ∧ SP enc w0 blk off d1 w') := hr
                clear hr
                go_wp2_with (fail)
                all_goals (with_reducible refine (HROT.out d _ rfl S1.out).mono ?_)
                all_goals (rintro e w' ⟨rfl, e1, hp, hq⟩)
                all_goals (have P1 : Aside (PermIn 0 d.size d e1) := hp)
                all_goals (have Z1 : Aside (e1.size = d.size) := hp.1)
                all_goals (have T1 : Aside (SW enc w0 blk off e1 w') := hq)
                all_goals (clear hp hq)
                all_goals (go_wp2_with (fail))
                all_goals (with_reducible refine (HL.out e1 _ Z1.out T1.out).mono ?_)
                all_goals (rintro e w' ⟨rfl, e2, hp, hq⟩)
                all_goals (have P2 : Aside (PermIn 0 e1.size e1 e2) := hp)
                all_goals (have Z2 : Aside (e2.size = d.size) := (hp.1).trans Z1.out)
                all_goals (have T2 : Aside (SW enc w0 blk off e2 w') := hq)
                all_goals (clear hp hq)
                all_goals (go_wp2_with (fail))
                all_goals (with_reducible refine (HRR.out e2 _ Z2.out T2.out).mono ?_)
                all_goals (rintro e w' ⟨rfl, e3, hp, hq⟩)
                all_goals (have P3 : Aside (PermIn 0 e2.size e2 e3) := hp)
                all_goals (have Z3 : Aside (e3.size = d.size) := (hp.1).trans Z2.out)
                all_goals (have T3 : Aside (SW enc w0 blk off e3 w') := hq)
                all_goals (clear hp hq)
                all_goals (go_wp2_with (fail))
                all_goals (go_end0)
                all_goals (refine ⟨rfl, e3, ?_, T3.out⟩)
                all_goals (have q1 := P1.out)
                all_goals (have q2 : PermIn 0 d.size e1 e2 := by have := P2.out; rw [Z1.out] at this; exact this)
                all_goals (have q3 : PermIn 0 d.size e2 e3 := by have := P3.out; rw [Z2.out] at this; exact this)
                all_goals (exact (permIn_trans _ _ _ _ _ (permIn_trans _ _ _ _ _ q1 q2) q3))
              · have p0 : i < m := by omega
                have p1 : (i : Int) < (m : Int) := by omega
                have p2 : (m : Int) < (mid : Int) + (m : Int) - (i : Int) := by omega
                have p3 : a < i := by omega
                have p4 : i < mid := by omega
                have p5 : (mid : Int) < (mid : Int) + (m : Int) - (i : Int) := by omega
                have p6 : ¬ ((mid : Int) + (m : Int) - (i : Int) < (b : Int)) := by omega
                have hrot : ∀ (d1 : Array α) (W : World), d1.size = d.size → SW enc w0 blk off d1 W → Calls Try.prog 94 #[.slice (some ⟨blk, off, none⟩) d.size cap, .int .i64 i, .int .i64 m, .int .i64 ((mid : Int) + (m : Int) - (i : Int)), .func (.func g) #[] cb] W fun e w' => e = .returned (.tuple #[]) ∧ SP enc w0 blk off d1 w' := by
                  intro d1 W z hW
                  have := rotate_s enc g cb blk off cap i m (mid + m - i) d0 d1 w0 W R (by omega) hW (by omega) (by omega) (by omega) (by omega)
                  rw [show ((mid + m - i : Nat) : Int) = (mid : Int) + (m : Int) - (i : Int) by omega, z] at this
                  exact this
                have HROT : Aside (∀ (d1 : Array α) (W : World), d1.size = d.size → SW enc w0 blk off d1 W → Calls Try.prog 94 #[.slice (some ⟨blk, off, none⟩) d.size cap, .int .i64 i, .int .i64 m, .int .i64 ((mid : Int) + (m : Int) - (i : Int)), .func (.func g) #[] cb] W fun e w' => e = .returned (.tuple #[]) ∧ SP enc w0 blk off d1 w') := hrot
                clear hrot
                have hl : ∀ (d1 : Array α) (W : World), d1.size = d.size → SW enc w0 blk off d1 W → Calls Try.prog 85 #[.slice (some ⟨blk, off, none⟩) d.size cap, .int .i64 a, .int .i64 i, .int .i64 mid, .func (.func g) #[] cb] W fun e w' => e = .returned (.tuple #[]) ∧ SP enc w0 blk off d1 w' := by
                  intro d1 W z hW
                  have := IH.out a i mid (by omega) (by omega) (by omega) (by omega) d1 W (by omega) hW
                  rw [z] at this
                  exact this
                have HL : Aside (∀ (d1 : Array α) (W : World), d1.size = d.size → SW enc w0 blk off d1 W → Calls Try.prog 85 #[.slice (some ⟨blk, off, none⟩) d.size cap, .int .i64 a, .int .i64 i, .int .i64 mid, .func (.func g) #[] cb] W fun e w' => e = .returned (.tuple #[]) ∧ SP enc w0 blk off d1 w') := hl
                clear hl
                go_wp2_with (fail)
                all_goals (with_reducible refine (HROT.out d _ rfl S1.out).mono ?_)
                all_goals (rintro e w' ⟨rfl, e1, hp, hq⟩)
                all_goals (have P1 : Aside (PermIn 0 d.size d e1) := hp)
                all_goals (have Z1 : Aside (e1.size = d.size) := hp.1)
                all_goals (have T1 : Aside (SW enc w0 blk off e1 w') := hq)
                all_goals (clear hp hq)
                all_goals (go_wp2_with (fail))
                all_goals (with_reducible refine (HL.out e1 _ Z1.out T1.out).mono ?_)
                all_goals (rintro e w' ⟨rfl, e2, hp, hq⟩)
                all_goals (have P2 : Aside (PermIn 0 e1.size e1 e2) := hp)
                all_goals (have Z2 : Aside (e2.size = d.size) := (hp.1).trans Z1.out)
                all_goals (have T2 : Aside (SW enc w0 blk off e2 w') := hq)
                all_goals (clear hp hq)
                all_goals (go_wp2_with (fail))
                all_goals (go_end0)
                all_goals (refine ⟨rfl, e2, ?_, T2.out⟩)
                all_goals (have q1 := P1.out)
                all_goals (have q2 : PermIn 0 d.size e1 e2 := by have := P2.out; rw [Z1.out] at this; exact this)
                all_goals (exact (permIn_trans _ _ _ _ _ q1 q2))
            · by_cases c3 : mid + m < b + i
              · have p0 : i < m := by omega
                have p1 : (i : Int) < (m : Int) := by omega
                have p2 : (m : Int) < (mid : Int) + (m : Int) - (i : Int) := by omega
                have p3 : ¬ (a < i) := by omega
                have p4 : i < mid := by omega
                have p5 : (mid : Int) < (mid : Int) + (m : Int) - (i : Int) := by omega
                have p6 : (mid : Int) + (m : Int) - (i : Int) < (b : Int) := by omega
                have hrot : ∀ (d1 : Array α) (W : World), d1.size = d.size → SW enc w0 blk off d1 W → Calls Try.prog 94 #[.slice (some ⟨blk, off, none⟩) d.size cap, .int .i64 i, .int .i64 m, .int .i64 ((mid : Int) + (m : Int) - (i : Int)), .func (.func g) #[] cb] W fun e w' => e = .returned (.tuple #[]) ∧ SP enc w0 blk off d1 w' := by
                  intro d1 W z hW
                  have := rotate_s enc g cb blk off cap i m (mid + m - i) d0 d1 w0 W R (by omega) hW (by omega) (by omega) (by omega) (by omega)
                  rw [show ((mid + m - i : Nat) : Int) = (mid : Int) + (m : Int) - (i : Int) by omega, z] at this
                  exact this
                have HROT : Aside (∀ (d1 : Array α) (W : World), d1.size = d.size → SW enc w0 blk off d1 W → Calls Try.prog 94 #[.slice (some ⟨blk, off, none⟩) d.size cap, .int .i64 i, .int .i64 m, .int .i64 ((mid : Int) + (m : Int) - (i : Int)), .func (.func g) #[] cb] W fun e w' => e = .returned (.tuple #[]) ∧ SP enc w0 blk off d1 w') := hrot
                clear hrot
                have hr : ∀ (d1 : Array α) (W : World), d1.size = d.size → SW enc w0 blk off d1 W → Calls Try.prog 85 #[.slice (some ⟨blk, off, none⟩) d.size cap, .int .i64 mid, .int .i64 ((mid : Int) + (m : Int) - (i : Int)), .int .i64 b, .func (.func g) #[] cb] W fun e w' => e = .returned (.tuple #[]) ∧ SP enc w0 blk off d1 w' := by
                  intro d1 W z hW
                  have := IH.out mid (mid + m - i) b (by omega) (by omega) (by omega) (by omega) d1 W (by omega) hW
                  rw [show ((mid + m - i : Nat) : Int) = (mid : Int) + (m : Int) - (i : Int) by omega, z] at this
                  exact this
                have HRR : Aside (∀ (d1 : Array α) (W : World), d1.size = d.size → SW enc w0 blk off d1 W → Calls Try.prog 85 #[.slice (some ⟨blk, off, none⟩) d.size cap, .int .i64 mid, .int .i64 ((mid : Int) + (m : Int) - (i : Int)), .int .i64 b, .func (.func g) #[] cb] W fun e w' => e = .returned (.tuple #[]) ∧ SP enc w0 blk off d1 w') := hr
                clear hr
                go_wp2_with (fail)
                all_goals (with_reducible refine (HROT.out d _ rfl S1.out).mono ?_)
                all_goals (rintro e w' ⟨rfl, e1, hp, hq⟩)
                all_goals (have P1 : Aside (PermIn 0 d.size d e1) := hp)
                all_goals (have Z1 : Aside (e1.size = d.size) := hp.1)
                all_goals (have T1 : Aside (SW enc w0 blk off e1 w') := hq)
                all_goals (clear hp hq)
                all_goals (go_wp2_with (fail))
                all_goals (with_reducible refine (HRR.out e1 _ Z1.out T1.out).mono ?_)
                all_goals (rintro e w' ⟨rfl, e2, hp, hq⟩)
                all_goals (have P2 : Aside (PermIn 0 e1.size e1 e2) := hp)
                all_goals (have Z2 : Aside (e2.size = d.size) := (hp.1).trans Z1.out)
                all_goals (have T2 : Aside (SW enc w0 blk off e2 w') := hq)
                all_goals (clear hp hq)
                all_goals (go_wp2_with (fail))
                all_goals (go_end0)
                all_goals (refine ⟨rfl, e2, ?_, T2.out⟩)
                all_goals (have q1 := P1.out)
                all_goals (have q2 : PermIn 0 d.size e1 e2 := by have := P2.out; rw [Z1.out] at this; exact this)
                all_goals (exact (permIn_trans _ _ _ _ _ q1 q2))
              · have p0 : i < m := by omega
                have p1 : (i : Int) < (m : Int) := by omega
                have p2 : (m : Int) < (mid : Int) + (m : Int) - (i : Int) := by omega
                have p3 : ¬ (a < i) := by omega
                have p4 : i < mid := by omega
                have p5 : (mid : Int) < (mid : Int) + (m : Int) - (i : Int) := by omega
                have p6 : ¬ ((mid : Int) + (m : Int) - (i : Int) < (b : Int)) := by omega
                have hrot : ∀ (d1 : Array α) (W : World), d1.size = d.size → SW enc w0 blk off d1 W → Calls Try.prog 94 #[.slice (some ⟨blk, off, none⟩) d.size cap, .int .i64 i, .int .i64 m, .int .i64 ((mid : Int) + (m : Int) - (i : Int)), .func (.func g) #[] cb] W fun e w' => e = .returned (.tuple #[]) ∧ SP enc w0 blk off d1 w' := by
                  intro d1 W z hW
                  have := rotate_s enc g cb blk off cap i m (mid + m - i) d0 d1 w0 W R (by omega) hW (by omega) (by omega) (by omega) (by omega)
                  rw [show ((mid + m - i : Nat) : Int) = (mid : Int) + (m : Int) - (i : Int) by omega, z] at this
                  exact this
                have HROT : Aside (∀ (d1 : Array α) (W : World), d1.size = d.size → SW enc w0 blk off d1 W → Calls Try.prog 94 #[.slice (some ⟨blk, off, none⟩) d.size cap, .int .i64 i, .int .i64 m, .int .i64 ((mid : Int) + (m : Int) - (i : Int)), .func (.func g) #[] cb] W fun e w' => e = .returned (.tuple #[]) ∧ SP enc w0 blk off d1 w') := hrot
                clear hrot
                go_wp2_with (fail)
                all_goals (with_reducible refine (HROT.out d _ rfl S1.out).mono ?_)
                all_goals (rintro e w' ⟨rfl, e1, hp, hq⟩)
                all_goals (have P1 : Aside (PermIn 0 d.size d e1) := hp)
                all_goals (have Z1 : Aside (e1.size = d.size) := hp.1)
                all_goals (have T1 : Aside (SW enc w0 blk off e1 w') := hq)
                all_goals (clear hp hq)
                all_goals (go_wp2_with (fail))
                all_goals (go_end0)
                all_goals (refine ⟨rfl, e1, ?_, T1.out⟩)
                all_goals (have q1 := P1.out)
                all_goals (exact q1)
          · by_cases c2 : a < i
            · by_cases c3 : mid + m < b + i
              · have p0 : i < m := by omega
                have p1 : (i : Int) < (m : Int) := by omega
                have p2 : ¬ ((m : Int) < (mid : Int) + (m : Int) - (i : Int)) := by omega
                have p3 : a < i := by omega
                have p4 : ¬ (i < mid) := by omega
                have p5 : (mid : Int) < (mid : Int) + (m : Int) - (i : Int) := by omega
                have p6 : (mid : Int) + (m : Int) - (i : Int) < (b : Int) := by omega
                have hr : ∀ (d1 : Array α) (W : World), d1.size = d.size → SW enc w0 blk off d1 W → Calls Try.prog 85 #[.slice (some ⟨blk, off, none⟩) d.size cap, .int .i64 mid, .int .i64 ((mid : Int) + (m : Int) - (i : Int)), .int .i64 b, .func (.func g) #[] cb] W fun e w' => e = .returned (.tuple #[]) ∧ SP enc w0 blk off d1 w' := by
                  intro d1 W z hW
                  have := IH.out mid (mid + m - i) b (by omega) (by omega) (by omega) (by omega) d1 W (by omega) hW
                  rw [show ((mid + m - i : Nat) : Int) = (mid : Int) + (m : Int) - (i : Int) by omega, z] at this
                  exact this
                have HRR : Aside (∀ (d1 : Array α) (W : World), d1.size = d.size → SW enc w0 blk off d1 W → Calls Try.prog 85 #[.slice (some ⟨blk, off, none⟩) d.size cap, .int .i64 mid, .int .i64 ((mid : Int) + (m : Int) - (i : Int)), .int .i64 b, .func (.func g) #[] cb] W fun e w' => e = .returned (.tuple #[]) ∧ SP enc w0 blk off d1 w') := hr
                clear hr
                go_wp2_with (fail)
                all_goals (with_reducible refine (HRR.out d _ rfl S1.out).mono ?_)
                all_goals (rintro e w' ⟨rfl, e1, hp, hq⟩)
                all_goals (have P1 : Aside (PermIn 0 d.size d e1) := hp)
                all_goals (have Z1 : Aside (e1.size = d.size) := hp.1)
                all_goals (have T1 : Aside (SW enc w0 blk off e1 w') := hq)
                all_goals (clear hp hq)
                all_goals (go_wp2_with (fail))
                all_goals (go_end0)
                all_goals (refine ⟨rfl, e1, ?_, T1.out⟩)
                all_goals (have q1 := P1.out)
                all_goals (exact q1)
              · have p0 : i < m := by omega
                have p1 : (i : Int) < (m : Int) := by omega
                have p2 : ¬ ((m : Int) < (mid : Int) + (m : Int) - (i : Int)) := by omega
                have p3 : a < i := by omega
                have p4 : ¬ (i < mid) := by omega
                have p5 : (mid : Int) < (mid : Int) + (m : Int) - (i : Int) := by omega
                have p6 : ¬ ((mid : Int) + (m : Int) - (i : Int) < (b : Int)) := by omega
                go_wp2_with (fail)
                all_goals (go_end0)
                all_goals (refine ⟨rfl, d, ?_, S1.out⟩)
                all_goals (exact permIn_refl d 0 d.size)
            · by_cases c3 : mid + m < b + i
              · have p0 : i < m := by omega
                have p1 : (i : Int) < (m : Int) := by omega
                have p2 : ¬ ((m : Int) < (mid : Int) + (m : Int) - (i : Int)) := by omega
                have p3 : ¬ (a < i) := by omega
                have p4 : ¬ (i < mid) := by omega
                have p5 : (mid : Int) < (mid : Int) + (m : Int) - (i : Int) := by omega
                have p6 : (mid : Int) + (m : Int) - (i : Int) < (b : Int) := by omega
                have hr : ∀ (d1 : Array α) (W : World), d1.size = d.size → SW enc w0 blk off d1 W → Calls Try.prog 85 #[.slice (some ⟨blk, off, none⟩) d.size cap, .int .i64 mid, .int .i64 ((mid : Int) + (m : Int) - (i : Int)), .int .i64 b, .func (.func g) #[] cb] W fun e w' => e = .returned (.tuple #[]) ∧ SP enc w0 blk off d1 w' := by
                  intro d1 W z hW
                  have := IH.out mid (mid + m - i) b (by omega) (by omega) (by omega) (by omega) d1 W (by omega) hW
                  rw [show ((mid + m - i : Nat) : Int) = (mid : Int) + (m : Int) - (i : Int) by omega, z] at this
                  exact this
                have HRR : Aside (∀ (d1 : Array α) (W : World), d1.size = d.size → SW enc w0 blk off d1 W → Calls Try.prog 85 #[.slice (some ⟨blk, off, none⟩) d.size cap, .int .i64 mid, .int .i64 ((mid : Int) + (m : Int) - (i : Int)), .int .i64 b, .func (.func g) #[] cb] W fun e w' => e = .returned (.tuple #[]) ∧ SP enc w0 blk off d1 w') := hr
                clear hr
                go_wp2_with (fail)
                all_goals (with_reducible refine (HRR.out d _ rfl S1.out).mono ?_)
                all_goals (rintro e w' ⟨rfl, e1, hp, hq⟩)
                all_goals (have P1 : Aside (PermIn 0 d.size d e1) := hp)
                all_goals (have Z1 : Aside (e1.size = d.size) := hp.1)
                all_goals (have T1 : Aside (SW enc w0 blk off e1 w') := hq)
                all_goals (clear hp hq)
                all_goals (go_wp2_with (fail))
                all_goals (go_end0)
                all_goals (refine ⟨rfl, e1, ?_, T1.out⟩)
                all_goals (have q1 := P1.out)
                all_goals (exact q1)
              · have p0 : i < m := by omega
                have p1 : (i : Int) < (m : Int) := by omega
                have p2 : ¬ ((m : Int) < (mid : Int) + (m : Int) - (i : Int)) := by omega
                have p3 : ¬ (a < i) := by omega
                have p4 : ¬ (i < mid) := by omega
                have p5 : (mid : Int) < (mid : Int) + (m : Int) - (i : Int) := by omega
                have p6 : ¬ ((mid : Int) + (m : Int) - (i : Int) < (b : Int)) := by omega
                go_wp2_with (fail)
                all_goals (go_end0)
                all_goals (refine ⟨rfl, d, ?_, S1.out⟩)
                all_goals (exact permIn_refl d 0 d.size)
        · by_cases c1 : i < mid
          · by_cases c2 : a < i
            · by_cases c3 : mid + m < b + i
              · have p0 : ¬ (i < m) := by omega
                have p1 : ¬ ((i : Int) < (m : Int)) := by omega
                have p2 : (m : Int) < (mid : Int) + (m : Int) - (i : Int) := by omega
                have p3 : a < i := by omega
                have p4 : i < mid := by omega
                have p5 : ¬ ((mid : Int) < (mid : Int) + (m : Int) - (i : Int)) := by omega
                have p6 : (mid : Int) + (m : Int) - (i : Int) < (b : Int) := by omega
                have hl : ∀ (d1 : Array α) (W : World), d1.size = d.size → SW enc w0 blk off d1 W → Calls Try.prog 85 #[.slice (some ⟨blk, off, none⟩) d.size cap, .int .i64 a, .int .i64 i, .int .i64 mid, .func (.func g) #[] cb] W fun e w' => e = .returned (.tuple #[]) ∧ SP enc w0 blk off d1 w' := by
                  intro d1 W z hW
                  have := IH.out a i mid (by omega) (by omega) (by omega) (by omega) d1 W (by omega) hW
                  rw [z] at this
                  exact this
                have HL : Aside (∀ (d1 : Array α) (W : World), d1.size = d.size → SW enc w0 blk off d1 W → Calls Try.prog 85 #[.slice (some ⟨blk, off, none⟩) d.size cap, .int .i64 a, .int .i64 i, .int .i64 mid, .func (.func g) #[] cb] W fun e w' => e = .returned (.tuple #[]) ∧ SP enc w0 blk off d1 w') := hl
                clear hl
                go_wp2_with (fail)
                all_goals (with_reducible refine (HL.out d _ rfl S1.out).mono ?_)
                all_goals (rintro e w' ⟨rfl, e1, hp, hq⟩)
                all_goals (have P1 : Aside (PermIn 0 d.size d e1) := hp)
                all_goals (have Z1 : Aside (e1.size = d.size) := hp.1)
                all_goals (have T1 : Aside (SW enc w0 blk off e1 w') := hq)
                all_goals (clear hp hq)
                all_goals (go_wp2_with (fail))
                all_goals (go_end0)
                all_goals (refine ⟨rfl, e1, ?_, T1.out⟩)
                all_goals (have q1 := P1.out)
                all_goals (exact q1)
              · have p0 : ¬ (i < m) := by omega
                have p1 : ¬ ((i : Int) < (m : Int)) := by omega
                have p2 : (m : Int) < (mid : Int) + (m : Int) - (i : Int) := by omega
                have p3 : a < i := by omega
                have p4 : i < mid := by omega
                have p5 : ¬ ((mid : Int) < (mid : Int) + (m : Int) - (i : Int)) := by omega
                have p6 : ¬ ((mid : Int) + (m : Int) - (i : Int) < (b : Int)) := by omega
                have hl : ∀ (d1 : Array α) (W : World), d1.size = d.size → SW enc w0 blk off d1 W → Calls Try.prog 85 #[.slice (some ⟨blk, off, none⟩) d.size cap, .int .i64 a, .int .i64 i, .int .i64 mid, .func (.func g) #[] cb] W fun e w' => e = .returned (.tuple #[]) ∧ SP enc w0 blk off d1 w' := by
                  intro d1 W z hW
                  have := IH.out a i mid (by omega) (by omega) (by omega) (by omega) d1 W (by omega) hW
                  rw [z] at this
                  exact this
                have HL : Aside (∀ (d1 : Array α) (W : World), d1.size = d.size → SW enc w0 blk off d1 W → Calls Try.prog 85 #[.slice (some ⟨blk, off, none⟩) d.size cap, .int .i64 a, .int .i64 i, .int .i64 mid, .func (.func g) #[] cb] W fun e w' => e = .returned (.tuple #[]) ∧ SP enc w0 blk off d1 w') := hl
                clear hl
                go_wp2_with (fail)
                all_goals (with_reducible refine (HL.out d _ rfl S1.out).mono ?_)
                all_goals (rintro e w' ⟨rfl, e1, hp, hq⟩)
                all_goals (have P1 : Aside (PermIn 0 d.size d e1) := hp)
                all_goals (have Z1 : Aside (e1.size = d.size) := hp.1)
                all_goals (have T1 : Aside (SW enc w0 blk off e1 w') := hq)
                all_goals (clear hp hq)
                all_goals (go_wp2_with (fail))
                all_goals (go_end0)
                all_goals (refine ⟨rfl, e1, ?_, T1.out⟩)
                all_goals (have q1 := P1.out)
                all_goals (exact q1)
            · by_cases c3 : mid + m < b + i
              · have p0 : ¬ (i < m) := by omega
                have p1 : ¬ ((i : Int) < (m : Int)) := by omega
                have p2 : (m : Int) < (mid : Int) + (m : Int) - (i : Int) := by omega
                have p3 : ¬ (a < i) := by omega
                have p4 : i < mid := by omega
                have p5 : ¬ ((mid : Int) < (mid : Int) + (m : Int) - (i : Int)) := by omega
                have p6 : (mid : Int) + (m : Int) - (i : Int) < (b : Int) := by omega
                go_wp2_with (fail)
                all_goals (go_end0)
                all_goals (refine ⟨rfl, d, ?_, S1.out⟩)
                all_goals (exact permIn_refl d 0 d.size)
              · have p0 : ¬ (i < m) := by omega
                have p1 : ¬ ((i : Int) < (m : Int)) := by omega
                have p2 : (m : Int) < (mid : Int) + (m : Int) - (i : Int) := by omega
                have p3 : ¬ (a < i) := by omega
                have p4 : i < mid := by omega
                have p5 : ¬ ((mid : Int) < (mid : Int) + (m : Int) - (i : Int)) := by omega
                have p6 : ¬ ((mid : Int) + (m : Int) - (i : Int) < (b : Int)) := by omega
                go_wp2_with (fail)
                all_goals (go_end0)
                all_goals (refine ⟨rfl, d, ?_, S1.out⟩)
                all_goals (exact permIn_refl d 0 d.size)
          · by_cases c2 : a < i
            · by_cases c3 : mid + m < b + i
              · have p0 : ¬ (i < m) := by omega
                have p1 : ¬ ((i : Int) < (m : Int)) := by omega
                have p2 : ¬ ((m : Int) < (mid : Int) + (m : Int) - (i : Int)) := by omega
                have p3 : a < i := by omega
                have p4 : ¬ (i < mid) := by omega
                have p5 : ¬ ((mid : Int) < (mid : Int) + (m : Int) - (i : Int)) := by omega
                have p6 : (mid : Int) + (m : Int) - (i : Int) < (b : Int) := by omega
                go_wp2_with (fail)
                all_goals (go_end0)
                all_goals (refine ⟨rfl, d, ?_, S1.out⟩)
                all_goals (exact permIn_refl d 0 d.size)
              · have p0 : ¬ (i < m) := by omega
                have p1 : ¬ ((i : Int) < (m : Int)) := by omega
                have p2 : ¬ ((m : Int) < (mid : Int) + (m : Int) - (i : Int)) := by omega
                have p3 : a < i := by omega
                have p4 : ¬ (i < mid) := by omega
                have p5 : ¬ ((mid : Int) < (mid : Int) + (m : Int) - (i : Int)) := by omega
                have p6 : ¬ ((mid : Int) + (m : Int) - (i : Int) < (b : Int)) := by omega
                go_wp2_with (fail)
                all_goals (go_end0)
                all_goals (refine ⟨rfl, d, ?_, S1.out⟩)
                all_goals (exact permIn_refl d 0 d.size)
            · by_cases c3 : mid + m < b + i
              · have p0 : ¬ (i < m) := by omega
                have p1 : ¬ ((i : Int) < (m : Int)) := by omega
                have p2 : ¬ ((m : Int) < (mid : Int) + (m : Int) - (i : Int)) := by omega
                have p3 : ¬ (a < i) := by omega
                have p4 : ¬ (i < mid) := by omega
                have p5 : ¬ ((mid : Int) < (mid : Int) + (m : Int) - (i : Int)) := by omega
                have p6 : (mid : Int) + (m : Int) - (i : Int) < (b : Int) := by omega
                go_wp2_with (fail)
                all_goals (go_end0)
                all_goals (refine ⟨rfl, d, ?_, S1.out⟩)
                all_goals (exact permIn_refl d 0 d.size)
              · have p0 : ¬ (i < m) := by omega
                have p1 : ¬ ((i : Int) < (m : Int)) := by omega
                have p2 : ¬ ((m : Int) < (mid : Int) + (m : Int) - (i : Int)) := by omega
                have p3 : ¬ (a < i) := by omega
                have p4 : ¬ (i < mid) := by omega
                have p5 : ¬ ((mid : Int) < (mid : Int) + (m : Int) - (i : Int)) := by omega
                have p6 : ¬ ((mid : Int) + (m : Int) - (i : Int) < (b : Int)) := by omega
                go_wp2_with (fail)
                all_goals (go_end0)
                all_goals (refine ⟨rfl, d, ?_, S1.out⟩)
                all_goals (exact permIn_refl d 0 d.size)
end Go.Proofs.Ytfblelkegebdiaa.V
