/- slices' stable sort of whole numbers: symMergeCmpFunc permutes: its third case. -/
import Derived.Test.YtfblelkegebdiaaZ5
namespace Go.Proofs.Ytfblelkegebdiaa.V
open Go.Proofs Go.Shelf Go.RowKit Go.Lib Go.Sort
set_option linter.unusedVariables false
set_option linter.unusedSimpArgs false
variable {α : Type} [Inhabited α]

theorem perm3 {d d1 d2 d3 : Array α} (h1 : PermIn 0 d.size d d1) (h2 : PermIn 0 d1.size d1 d2) (h3 : PermIn 0 d2.size d2 d3) : PermIn 0 d.size d d3 := by
  have z1 := h1.1
  have z2 := h2.1
  rw [z2, z1] at h3
  rw [z1] at h2
  exact permIn_trans _ _ _ _ _ (permIn_trans _ _ _ _ _ h1 h2) h3
def SymOK (lt : α → α → Bool) (key : α → Nat) (enc : α → Value) (g : Nat) (cb : Array Value) (blk off cap : Nat) (d0 : Array α) (w0 : World) (a m b : Nat) : Prop :=
  ∀ (d : Array α) (w : World), d0.size = d.size → SW enc w0 blk off d w → Calls Try.prog 85 #[.slice (some ⟨blk, off, none⟩) d.size cap, .int .i64 a, .int .i64 m, .int .i64 b, .func (.func g) #[] cb] w fun e w' => e = .returned (.tuple #[]) ∧ SQ enc w0 blk off d (SymQ lt key a m b d) w'

set_option maxHeartbeats 2000000 in
set_option maxRecDepth 1000000 in
theorem symMergeC_s (enc : α → Value) (cf : α → α → Int) (lt : α → α → Bool) (key : α → Nat) (hst0 : StOrd cf lt key) (g : Nat) (cb : Array Value) (blk off cap a m b : Nat) (d0 d : Array α) (w0 w : World)
    (eg : ∀ args w, (callFunc g args).run Try.prog w = .ok (.enter g args) w) (hcmp : CmpLays1 Try.prog g cb enc cf blk off d0.size w0)
    (R : Row1 enc w0 blk off d0) (hs : d0.size = d.size) (S : SW enc w0 blk off d w) (ham : a + 1 < m) (hmb : m + 1 < b) (hb : b ≤ d.size) (hsz : d.size < 4611686018427387904)
    (ih : ∀ a' m' b', b' - a' < b - a → a' < m' → m' < b' → b' ≤ d0.size → SymOK lt key enc g cb blk off cap d0 w0 a' m' b') :
    Calls Try.prog 85 #[.slice (some ⟨blk, off, none⟩) d.size cap, .int .i64 a, .int .i64 m, .int .i64 b, .func (.func g) #[] cb] w fun e w' => e = .returned (.tuple #[]) ∧ SQ enc w0 blk off d (SymQ lt key a m b d) w' := by
  have mixed : Try.prog.follows Departure.mixedOrders = true := by kernel_rfl
  have hcl0 := R.hO.cells
  simp only [Value.cells] at hcl0
  have hst := R.hO.store Try.prog
  have HC : Aside (CmpLays1 Try.prog g cb enc cf blk off d0.size w0) := hcmp
  have IH : Aside (∀ a' m' b', b' - a' < b - a → a' < m' → m' < b' → b' ≤ d0.size → SymOK lt key enc g cb blk off cap d0 w0 a' m' b') := ih
  have S0 : Aside (SW enc w0 blk off d w) := S
  clear S hcmp ih
  have HST : Aside (StOrd cf lt key) := hst0
  clear hst0
  have eb : (((m : Int) - (a : Int)) == 1) = false := beq_eq_false_iff_ne.2 (by omega)
  have eb2 : (((b : Int) - (m : Int)) == 1) = false := beq_eq_false_iff_ne.2 (by omega)
  obtain ⟨mid, hmid⟩ : ∃ q, q = (a + b) / 2 := ⟨_, rfl⟩
  have hm1 : ((a : Int) + (b : Int)) / 2 = (mid : Int) := by omega
  have r1 : 2 * mid ≤ a + b := by omega
  have r2 : a + b ≤ 2 * mid + 1 := by omega
  clear hmid
  by_cases hgt : mid < m
  · have hgz : (mid : Int) < (m : Int) := by omega
    go_enter Try.func85, Try.ntmps85
    go_wp2_with (fail)
    go_loopg [20, 21] (mid - (mid + m - b)) (fun kx s20 s21 wr => ∃ (i j : Nat), s20 = .int .i64 i ∧ s21 = .int .i64 j ∧ (mid + m - b) ≤ i ∧ i ≤ j ∧ j ≤ mid ∧ j - i ≤ kx ∧ Aside (SW enc w0 blk off d wr) ∧ Aside (BS cf d (mid + m - b) mid (mid + m) i j))
    case atStart => exact ⟨(mid + m - b), mid, by first | rfl | exact (Value.int.injEq .. |>.mpr ⟨rfl, by omega⟩), by first | rfl | exact (Value.int.injEq .. |>.mpr ⟨rfl, by omega⟩), Nat.le_refl _, by omega, Nat.le_refl _, Nat.le_refl _, S0, BS.start cf d (mid + m - b) mid (mid + m)⟩
    case round =>
      clear S0
      obtain ⟨i, j, rfl, rfl, h1, h2, h3, h4, S1, B1⟩ := hrel
      by_cases hlt : i < j
      · have hltz : (i : Int) < (j : Int) := by omega
        obtain ⟨iN, hiN⟩ : ∃ q, q = mid + m - 1 - (i + j) / 2 := ⟨_, rfl⟩
        obtain ⟨jN, hjN⟩ : ∃ q, q = (i + j) / 2 := ⟨_, rfl⟩
        have ea : ((mid : Int) + (m : Int) - 1 - ((i : Int) + (j : Int)) / 2).toNat = iN := by omega
        have pa : (0 : Int) ≤ (mid : Int) + (m : Int) - 1 - ((i : Int) + (j : Int)) / 2 := by omega
        have pa2 : ((i : Int) + (j : Int)) / 2 ≤ (mid : Int) + (m : Int) - 1 := by omega
        have ba : (mid : Int) + (m : Int) - 1 - ((i : Int) + (j : Int)) / 2 < (d.size : Int) := by omega
        have ra : IntKind.i64.wrap ((mid : Int) + (m : Int) - 1 - ((i : Int) + (j : Int)) / 2) = (mid : Int) + (m : Int) - 1 - ((i : Int) + (j : Int)) / 2 := by rw [IntKind.wrap_i64]; omega
        have ec : (((i : Int) + (j : Int)) / 2).toNat = jN := by omega
        have pc : (0 : Int) ≤ ((i : Int) + (j : Int)) / 2 := by omega
        have bc : ((i : Int) + (j : Int)) / 2 < (d.size : Int) := by omega
        obtain ⟨x, hx⟩ : ∃ x, x = d[mid + m - 1 - (i + j) / 2]! := ⟨_, rfl⟩
        obtain ⟨y, hy⟩ : ∃ x, x = d[(i + j) / 2]! := ⟨_, rfl⟩
        have l1 := S1.out.cl R (by omega) (mid + m - 1 - (i + j) / 2) (by omega)
        have l2 := S1.out.cl R (by omega) ((i + j) / 2) (by omega)
        rw [← hx, ← hiN] at l1
        rw [← hy, ← hjN] at l2
        have hc := S1.out.cmp HC.out (by omega) x y
        cases hlv : decide (cf x y < 0) with
        | true =>
          have hd : decide (cf x y < 0) = true := hlv
          have hv : cf x y < 0 := of_decide_eq_true hlv
          have B2 : Aside (BS cf d (mid + m - b) mid (mid + m) i ((i + j) / 2)) := B1.out.high (by rw [← hx, ← hy]; exact hv)
          clear hx hy hiN hjN hlv B1
          go_wp2_with fail
          go_quiet_grown (first | (go_at_fn g; refine Calls.grown_of (hc _ _)))
          have S2 : Aside (SW enc w0 blk off d (grow (wr.drewN nq) osq)) := S1.out.grown nq osq
          clear l1 l2 hc S1
          generalize grow (wr.drewN nq) osq = w2 at S2 ⊢
          clear nq osq
          clear ea ec ra
          go_wp2_with (fail)
          go_roundg ((i + j) / 2 - i)
          case measure => omega
          case rel => exact ⟨i, (i + j) / 2, rfl, Value.int.injEq .. |>.mpr ⟨rfl, by omega⟩, h1, by omega, by omega, Nat.le_refl _, S2, B2⟩
        | false =>
          have hd : decide (cf x y < 0) = false := hlv
          have hv : ¬ cf x y < 0 := of_decide_eq_false hlv
          have B2 : Aside (BS cf d (mid + m - b) mid (mid + m) ((i + j) / 2 + 1) j) := B1.out.low (by rw [← hx, ← hy]; exact hv)
          clear hx hy hiN hjN hlv B1
          go_wp2_with fail
          go_quiet_grown (first | (go_at_fn g; refine Calls.grown_of (hc _ _)))
          have S2 : Aside (SW enc w0 blk off d (grow (wr.drewN nq) osq)) := S1.out.grown nq osq
          clear l1 l2 hc S1
          generalize grow (wr.drewN nq) osq = w2 at S2 ⊢
          clear nq osq
          clear ea ec ra
          go_wp2_with (fail)
          go_roundg (j - ((i + j) / 2 + 1))
          case measure => omega
          case rel => exact ⟨(i + j) / 2 + 1, j, Value.int.injEq .. |>.mpr ⟨rfl, by omega⟩, rfl, by omega, by omega, h3, Nat.le_refl _, S2, B2⟩
      · have hltz : ¬ (i : Int) < (j : Int) := by omega
        have hij : j = i := by omega
        have hrot : i < m → m < mid + m - i → ∀ (d1 : Array α) (W : World), d1.size = d.size → SW enc w0 blk off d1 W → Calls Try.prog 94 #[.slice (some ⟨blk, off, none⟩) d.size cap, .int .i64 i, .int .i64 m, .int .i64 ((mid : Int) + (m : Int) - (i : Int)), .func (.func g) #[] cb] W fun e w' => e = .returned (.tuple #[]) ∧ SQ enc w0 blk off d1 (Mv (rotIdx i m (mid + m - i)) d1) w' := by
          intro z1 z2 d1 W z hW
          have := rotate_s enc g cb blk off cap i m (mid + m - i) d0 d1 w0 W R (by omega) hW (by omega) (by omega) (by omega) (by omega)
          rw [show ((mid + m - i : Nat) : Int) = (mid : Int) + (m : Int) - (i : Int) by omega, z] at this
          exact this
        have HROT : Aside (_) := hrot
        have hl : a < i → i < mid → ∀ (d1 : Array α) (W : World), d1.size = d.size → SW enc w0 blk off d1 W → Calls Try.prog 85 #[.slice (some ⟨blk, off, none⟩) d.size cap, .int .i64 a, .int .i64 i, .int .i64 mid, .func (.func g) #[] cb] W fun e w' => e = .returned (.tuple #[]) ∧ SQ enc w0 blk off d1 (SymQ lt key a i mid d1) w' := by
          intro z1 z2 d1 W z hW
          have := IH.out a i mid (by omega) (by omega) (by omega) (by omega) d1 W (by omega) hW
          rw [z] at this
          exact this
        have HL : Aside (_) := hl
        have hr : mid < mid + m - i → mid + m - i < b → ∀ (d1 : Array α) (W : World), d1.size = d.size → SW enc w0 blk off d1 W → Calls Try.prog 85 #[.slice (some ⟨blk, off, none⟩) d.size cap, .int .i64 mid, .int .i64 ((mid : Int) + (m : Int) - (i : Int)), .int .i64 b, .func (.func g) #[] cb] W fun e w' => e = .returned (.tuple #[]) ∧ SQ enc w0 blk off d1 (SymQ lt key mid (mid + m - i) b d1) w' := by
          intro z1 z2 d1 W z hW
          have := IH.out mid (mid + m - i) b (by omega) (by omega) (by omega) (by omega) d1 W (by omega) hW
          rw [show ((mid + m - i : Nat) : Int) = (mid : Int) + (m : Int) - (i : Int) by omega, z] at this
          exact this
        have HRR : Aside (_) := hr
        clear hrot hl hr
        by_cases c1 : i < mid
        · by_cases c2 : a < i
          · by_cases c3 : mid + m < b + i
            · skip
              have p0 : i < m := by omega
              have p1 : (i : Int) < (m : Int) := by omega
              have p2 : (m : Int) < (mid : Int) + (m : Int) - (i : Int) := by omega
              have p3 : a < i := by omega
              have p4 : i < mid := by omega
              have p5 : (mid : Int) < (mid : Int) + (m : Int) - (i : Int) := by omega
              have p6 : (mid : Int) + (m : Int) - (i : Int) < (b : Int) := by omega
              go_wp2_with (fail)
              all_goals (with_reducible refine (HROT.out (by omega) (by omega) d _ rfl S1.out).mono ?_)
              all_goals (rintro e w' ⟨rfl, e1, hp, hm, hq⟩)
              all_goals (have P1 : Aside (PermIn 0 d.size d e1) := hp)
              all_goals (have Z1 : Aside (e1.size = d.size) := hp.1)
              all_goals (have M1 : Aside (Mv (rotIdx i m (mid + m - i)) d e1) := hm)
              all_goals (have T1 : Aside (SW enc w0 blk off e1 w') := hq)
              all_goals (clear hp hm hq)
              all_goals (go_wp2_with (fail))
              all_goals (with_reducible refine (HL.out (by omega) (by omega) e1 _ Z1.out T1.out).mono ?_)
              all_goals (rintro e w' ⟨rfl, e2, hp, hm, hq⟩)
              all_goals (have P2 : Aside (PermIn 0 e1.size e1 e2) := hp)
              all_goals (have Z2 : Aside (e2.size = d.size) := (hp.1).trans Z1.out)
              all_goals (have M2 : Aside (SymQ lt key a i mid e1 e2) := hm)
              all_goals (have T2 : Aside (SW enc w0 blk off e2 w') := hq)
              all_goals (clear hp hm hq)
              all_goals (go_wp2_with (fail))
              all_goals (with_reducible refine (HRR.out (by omega) (by omega) e2 _ Z2.out T2.out).mono ?_)
              all_goals (rintro e w' ⟨rfl, e3, hp, hm, hq⟩)
              all_goals (have P3 : Aside (PermIn 0 e2.size e2 e3) := hp)
              all_goals (have Z3 : Aside (e3.size = d.size) := (hp.1).trans Z2.out)
              all_goals (have M3 : Aside (SymQ lt key mid (mid + m - i) b e2 e3) := hm)
              all_goals (have T3 : Aside (SW enc w0 blk off e3 w') := hq)
              all_goals (clear hp hm hq)
              all_goals (go_wp2_with (fail))
              all_goals (go_end0)
              all_goals (exact ⟨rfl, e3, perm3 (P1.out) (P2.out) (P3.out), sym_join (a := a) (m := m) (b := b) (mid := mid) (s := i) (e := mid + m - i) HST.out hb (by omega) (by omega) (by omega) (by omega) (by omega) (B1.out.1.elim (fun h => .inr (.inl (by omega))) (fun h => .inr (.inr h))) (B1.out.2.elim (fun h => .inr (.inl (by omega))) (fun h => .inr (.inr (hij ▸ h)))) (M1.out) (M2.out) (M3.out), T3.out⟩)
            · skip
              have p0 : i < m := by omega
              have p1 : (i : Int) < (m : Int) := by omega
              have p2 : (m : Int) < (mid : Int) + (m : Int) - (i : Int) := by omega
              have p3 : a < i := by omega
              have p4 : i < mid := by omega
              have p5 : (mid : Int) < (mid : Int) + (m : Int) - (i : Int) := by omega
              have p6 : ¬ ((mid : Int) + (m : Int) - (i : Int) < (b : Int)) := by omega
              go_wp2_with (fail)
              all_goals (with_reducible refine (HROT.out (by omega) (by omega) d _ rfl S1.out).mono ?_)
              all_goals (rintro e w' ⟨rfl, e1, hp, hm, hq⟩)
              all_goals (have P1 : Aside (PermIn 0 d.size d e1) := hp)
              all_goals (have Z1 : Aside (e1.size = d.size) := hp.1)
              all_goals (have M1 : Aside (Mv (rotIdx i m (mid + m - i)) d e1) := hm)
              all_goals (have T1 : Aside (SW enc w0 blk off e1 w') := hq)
              all_goals (clear hp hm hq)
              all_goals (go_wp2_with (fail))
              all_goals (with_reducible refine (HL.out (by omega) (by omega) e1 _ Z1.out T1.out).mono ?_)
              all_goals (rintro e w' ⟨rfl, e2, hp, hm, hq⟩)
              all_goals (have P2 : Aside (PermIn 0 e1.size e1 e2) := hp)
              all_goals (have Z2 : Aside (e2.size = d.size) := (hp.1).trans Z1.out)
              all_goals (have M2 : Aside (SymQ lt key a i mid e1 e2) := hm)
              all_goals (have T2 : Aside (SW enc w0 blk off e2 w') := hq)
              all_goals (clear hp hm hq)
              all_goals (go_wp2_with (fail))
              all_goals (go_end0)
              all_goals (exact ⟨rfl, e2, perm3 (P1.out) (P2.out) (permIn_refl _ _ _), sym_join (a := a) (m := m) (b := b) (mid := mid) (s := i) (e := mid + m - i) HST.out hb (by omega) (by omega) (by omega) (by omega) (by omega) (B1.out.1.elim (fun h => .inr (.inl (by omega))) (fun h => .inr (.inr h))) (B1.out.2.elim (fun h => .inr (.inl (by omega))) (fun h => .inr (.inr (hij ▸ h)))) (M1.out) (M2.out) (symQ_triv _ (by omega)), T2.out⟩)
          · by_cases c3 : mid + m < b + i
            · skip
              have p0 : i < m := by omega
              have p1 : (i : Int) < (m : Int) := by omega
              have p2 : (m : Int) < (mid : Int) + (m : Int) - (i : Int) := by omega
              have p3 : ¬ (a < i) := by omega
              have p4 : i < mid := by omega
              have p5 : (mid : Int) < (mid : Int) + (m : Int) - (i : Int) := by omega
              have p6 : (mid : Int) + (m : Int) - (i : Int) < (b : Int) := by omega
              go_wp2_with (fail)
              all_goals (with_reducible refine (HROT.out (by omega) (by omega) d _ rfl S1.out).mono ?_)
              all_goals (rintro e w' ⟨rfl, e1, hp, hm, hq⟩)
              all_goals (have P1 : Aside (PermIn 0 d.size d e1) := hp)
              all_goals (have Z1 : Aside (e1.size = d.size) := hp.1)
              all_goals (have M1 : Aside (Mv (rotIdx i m (mid + m - i)) d e1) := hm)
              all_goals (have T1 : Aside (SW enc w0 blk off e1 w') := hq)
              all_goals (clear hp hm hq)
              all_goals (go_wp2_with (fail))
              all_goals (with_reducible refine (HRR.out (by omega) (by omega) e1 _ Z1.out T1.out).mono ?_)
              all_goals (rintro e w' ⟨rfl, e3, hp, hm, hq⟩)
              all_goals (have P3 : Aside (PermIn 0 e1.size e1 e3) := hp)
              all_goals (have Z3 : Aside (e3.size = d.size) := (hp.1).trans Z1.out)
              all_goals (have M3 : Aside (SymQ lt key mid (mid + m - i) b e1 e3) := hm)
              all_goals (have T3 : Aside (SW enc w0 blk off e3 w') := hq)
              all_goals (clear hp hm hq)
              all_goals (go_wp2_with (fail))
              all_goals (go_end0)
              all_goals (exact ⟨rfl, e3, perm3 (P1.out) (permIn_refl _ _ _) (P3.out), sym_join (a := a) (m := m) (b := b) (mid := mid) (s := i) (e := mid + m - i) HST.out hb (by omega) (by omega) (by omega) (by omega) (by omega) (B1.out.1.elim (fun h => .inr (.inl (by omega))) (fun h => .inr (.inr h))) (B1.out.2.elim (fun h => .inr (.inl (by omega))) (fun h => .inr (.inr (hij ▸ h)))) (M1.out) (symQ_triv _ (by omega)) (M3.out), T3.out⟩)
            · skip
              have p0 : i < m := by omega
              have p1 : (i : Int) < (m : Int) := by omega
              have p2 : (m : Int) < (mid : Int) + (m : Int) - (i : Int) := by omega
              have p3 : ¬ (a < i) := by omega
              have p4 : i < mid := by omega
              have p5 : (mid : Int) < (mid : Int) + (m : Int) - (i : Int) := by omega
              have p6 : ¬ ((mid : Int) + (m : Int) - (i : Int) < (b : Int)) := by omega
              go_wp2_with (fail)
              all_goals (with_reducible refine (HROT.out (by omega) (by omega) d _ rfl S1.out).mono ?_)
              all_goals (rintro e w' ⟨rfl, e1, hp, hm, hq⟩)
              all_goals (have P1 : Aside (PermIn 0 d.size d e1) := hp)
              all_goals (have Z1 : Aside (e1.size = d.size) := hp.1)
              all_goals (have M1 : Aside (Mv (rotIdx i m (mid + m - i)) d e1) := hm)
              all_goals (have T1 : Aside (SW enc w0 blk off e1 w') := hq)
              all_goals (clear hp hm hq)
              all_goals (go_wp2_with (fail))
              all_goals (go_end0)
              all_goals (exact ⟨rfl, e1, perm3 (P1.out) (permIn_refl _ _ _) (permIn_refl _ _ _), sym_join (a := a) (m := m) (b := b) (mid := mid) (s := i) (e := mid + m - i) HST.out hb (by omega) (by omega) (by omega) (by omega) (by omega) (B1.out.1.elim (fun h => .inr (.inl (by omega))) (fun h => .inr (.inr h))) (B1.out.2.elim (fun h => .inr (.inl (by omega))) (fun h => .inr (.inr (hij ▸ h)))) (M1.out) (symQ_triv _ (by omega)) (symQ_triv _ (by omega)), T1.out⟩)
        · by_cases c2 : a < i
          · by_cases c3 : mid + m < b + i
            · skip
              have p0 : i < m := by omega
              have p1 : (i : Int) < (m : Int) := by omega
              have p2 : ¬ ((m : Int) < (mid : Int) + (m : Int) - (i : Int)) := by omega
              have p3 : a < i := by omega
              have p4 : ¬ (i < mid) := by omega
              have p5 : (mid : Int) < (mid : Int) + (m : Int) - (i : Int) := by omega
              have p6 : (mid : Int) + (m : Int) - (i : Int) < (b : Int) := by omega
              go_wp2_with (fail)
              all_goals (with_reducible refine (HRR.out (by omega) (by omega) d _ rfl S1.out).mono ?_)
              all_goals (rintro e w' ⟨rfl, e3, hp, hm, hq⟩)
              all_goals (have P3 : Aside (PermIn 0 d.size d e3) := hp)
              all_goals (have Z3 : Aside (e3.size = d.size) := hp.1)
              all_goals (have M3 : Aside (SymQ lt key mid (mid + m - i) b d e3) := hm)
              all_goals (have T3 : Aside (SW enc w0 blk off e3 w') := hq)
              all_goals (clear hp hm hq)
              all_goals (go_wp2_with (fail))
              all_goals (go_end0)
              all_goals (exact ⟨rfl, e3, perm3 (permIn_refl _ _ _) (permIn_refl _ _ _) (P3.out), sym_join (a := a) (m := m) (b := b) (mid := mid) (s := i) (e := mid + m - i) HST.out hb (by omega) (by omega) (by omega) (by omega) (by omega) (B1.out.1.elim (fun h => .inr (.inl (by omega))) (fun h => .inr (.inr h))) (B1.out.2.elim (fun h => .inr (.inl (by omega))) (fun h => .inr (.inr (hij ▸ h)))) (rot_id _ (by omega) (by omega) (by omega)) (symQ_triv _ (by omega)) (M3.out), T3.out⟩)
            · skip
              have p0 : i < m := by omega
              have p1 : (i : Int) < (m : Int) := by omega
              have p2 : ¬ ((m : Int) < (mid : Int) + (m : Int) - (i : Int)) := by omega
              have p3 : a < i := by omega
              have p4 : ¬ (i < mid) := by omega
              have p5 : (mid : Int) < (mid : Int) + (m : Int) - (i : Int) := by omega
              have p6 : ¬ ((mid : Int) + (m : Int) - (i : Int) < (b : Int)) := by omega
              go_wp2_with (fail)
              all_goals (go_end0)
              all_goals (exact ⟨rfl, d, perm3 (permIn_refl _ _ _) (permIn_refl _ _ _) (permIn_refl _ _ _), sym_join (a := a) (m := m) (b := b) (mid := mid) (s := i) (e := mid + m - i) HST.out hb (by omega) (by omega) (by omega) (by omega) (by omega) (B1.out.1.elim (fun h => .inr (.inl (by omega))) (fun h => .inr (.inr h))) (B1.out.2.elim (fun h => .inr (.inl (by omega))) (fun h => .inr (.inr (hij ▸ h)))) (rot_id _ (by omega) (by omega) (by omega)) (symQ_triv _ (by omega)) (symQ_triv _ (by omega)), S1.out⟩)
          · by_cases c3 : mid + m < b + i
            · skip
              have p0 : i < m := by omega
              have p1 : (i : Int) < (m : Int) := by omega
              have p2 : ¬ ((m : Int) < (mid : Int) + (m : Int) - (i : Int)) := by omega
              have p3 : ¬ (a < i) := by omega
              have p4 : ¬ (i < mid) := by omega
              have p5 : (mid : Int) < (mid : Int) + (m : Int) - (i : Int) := by omega
              have p6 : (mid : Int) + (m : Int) - (i : Int) < (b : Int) := by omega
              go_wp2_with (fail)
              all_goals (with_reducible refine (HRR.out (by omega) (by omega) d _ rfl S1.out).mono ?_)
              all_goals (rintro e w' ⟨rfl, e3, hp, hm, hq⟩)
              all_goals (have P3 : Aside (PermIn 0 d.size d e3) := hp)
              all_goals (have Z3 : Aside (e3.size = d.size) := hp.1)
              all_goals (have M3 : Aside (SymQ lt key mid (mid + m - i) b d e3) := hm)
              all_goals (have T3 : Aside (SW enc w0 blk off e3 w') := hq)
              all_goals (clear hp hm hq)
              all_goals (go_wp2_with (fail))
              all_goals (go_end0)
              all_goals (exact ⟨rfl, e3, perm3 (permIn_refl _ _ _) (permIn_refl _ _ _) (P3.out), sym_join (a := a) (m := m) (b := b) (mid := mid) (s := i) (e := mid + m - i) HST.out hb (by omega) (by omega) (by omega) (by omega) (by omega) (B1.out.1.elim (fun h => .inr (.inl (by omega))) (fun h => .inr (.inr h))) (B1.out.2.elim (fun h => .inr (.inl (by omega))) (fun h => .inr (.inr (hij ▸ h)))) (rot_id _ (by omega) (by omega) (by omega)) (symQ_triv _ (by omega)) (M3.out), T3.out⟩)
            · skip
              have p0 : i < m := by omega
              have p1 : (i : Int) < (m : Int) := by omega
              have p2 : ¬ ((m : Int) < (mid : Int) + (m : Int) - (i : Int)) := by omega
              have p3 : ¬ (a < i) := by omega
              have p4 : ¬ (i < mid) := by omega
              have p5 : (mid : Int) < (mid : Int) + (m : Int) - (i : Int) := by omega
              have p6 : ¬ ((mid : Int) + (m : Int) - (i : Int) < (b : Int)) := by omega
              go_wp2_with (fail)
              all_goals (go_end0)
              all_goals (exact ⟨rfl, d, perm3 (permIn_refl _ _ _) (permIn_refl _ _ _) (permIn_refl _ _ _), sym_join (a := a) (m := m) (b := b) (mid := mid) (s := i) (e := mid + m - i) HST.out hb (by omega) (by omega) (by omega) (by omega) (by omega) (B1.out.1.elim (fun h => .inr (.inl (by omega))) (fun h => .inr (.inr h))) (B1.out.2.elim (fun h => .inr (.inl (by omega))) (fun h => .inr (.inr (hij ▸ h)))) (rot_id _ (by omega) (by omega) (by omega)) (symQ_triv _ (by omega)) (symQ_triv _ (by omega)), S1.out⟩)
  · have hgz : ¬ (mid : Int) < (m : Int) := by omega
    go_enter Try.func85, Try.ntmps85
    go_wp2_with (fail)
    go_loopg [20, 21] (m - a) (fun kx s20 s21 wr => ∃ (i j : Nat), s20 = .int .i64 i ∧ s21 = .int .i64 j ∧ a ≤ i ∧ i ≤ j ∧ j ≤ m ∧ j - i ≤ kx ∧ Aside (SW enc w0 blk off d wr) ∧ Aside (BS cf d (a) m (mid + m) i j))
    case atStart => exact ⟨a, m, by first | rfl | exact (Value.int.injEq .. |>.mpr ⟨rfl, by omega⟩), by first | rfl | exact (Value.int.injEq .. |>.mpr ⟨rfl, by omega⟩), Nat.le_refl _, by omega, Nat.le_refl _, Nat.le_refl _, S0, BS.start cf d (a) m (mid + m)⟩
    case round =>
      clear S0
      obtain ⟨i, j, rfl, rfl, h1, h2, h3, h4, S1, B1⟩ := hrel
      by_cases hlt : i < j
      · have hltz : (i : Int) < (j : Int) := by omega
        obtain ⟨iN, hiN⟩ : ∃ q, q = mid + m - 1 - (i + j) / 2 := ⟨_, rfl⟩
        obtain ⟨jN, hjN⟩ : ∃ q, q = (i + j) / 2 := ⟨_, rfl⟩
        have ea : ((mid : Int) + (m : Int) - 1 - ((i : Int) + (j : Int)) / 2).toNat = iN := by omega
        have pa : (0 : Int) ≤ (mid : Int) + (m : Int) - 1 - ((i : Int) + (j : Int)) / 2 := by omega
        have pa2 : ((i : Int) + (j : Int)) / 2 ≤ (mid : Int) + (m : Int) - 1 := by omega
        have ba : (mid : Int) + (m : Int) - 1 - ((i : Int) + (j : Int)) / 2 < (d.size : Int) := by omega
        have ra : IntKind.i64.wrap ((mid : Int) + (m : Int) - 1 - ((i : Int) + (j : Int)) / 2) = (mid : Int) + (m : Int) - 1 - ((i : Int) + (j : Int)) / 2 := by rw [IntKind.wrap_i64]; omega
        have ec : (((i : Int) + (j : Int)) / 2).toNat = jN := by omega
        have pc : (0 : Int) ≤ ((i : Int) + (j : Int)) / 2 := by omega
        have bc : ((i : Int) + (j : Int)) / 2 < (d.size : Int) := by omega
        obtain ⟨x, hx⟩ : ∃ x, x = d[mid + m - 1 - (i + j) / 2]! := ⟨_, rfl⟩
        obtain ⟨y, hy⟩ : ∃ x, x = d[(i + j) / 2]! := ⟨_, rfl⟩
        have l1 := S1.out.cl R (by omega) (mid + m - 1 - (i + j) / 2) (by omega)
        have l2 := S1.out.cl R (by omega) ((i + j) / 2) (by omega)
        rw [← hx, ← hiN] at l1
        rw [← hy, ← hjN] at l2
        have hc := S1.out.cmp HC.out (by omega) x y
        cases hlv : decide (cf x y < 0) with
        | true =>
          have hd : decide (cf x y < 0) = true := hlv
          have hv : cf x y < 0 := of_decide_eq_true hlv
          have B2 : Aside (BS cf d (a) m (mid + m) i ((i + j) / 2)) := B1.out.high (by rw [← hx, ← hy]; exact hv)
          clear hx hy hiN hjN hlv B1
          go_wp2_with fail
          go_quiet_grown (first | (go_at_fn g; refine Calls.grown_of (hc _ _)))
          have S2 : Aside (SW enc w0 blk off d (grow (wr.drewN nq) osq)) := S1.out.grown nq osq
          clear l1 l2 hc S1
          generalize grow (wr.drewN nq) osq = w2 at S2 ⊢
          clear nq osq
          clear ea ec ra
          go_wp2_with (fail)
          go_roundg ((i + j) / 2 - i)
          case measure => omega
          case rel => exact ⟨i, (i + j) / 2, rfl, Value.int.injEq .. |>.mpr ⟨rfl, by omega⟩, h1, by omega, by omega, Nat.le_refl _, S2, B2⟩
        | false =>
          have hd : decide (cf x y < 0) = false := hlv
          have hv : ¬ cf x y < 0 := of_decide_eq_false hlv
          have B2 : Aside (BS cf d (a) m (mid + m) ((i + j) / 2 + 1) j) := B1.out.low (by rw [← hx, ← hy]; exact hv)
          clear hx hy hiN hjN hlv B1
          go_wp2_with fail
          go_quiet_grown (first | (go_at_fn g; refine Calls.grown_of (hc _ _)))
          have S2 : Aside (SW enc w0 blk off d (grow (wr.drewN nq) osq)) := S1.out.grown nq osq
          clear l1 l2 hc S1
          generalize grow (wr.drewN nq) osq = w2 at S2 ⊢
          clear nq osq
          clear ea ec ra
          go_wp2_with (fail)
          go_roundg (j - ((i + j) / 2 + 1))
          case measure => omega
          case rel => exact ⟨(i + j) / 2 + 1, j, Value.int.injEq .. |>.mpr ⟨rfl, by omega⟩, rfl, by omega, by omega, h3, Nat.le_refl _, S2, B2⟩
      · have hltz : ¬ (i : Int) < (j : Int) := by omega
        have hij : j = i := by omega
        have hrot : i < m → m < mid + m - i → ∀ (d1 : Array α) (W : World), d1.size = d.size → SW enc w0 blk off d1 W → Calls Try.prog 94 #[.slice (some ⟨blk, off, none⟩) d.size cap, .int .i64 i, .int .i64 m, .int .i64 ((mid : Int) + (m : Int) - (i : Int)), .func (.func g) #[] cb] W fun e w' => e = .returned (.tuple #[]) ∧ SQ enc w0 blk off d1 (Mv (rotIdx i m (mid + m - i)) d1) w' := by
          intro z1 z2 d1 W z hW
          have := rotate_s enc g cb blk off cap i m (mid + m - i) d0 d1 w0 W R (by omega) hW (by omega) (by omega) (by omega) (by omega)
          rw [show ((mid + m - i : Nat) : Int) = (mid : Int) + (m : Int) - (i : Int) by omega, z] at this
          exact this
        have HROT : Aside (_) := hrot
        have hl : a < i → i < mid → ∀ (d1 : Array α) (W : World), d1.size = d.size → SW enc w0 blk off d1 W → Calls Try.prog 85 #[.slice (some ⟨blk, off, none⟩) d.size cap, .int .i64 a, .int .i64 i, .int .i64 mid, .func (.func g) #[] cb] W fun e w' => e = .returned (.tuple #[]) ∧ SQ enc w0 blk off d1 (SymQ lt key a i mid d1) w' := by
          intro z1 z2 d1 W z hW
          have := IH.out a i mid (by omega) (by omega) (by omega) (by omega) d1 W (by omega) hW
          rw [z] at this
          exact this
        have HL : Aside (_) := hl
        have hr : mid < mid + m - i → mid + m - i < b → ∀ (d1 : Array α) (W : World), d1.size = d.size → SW enc w0 blk off d1 W → Calls Try.prog 85 #[.slice (some ⟨blk, off, none⟩) d.size cap, .int .i64 mid, .int .i64 ((mid : Int) + (m : Int) - (i : Int)), .int .i64 b, .func (.func g) #[] cb] W fun e w' => e = .returned (.tuple #[]) ∧ SQ enc w0 blk off d1 (SymQ lt key mid (mid + m - i) b d1) w' := by
          intro z1 z2 d1 W z hW
          have := IH.out mid (mid + m - i) b (by omega) (by omega) (by omega) (by omega) d1 W (by omega) hW
          rw [show ((mid + m - i : Nat) : Int) = (mid : Int) + (m : Int) - (i : Int) by omega, z] at this
          exact this
        have HRR : Aside (_) := hr
        clear hrot hl hr
        by_cases c0 : i < m
        · by_cases c2 : a < i
          · by_cases c3 : mid + m < b + i
            · skip
              have p0 : i < m := by omega
              have p1 : (i : Int) < (m : Int) := by omega
              have p2 : (m : Int) < (mid : Int) + (m : Int) - (i : Int) := by omega
              have p3 : a < i := by omega
              have p4 : i < mid := by omega
              have p5 : (mid : Int) < (mid : Int) + (m : Int) - (i : Int) := by omega
              have p6 : (mid : Int) + (m : Int) - (i : Int) < (b : Int) := by omega
              go_wp2_with (fail)
              all_goals (with_reducible refine (HROT.out (by omega) (by omega) d _ rfl S1.out).mono ?_)
              all_goals (rintro e w' ⟨rfl, e1, hp, hm, hq⟩)
              all_goals (have P1 : Aside (PermIn 0 d.size d e1) := hp)
              all_goals (have Z1 : Aside (e1.size = d.size) := hp.1)
              all_goals (have M1 : Aside (Mv (rotIdx i m (mid + m - i)) d e1) := hm)
              all_goals (have T1 : Aside (SW enc w0 blk off e1 w') := hq)
              all_goals (clear hp hm hq)
              all_goals (go_wp2_with (fail))
              all_goals (with_reducible refine (HL.out (by omega) (by omega) e1 _ Z1.out T1.out).mono ?_)
              all_goals (rintro e w' ⟨rfl, e2, hp, hm, hq⟩)
              all_goals (have P2 : Aside (PermIn 0 e1.size e1 e2) := hp)
              all_goals (have Z2 : Aside (e2.size = d.size) := (hp.1).trans Z1.out)
              all_goals (have M2 : Aside (SymQ lt key a i mid e1 e2) := hm)
              all_goals (have T2 : Aside (SW enc w0 blk off e2 w') := hq)
              all_goals (clear hp hm hq)
              all_goals (go_wp2_with (fail))
              all_goals (with_reducible refine (HRR.out (by omega) (by omega) e2 _ Z2.out T2.out).mono ?_)
              all_goals (rintro e w' ⟨rfl, e3, hp, hm, hq⟩)
              all_goals (have P3 : Aside (PermIn 0 e2.size e2 e3) := hp)
              all_goals (have Z3 : Aside (e3.size = d.size) := (hp.1).trans Z2.out)
              all_goals (have M3 : Aside (SymQ lt key mid (mid + m - i) b e2 e3) := hm)
              all_goals (have T3 : Aside (SW enc w0 blk off e3 w') := hq)
              all_goals (clear hp hm hq)
              all_goals (go_wp2_with (fail))
              all_goals (go_end0)
              all_goals (exact ⟨rfl, e3, perm3 (P1.out) (P2.out) (P3.out), sym_join (a := a) (m := m) (b := b) (mid := mid) (s := i) (e := mid + m - i) HST.out hb (by omega) (by omega) (by omega) (by omega) (by omega) (B1.out.1.elim (fun h => .inl h) (fun h => .inr (.inr h))) (B1.out.2.elim (fun h => .inl (by omega)) (fun h => .inr (.inr (hij ▸ h)))) (M1.out) (M2.out) (M3.out), T3.out⟩)
            · skip
              have p0 : i < m := by omega
              have p1 : (i : Int) < (m : Int) := by omega
              have p2 : (m : Int) < (mid : Int) + (m : Int) - (i : Int) := by omega
              have p3 : a < i := by omega
              have p4 : i < mid := by omega
              have p5 : (mid : Int) < (mid : Int) + (m : Int) - (i : Int) := by omega
              have p6 : ¬ ((mid : Int) + (m : Int) - (i : Int) < (b : Int)) := by omega
              go_wp2_with (fail)
              all_goals (with_reducible refine (HROT.out (by omega) (by omega) d _ rfl S1.out).mono ?_)
              all_goals (rintro e w' ⟨rfl, e1, hp, hm, hq⟩)
              all_goals (have P1 : Aside (PermIn 0 d.size d e1) := hp)
              all_goals (have Z1 : Aside (e1.size = d.size) := hp.1)
              all_goals (have M1 : Aside (Mv (rotIdx i m (mid + m - i)) d e1) := hm)
              all_goals (have T1 : Aside (SW enc w0 blk off e1 w') := hq)
              all_goals (clear hp hm hq)
              all_goals (go_wp2_with (fail))
              all_goals (with_reducible refine (HL.out (by omega) (by omega) e1 _ Z1.out T1.out).mono ?_)
              all_goals (rintro e w' ⟨rfl, e2, hp, hm, hq⟩)
              all_goals (have P2 : Aside (PermIn 0 e1.size e1 e2) := hp)
              all_goals (have Z2 : Aside (e2.size = d.size) := (hp.1).trans Z1.out)
              all_goals (have M2 : Aside (SymQ lt key a i mid e1 e2) := hm)
              all_goals (have T2 : Aside (SW enc w0 blk off e2 w') := hq)
              all_goals (clear hp hm hq)
              all_goals (go_wp2_with (fail))
              all_goals (go_end0)
              all_goals (exact ⟨rfl, e2, perm3 (P1.out) (P2.out) (permIn_refl _ _ _), sym_join (a := a) (m := m) (b := b) (mid := mid) (s := i) (e := mid + m - i) HST.out hb (by omega) (by omega) (by omega) (by omega) (by omega) (B1.out.1.elim (fun h => .inl h) (fun h => .inr (.inr h))) (B1.out.2.elim (fun h => .inl (by omega)) (fun h => .inr (.inr (hij ▸ h)))) (M1.out) (M2.out) (symQ_triv _ (by omega)), T2.out⟩)
          · by_cases c3 : mid + m < b + i
            · skip
              have p0 : i < m := by omega
              have p1 : (i : Int) < (m : Int) := by omega
              have p2 : (m : Int) < (mid : Int) + (m : Int) - (i : Int) := by omega
              have p3 : ¬ (a < i) := by omega
              have p4 : i < mid := by omega
              have p5 : (mid : Int) < (mid : Int) + (m : Int) - (i : Int) := by omega
              have p6 : (mid : Int) + (m : Int) - (i : Int) < (b : Int) := by omega
              go_wp2_with (fail)
              all_goals (with_reducible refine (HROT.out (by omega) (by omega) d _ rfl S1.out).mono ?_)
              all_goals (rintro e w' ⟨rfl, e1, hp, hm, hq⟩)
              all_goals (have P1 : Aside (PermIn 0 d.size d e1) := hp)
              all_goals (have Z1 : Aside (e1.size = d.size) := hp.1)
              all_goals (have M1 : Aside (Mv (rotIdx i m (mid + m - i)) d e1) := hm)
              all_goals (have T1 : Aside (SW enc w0 blk off e1 w') := hq)
              all_goals (clear hp hm hq)
              all_goals (go_wp2_with (fail))
              all_goals (with_reducible refine (HRR.out (by omega) (by omega) e1 _ Z1.out T1.out).mono ?_)
              all_goals (rintro e w' ⟨rfl, e3, hp, hm, hq⟩)
              all_goals (have P3 : Aside (PermIn 0 e1.size e1 e3) := hp)
              all_goals (have Z3 : Aside (e3.size = d.size) := (hp.1).trans Z1.out)
              all_goals (have M3 : Aside (SymQ lt key mid (mid + m - i) b e1 e3) := hm)
              all_goals (have T3 : Aside (SW enc w0 blk off e3 w') := hq)
              all_goals (clear hp hm hq)
              all_goals (go_wp2_with (fail))
              all_goals (go_end0)
              all_goals (exact ⟨rfl, e3, perm3 (P1.out) (permIn_refl _ _ _) (P3.out), sym_join (a := a) (m := m) (b := b) (mid := mid) (s := i) (e := mid + m - i) HST.out hb (by omega) (by omega) (by omega) (by omega) (by omega) (B1.out.1.elim (fun h => .inl h) (fun h => .inr (.inr h))) (B1.out.2.elim (fun h => .inl (by omega)) (fun h => .inr (.inr (hij ▸ h)))) (M1.out) (symQ_triv _ (by omega)) (M3.out), T3.out⟩)
            · skip
              have p0 : i < m := by omega
              have p1 : (i : Int) < (m : Int) := by omega
              have p2 : (m : Int) < (mid : Int) + (m : Int) - (i : Int) := by omega
              have p3 : ¬ (a < i) := by omega
              have p4 : i < mid := by omega
              have p5 : (mid : Int) < (mid : Int) + (m : Int) - (i : Int) := by omega
              have p6 : ¬ ((mid : Int) + (m : Int) - (i : Int) < (b : Int)) := by omega
              go_wp2_with (fail)
              all_goals (with_reducible refine (HROT.out (by omega) (by omega) d _ rfl S1.out).mono ?_)
              all_goals (rintro e w' ⟨rfl, e1, hp, hm, hq⟩)
              all_goals (have P1 : Aside (PermIn 0 d.size d e1) := hp)
              all_goals (have Z1 : Aside (e1.size = d.size) := hp.1)
              all_goals (have M1 : Aside (Mv (rotIdx i m (mid + m - i)) d e1) := hm)
              all_goals (have T1 : Aside (SW enc w0 blk off e1 w') := hq)
              all_goals (clear hp hm hq)
              all_goals (go_wp2_with (fail))
              all_goals (go_end0)
              all_goals (exact ⟨rfl, e1, perm3 (P1.out) (permIn_refl _ _ _) (permIn_refl _ _ _), sym_join (a := a) (m := m) (b := b) (mid := mid) (s := i) (e := mid + m - i) HST.out hb (by omega) (by omega) (by omega) (by omega) (by omega) (B1.out.1.elim (fun h => .inl h) (fun h => .inr (.inr h))) (B1.out.2.elim (fun h => .inl (by omega)) (fun h => .inr (.inr (hij ▸ h)))) (M1.out) (symQ_triv _ (by omega)) (symQ_triv _ (by omega)), T1.out⟩)
        · by_cases c1 : i < mid
          · skip
            have p0 : ¬ (i < m) := by omega
            have p1 : ¬ ((i : Int) < (m : Int)) := by omega
            have p2 : (m : Int) < (mid : Int) + (m : Int) - (i : Int) := by omega
            have p3 : a < i := by omega
            have p4 : i < mid := by omega
            have p5 : ¬ ((mid : Int) < (mid : Int) + (m : Int) - (i : Int)) := by omega
            have p6 : (mid : Int) + (m : Int) - (i : Int) < (b : Int) := by omega
            go_wp2_with (fail)
            all_goals (with_reducible refine (HL.out (by omega) (by omega) d _ rfl S1.out).mono ?_)
            all_goals (rintro e w' ⟨rfl, e2, hp, hm, hq⟩)
            all_goals (have P2 : Aside (PermIn 0 d.size d e2) := hp)
            all_goals (have Z2 : Aside (e2.size = d.size) := hp.1)
            all_goals (have M2 : Aside (SymQ lt key a i mid d e2) := hm)
            all_goals (have T2 : Aside (SW enc w0 blk off e2 w') := hq)
            all_goals (clear hp hm hq)
            all_goals (go_wp2_with (fail))
            all_goals (go_end0)
            all_goals (exact ⟨rfl, e2, perm3 (permIn_refl _ _ _) (P2.out) (permIn_refl _ _ _), sym_join (a := a) (m := m) (b := b) (mid := mid) (s := i) (e := mid + m - i) HST.out hb (by omega) (by omega) (by omega) (by omega) (by omega) (B1.out.1.elim (fun h => .inl h) (fun h => .inr (.inr h))) (B1.out.2.elim (fun h => .inl (by omega)) (fun h => .inr (.inr (hij ▸ h)))) (rot_id _ (by omega) (by omega) (by omega)) (M2.out) (symQ_triv _ (by omega)), T2.out⟩)
          · skip
            have p0 : ¬ (i < m) := by omega
            have p1 : ¬ ((i : Int) < (m : Int)) := by omega
            have p2 : ¬ ((m : Int) < (mid : Int) + (m : Int) - (i : Int)) := by omega
            have p3 : a < i := by omega
            have p4 : ¬ (i < mid) := by omega
            have p5 : ¬ ((mid : Int) < (mid : Int) + (m : Int) - (i : Int)) := by omega
            have p6 : (mid : Int) + (m : Int) - (i : Int) < (b : Int) := by omega
            go_wp2_with (fail)
            all_goals (go_end0)
            all_goals (exact ⟨rfl, d, perm3 (permIn_refl _ _ _) (permIn_refl _ _ _) (permIn_refl _ _ _), sym_join (a := a) (m := m) (b := b) (mid := mid) (s := i) (e := mid + m - i) HST.out hb (by omega) (by omega) (by omega) (by omega) (by omega) (B1.out.1.elim (fun h => .inl h) (fun h => .inr (.inr h))) (B1.out.2.elim (fun h => .inl (by omega)) (fun h => .inr (.inr (hij ▸ h)))) (rot_id _ (by omega) (by omega) (by omega)) (symQ_triv _ (by omega)) (symQ_triv _ (by omega)), S1.out⟩)
end Go.Proofs.Ytfblelkegebdiaa.V
