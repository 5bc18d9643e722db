/- slices' stable sort of whole numbers: symMergeCmpFunc permutes: its first case, one element to the left. -/
import Derived.Test.YtfblelkegebdiaaZ3
import Derived.Shelf.SlSortCmp.QuietGrown
namespace Go.Proofs.Ytfblelkegebdiaa.V
open Go.Proofs Go.Shelf Go.RowKit Go.Lib Go.Sort
set_option linter.unusedVariables false
set_option linter.unusedSimpArgs false
variable {α : Type} [Inhabited α]

set_option maxHeartbeats 2000000 in
set_option maxRecDepth 1000000 in
theorem symMergeA_s (enc : α → Value) (cf : α → α → Int) (lt : α → α → Bool) (key : α → Nat) (hst0 : StOrd cf lt key) (g : Nat) (cb : Array Value) (blk off cap a m b : Nat) (d0 d : Array α) (w0 w : World)
    (eg : ∀ args w, (callFunc g args).run Try.prog w = .ok (.enter g args) w) (hcmp : CmpLays1 Try.prog g cb enc cf blk off d0.size w0)
    (R : Row1 enc w0 blk off d0) (hs : d0.size = d.size) (S : SW enc w0 blk off d w) (ham : m = a + 1) (hmb : m < b) (hb : b ≤ d.size) (hsz : d.size < 4611686018427387904) :
    Calls Try.prog 85 #[.slice (some ⟨blk, off, none⟩) d.size cap, .int .i64 a, .int .i64 m, .int .i64 b, .func (.func g) #[] cb] w fun e w' => e = .returned (.tuple #[]) ∧ SQ enc w0 blk off d (SymQ lt key a m b d) w' := by
  have mixed : Try.prog.follows Departure.mixedOrders = true := by kernel_rfl
  have hcl0 := R.hO.cells
  simp only [Value.cells] at hcl0
  have hst := R.hO.store Try.prog
  have HC : Aside (CmpLays1 Try.prog g cb enc cf blk off d0.size w0) := hcmp
  have S0 : Aside (SW enc w0 blk off d w) := S
  clear S hcmp
  have HST : Aside (StOrd cf lt key) := hst0
  clear hst0
  subst ham
  have eb : (((a : Int) + 1 - (a : Int)) == 1) = true := beq_iff_eq.2 (by omega)
  go_enter Try.func85, Try.ntmps85
  go_wp2_with (fail)
  go_loopg [10, 11] (b - (a + 1)) (fun kx s10 s11 wr => ∃ (i j : Nat), s10 = .int .i64 i ∧ s11 = .int .i64 j ∧ a + 1 ≤ i ∧ i ≤ j ∧ j ≤ b ∧ j - i ≤ kx ∧ Aside (SW enc w0 blk off d wr) ∧ Aside (BA cf d a b i j))
  case atStart => exact ⟨a + 1, b, rfl, rfl, Nat.le_refl _, by omega, Nat.le_refl _, Nat.le_refl _, S0, BA.start cf d a b⟩
  case round =>
    clear S0
    obtain ⟨i, j, rfl, rfl, h1, h2, h3, h4, S1, B1⟩ := hrel
    by_cases hlt : i < j
    · have hltz : (i : Int) < (j : Int) := by omega
      -- ROUND1
      obtain ⟨iN, hiN⟩ : ∃ q, q = (i + j) / 2 := ⟨_, rfl⟩
      obtain ⟨jN, hjN⟩ : ∃ q, q = a := ⟨_, rfl⟩
      have ea : (((i : Int) + (j : Int)) / 2).toNat = iN := by omega
      have pa : (0 : Int) ≤ ((i : Int) + (j : Int)) / 2 := by omega
      have ba : ((i : Int) + (j : Int)) / 2 < (d.size : Int) := by omega
      have ec : ((a : Int)).toNat = jN := by omega
      have pc : (0 : Int) ≤ (a : Int) := by omega
      have bc : (a : Int) < (d.size : Int) := by omega
      obtain ⟨x, hx⟩ : ∃ x, x = d[(i + j) / 2]! := ⟨_, rfl⟩
      obtain ⟨y, hy⟩ : ∃ x, x = d[a]! := ⟨_, rfl⟩
      have l1 := S1.out.cl R (by omega) ((i + j) / 2) (by omega)
      have l2 := S1.out.cl R (by omega) a (by omega)
      rw [← hx, ← hiN] at l1
      rw [← hy, ← hjN] at l2
      have hc := S1.out.cmp HC.out (by omega) x y
      have HI : Aside (iN = (i + j) / 2) := hiN
      cases hlv : decide (cf x y < 0) with
      | true =>
        have hd : decide (cf x y < 0) = true := hlv
        have hv : cf x y < 0 := of_decide_eq_true hlv
        have B2 : Aside (BA cf d a b ((i + j) / 2 + 1) j) := B1.out.lo (by rw [← hx, ← hy]; exact hv)
        clear hx hy hiN hjN hlv B1
        go_wp2_with fail
        go_quiet_grown (first | (go_at_fn g; refine Calls.grown_of (hc _ _)))
        have S2 : Aside (SW enc w0 blk off d (grow (wr.drewN nq) osq)) := S1.out.grown nq osq
        clear l1 l2 hc S1
        generalize grow (wr.drewN nq) osq = w2 at S2 ⊢
        clear nq osq
        clear ea ec
        go_wp2_with (fail)
        go_roundg (j - ((i + j) / 2 + 1))
        case measure => omega
        case rel => exact ⟨(i + j) / 2 + 1, j, Value.int.injEq .. |>.mpr ⟨rfl, by omega⟩, rfl, by omega, by omega, h3, Nat.le_refl _, S2, B2⟩
      | false =>
        have hd : decide (cf x y < 0) = false := hlv
        have hv : ¬ cf x y < 0 := of_decide_eq_false hlv
        have B2 : Aside (BA cf d a b i ((i + j) / 2)) := B1.out.hi (by rw [← hx, ← hy]; exact hv)
        clear hx hy hiN hjN hlv B1
        go_wp2_with fail
        go_quiet_grown (first | (go_at_fn g; refine Calls.grown_of (hc _ _)))
        have S2 : Aside (SW enc w0 blk off d (grow (wr.drewN nq) osq)) := S1.out.grown nq osq
        clear l1 l2 hc S1
        generalize grow (wr.drewN nq) osq = w2 at S2 ⊢
        clear nq osq
        clear ea ec
        go_wp2_with (fail)
        go_roundg ((i + j) / 2 - i)
        case measure => omega
        case rel => exact ⟨i, (i + j) / 2, rfl, Value.int.injEq .. |>.mpr ⟨rfl, by omega⟩, h1, by omega, by omega, Nat.le_refl _, S2, B2⟩
    · have hltz : ¬ (i : Int) < (j : Int) := by omega
      go_wp2_with (fail)
      have B2 : Aside (BA cf d a b i i) := by have := B1.out; rw [show j = i by omega] at this; exact this
      have hbi : Aside (a + 1 ≤ i ∧ i ≤ b) := (⟨h1, by omega⟩ : a + 1 ≤ i ∧ i ≤ b)
      clear hltz hlt B1
      go_loopg [13] (i - a) (fun kx s13 wr => ∃ (k : Nat) (dk : Array α), s13 = .int .i64 k ∧ a ≤ k ∧ i - k ≤ kx ∧ Aside (k + 1 ≤ i) ∧ dk.size = d.size ∧ Aside (SW enc w0 blk off dk wr) ∧ Aside (PermIn 0 d.size d dk) ∧ Aside (Mv (rotIdx a (a + 1) (k + 1)) d dk))
      case atStart => exact ⟨a, d, rfl, Nat.le_refl _, Nat.le_refl _, (h1 : a + 1 ≤ i), rfl, S1, permIn_refl d 0 d.size, sh_a0 a d⟩
      case round =>
        clear S1
        obtain ⟨k, dk, rfl, k1, k2, hki, hds, S1, HP, HM⟩ := hrel
        by_cases hlt : k + 1 < i
        · have hltz : (k : Int) < (i : Int) - 1 := by omega
          go_wp2_with fail
          obtain ⟨iN, hiN⟩ : ∃ q, q = k := ⟨_, rfl⟩
          obtain ⟨jN, hjN⟩ : ∃ q, q = k + 1 := ⟨_, rfl⟩
          have ea : ((k : Int)).toNat = iN := by omega
          have pa : (0 : Int) ≤ (k : Int) := by omega
          have ba : (k : Int) < (d.size : Int) := by omega
          have ra : IntKind.i64.wrap ((k : Int)) = (k : Int) := by rw [IntKind.wrap_i64]; omega
          have ec : ((k : Int) + 1).toNat = jN := by omega
          have pc : (0 : Int) ≤ (k : Int) + 1 := by omega
          have bc : (k : Int) + 1 < (d.size : Int) := by omega
          have rc : IntKind.i64.wrap ((k : Int) + 1) = (k : Int) + 1 := by rw [IntKind.wrap_i64]; omega
          obtain ⟨x, hx⟩ : ∃ x, x = dk[k]! := ⟨_, rfl⟩
          obtain ⟨y, hy⟩ : ∃ x, x = dk[k + 1]! := ⟨_, rfl⟩
          have S2 : Aside (SW enc w0 blk off (swp dk k (k + 1)) ((wr.setCell ⟨blk, off + iN, none⟩ (enc y)).setCell ⟨blk, off + jN, none⟩ (enc x)).drew) := by rw [hiN, hjN, hx, hy]; exact S1.out.swapped R k (k + 1) (by omega) (by omega)
          have HP2 : Aside (PermIn 0 d.size d (swp dk k (k + 1))) := permIn_trans _ _ _ _ _ HP.out (hds ▸ swp_permIn dk 0 dk.size k (k + 1) (Nat.zero_le _) (by omega) (Nat.zero_le _) (by omega) (Nat.le_refl _))
          have HM2 : Aside (Mv (rotIdx a (a + 1) (k + 1 + 1)) d (swp dk k (k + 1))) := sh_a HM.out k1 (by omega)
          have hki2 : Aside (k + 1 + 1 ≤ i) := (by omega : k + 1 + 1 ≤ i)
          have c1a := S1.out.c1 R (by omega) k (by omega)
          have c1b := S1.out.c1 R (by omega) (k + 1) (by omega)
          have f1a := S1.out.f1 R (by omega) k (by omega)
          have f1b := S1.out.f1 R (by omega) (k + 1) (by omega)
          obtain ⟨u1, c1c⟩ := S1.out.c2 R (by omega) k (k + 1) (by omega) (by omega) (enc y)
          rw [← hjN, ← hiN] at c1c
          rw [← hx, ← hiN] at c1a
          rw [← hy, ← hjN] at c1b
          rw [← hiN] at f1a
          rw [← hjN] at f1b
          clear S1 hx hy hiN hjN HP HM hki
          go_wp2_with fail
          go_big_region_o
          clear c1a c1b c1c f1a f1b
          generalize ((wr.setCell ⟨blk, off + iN, none⟩ (enc y)).setCell ⟨blk, off + jN, none⟩ (enc x)).drew = w2 at S2 ⊢
          clear ea ec ra rc
          go_wp2
          go_roundg (i - (k + 1))
          case measure => omega
          case rel => exact ⟨k + 1, swp dk k (k + 1), by first | rfl | go_num, by omega, Nat.le_refl _, hki2, by rw [size_swp]; exact hds, S2, HP2, HM2⟩
        · have hltz : ¬ (k : Int) < (i : Int) - 1 := by omega
          go_wp2
          refine bodyPost_ret (results_none rfl _ _ _) rfl ?_
          obtain ⟨hb1, hb2⟩ := hbi.out
          have hk1 := hki.out
          have hM := HM.out
          rw [show k + 1 = i by omega] at hM
          exact ⟨rfl, dk, HP.out, sym_a HST.out hb hb1 hb2 B2.out.1 B2.out.2 hM, S1.out⟩
end Go.Proofs.Ytfblelkegebdiaa.V
