/- slices' stable sort of whole numbers: symMergeCmpFunc permutes: its second case, one element to the right. -/
import Derived.Test.YtfblelkegebdiaaZ4
import Derived.Shelf.SlSortCmp.QuietGrown
namespace Go.Proofs.Ytfblelkegebdiaa.V
open Go.Proofs Go.Shelf Go.RowKit Go.Lib Go.Sort
set_option linter.unusedVariables false
set_option linter.unusedSimpArgs false
variable {α : Type} [Inhabited α]

set_option maxHeartbeats 2000000 in
set_option maxRecDepth 1000000 in
theorem symMergeB_s (enc : α → Value) (cf : α → α → Int) (lt : α → α → Bool) (key : α → Nat) (hst0 : StOrd cf lt key) (g : Nat) (cb : Array Value) (blk off cap a m b : Nat) (d0 d : Array α) (w0 w : World)
    (eg : ∀ args w, (callFunc g args).run Try.prog w = .ok (.enter g args) w) (hcmp : CmpLays1 Try.prog g cb enc cf blk off d0.size w0)
    (R : Row1 enc w0 blk off d0) (hs : d0.size = d.size) (S : SW enc w0 blk off d w) (ham : a + 1 < m) (hmb : b = m + 1) (hb : b ≤ d.size) (hsz : d.size < 4611686018427387904) :
    Calls Try.prog 85 #[.slice (some ⟨blk, off, none⟩) d.size cap, .int .i64 a, .int .i64 m, .int .i64 b, .func (.func g) #[] cb] w fun e w' => e = .returned (.tuple #[]) ∧ SQ enc w0 blk off d (SymQ lt key a m b d) w' := by
  have mixed : Try.prog.follows Departure.mixedOrders = true := by kernel_rfl
  have hcl0 := R.hO.cells
  simp only [Value.cells] at hcl0
  have hst := R.hO.store Try.prog
  have HC : Aside (CmpLays1 Try.prog g cb enc cf blk off d0.size w0) := hcmp
  have S0 : Aside (SW enc w0 blk off d w) := S
  clear S hcmp
  have HST : Aside (StOrd cf lt key) := hst0
  clear hst0
  subst hmb
  have eb : (((m : Int) - (a : Int)) == 1) = false := beq_eq_false_iff_ne.2 (by omega)
  have eb2 : (((m : Int) + 1 - (m : Int)) == 1) = true := beq_iff_eq.2 (by omega)
  go_enter Try.func85, Try.ntmps85
  go_wp2_with (fail)
  go_loopg [14, 15] (m - a) (fun kx s10 s11 wr => ∃ (i j : Nat), s10 = .int .i64 i ∧ s11 = .int .i64 j ∧ a ≤ i ∧ i ≤ j ∧ j ≤ m ∧ j - i ≤ kx ∧ Aside (SW enc w0 blk off d wr) ∧ Aside (BB cf d a m i j))
  case atStart => exact ⟨a, m, rfl, rfl, Nat.le_refl _, by omega, Nat.le_refl _, Nat.le_refl _, S0, BB.start cf d a m⟩
  case round =>
    clear S0
    obtain ⟨i, j, rfl, rfl, h1, h2, h3, h4, S1, B1⟩ := hrel
    by_cases hlt : i < j
    · have hltz : (i : Int) < (j : Int) := by omega
      -- ROUND1
      obtain ⟨iN, hiN⟩ : ∃ q, q = m := ⟨_, rfl⟩
      obtain ⟨jN, hjN⟩ : ∃ q, q = (i + j) / 2 := ⟨_, rfl⟩
      have ea : ((m : Int)).toNat = iN := by omega
      have pa : (0 : Int) ≤ (m : Int) := by omega
      have ba : (m : Int) < (d.size : Int) := by omega
      have ec : (((i : Int) + (j : Int)) / 2).toNat = jN := by omega
      have pc : (0 : Int) ≤ ((i : Int) + (j : Int)) / 2 := by omega
      have bc : ((i : Int) + (j : Int)) / 2 < (d.size : Int) := by omega
      obtain ⟨x, hx⟩ : ∃ x, x = d[m]! := ⟨_, rfl⟩
      obtain ⟨y, hy⟩ : ∃ x, x = d[(i + j) / 2]! := ⟨_, rfl⟩
      have l1 := S1.out.cl R (by omega) m (by omega)
      have l2 := S1.out.cl R (by omega) ((i + j) / 2) (by omega)
      rw [← hx, ← hiN] at l1
      rw [← hy, ← hjN] at l2
      have hc := S1.out.cmp HC.out (by omega) x y
      cases hlv : decide (cf x y < 0) with
      | true =>
        have hd : decide (cf x y < 0) = true := hlv
        have hv : cf x y < 0 := of_decide_eq_true hlv
        have B2 : Aside (BB cf d a m i ((i + j) / 2)) := B1.out.hi (by rw [← hx, ← hy]; exact hv)
        clear hx hy hiN hjN hlv B1
        go_wp2_with fail
        go_quiet_grown (first | (go_at_fn g; refine Calls.grown_of (hc _ _)))
        have S2 : Aside (SW enc w0 blk off d (grow (wr.drewN nq) osq)) := S1.out.grown nq osq
        clear l1 l2 hc S1
        generalize grow (wr.drewN nq) osq = w2 at S2 ⊢
        clear nq osq
        clear ea ec
        go_wp2_with (fail)
        go_roundg ((i + j) / 2 - i)
        case measure => omega
        case rel => exact ⟨i, (i + j) / 2, rfl, Value.int.injEq .. |>.mpr ⟨rfl, by omega⟩, h1, by omega, by omega, Nat.le_refl _, S2, B2⟩
      | false =>
        have hd : decide (cf x y < 0) = false := hlv
        have hv : ¬ cf x y < 0 := of_decide_eq_false hlv
        have B2 : Aside (BB cf d a m ((i + j) / 2 + 1) j) := B1.out.lo (by rw [← hx, ← hy]; exact hv)
        clear hx hy hiN hjN hlv B1
        go_wp2_with fail
        go_quiet_grown (first | (go_at_fn g; refine Calls.grown_of (hc _ _)))
        have S2 : Aside (SW enc w0 blk off d (grow (wr.drewN nq) osq)) := S1.out.grown nq osq
        clear l1 l2 hc S1
        generalize grow (wr.drewN nq) osq = w2 at S2 ⊢
        clear nq osq
        clear ea ec
        go_wp2_with (fail)
        go_roundg (j - ((i + j) / 2 + 1))
        case measure => omega
        case rel => exact ⟨(i + j) / 2 + 1, j, Value.int.injEq .. |>.mpr ⟨rfl, by omega⟩, rfl, by omega, by omega, h3, Nat.le_refl _, S2, B2⟩
    · have hltz : ¬ (i : Int) < (j : Int) := by omega
      go_wp2_with (fail)
      have B2 : Aside (BB cf d a m i i) := by have := B1.out; rw [show j = i by omega] at this; exact this
      have hbi : Aside (a ≤ i ∧ i ≤ m) := (⟨h1, by omega⟩ : a ≤ i ∧ i ≤ m)
      clear hltz hlt B1
      go_loopg [17] (m - i) (fun kx s13 wr => ∃ (k : Nat) (dk : Array α), s13 = .int .i64 k ∧ i ≤ k ∧ k ≤ m ∧ k - i ≤ kx ∧ dk.size = d.size ∧ Aside (SW enc w0 blk off dk wr) ∧ Aside (PermIn 0 d.size d dk) ∧ Aside (Mv (rotIdx k m (m + 1)) d dk))
      case atStart => exact ⟨m, d, rfl, by omega, Nat.le_refl _, Nat.le_refl _, rfl, S1, permIn_refl d 0 d.size, sh_b0 m d⟩
      case round =>
        clear S1
        obtain ⟨k, dk, rfl, k1, k3, k2, hds, S1, HP, HM⟩ := hrel
        by_cases hlt : i < k
        · have hltz : (i : Int) < (k : Int) := by omega
          go_wp2_with fail
          obtain ⟨iN, hiN⟩ : ∃ q, q = k := ⟨_, rfl⟩
          obtain ⟨jN, hjN⟩ : ∃ q, q = k - 1 := ⟨_, rfl⟩
          have ea : ((k : Int)).toNat = iN := by omega
          have pa : (0 : Int) ≤ (k : Int) := by omega
          have ba : (k : Int) < (d.size : Int) := by omega
          have ra : IntKind.i64.wrap ((k : Int)) = (k : Int) := by rw [IntKind.wrap_i64]; omega
          have ec : ((k : Int) - 1).toNat = jN := by omega
          have pc : (0 : Int) ≤ (k : Int) - 1 := by omega
          have bc : (k : Int) - 1 < (d.size : Int) := by omega
          have rc : IntKind.i64.wrap ((k : Int) - 1) = (k : Int) - 1 := by rw [IntKind.wrap_i64]; omega
          obtain ⟨x, hx⟩ : ∃ x, x = dk[k]! := ⟨_, rfl⟩
          obtain ⟨y, hy⟩ : ∃ x, x = dk[k - 1]! := ⟨_, rfl⟩
          have S2 : Aside (SW enc w0 blk off (swp dk k (k - 1)) ((wr.setCell ⟨blk, off + iN, none⟩ (enc y)).setCell ⟨blk, off + jN, none⟩ (enc x)).drew) := by rw [hiN, hjN, hx, hy]; exact S1.out.swapped R k (k - 1) (by omega) (by omega)
          have HP2 : Aside (PermIn 0 d.size d (swp dk k (k - 1))) := permIn_trans _ _ _ _ _ HP.out (hds ▸ swp_permIn dk 0 dk.size k (k - 1) (Nat.zero_le _) (by omega) (Nat.zero_le _) (by omega) (Nat.le_refl _))
          have HM2 : Aside (Mv (rotIdx (k - 1) m (m + 1)) d (swp dk k (k - 1))) := sh_b HM.out (by omega) (by omega) (by omega)
          have c1a := S1.out.c1 R (by omega) k (by omega)
          have c1b := S1.out.c1 R (by omega) (k - 1) (by omega)
          have f1a := S1.out.f1 R (by omega) k (by omega)
          have f1b := S1.out.f1 R (by omega) (k - 1) (by omega)
          obtain ⟨u1, c1c⟩ := S1.out.c2 R (by omega) k (k - 1) (by omega) (by omega) (enc y)
          rw [← hjN, ← hiN] at c1c
          rw [← hx, ← hiN] at c1a
          rw [← hy, ← hjN] at c1b
          rw [← hiN] at f1a
          rw [← hjN] at f1b
          clear S1 hx hy hiN hjN HP HM
          go_wp2_with fail
          go_big_region_o
          clear c1a c1b c1c f1a f1b
          generalize ((wr.setCell ⟨blk, off + iN, none⟩ (enc y)).setCell ⟨blk, off + jN, none⟩ (enc x)).drew = w2 at S2 ⊢
          clear ea ec ra rc
          go_wp2
          go_roundg (k - 1 - i)
          case measure => omega
          case rel => exact ⟨k - 1, swp dk k (k - 1), Value.int.injEq .. |>.mpr ⟨rfl, by omega⟩, by omega, by omega, Nat.le_refl _, by rw [size_swp]; exact hds, S2, HP2, HM2⟩
        · have hltz : ¬ (i : Int) < (k : Int) := by omega
          go_wp2
          refine bodyPost_ret (results_none rfl _ _ _) rfl ?_
          obtain ⟨hb1, hb2⟩ := hbi.out
          have hM := HM.out
          rw [show k = i by omega] at hM
          exact ⟨rfl, dk, HP.out, sym_b HST.out hb hb1 hb2 B2.out.1 B2.out.2 hM, S1.out⟩
end Go.Proofs.Ytfblelkegebdiaa.V
