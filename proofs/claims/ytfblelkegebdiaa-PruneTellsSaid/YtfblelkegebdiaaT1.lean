/- cmp.Or at two whole numbers; the closure by which prune.Pairs compares. -/
import Derived.Test.YtfblelkegebdiaaProg
import Derived.WalkKit
import Derived.BigQuiet
import Derived.Deep.LoopGhost
import Derived.StillTailTactics
import Derived.Sort.Grow
import Derived.Lib.Hide
import Derived.Lib.Small
namespace Go.Proofs.Ytfblelkegebdiaa.V
open Go.Proofs Go.RowKit Go.Lib Go.Sort
set_option linter.unusedVariables false
set_option linter.unusedSimpArgs false

def orI (x y : Int) : Int := if x = 0 then y else x
set_option maxHeartbeats 4000000 in
theorem or_two (g : Nat) (x y : Int) (W : World) (h0 : W.cell? ⟨g, 0, none⟩ = some (.int .i64 x)) (h1 : W.cell? ⟨g, 1, none⟩ = some (.int .i64 y)) :
    Calls Try.prog 21 #[.slice (some ⟨g, 0, none⟩) 2 2] W fun e w' => e = .returned (.int .i64 (orI x y)) ∧ w' = W := by
  unfold orI
  by_cases hx : x = 0
  · rw [if_pos hx]
    have dx : (x != 0) = false := by simpa using hx
    have dx2 : (x == 0) = true := by simpa using hx
    clear hx
    by_cases hy : y = 0
    · have dy : (y != 0) = false := by simpa using hy
      have dy2 : (y == 0) = true := by simpa using hy
      have HY := Lib.hid hy
      clear hy
      go_enter Try.func21, Try.ntmps21
      go_wp2
      go_loopg [8] 2 (fun kq i wr => wr = W ∧ ((i = .int .i64 0 ∧ kq = 2) ∨ (i = .int .i64 1 ∧ kq = 1) ∨ (i = .int .i64 2 ∧ kq = 0)))
      case atStart => exact ⟨rfl, .inl ⟨rfl, rfl⟩⟩
      case round =>
        obtain ⟨rfl, ⟨rfl, rfl⟩ | ⟨rfl, rfl⟩ | ⟨rfl, rfl⟩⟩ := hrel
        · go_wp2
          go_roundg 1
          case measure => omega
          case rel => exact ⟨rfl, .inr (.inl ⟨rfl, rfl⟩)⟩
        · go_wp2
          go_roundg 0
          case measure => omega
          case rel => exact ⟨rfl, .inr (.inr ⟨rfl, rfl⟩)⟩
        · go_wp2
          go_ret
          exact ⟨by rw [HY.out]; rfl, rfl⟩
    · have dy : (y != 0) = true := by simpa using hy
      have dy2 : (y == 0) = false := by simpa using hy
      clear hy
      go_enter Try.func21, Try.ntmps21
      go_wp2
      go_loopg [8] 1 (fun kq i wr => wr = W ∧ ((i = .int .i64 0 ∧ kq = 1) ∨ (i = .int .i64 1 ∧ kq = 0)))
      case atStart => exact ⟨rfl, .inl ⟨rfl, rfl⟩⟩
      case round =>
        obtain ⟨rfl, ⟨rfl, rfl⟩ | ⟨rfl, rfl⟩⟩ := hrel
        · go_wp2
          go_roundg 0
          case measure => omega
          case rel => exact ⟨rfl, .inr ⟨rfl, rfl⟩⟩
        · go_wp2
          go_ret
          exact ⟨rfl, rfl⟩
  · rw [if_neg hx]
    have dx : (x != 0) = true := by simpa using hx
    have dx2 : (x == 0) = false := by simpa using hx
    clear hx
    go_enter Try.func21, Try.ntmps21
    go_wp2
    go_loopg [8] 0 (fun kq i wr => wr = W ∧ i = .int .i64 0)
    case atStart => exact ⟨rfl, rfl⟩
    case round =>
      obtain ⟨rfl, rfl⟩ := hrel
      go_wp2
      go_ret
      exact ⟨rfl, rfl⟩
set_option maxHeartbeats 2000000 in
theorem isNaN_int (x : Int) (w : World) : Calls Try.prog 59 #[.int .i64 x] w fun e w' => e = .returned (.bool false) ∧ w' = w := by
  go_enter Try.func59, Try.ntmps59
  go_wp2
  go_ret
  exact ⟨by first | rfl | simp, rfl⟩
set_option maxHeartbeats 2000000 in
theorem compare_int (x y : Int) (w : World) : Calls Try.prog 22 #[.int .i64 x, .int .i64 y] w fun e w' => e = .returned (.int .i64 (Lib.compareInt x y)) ∧ w' = w := by
  unfold Lib.compareInt
  by_cases h1 : x < y
  · rw [if_pos h1]
    have d1 := decide_eq_true h1
    clear h1
    go_enter Try.func22, Try.ntmps22
    go_wp2_with (first | (go_at_call 59; (with_reducible refine (isNaN_int _ _).mono ?_); rintro e w1 ⟨rfl, rfl⟩))
    go_ret
    exact ⟨rfl, rfl⟩
  · rw [if_neg h1]
    have d1 := decide_eq_false h1
    by_cases h2 : x > y
    · rw [if_pos h2]
      have d2 : decide (y < x) = true := decide_eq_true h2
      clear h1 h2
      go_enter Try.func22, Try.ntmps22
      go_wp2_with (first | (go_at_call 59; (with_reducible refine (isNaN_int _ _).mono ?_); rintro e w1 ⟨rfl, rfl⟩))
      go_ret
      exact ⟨rfl, rfl⟩
    · rw [if_neg h2]
      have d2 : decide (y < x) = false := decide_eq_false h2
      clear h1 h2
      go_enter Try.func22, Try.ntmps22
      go_wp2_with (first | (go_at_call 59; (with_reducible refine (isNaN_int _ _).mono ?_); rintro e w1 ⟨rfl, rfl⟩))
      go_ret
      exact ⟨rfl, rfl⟩

set_option maxHeartbeats 4000000 in
set_option maxRecDepth 100000 in
theorem closure20 (x0 x1 y0 y1 : Int) (W : World) : Calls Try.prog 20 #[.agg #[.int .i64 x0, .int .i64 x1], .agg #[.int .i64 y0, .int .i64 y1]] W fun e w' => e = .returned (.int .i64 (orI (Lib.compareInt x0 y0) (Lib.compareInt x1 y1))) ∧ ∃ q os', w' = grow (W.drewN q) os' := by
  have h0 := fun W' => compare_int x0 y0 W'
  have h1 := fun W' => compare_int x1 y1 W'
  obtain ⟨r0, hr0⟩ : ∃ r, r = Lib.compareInt x0 y0 := ⟨_, rfl⟩
  obtain ⟨r1, hr1⟩ : ∃ r, r = Lib.compareInt x1 y1 := ⟨_, rfl⟩
  rw [← hr0] at h0 ⊢
  rw [← hr1] at h1 ⊢
  clear hr0 hr1
  have H0 := Lib.hid h0
  have H1 := Lib.hid h1
  obtain ⟨rr, hrr⟩ : ∃ r, r = orI r0 r1 := ⟨_, rfl⟩
  have H2 := Lib.hid (fun (g : Nat) (W' : World) a b => hrr ▸ or_two g r0 r1 W' a b)
  rw [← hrr]
  clear h0 h1 hrr
  go_enter Try.func20, Try.ntmps20
  go_wp2_with (fail)
  refine wp_region_still_tail 10 (by kernel_rfl) (by kernel_rfl) ?_
  change wpStill _ _ ((W.alloc _).alloc _).drew (fun a' => wpList _ _ _ _ a' ((W.alloc _).alloc _).drew) _ _
  simp only [List.take_succ_cons, List.take_zero, List.drop_succ_cons, List.drop_zero]
  still_step
  still_step
  still_step
  still_step
  still_call (H0.out _)
  still_step
  still_step
  still_step
  still_step
  still_call (H1.out _)
  refine wpStill_nil ?_
  go_wp2_with (fail)
  refine (H2.out _ _ ?c1 ?c2).mono ?_
  case c1 => exact World.cell?_alloc_at _ _ _ _ (by rw [World.size_alloc, World.size_alloc])
  case c2 => exact World.cell?_alloc_at _ _ _ _ (by rw [World.size_alloc, World.size_alloc])
  rintro e w' ⟨rfl, rfl⟩
  go_wp2
  go_ret
  exact ⟨rfl, 1, _, by rw [alloc_eq_grow, alloc_eq_grow, alloc_eq_grow, grow_grow, grow_grow]; rfl⟩
end Go.Proofs.Ytfblelkegebdiaa.V
