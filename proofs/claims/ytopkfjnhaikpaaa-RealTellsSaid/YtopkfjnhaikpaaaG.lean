/- Contract of the document's Get. -/
import Derived.Test.YtopkfjnhaikpaaaS
import Derived.Laws.NewBlocks
import Derived.Deep.RegionHeld
namespace Go.Proofs.Ytopkfjnhaikpaaa
open Go.Fl
open Go.RowKit (wrap64 Hid Below)
open Go.RowKit
set_option linter.unusedVariables false
set_option linter.unusedSimpArgs false

theorem drewN_below {B : Nat} {a w : World} (h : Below B a w) (n : Nat) : Below B a (w.drewN n) := h.trans ⟨rfl, rfl, rfl, Nat.le_refl _, fun _ _ => rfl⟩

theorem rget_1 (x : Nat) (w : World) (HC : Hid (∀ w, Calls Try.prog 30 #[.float .f64 x] w fun e' w' => e' = .returned (.int .i64 1) ∧ w = w')) :
    Calls Try.prog 29 #[.float .f64 x] w fun e' w' => e' = .returned (.tuple #[.int .i64 0, .int .i64 1]) ∧ w = w' := by
  go_enter Try.func29, Try.ntmps29
  go_wp2_with (first | (go_at_call 30; refine (HC.out _).mono ?_; rintro e w' ⟨rfl, rfl⟩))
  go_ret2
  exact ⟨rfl, rfl⟩
theorem rget_23 (x : Nat) (c : Int) (w : World) (HC : Hid (∀ w, Calls Try.prog 30 #[.float .f64 x] w fun e' w' => e' = .returned (.int .i64 c) ∧ w = w')) (h : c = 2 ∨ c = 3) :
    Calls Try.prog 29 #[.float .f64 x] w fun e' w' => e' = .returned (.tuple #[.int .i64 0, .int .i64 2]) ∧ w = w' := by
  rcases h with rfl | rfl
  all_goals
    go_enter Try.func29, Try.ntmps29
    go_wp2_with (first | (go_at_call 30; refine (HC.out _).mono ?_; rintro e w' ⟨rfl, rfl⟩))
    go_ret2
    exact ⟨rfl, rfl⟩
theorem rget_456 (x : Nat) (c : Int) (w : World) (HC : Hid (∀ w, Calls Try.prog 30 #[.float .f64 x] w fun e' w' => e' = .returned (.int .i64 c) ∧ w = w')) (h : c = 4 ∨ c = 5 ∨ c = 6) :
    Calls Try.prog 29 #[.float .f64 x] w fun e' w' => e' = .returned (.tuple #[.int .i64 0, .int .i64 0]) ∧ w = w' := by
  rcases h with rfl | rfl | rfl
  all_goals
    go_enter Try.func29, Try.ntmps29
    go_wp2_with (first | (go_at_call 30; refine (HC.out _).mono ?_; rintro e w' ⟨rfl, rfl⟩))
    go_ret2
    exact ⟨rfl, rfl⟩

theorem rget_over (x : Nat) (e k m s : Int) (w : World) (HC : Hid (∀ w, Calls Try.prog 30 #[.float .f64 x] w fun e' w' => e' = .returned (.int .i64 7) ∧ w = w'))
    (h1 : bits .and .u64 ((x : Int) / 4503599627370496) 2047 = e) (h2 : bits .or .u64 (bits .and .u64 (x : Int) 4503599627370495) 4503599627370496 = m) (h3 : (x : Int) / 9223372036854775808 = s)
    (h4 : wrap64 (wrap64 (wrap64 e - 1075) + 32) = k) (h5 : 11 < k) :
    Calls Try.prog 29 #[.float .f64 x] w fun e' w' => e' = .returned (.tuple #[.int .i64 0, .int .i64 3]) ∧ Below w.heap.size w w' := by
  go_enter Try.func29, Try.ntmps29
  go_wp2_with (first | (go_at_call 30; refine (HC.out _).mono ?_; rintro e w' ⟨rfl, rfl⟩))
  go_ret2
  exact ⟨rfl, (Below.refl _ _).alloc (Nat.le_refl _) _⟩
theorem rget_under (x : Nat) (e k m s : Int) (w : World) (HC : Hid (∀ w, Calls Try.prog 30 #[.float .f64 x] w fun e' w' => e' = .returned (.int .i64 7) ∧ w = w'))
    (h1 : bits .and .u64 ((x : Int) / 4503599627370496) 2047 = e) (h2 : bits .or .u64 (bits .and .u64 (x : Int) 4503599627370495) 4503599627370496 = m) (h3 : (x : Int) / 9223372036854775808 = s)
    (h4 : wrap64 (wrap64 (wrap64 e - 1075) + 32) = k) (h5 : k < -60) :
    Calls Try.prog 29 #[.float .f64 x] w fun e' w' => e' = .returned (.tuple #[.int .i64 0, .int .i64 0]) ∧ Below w.heap.size w w' := by
  go_enter Try.func29, Try.ntmps29
  go_wp2_with (first | (go_at_call 30; refine (HC.out _).mono ?_; rintro e w' ⟨rfl, rfl⟩))
  go_ret2
  exact ⟨rfl, (Below.refl _ _).alloc (Nat.le_refl _) _⟩
theorem rget_up (x : Nat) (e k m s q : Int) (w : World) (HC : Hid (∀ w, Calls Try.prog 30 #[.float .f64 x] w fun e' w' => e' = .returned (.int .i64 7) ∧ w = w'))
    (h1 : bits .and .u64 ((x : Int) / 4503599627370496) 2047 = e) (h2 : bits .or .u64 (bits .and .u64 (x : Int) 4503599627370495) 4503599627370496 = m) (h3 : (x : Int) / 9223372036854775808 = s)
    (h4 : wrap64 (wrap64 (wrap64 e - 1075) + 32) = k) (h5 : 0 ≤ k) (h6 : k ≤ 11) (h7 : IntKind.u64.wrap (m * 2 ^ k.toNat) = q)
    (r c : Int) (HS : Hid (∀ (a : Addr) w, w.cell? a = some (.int .i64 0) → w.frozen? a = false → Calls Try.prog 36 #[.pointer (some a), .bool (s == 1), .int .u64 q] w fun e' w' => e' = .returned (.int .i64 r) ∧ w'.cell? a = some (.int .i64 c) ∧ Below a.block w w')) :
    Calls Try.prog 29 #[.float .f64 x] w fun e' w' => e' = .returned (.tuple #[.int .i64 r, .int .i64 c]) ∧ Below w.heap.size w w' := by
  go_enter Try.func29, Try.ntmps29
  go_wp2_with (first | (go_at_call 30; refine (HC.out _).mono ?_; rintro e w' ⟨rfl, rfl⟩) | (go_at_call 36; refine (HS.out _ _ (World.cell?_alloc_at _ _ _ _ rfl) (World.frozen?_alloc_at _ _ _ _ rfl)).mono ?_; rintro e w' ⟨rfl, hcell, hbel⟩))
  go_quiet (fail)
  go_wp2
  go_ret2
  exact ⟨rfl, ((Below.refl _ _).alloc (Nat.le_refl _) _).trans (drewN_below hbel _)⟩

theorem rget_down (x : Nat) (e k m s rest half Q q : Int) (w : World) (HC : Hid (∀ w, Calls Try.prog 30 #[.float .f64 x] w fun e' w' => e' = .returned (.int .i64 7) ∧ w = w'))
    (h1 : bits .and .u64 ((x : Int) / 4503599627370496) 2047 = e) (h2 : bits .or .u64 (bits .and .u64 (x : Int) 4503599627370495) 4503599627370496 = m) (h3 : (x : Int) / 9223372036854775808 = s)
    (h4 : wrap64 (wrap64 (wrap64 e - 1075) + 32) = k) (h5 : k < 0) (h6 : -60 ≤ k) (h7 : bits .and .u64 m (IntKind.u64.wrap (IntKind.u64.wrap (2 ^ (-k).toNat) - 1)) = rest) (h8 : IntKind.u64.wrap (2 ^ ((-k).toNat - 1)) = half) (h9 : m / 2 ^ (-k).toNat = Q)
    (HQ1 : Hid (half < rest → IntKind.u64.wrap (Q + 1) = q)) (HQ2 : Hid (rest = half → (bits .and .u64 Q 1 == 1) = true → IntKind.u64.wrap (Q + 1) = q)) (HQ3 : Hid (rest = half → (bits .and .u64 Q 1 == 1) = false → Q = q)) (HQ4 : Hid (rest ≤ half → ¬ rest = half → Q = q))
    (r c : Int) (HS : Hid (∀ (a : Addr) w, w.cell? a = some (.int .i64 0) → w.frozen? a = false → Calls Try.prog 36 #[.pointer (some a), .bool (s == 1), .int .u64 q] w fun e' w' => e' = .returned (.int .i64 r) ∧ w'.cell? a = some (.int .i64 c) ∧ Below a.block w w')) :
    Calls Try.prog 29 #[.float .f64 x] w fun e' w' => e' = .returned (.tuple #[.int .i64 r, .int .i64 c]) ∧ Below w.heap.size w w' := by
  go_enter Try.func29, Try.ntmps29
  go_wp2_with (first | (go_at_call 30; refine (HC.out _).mono ?_; rintro e w' ⟨rfl, rfl⟩) | (go_at_call 36; (first | rw [HQ1.out (by assumption)] | rw [HQ2.out (by assumption) (by assumption)] | rw [HQ3.out (by assumption) (by assumption)] | rw [HQ4.out (by assumption) (by assumption)]); refine (HS.out _ _ (World.cell?_alloc_at _ _ _ _ rfl) (World.frozen?_alloc_at _ _ _ _ rfl)).mono ?_; rintro e w' ⟨rfl, hcell, hbel⟩))
  go_ways
  all_goals (go_quiet (fail); go_wp2; go_ret2; exact ⟨rfl, ((Below.refl _ _).alloc (Nat.le_refl _) _).trans (drewN_below hbel _)⟩)
end Go.Proofs.Ytopkfjnhaikpaaa
