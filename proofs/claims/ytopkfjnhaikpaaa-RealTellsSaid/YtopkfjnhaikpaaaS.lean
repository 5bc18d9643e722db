/- (*Calc).fail and signed. -/
import Derived.Test.YtopkfjnhaikpaaaO
namespace Go.Proofs.Ytopkfjnhaikpaaa
open Go.Fl
open Go.RowKit (wrap64 Hid Below)
set_option linter.unusedVariables false
set_option linter.unusedSimpArgs false

theorem fail_any (a : Addr) (e : Int) (w : World) (hc : w.cell? a = some (.int .i64 0)) (hz : w.frozen? a = false) :
    Calls Try.prog 38 #[.pointer (some a), .int .i64 e] w fun e' w' => e' = .returned (.int .i64 0) ∧ w' = w.setCell a (.int .i64 e) := by
  go_enter Try.func38, Try.ntmps38
  go_wp2
  go_ways
  all_goals (go_ret; exact ⟨rfl, rfl⟩)

theorem signed_over (a : Addr) (n : Bool) (q : Int) (w : World) (hc : w.cell? a = some (.int .i64 0)) (hz : w.frozen? a = false) (h : n = true → 9223372036854775808 < q) (h' : n = false → 9223372036854775807 < q) :
    Calls Try.prog 36 #[.pointer (some a), .bool n, .int .u64 q] w fun e' w' => e' = .returned (.int .i64 0) ∧ w' = w.setCell a (.int .i64 3) := by
  cases n
  all_goals
    simp only [Bool.false_eq_true, false_implies, forall_const, true_implies] at h h'
    go_enter Try.func36, Try.ntmps36
    go_wp2_with (first | (go_at_call 38; refine (fail_any _ _ _ hc hz).mono ?_; rintro e w' ⟨rfl, rfl⟩))
    go_ret
    exact ⟨rfl, rfl⟩

theorem signed_ok (a : Addr) (n : Bool) (q : Int) (w : World) (h : n = true → ¬ 9223372036854775808 < q) (h' : n = false → ¬ 9223372036854775807 < q) (h0 : 0 ≤ q) :
    Calls Try.prog 36 #[.pointer (some a), .bool n, .int .u64 q] w fun e' w' => e' = .returned (.int .i64 (if n then -q else q)) ∧ w = w' := by
  cases n
  all_goals
    simp only [Bool.false_eq_true, false_implies, forall_const, true_implies] at h h'
    go_enter Try.func36, Try.ntmps36
    go_wp2
    go_ways
    go_ret
    exact ⟨ret_int (by first | rfl | (rw [u64_wrap]; (try simp only [if_true]); unfold wrap64; omega)), rfl⟩
end Go.Proofs.Ytopkfjnhaikpaaa
