/- The walk of RealBack. -/
import Derived.Test.YtopkfjnhaikpaaaC
import Derived.Below
namespace Go.Proofs.Ytopkfjnhaikpaaa
open Go.Fl
open Go.RowKit (wrap64 Hid Below)

theorem back_small (a : Int) (HL : Hid (a.natAbs ≤ 9223372036854775808)) (w : World) (c1 : a < 9007199254740992) (c2 : -9007199254740992 < a)
    (hE : getE (putW a) = 0) (hA : getA (putW a) = a) :
    Calls Try.prog 3 #[.int .i64 a] w fun e w' => e = .returned (.bool true) ∧ w = w' := by
  go_enter Try.func3, Try.ntmps3
  go_wp2_with (first | (go_at_call 15; refine (alive_any _).mono ?_; rintro e w' ⟨rfl, rfl⟩) | (go_at_call 17; refine (put_any _ HL.out _).mono ?_; rintro e w' ⟨rfl, rfl⟩) | (go_at_call 16; refine (get_any _ (put_lt _) _).mono ?_; rintro e w' ⟨rfl, rfl⟩))
  all_goals (go_ret; exact ⟨rfl, rfl⟩)

theorem back_over (a : Int) (HL : Hid (a.natAbs ≤ 9223372036854775808)) (w : World) (c1 : 9223372036854774783 < a)
    (hE : getE (putW a) = 3) :
    Calls Try.prog 3 #[.int .i64 a] w fun e w' => e = .returned (.bool true) ∧ w = w' := by
  go_enter Try.func3, Try.ntmps3
  go_wp2_with (first | (go_at_call 15; refine (alive_any _).mono ?_; rintro e w' ⟨rfl, rfl⟩) | (go_at_call 17; refine (put_any _ HL.out _).mono ?_; rintro e w' ⟨rfl, rfl⟩) | (go_at_call 16; refine (get_any _ (put_lt _) _).mono ?_; rintro e w' ⟨rfl, rfl⟩))
  all_goals (go_ret; exact ⟨rfl, rfl⟩)

theorem back_near (a b : Int) (HL : Hid (a.natAbs ≤ 9223372036854775808)) (w : World) (c1 : (decide (a < 9007199254740992) && decide (-9007199254740992 < a)) = false)
    (c2 : -512 ≤ a - b) (c3 : a - b ≤ 512)
    (hE : getE (putW a) = 0) (hA : getA (putW a) = b) :
    Calls Try.prog 3 #[.int .i64 a] w fun e w' => e = .returned (.bool true) ∧ w = w' := by
  by_cases h1 : a < 9007199254740992
  · have h2 : ¬ -9007199254740992 < a := by intro h; simp [h1, h] at c1
    clear c1
    go_enter Try.func3, Try.ntmps3
    go_wp2_with (first | (go_at_call 15; refine (alive_any _).mono ?_; rintro e w' ⟨rfl, rfl⟩) | (go_at_call 17; refine (put_any _ HL.out _).mono ?_; rintro e w' ⟨rfl, rfl⟩) | (go_at_call 16; refine (get_any _ (put_lt _) _).mono ?_; rintro e w' ⟨rfl, rfl⟩))
    all_goals (go_ret; exact ⟨rfl, rfl⟩)
  · clear c1
    go_enter Try.func3, Try.ntmps3
    go_wp2_with (first | (go_at_call 15; refine (alive_any _).mono ?_; rintro e w' ⟨rfl, rfl⟩) | (go_at_call 17; refine (put_any _ HL.out _).mono ?_; rintro e w' ⟨rfl, rfl⟩) | (go_at_call 16; refine (get_any _ (put_lt _) _).mono ?_; rintro e w' ⟨rfl, rfl⟩))
    all_goals (go_ret; exact ⟨rfl, rfl⟩)

theorem RealBack_walk (a : Int) (w0 : (Lit.int .i64 a).wf = true) (w : World) :
    Calls Try.prog 3 #[.int .i64 a] w fun e w' => e = .returned (.bool true) ∧ Below w.heap.size w w' := by
  have hb := bounds_i64 w0
  have hl : a.natAbs ≤ 9223372036854775808 := by omega
  have hback := put_back hl
  obtain ⟨n1, n2, n3⟩ := rnd_near hl
  have key : Calls Try.prog 3 #[.int .i64 a] w fun e w' => e = .returned (.bool true) ∧ w = w' := by
    have HL := Lib.hid hl
    rcases get_of_fin (put_tells hl).1 with ⟨h1, hE, hA⟩ | ⟨h1, hE, hA⟩
    · refine back_over a HL w ?_ hE
      rw [hback] at h1
      by_cases hn : a < 0
      · rw [if_pos hn] at h1; omega
      · rw [if_neg hn] at h1; omega
    · rw [hback] at hA
      by_cases hs : a < 9007199254740992 ∧ -9007199254740992 < a
      · refine back_small a HL w hs.1 hs.2 hE ?_
        rw [rnd_small (by omega)] at hA
        rw [hA]; split <;> omega
      · refine back_near a _ HL w ?_ ?_ ?_ hE hA
        · rw [Bool.and_eq_false_iff]; simp; omega
        · split <;> omega
        · split <;> omega
  exact below_of_same key
end Go.Proofs.Ytopkfjnhaikpaaa
