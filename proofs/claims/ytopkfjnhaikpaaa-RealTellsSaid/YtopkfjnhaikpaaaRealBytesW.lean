/- The walk of RealBytes. -/
import Derived.Test.YtopkfjnhaikpaaaBy
import Derived.Test.YtopkfjnhaikpaaaR
import Derived.Outline
namespace Go.Proofs.Ytopkfjnhaikpaaa
open Go.Fl
open Go.RowKit
set_option linter.unusedVariables false
set_option linter.unusedSimpArgs false

theorem bytes_long (a0 : Int) (more : ByteArray) (w : World) (h : 30 < (more.size : Int)) :
    Calls Try.prog 13 #[.int .u64 a0, .string more] w fun e w' => e = .returned (.bool true) ∧ Below w.heap.size w w' := by
  go_enter Try.func13, Try.ntmps13
  go_wp2_with (first | (go_at_call 15; refine (alive_any _).mono ?_; rintro e w' ⟨rfl, rfl⟩))
  all_goals (go_ret; exact ⟨rfl, Below.refl _ _⟩)

theorem bytes_core (x : Nat) (more s : ByteArray) (y z : Nat) (L : Bool) (w : World) (h : ¬ 30 < (more.size : Int))
    (B : Hid (∀ w, Calls Try.prog 26 #[.float .f64 x] w fun e w' => e = .returned (.string s) ∧ Below w.heap.size w w'))
    (R1 : Hid (∀ w, Calls Try.prog 27 #[.string s] w fun e w' => e = .returned (.tuple #[.float .f64 x, .bool true]) ∧ w = w'))
    (R2 : Hid (∀ w, Calls Try.prog 27 #[.string (s.extract 0 7)] w fun e w' => e = .returned (.tuple #[.float .f64 y, .bool false]) ∧ w = w'))
    (R3 : Hid (∀ w, Calls Try.prog 27 #[.string (s ++ more)] w fun e w' => e = .returned (.tuple #[.float .f64 z, .bool L]) ∧ w = w'))
    (hs : ((s.size : Int) != 8) = false) (p0 : 0 < s.size) (p7 : 7 < s.size) (h8 : 8 ≤ s.size) (hm : s.size ≤ 8) (hmm : more.size ≤ 30)
    (e0 : (s[0].toNat : Int) = (x : Int) / 72057594037927936 % 256) (e7 : (s[7].toNat : Int) = (x : Int) % 256) (hL : Hid (L = more.toList.isEmpty)) :
    Calls Try.prog 13 #[.int .u64 (x : Int), .string more] w fun e w' => e = .returned (.bool true) ∧ Below w.heap.size w w' := by
  go_enter Try.func13, Try.ntmps13
  go_wp2_with (first | (go_at_call 15; refine (alive_any _).mono ?_; rintro e w' ⟨rfl, rfl⟩) | (go_at_call 26; refine (B.out _).mono ?_; rintro e w' ⟨rfl, hb⟩) | (go_at_call 27; with_reducible refine (R1.out _).mono ?_; rintro e w' ⟨rfl, rfl⟩) | (go_at_call 27; with_reducible refine (R2.out _).mono ?_; rintro e w' ⟨rfl, rfl⟩) | (go_at_call 27; with_reducible refine (R3.out _).mono ?_; rintro e w' ⟨rfl, rfl⟩))
  all_goals (go_ret; exact ⟨ret_bool (by first | rfl | (rw [hL.out]; exact beq_self_eq_true _)), hb⟩)

/-- the eight bytes -/
def bs (x : Nat) : ByteArray := strOfNums (byL x 8)
theorem bs_list (x : Nat) : (bs x).data.toList = [UInt8.ofNat (byI x 56).toNat, UInt8.ofNat (byI x 48).toNat, UInt8.ofNat (byI x 40).toNat, UInt8.ofNat (byI x 32).toNat, UInt8.ofNat (byI x 24).toNat, UInt8.ofNat (byI x 16).toNat, UInt8.ofNat (byI x 8).toNat, UInt8.ofNat (byI x 0).toNat] := rfl
theorem bs_size (x : Nat) : (bs x).size = 8 := rfl
theorem by_nat (x s : Nat) : (UInt8.ofNat (byI x s).toNat).toNat = x / 2 ^ s % 256 := by
  unfold byI
  rw [UInt8.toNat_ofNat']
  have : ((x : Int) / 2 ^ s % 256).toNat = x / 2 ^ s % 256 := by
    have e : (x : Int) / 2 ^ s = ((x / 2 ^ s : Nat) : Int) := by rw [Int.natCast_ediv]; simp
    rw [e]; omega
  rw [this]; omega

theorem st (x a b : Nat) (h : b = a + 8) : x / 2 ^ b * 256 + x / 2 ^ a % 256 = x / 2 ^ a := by
  subst h
  rw [Nat.pow_add, ← Nat.div_div_eq_div_mul]
  generalize x / 2 ^ a = y
  show y / 256 * 256 + y % 256 = y
  omega
theorem rdN_bs {x : Nat} (h : x < 18446744073709551616) : rdN (bs x).data.toList = x := by
  rw [bs_list]
  unfold rdN
  simp only [List.foldl_cons, List.foldl_nil, by_nat]
  have e1 : 0 * 256 + x / 2 ^ 56 % 256 = x / 2 ^ 56 := by
    rw [Nat.zero_mul, Nat.zero_add]; exact Nat.mod_eq_of_lt (Nat.div_lt_of_lt_mul h)
  have e2 : x / 2 ^ 56 * 256 + x / 2 ^ 48 % 256 = x / 2 ^ 48 := st x 48 56 rfl
  have e3 : x / 2 ^ 48 * 256 + x / 2 ^ 40 % 256 = x / 2 ^ 40 := st x 40 48 rfl
  have e4 : x / 2 ^ 40 * 256 + x / 2 ^ 32 % 256 = x / 2 ^ 32 := st x 32 40 rfl
  have e5 : x / 2 ^ 32 * 256 + x / 2 ^ 24 % 256 = x / 2 ^ 24 := st x 24 32 rfl
  have e6 : x / 2 ^ 24 * 256 + x / 2 ^ 16 % 256 = x / 2 ^ 16 := st x 16 24 rfl
  have e7 : x / 2 ^ 16 * 256 + x / 2 ^ 8 % 256 = x / 2 ^ 8 := st x 8 16 rfl
  have e8 : x / 2 ^ 8 * 256 + x / 2 ^ 0 % 256 = x := by rw [st x 0 8 rfl, Nat.pow_zero, Nat.div_one]
  rw [e1, e2, e3, e4, e5, e6, e7, e8]

theorem RealBytes_walk (a0 : Int) (more : ByteArray) (w0 : (Lit.int .u64 a0).wf = true) (_y1 : more.size ≤ maxLen) (w : World) :
    Calls Try.prog 13 #[.int .u64 a0, .string more] w fun e w' => e = .returned (.bool true) ∧ Below w.heap.size w w' := by
  have b0 := bounds_u64 w0
  obtain ⟨x, rfl⟩ := Int.eq_ofNat_of_zero_le b0.1
  have hx : x < 18446744073709551616 := by omega
  by_cases hm : 30 < (more.size : Int)
  · exact bytes_long _ more w hm
  · have r1 := fun w => read_eight (bs x) w (bs_size x)
    rw [rdN_bs hx] at r1
    have s7 : ((bs x).extract 0 7).size = 7 := by rw [ByteArray.size_extract, bs_size]; decide
    have r2 := fun w => read_short ((bs x).extract 0 7) w (by rw [s7]; rfl)
    have g0 : (((bs x)[0]'(by rw [bs_size]; decide)).toNat : Int) = (x : Int) / 72057594037927936 % 256 := by
      have e : (bs x)[0]'(by rw [bs_size]; decide) = UInt8.ofNat (byI x 56).toNat := rfl
      rw [e, by_nat]; omega
    have g7 : (((bs x)[7]'(by rw [bs_size]; decide)).toNat : Int) = (x : Int) % 256 := by
      have e : (bs x)[7]'(by rw [bs_size]; decide) = UInt8.ofNat (byI x 0).toNat := rfl
      rw [e, by_nat]; omega
    have hsz : (bs x ++ more).size = 8 + more.size := by rw [ByteArray.size_append, bs_size]
    by_cases he : more.size = 0
    · have r3 := fun w => read_eight (bs x ++ more) w (by omega)
      exact bytes_core x more (bs x) 0 _ true w hm (Lib.hid (bytes_any x)) (Lib.hid r1) (Lib.hid r2) (Lib.hid r3) (by rw [bs_size]; rfl) (by rw [bs_size]; decide) (by rw [bs_size]; decide) (by rw [bs_size]; decide) (by rw [bs_size]; decide) (by omega) g0 g7
        (Lib.hid (by
          have : more.toList = [] := by rw [ByteArray.toList_eq]; exact List.eq_nil_of_length_eq_zero (by simpa using he)
          rw [this]; rfl))
    · have r3 := fun w => read_short (bs x ++ more) w (by rw [hsz]; simp; omega)
      exact bytes_core x more (bs x) 0 _ false w hm (Lib.hid (bytes_any x)) (Lib.hid r1) (Lib.hid r2) (Lib.hid r3) (by rw [bs_size]; rfl) (by rw [bs_size]; decide) (by rw [bs_size]; decide) (by rw [bs_size]; decide) (by rw [bs_size]; decide) (by omega) g0 g7
        (Lib.hid (by
          have : more.toList ≠ [] := by
            rw [ByteArray.toList_eq]; intro h; have := congrArg List.length h; rw [Array.length_toList] at this; exact he this
          cases hl : more.toList
          · exact absurd hl this
          · rfl))
end Go.Proofs.Ytopkfjnhaikpaaa
