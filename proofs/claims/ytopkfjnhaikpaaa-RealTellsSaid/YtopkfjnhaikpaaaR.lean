/- The walk of real.Read. -/
import Derived.Test.YtopkfjnhaikpaaaC
import Derived.LoopTactic
import Derived.Outline
import Derived.Laws.BitsLemmas
namespace Go.Proofs.Ytopkfjnhaikpaaa
open Go.Fl
open Go.RowKit

/-- the number of bytes, the first on top -/
def rdN (l : List UInt8) : Nat := l.foldl (fun n c => n * 256 + c.toNat) 0
theorem rdN_snoc (l : List UInt8) (c : UInt8) : rdN (l ++ [c]) = rdN l * 256 + c.toNat := by unfold rdN; rw [List.foldl_append]; rfl
theorem rdN_lt (l : List UInt8) : rdN l < 256 ^ l.length := by
  have h : ∀ (l : List UInt8) (n : Nat) (m : Nat), n < m → l.foldl (fun n c => n * 256 + c.toNat) n < m * 256 ^ l.length := by
    intro l
    induction l with
    | nil => intro n m h; simpa using h
    | cons c l ih =>
      intro n m h
      have hc := c.toNat_lt
      have := ih (n * 256 + c.toNat) (m * 256) (by omega)
      rw [List.length_cons, Nat.pow_succ, Nat.mul_comm (256 ^ l.length) 256, ← Nat.mul_assoc]
      exact this
  have := h l 0 1 (by decide)
  rw [Nat.one_mul] at this
  exact this

theorem read_short (s : ByteArray) (w : World) (h : ((s.size : Int) == 8) = false) :
    Calls Try.prog 27 #[.string s] w fun e w' => e = .returned (.tuple #[.float .f64 0, .bool false]) ∧ w = w' := by
  have h' : ((s.size : Int) != 8) = true := by simpa using h
  go_enter Try.func27, Try.ntmps27
  go_wp2
  go_ret2
  exact ⟨rfl, rfl⟩

theorem take_snoc (s : ByteArray) (k : Nat) (h : k < s.size) : s.data.toList.take (k + 1) = s.data.toList.take k ++ [s[k]] := by
  rw [List.take_succ_eq_append_getElem (by simpa using h)]; rfl

theorem wrap_u64 (n : Int) : IntKind.u64.wrap n = n % 18446744073709551616 := by simp [IntKind.wrap, IntKind.bits, IntKind.signed]

theorem join_byte (n : Nat) (c : UInt8) (h : n * 256 < 18446744073709551616) :
    bits BinOp.or IntKind.u64 (IntKind.u64.wrap ((n : Int) * 256)) (IntKind.u64.wrap (c.toNat : Int)) = ((n * 256 + c.toNat : Nat) : Int) := by
  have hc := c.toNat_lt
  rw [wrap_u64, wrap_u64, Int.emod_eq_of_lt (by omega) (by omega), Int.emod_eq_of_lt (by omega) (by omega)]
  have hw : ∀ n : Int, 0 ≤ n → n < 2 ^ 64 → IntKind.u64.wrap n = n := fun n a b => by
    have b' : n < 18446744073709551616 := b
    rw [wrap_u64]; omega
  have h64 : (n : Int) * 256 < 2 ^ 64 := by show (n : Int) * 256 < 18446744073709551616; omega
  have c64 : (c.toNat : Int) < 2 ^ 64 := by show (c.toNat : Int) < 18446744073709551616; omega
  rw [bits_join .u64 64 (by decide) hw 8 _ _ (by omega) (by omega) h64 (by omega) (by omega) c64]
  omega

theorem ret_u64 {a b : Int} (h : a = b) : Value.int .u64 a = .int .u64 b := by rw [h]

theorem read_eight (s : ByteArray) (w : World) (h : s.size = 8) :
    Calls Try.prog 27 #[.string s] w fun e w' => e = .returned (.tuple #[.float .f64 (rdN s.data.toList), .bool true]) ∧ w = w' := by
  have h' : ((s.size : Int) != 8) = false := by simp [h]
  have H := Lib.hid h
  clear h
  go_enter Try.func27, Try.ntmps27
  go_wp2
  go_loop [4, 11] (fun n i => ∃ k : Nat, k ≤ 8 ∧ i = .int .i64 k ∧ n = .int .u64 (rdN (s.data.toList.take k))) (fun _ i => 8 - (intOf i).toNat)
  case atStart => exact ⟨0, Nat.zero_le _, rfl, rfl⟩
  case round =>
    obtain ⟨k, hk, rfl, rfl⟩ := hrel
    have hsz : s.size ≤ 8 := by have := H.out; omega
    have hsz2 : 8 ≤ s.size := by have := H.out; omega
    by_cases hlt : k < s.size
    · have hn := rdN_lt (s.data.toList.take k)
      have hl : (s.data.toList.take k).length ≤ 7 := by rw [List.length_take]; omega
      have hp : (256 : Nat) ^ (s.data.toList.take k).length ≤ 256 ^ 7 := Nat.pow_le_pow_right (by decide) hl
      have hb : rdN (s.data.toList.take k) * 256 < 18446744073709551616 := by
        have : (256 : Nat) ^ 7 = 72057594037927936 := by decide
        omega
      have hj := join_byte _ s[k] hb
      have hs := rdN_snoc (s.data.toList.take k) s[k]
      rw [← take_snoc s k hlt] at hs
      rw [← hs] at hj
      have HJ := Lib.hid hj
      clear hn hl hp hb hj hs
      go_wp2
      exact ⟨⟨k + 1, by omega, by go_num, ret_u64 HJ.out⟩, by simp [intOf]; omega⟩
    · have hk8 : List.take k s.data.toList = s.data.toList := List.take_of_length_le (by simp; omega)
      rw [hk8]
      clear hk8
      go_wp2
      go_ret2
      exact ⟨rfl, rfl⟩
end Go.Proofs.Ytopkfjnhaikpaaa
