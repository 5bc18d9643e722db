/- Of the texts that the row stands on, what it needs (part 6), put together by a program of this session. -/
import Derived.Test.YtpeeojbhfebcdaaZtT5
import Derived.Lib.Hide
namespace Go.Proofs.Ytpeeojbhfebcdaa.V
open Go.RowKit Go.Proofs.YtpeeojbhfebcdaaW.PrintWords Go.Proofs.YtpeeojbhfebcdaaW.PrintLast Go.Proofs.YtpeeojbhfebcdaaW.PrintMore
set_option linter.unusedVariables false
set_option linter.unusedSimpArgs false
def zer (n : Nat) : ByteArray := ⟨(List.replicate n (0 : UInt8)).toArray⟩
theorem zer_size (n : Nat) : (zer n).size = n := by
  show (List.replicate n (0 : UInt8)).toArray.size = n
  rw [List.size_toArray, List.length_replicate]
theorem repeat_zer (n : Nat) : (⟨(Lib.repeatL (⟨#[0]⟩ : ByteArray).data.toList n).toArray⟩ : ByteArray) = zer n := by
  unfold zer
  congr 2
  induction n with
  | zero => rfl
  | succ n ih => rw [List.replicate_succ, ← ih]; rfl
theorem full_no (s : ByteArray) (w : World) (h : 128 < s.size) : Calls Try.prog 60 #[.string s] w fun e w' => e = .returned (.tuple #[.string ⟨#[]⟩, .bool false]) ∧ Below w.heap.size w w' := by
  have h0 : decide ((128 : Int) < (s.size : Int)) = true := decide_eq_true (by omega)
  clear h
  go_enter Try.func60, Try.ntmps60
  go_wp2
  go_ret2
  exact ⟨rfl, Below.refl _ _⟩
theorem full_yes (s : ByteArray) (w : World) (h : s.size ≤ 128) : Calls Try.prog 60 #[.string s] w fun e w' => e = .returned (.tuple #[.string (s ++ zer (128 - s.size)), .bool true]) ∧ Below w.heap.size w w' := by
  have h0 : decide ((128 : Int) < (s.size : Int)) = false := decide_eq_false (by omega)
  have hq : (128 : Int) - (s.size : Int) = ((128 - s.size : Nat) : Int) := by omega
  have hw : wrap64 ((128 : Int) - (s.size : Int)) = ((128 - s.size : Nat) : Int) := by unfold wrap64; omega
  have HN := Aside0.mk (show 128 - s.size ≤ 128 by omega)
  have hsz : (s ++ zer (128 - s.size)).size = 128 := by rw [ByteArray.size_append, zer_size]; omega
  have HZ := Aside0.mk hsz
  have hs2 : (zer (128 - s.size)).size = 128 - s.size := zer_size _
  have hadd : (s.size + (zer (128 - s.size)).size ≤ 9223372036854775807) = True := eq_true (by rw [hs2]; omega)
  have hadd2 : (9223372036854775807 < s.size + (zer (128 - s.size)).size) = False := eq_false (by rw [hs2]; omega)
  have HS2 := Aside0.mk hs2
  clear hsz h hs2
  go_enter Try.func60, Try.ntmps60
  go_wp2_with (first | (go_at_call 41; (try rw [hw]); (try rw [hq]); refine (Go.Proofs.Try.strings_Repeat ⟨#[0]⟩ (128 - s.size) _ (by have := HN.out; omega) (by have := HN.out; show 1 * (128 - s.size) ≤ _; omega)).mono ?_; rintro e w1 ⟨rfl, hb⟩; rw [repeat_zer]; have HB := Aside0.mk hb; clear hb))
  go_ret2
  exact ⟨rfl, HB.out⟩
end Go.Proofs.Ytpeeojbhfebcdaa.V

