/- Statements of chapter 18 in plain form: what is shared. -/
import Derived.Test.YtbjknbfagadhfaaQC3
namespace Go.Proofs.Ytbjknbfagadhfaa.PAll
open Go.RowKit Go.Proofs.YtbjknbfagadhfaaW.PrintWords Go.Proofs.YtbjknbfagadhfaaW.PrintLast Go.Proofs.YtbjknbfagadhfaaW.PrintMore
open Go.Proofs.Ytbjknbfagadhfaa.V (byI byL byL_length byL_snoc inL inL_length)
set_option linter.unusedSimpArgs false
set_option linter.unusedVariables false

theorem get_any (b : ByteArray) : ∃ (a0 a1 a2 a3 a4 a5 a6 a7 a8 a9 a10 a11 a12 : Int) (l : List Int) (is : Bool), (∀ k, 1000 ≤ k → clay_Get.f k b = some (a0, a1, a2, a3, a4, a5, a6, a7, a8, a9, a10, a11, a12, l, is)) ∧ l.length ≤ 255 ∧ (is = true → okT a0 a1 a2 a3 a4 a5 a6 a7 a8 a9 a10 a11 a12 l ∧ b = strOfNums (putL a0 a1 a2 a3 a4 a5 a6 a7 a8 a9 a10 a11 a12 l)) ∧ (is = false → a1 = 0 ∧ a0 = 0) := by
  obtain ⟨bad, x0, x1, x2, x3, x4, x5, x6, x7, x8, x9, x10, x11, x12, l, hl, e⟩ := get_ex (okB_bytesOf b)
  rw [strOf_bytesOf] at e
  by_cases h : (!bad && (decide (okT x0 x1 x2 x3 x4 x5 x6 x7 x8 x9 x10 x11 x12 l) && decide (strOfNums (putL x0 x1 x2 x3 x4 x5 x6 x7 x8 x9 x10 x11 x12 l) = b))) = true
  · refine ⟨x0, x1, x2, x3, x4, x5, x6, x7, x8, x9, x10, x11, x12, l, true, fun k hk => ?_, hl, fun _ => ?_, fun h => (by cases h)⟩
    · rw [e k hk]; unfold fin; rw [if_pos h]
    · simp only [Bool.and_eq_true, decide_eq_true_eq] at h
      exact ⟨h.2.1, h.2.2.symm⟩
  · refine ⟨0, 0, 0, 0, 0, 0, 0, 0, 0, 0, 0, 0, 0, [], false, fun k hk => ?_, by simp, fun h => (by cases h), fun _ => ⟨rfl, rfl⟩⟩
    rw [e k hk]; unfold fin; rw [if_neg h]

theorem byL1 {x : Int} (h0 : 0 ≤ x) (h1 : x < 256) : byL x 1 1 = [x] := by
  have : byL x 1 1 = [byI x 0] := rfl
  rw [this, show (0 : Int) = ((0 : Nat) : Int) from rfl, byI_plain x 0 (by decide)]
  simp; omega
theorem inL_len (l : List Int) : (inL l).length = 4 * l.length := inL_length l
theorem okB_putL (a0 a1 a2 a3 a4 a5 a6 a7 a8 a9 a10 a11 a12 : Int) (l : List Int) : okB (putL a0 a1 a2 a3 a4 a5 a6 a7 a8 a9 a10 a11 a12 l) := by
  unfold putL
  split
  · repeat (first | exact okB_nil | exact okB_byL _ _ _ | refine okB_append.2 ⟨?_, ?_⟩)
  · split
    · repeat (first | exact okB_nil | exact okB_byL _ _ _ | refine okB_append.2 ⟨?_, ?_⟩)
    · repeat (first | exact okB_nil | exact okB_inL _ | exact okB_byL _ _ _ | refine okB_append.2 ⟨?_, ?_⟩)
theorem putL_shape {a0 a1 a2 a3 a4 a5 a6 a7 a8 a9 a10 a11 a12 : Int} {l : List Int} (h : okT a0 a1 a2 a3 a4 a5 a6 a7 a8 a9 a10 a11 a12 l) : ∃ t, putL a0 a1 a2 a3 a4 a5 a6 a7 a8 a9 a10 a11 a12 l = a1 :: t ∧ ((a1 = 1 ∧ t.length = 61) ∨ (a1 = 2 ∧ t.length = 20) ∨ (a1 = 3 ∧ t.length = 5 + 4 * l.length ∧ 1 ≤ l.length ∧ l.length ≤ 8)) := by
  unfold putL
  rcases h.2 with h | h | h
  · rw [if_pos h.1, h.1, byL1 (by decide) (by decide), List.cons_append, List.nil_append]
    refine ⟨_, rfl, .inl ⟨rfl, ?_⟩⟩
    simp only [List.nil_append, List.length_append, byL_length, List.length_nil]
  · rw [if_neg (by omega), if_pos h.1, h.1, byL1 (by decide) (by decide), List.cons_append, List.nil_append]
    refine ⟨_, rfl, .inr (.inl ⟨rfl, ?_⟩)⟩
    simp only [List.nil_append, List.length_append, byL_length, List.length_nil]
  · rw [if_neg (by omega), if_neg (by omega), h.1, byL1 (by decide) (by decide), List.cons_append, List.nil_append]
    refine ⟨_, rfl, .inr (.inr ⟨rfl, ?_, h.2.2.2.2.1, h.2.2.2.2.2⟩)⟩
    simp only [List.nil_append, List.length_append, byL_length, inL_length]
    omega

theorem strOf_append (a b : List Int) : strOfNums a ++ strOfNums b = strOfNums (a ++ b) := by
  have : (strOfNums a ++ strOfNums b).data.toList = (strOfNums (a ++ b)).data.toList := by
    rw [strOfNums_data, List.map_append, ← strOfNums_data, ← strOfNums_data]; simp
  cases h : strOfNums a ++ strOfNums b with
  | mk d => rw [h] at this; cases h2 : strOfNums (a ++ b) with
    | mk e => rw [h2] at this; congr 1; exact Array.toList_inj.1 this

theorem xor_u8 {x b : Int} (h0 : 0 ≤ x) (h1 : x < 256) (b0 : 0 ≤ b) (b1 : b < 256) (hb : b ≠ 0) : (0 ≤ Go.bits .xor .u8 x b ∧ Go.bits .xor .u8 x b < 256) ∧ Go.bits .xor .u8 x b ≠ x := by
  obtain ⟨m, rfl⟩ := Int.eq_ofNat_of_zero_le h0
  obtain ⟨n, rfl⟩ := Int.eq_ofNat_of_zero_le b0
  have hm : m % 2 ^ IntKind.u8.bits = m := Nat.mod_eq_of_lt (by show m < 256; omega)
  have hn : n % 2 ^ IntKind.u8.bits = n := Nat.mod_eq_of_lt (by show n < 256; omega)
  have hlt : m ^^^ n < 256 := Nat.xor_lt_two_pow (n := 8) (by omega) (by omega)
  have e : Go.bits .xor .u8 (m : Int) (n : Int) = ((m ^^^ n : Nat) : Int) := by
    simp only [bits, BitVec.ofInt_natCast, BitVec.toNat_xor, BitVec.toNat_ofNat, hm, hn]
    rw [IntKind.wrap_u8]; omega
  rw [e]
  refine ⟨⟨by omega, by omega⟩, fun h => ?_⟩
  have h2 : m ^^^ n = m := by omega
  have h3 : m ^^^ (m ^^^ n) = 0 := by rw [h2, Nat.xor_self]
  rw [← Nat.xor_assoc, Nat.xor_self, Nat.zero_xor] at h3
  omega
end Go.Proofs.Ytbjknbfagadhfaa.PAll
