/- SheetRoom in plain form. -/
import Derived.Test.YtlgmabibcpkdmaaPAllx17
import Derived.Test.YtlgmabibcpkdmaaC4
namespace Go.Proofs.Ytlgmabibcpkdmaa.PAll
open Go.RowKit Go.Proofs.YtlgmabibcpkdmaaW.PrintWords Go.Proofs.YtlgmabibcpkdmaaW.PrintLast Go.Proofs.YtlgmabibcpkdmaaW.PrintMore
open Go.Proofs.Ytlgmabibcpkdmaa.V (byI byL byL_length okK okP okR ahK lfV lfT all_at)
set_option linter.unusedSimpArgs false
set_option linter.unusedVariables false

/-- a cell of the room's statement -/
def rmC (s : Int) (i : Nat) : S52 := if s ≤ 24 then ⟨i, s, 0, strOfNums (List.replicate s.toNat 0)⟩ else ⟨i, s, 2 + i, ⟨#[]⟩⟩
def rmL (s : Int) (n : Nat) : List S52 := (List.range n).map (rmC s)
theorem rmL_length (s : Int) (n : Nat) : (rmL s n).length = n := by unfold rmL; simp
theorem rmL_snoc (s : Int) (n : Nat) : rmL s (n + 1) = rmL s n ++ [rmC s n] := by unfold rmL; rw [List.range_succ, List.map_append]; rfl
theorem rd52r_at {l : List S52} {i : Nat} (h : i < l.length) : rd_T52 l (i : Int) = l[i] := by
  unfold rd_T52
  rw [Int.toNat_natCast, List.getD, List.getElem?_eq_getElem h]; rfl
theorem rmL_at (s : Int) {n j : Nat} (h : j < n) : rd_T52 (rmL s n) (j : Int) = rmC s j := by
  rw [rd52r_at (by rw [rmL_length]; exact h)]
  unfold rmL
  simp
theorem rmC_f0 (s : Int) (i : Nat) : (rmC s i).f0 = i := by unfold rmC; split <;> rfl
theorem rmC_f1 (s : Int) (i : Nat) : (rmC s i).f1 = s := by unfold rmC; split <;> rfl
/-- bytes of one cell -/
def oneOf (s : Int) : Int := if s ≤ 24 then 6 + s else 8
theorem rmC_len {s : Int} (h0 : 0 ≤ s) (h1 : s ≤ 40) (i : Nat) : ((encC (rmC s i)).length : Int) = oneOf s := by
  unfold encC rmC oneOf
  by_cases h : s ≤ 24
  · simp only [if_pos h, List.length_append, byL_length, bytesOf_len, strOfNums_size, List.length_replicate]
    unfold lfT
    rw [if_neg (by omega), List.length_nil]
    omega
  · simp only [if_neg h, List.length_append, byL_length, bytesOf_len]
    unfold lfT
    rw [if_pos (by omega), byL_length]
    rfl
theorem rmL_len {s : Int} (h0 : 0 ≤ s) (h1 : s ≤ 40) (n : Nat) : ((((rmL s n).map encC).flatten).length : Int) = n * oneOf s := by
  induction n with
  | zero => show (0 : Int) = ((0 : Nat) : Int) * _; rw [Int.natCast_zero, Int.zero_mul]
  | succ n ih =>
    rw [rmL_snoc, List.map_append, List.flatten_append, List.length_append, Int.natCast_add, ih, List.map_cons, List.map_nil, List.flatten_cons, List.flatten_nil, List.append_nil, rmC_len h0 h1, Int.natCast_add, Int.add_mul]
    omega
theorem rm_leafLen {s : Int} (h0 : 0 ≤ s) (h1 : s ≤ 40) (n : Nat) : ((leafL (rmL s n)).length : Int) = 2 + n * oneOf s := by
  unfold leafL
  rw [List.length_append, Int.natCast_add, rmL_len h0 h1]; rfl
theorem rm_valid {s : Int} (h0 : 0 ≤ s) (h1 : s ≤ 40) (n : Nat) (hn : n ≤ 30) : leafV (rmL s n) = true := by
  unfold leafV lfV
  rw [rmL_length, all_at]
  intro j hj
  rw [Bool.and_eq_true]
  constructor
  · show okK (rd_T52 (rmL s n) (j : Int)).f0 (ahK (fun i => (rd_T52 (rmL s n) i).f0) j) = true
    rw [rmL_at s hj, rmC_f0]
    unfold ahK
    cases j with
    | zero => rw [if_pos (by rfl)]; decide
    | succ j =>
      rw [if_neg (by omega), show ((j + 1 : Nat) : Int) - 1 = (j : Int) by omega]
      have e2 : (fun i => (rd_T52 (rmL s n) i).f0) (j : Int) = (j : Int) := by show (rd_T52 (rmL s n) (j : Int)).f0 = _; rw [rmL_at s (by omega), rmC_f0]
      rw [e2]
      unfold okK
      rw [decide_eq_true (by omega), decide_eq_true (by omega)]; rfl
  · show okR (rd_T52 (rmL s n) (j : Int)).f1 (rd_T52 (rmL s n) (j : Int)).f2 (rd_T52 (rmL s n) (j : Int)).f3 = true
    rw [rmL_at s hj, rmC_f1]
    unfold okR rmC
    by_cases h : s ≤ 24
    · simp only [if_pos h, strOfNums_size, List.length_replicate]
      rw [decide_eq_true (by omega)]; rfl
    · simp only [if_neg h]
      unfold okP
      rw [decide_eq_true (show s ≤ 900 by omega), decide_eq_true (show (2 : Int) ≤ 2 + (j : Int) by omega), decide_eq_true (show (2 : Int) + (j : Int) < 200 by omega)]; rfl
theorem rm_ok {s : Int} (h0 : 0 ≤ s) (h1 : s ≤ 40) (n : Nat) (hn : n ≤ 30) : leafOk (rmL s n) = decide (2 + (n : Int) * oneOf s ≤ 128) := by
  unfold leafOk
  rw [rmL_length, decide_eq_true (show n ≤ 128 by omega), rm_valid h0 h1 n hn, Bool.true_and, Bool.true_and]
  have := rm_leafLen h0 h1 n
  by_cases h : 2 + (n : Int) * oneOf s ≤ 128
  · rw [decide_eq_true h, decide_eq_true (by omega)]
  · rw [decide_eq_false h, decide_eq_false (by omega)]
theorem rm_step (k : Nat) (n s : Int) (l : List S52) (i : Nat) (hi : (i : Int) < n) (hs : i ≤ 1000) (hl : l.length ≤ 1000) (h0 : 0 ≤ s) (h1 : s ≤ 40) : maquettelaw15_SheetRoom.l0 (k + 2) n s l (i : Int) = maquettelaw15_SheetRoom.l0 k n s (l ++ [rmC s i]) ((i + 1 : Nat) : Int) := by
  conv => lhs; simp only [maquettelaw15_SheetRoom.l0, maquettelaw15_SheetRoom.j2]
  unfold rmC
  rw [if_pos hi, show wrap64 ((i : Int) + 1) = ((i + 1 : Nat) : Int) from by unfold wrap64; omega]
  by_cases h : s ≤ 24
  · rw [if_pos h, if_pos h0, if_pos (by omega), if_pos (by omega), if_pos h]
  · rw [if_neg h, if_pos (by omega), if_neg h, show wrap64 (2 + (i : Int)) = 2 + (i : Int) from by unfold wrap64; omega]
theorem rm_loop (s : Int) (h0 : 0 ≤ s) (h1 : s ≤ 40) (n : Nat) (hn : n ≤ 1000) (d : Nat) : ∀ (k i : Nat), n - i = d → i ≤ n → maquettelaw15_SheetRoom.l0 (k + 1 + 2 * d) (n : Int) s (rmL s i) (i : Int) = maquettelaw15_SheetRoom.l0 (k + 1) (n : Int) s (rmL s n) (n : Int) := by
  induction d with
  | zero =>
    intro k i hd hi
    obtain rfl : i = n := by omega
    rfl
  | succ d ih =>
    intro k i hd hi
    rw [show k + 1 + 2 * (d + 1) = k + 1 + 2 * d + 2 by omega, rm_step _ _ _ _ _ (by omega) (by omega) (by rw [rmL_length]; omega) h0 h1, ← rmL_snoc]
    exact ih k (i + 1) (by omega) (by omega)
theorem rm_j3 (k : Nat) (s : Int) (h0 : 0 ≤ s) (h1 : s ≤ 40) (n : Nat) (hn : n ≤ 30) : maquettelaw15_SheetRoom.j3 (k + 2) (n : Int) (rmL s n) (oneOf s) = some true := by
  simp only [maquettelaw15_SheetRoom.j3]
  unfold sheet_Fits.f
  rw [leaf_k, Option.bind_some, Option.bind_some]
  have hb : 0 ≤ oneOf s ∧ oneOf s ≤ 40 := by unfold oneOf; split <;> omega
  have hm : 0 ≤ (n : Int) * oneOf s ∧ (n : Int) * oneOf s ≤ 1200 := by
    constructor
    · exact Int.mul_nonneg (by omega) hb.1
    · have := Int.mul_le_mul (show (n : Int) ≤ 30 by omega) hb.2 hb.1 (by decide)
      omega
  rw [show wrap64 ((n : Int) * oneOf s) = (n : Int) * oneOf s from by unfold wrap64; omega, show wrap64 (2 + (n : Int) * oneOf s) = 2 + (n : Int) * oneOf s from by unfold wrap64; omega]
  unfold leafR
  rw [rm_ok h0 h1 n hn]
  by_cases h : 2 + (n : Int) * oneOf s ≤ 128
  · rw [decide_eq_true h]; rfl
  · have e : ((⟨#[]⟩ : ByteArray).toList == ([] : List UInt8)) = true := by rw [ByteArray.toList_eq]; rfl
    rw [decide_eq_false h]
    simp only [Bool.false_eq_true, if_false, beq_self_eq_true, if_true, Option.bind_some, e, maquettelaw15_SheetRoom.j4]
theorem room_k (a0 a1 : Int) : maquettelaw15_SheetRoom.f 3000 a0 a1 = some true := by
  have hj : maquettelaw15_SheetRoom.j0 (2999 + 1) a0 a1 true = some true := by
    simp only [maquettelaw15_SheetRoom.j0, if_true]
    rw [alive_k _ (by decide)]; rfl
  unfold maquettelaw15_SheetRoom.f
  by_cases h1 : a0 < 0
  · rw [if_pos h1]; exact hj
  rw [if_neg h1]
  by_cases h2 : a0 > 30
  · rw [if_pos h2]; exact hj
  rw [if_neg h2]
  by_cases h3 : a1 < 0
  · rw [if_pos h3]; exact hj
  rw [if_neg h3]
  by_cases h4 : a1 > 40
  · rw [if_pos h4]; exact hj
  rw [if_neg h4, alive_k _ (by decide), Option.bind_some]
  show maquettelaw15_SheetRoom.j0 (2999 + 1) a0 a1 (!true) = some true
  simp only [maquettelaw15_SheetRoom.j0, Bool.not_true, Bool.false_eq_true, if_false]
  obtain ⟨n, rfl⟩ : ∃ n : Nat, a0 = n := ⟨a0.toNat, by omega⟩
  obtain ⟨k, hk⟩ : ∃ k : Nat, 2999 = k + 2 + 1 + 2 * n := ⟨2996 - 2 * n, by omega⟩
  have := rm_loop a1 (by omega) (by omega) n (by omega) n (k + 2) 0 (by omega) (by omega)
  rw [← hk] at this
  rw [show ([] : List S52) = rmL a1 0 from rfl, show (0 : Int) = ((0 : Nat) : Int) from rfl, this]
  have hj3 := rm_j3 k a1 (by omega) (by omega) n (by omega)
  simp only [maquettelaw15_SheetRoom.l0]
  rw [if_neg (by omega)]
  unfold oneOf at hj3
  by_cases h : a1 ≤ 24
  · rw [if_pos h] at hj3
    rw [if_pos h, show wrap64 (6 + a1) = 6 + a1 from by unfold wrap64; omega]; exact hj3
  · rw [if_neg h] at hj3
    rw [if_neg h]; exact hj3
end Go.Proofs.Ytlgmabibcpkdmaa.PAll
namespace Go.Proofs.Ytlgmabibcpkdmaa.Pure
open Go.RowKit Go.Proofs.Ytlgmabibcpkdmaa.PAll
theorem SheetRoom : maquettelaw15_SheetRoom.Pure := fun a0 a1 _ _ => ⟨3000, room_k a0 a1⟩
end Go.Proofs.Ytlgmabibcpkdmaa.Pure
