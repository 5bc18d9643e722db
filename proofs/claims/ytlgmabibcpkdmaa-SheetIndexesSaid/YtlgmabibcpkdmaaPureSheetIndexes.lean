/- SheetIndexes in plain form. -/
import Derived.Test.YtlgmabibcpkdmaaPAllx10
import Derived.Test.YtlgmabibcpkdmaaC5
namespace Go.Proofs.Ytlgmabibcpkdmaa.PAll
open Go.RowKit Go.Proofs.YtlgmabibcpkdmaaW.PrintWords Go.Proofs.YtlgmabibcpkdmaaW.PrintLast Go.Proofs.YtlgmabibcpkdmaaW.PrintMore
open Go.Proofs.Ytlgmabibcpkdmaa.V (okK okP okR ahK idxV all_at)
set_option linter.unusedSimpArgs false
set_option linter.unusedVariables false

/-- slots of one page, of keys 0, 3, 6 .. -/
def ixL (p : Int) (n : Nat) : List S41 := (List.range n).map fun (i : Nat) => ⟨3 * (i : Int), p⟩
theorem ixL_length (p : Int) (n : Nat) : (ixL p n).length = n := by unfold ixL; simp
theorem ixL_snoc (p : Int) (n : Nat) : ixL p (n + 1) = ixL p n ++ [⟨3 * (n : Int), p⟩] := by unfold ixL; rw [List.range_succ, List.map_append]; rfl
theorem ixL_at (p : Int) {n j : Nat} (h : j < n) : rd_T41 (ixL p n) (j : Int) = ⟨3 * (j : Int), p⟩ := by
  rw [rd41_at (by rw [ixL_length]; exact h)]
  unfold ixL
  simp
theorem ix_step (k : Nat) (n p : Int) (l : List S41) (i : Nat) (hi : (i : Int) < n) (hs : i ≤ 1000) (hl : l.length ≤ 1000) : maquettelaw15_SheetIndexes.l0 (k + 1) n p l (i : Int) = maquettelaw15_SheetIndexes.l0 k n p (l ++ [⟨3 * (i : Int), p⟩]) ((i + 1 : Nat) : Int) := by
  conv => lhs; simp only [maquettelaw15_SheetIndexes.l0]
  rw [if_pos hi, if_pos (by omega), show wrap64 (3 * (i : Int)) = 3 * (i : Int) from by unfold wrap64; omega, show wrap64 ((i : Int) + 1) = ((i + 1 : Nat) : Int) from by unfold wrap64; omega]
theorem ix_loop (p : Int) (n : Nat) (hn : n ≤ 1000) (d : Nat) : ∀ (k i : Nat), n - i = d → i ≤ n → maquettelaw15_SheetIndexes.l0 (k + 1 + d) (n : Int) p (ixL p i) (i : Int) = maquettelaw15_SheetIndexes.l0 (k + 1) (n : Int) p (ixL p n) (n : Int) := by
  induction d with
  | zero =>
    intro k i hd hi
    obtain rfl : i = n := by omega
    rfl
  | succ d ih =>
    intro k i hd hi
    rw [show k + 1 + (d + 1) = k + 1 + d + 1 by omega, ix_step _ _ _ _ _ (by omega) (by omega) (by rw [ixL_length]; omega), ← ixL_snoc]
    exact ih k (i + 1) (by omega) (by omega)
theorem ix_keys {p : Int} {n : Nat} (hn : n ≤ 1000) {j : Nat} (h : j < n) : okK ((fun i => (rd_T41 (ixL p n) i).f0) j) (ahK (fun i => (rd_T41 (ixL p n) i).f0) j) = true := by
  have e : (fun i => (rd_T41 (ixL p n) i).f0) (j : Int) = 3 * (j : Int) := by show (rd_T41 (ixL p n) (j : Int)).f0 = _; rw [ixL_at p h]
  rw [e]
  unfold ahK
  cases j with
  | zero => rw [if_pos (by rfl)]; decide
  | succ j =>
    rw [if_neg (by omega), show ((j + 1 : Nat) : Int) - 1 = (j : Int) by omega]
    have e2 : (fun i => (rd_T41 (ixL p n) i).f0) (j : Int) = 3 * (j : Int) := by show (rd_T41 (ixL p n) (j : Int)).f0 = _; rw [ixL_at p (by omega)]
    rw [e2]
    unfold okK
    rw [decide_eq_true (by omega), decide_eq_true (by omega)]; rfl
theorem ix_ok {p : Int} (h2 : 2 ≤ p) (h3 : p < 200) (n : Nat) (hn : n ≤ 1000) : idxOk (ixL p n) = decide (n ≤ 21) := by
  unfold idxOk
  rw [ixL_length]
  have : idxV (fun i => (rd_T41 (ixL p n) i).f0) (fun i => (rd_T41 (ixL p n) i).f1) n = true := by
    unfold idxV
    rw [all_at]
    intro j hj
    rw [ix_keys hn hj, Bool.true_and]
    show okP (rd_T41 (ixL p n) (j : Int)).f1 = true
    rw [ixL_at p hj]
    unfold okP
    rw [decide_eq_true h2, decide_eq_true h3]; rfl
  rw [this, Bool.and_true]
theorem ix_twice (p : Int) (n : Nat) (hn : n ≤ 1000) : idxOk (ixL p (n + 1) ++ [⟨3 * (n : Int), p⟩]) = false := by
  cases h : idxOk (ixL p (n + 1) ++ [⟨3 * (n : Int), p⟩]) with
  | false => rfl
  | true =>
    exfalso
    have h' := h
    unfold idxOk at h'
    rw [Bool.and_eq_true] at h'
    obtain ⟨_, hv⟩ := h'
    unfold idxV at hv
    rw [all_at] at hv
    have hlen : (ixL p (n + 1) ++ [(⟨3 * (n : Int), p⟩ : S41)]).length = n + 2 := by rw [List.length_append, ixL_length]; rfl
    have h1 := hv (n + 1) (by rw [hlen]; omega)
    rw [Bool.and_eq_true] at h1
    have h2 := okK_range h1.1
    have e1 : (rd_T41 (ixL p (n + 1) ++ [(⟨3 * (n : Int), p⟩ : S41)]) ((n + 1 : Nat) : Int)).f0 = 3 * (n : Int) := by
      rw [rd41_at (by rw [hlen]; omega), List.getElem_append_right (by rw [ixL_length]; omega)]
      simp [ixL_length]
    have e2 : (rd_T41 (ixL p (n + 1) ++ [(⟨3 * (n : Int), p⟩ : S41)]) (n : Int)).f0 = 3 * (n : Int) := by
      rw [rd41_at (by rw [hlen]; omega), List.getElem_append_left (by rw [ixL_length]; omega), ← rd41_at (by rw [ixL_length]; omega), ixL_at p (by omega)]
    unfold ahK at h2
    rw [if_neg (by omega), show ((n + 1 : Nat) : Int) - 1 = (n : Int) by omega] at h2
    simp only [] at h2
    rw [e1, e2] at h2
    omega
theorem indexes_k (a0 a1 : Int) : maquettelaw15_SheetIndexes.f 3000 a0 a1 = some true := by
  have hj : maquettelaw15_SheetIndexes.j0 (2999 + 1) a0 a1 true = some true := by
    simp only [maquettelaw15_SheetIndexes.j0, if_true]
    rw [alive_k _ (by decide)]; rfl
  unfold maquettelaw15_SheetIndexes.f
  by_cases h1 : a0 < 0
  · rw [if_pos h1]; exact hj
  rw [if_neg h1]
  by_cases h2 : a0 > 30
  · rw [if_pos h2]; exact hj
  rw [if_neg h2]
  by_cases h3 : a1 < 2
  · rw [if_pos h3]; exact hj
  rw [if_neg h3]
  by_cases h4 : a1 ≥ 200
  · rw [if_pos h4]; exact hj
  rw [if_neg h4, alive_k _ (by decide), Option.bind_some]
  show maquettelaw15_SheetIndexes.j0 (2999 + 1) a0 a1 (!true) = some true
  simp only [maquettelaw15_SheetIndexes.j0, Bool.not_true, Bool.false_eq_true, if_false]
  obtain ⟨n, rfl⟩ : ∃ n : Nat, a0 = n := ⟨a0.toNat, by omega⟩
  obtain ⟨k, hk⟩ : ∃ k : Nat, 2999 = k + 1 + n := ⟨2998 - n, by omega⟩
  have hk' : 2900 ≤ k := by omega
  have := ix_loop a1 n (by omega) n k 0 (by omega) (by omega)
  rw [← hk] at this
  rw [show ([] : List S41) = ixL a1 0 from rfl, show (0 : Int) = ((0 : Nat) : Int) from rfl, this]
  simp only [maquettelaw15_SheetIndexes.l0]
  rw [if_neg (by omega), index_k, Option.bind_some]
  unfold idxR
  rw [ix_ok (by omega) (by omega) n (by omega)]
  have hnd : decide ((n : Int) ≤ 21) = decide (n ≤ 21) := by
    by_cases h : n ≤ 21
    · rw [decide_eq_true h, decide_eq_true (by omega)]
    · rw [decide_eq_false h, decide_eq_false (by omega)]
  have hj2 : maquettelaw15_SheetIndexes.j2 k (n : Int) a1 (ixL a1 n) false = some true := by
    obtain ⟨k, rfl⟩ : ∃ m, k = m + 1 := ⟨k - 1, by omega⟩
    simp only [maquettelaw15_SheetIndexes.j2, Bool.false_eq_true, if_false]
    rw [if_pos (by rw [ixL_length]; omega), index_k, Option.bind_some]
    cases n with
    | zero => rfl
    | succ m =>
      rw [if_neg (by omega), show wrap64 (3 * wrap64 (((m + 1 : Nat) : Int) - 1)) = 3 * (m : Int) from by unfold wrap64; omega]
      unfold idxR
      rw [ix_twice a1 m (by omega)]; rfl
  rw [hnd]
  by_cases hn : n ≤ 21
  · have hok : idxOk (ixL a1 n) = true := by rw [ix_ok (by omega) (by omega) n (by omega), decide_eq_true hn]
    rw [decide_eq_true hn]
    simp only [if_true]
    rw [slots_back hok k (by omega), Option.bind_some]
    simp only [bne_self_eq_false, Bool.false_eq_true, if_false, if_true]
    rw [slots_k _ (by rw [ixL_length]; omega) k (by rw [ixL_length]; omega), Option.bind_some]
    obtain ⟨b, e, hb⟩ := sameSlots_k (ixL a1 n) ((ixL a1 n).map cvS) (by rw [ixL_length]; omega) k (by rw [ixL_length]; omega)
    rw [e, Option.bind_some, hb.2 rfl]
    exact hj2
  · rw [decide_eq_false hn]
    simp only [Bool.false_eq_true, if_false]
    obtain ⟨s, c, l, e1, _, _, _, g1, _, _⟩ := page_ex (⟨#[]⟩ : ByteArray) (by decide)
    have hf : s.2 = false := by
      cases h2 : s.2 with
      | false => rfl
      | true => have := g1 h2; cases this
    rw [e1 k (by omega), Option.bind_some, hf]
    simp only [bne_self_eq_false, Bool.false_eq_true, if_false]
    exact hj2
end Go.Proofs.Ytlgmabibcpkdmaa.PAll
namespace Go.Proofs.Ytlgmabibcpkdmaa.Pure
open Go.RowKit Go.Proofs.Ytlgmabibcpkdmaa.PAll
theorem SheetIndexes : maquettelaw15_SheetIndexes.Pure := fun a0 a1 _ _ => ⟨3000, indexes_k a0 a1⟩
end Go.Proofs.Ytlgmabibcpkdmaa.Pure
