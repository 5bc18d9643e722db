/- Cells as plain data; whether two lists are the same. -/
import Derived.Test.YtlgmabibcpkdmaaPAllx7
import Derived.Test.YtlgmabibcpkdmaaC4
namespace Go.Proofs.Ytlgmabibcpkdmaa.PAll
open Go.RowKit Go.Proofs.YtlgmabibcpkdmaaW.PrintWords Go.Proofs.YtlgmabibcpkdmaaW.PrintLast Go.Proofs.YtlgmabibcpkdmaaW.PrintMore
set_option linter.unusedSimpArgs false
set_option linter.unusedVariables false

theorem toList_inj_iff {a b : ByteArray} : a.toList = b.toList ↔ a = b := by
  constructor
  · intro h
    rw [ByteArray.toList_eq, ByteArray.toList_eq] at h
    cases a; cases b; congr 1; exact Array.toList_inj.1 h
  · rintro rfl; rfl
def cvC (x : S52) : S79 := ⟨x.f0, x.f1, x.f2, x.f3⟩
theorem rd52_at {l : List S52} {i : Nat} (h : i < l.length) : rd_T52 l (i : Int) = l[i] := by
  unfold rd_T52
  rw [Int.toNat_natCast, List.getD, List.getElem?_eq_getElem h]; rfl
theorem rd79_at {l : List S79} {i : Nat} (h : i < l.length) : rd_T79 l (i : Int) = l[i] := by
  unfold rd_T79
  rw [Int.toNat_natCast, List.getD, List.getElem?_eq_getElem h]; rfl
theorem cells_lp (l : List S52) (hl : l.length ≤ 1000000) (d : Nat) : ∀ (k i : Nat), l.length - i = d → i ≤ l.length → d < k → maquettelaw15_cells.l0 k ((l.take i).map cvC) l (l.length : Int) (i : Int) = some (l.map cvC) := by
  induction d with
  | zero =>
    intro k i hd hi hk
    obtain ⟨k, rfl⟩ : ∃ m, k = m + 1 := ⟨k - 1, by omega⟩
    simp only [maquettelaw15_cells.l0]
    rw [if_neg (by omega), List.take_of_length_le (by omega)]
  | succ d ih =>
    intro k i hd hi hk
    obtain ⟨k, rfl⟩ : ∃ m, k = m + 1 := ⟨k - 1, by omega⟩
    have hlt : i < l.length := by omega
    have h := ih k (i + 1) (by omega) (by omega) (by omega)
    simp only [maquettelaw15_cells.l0]
    rw [if_pos (by omega), if_pos (by omega), if_pos (by omega), if_pos (by rw [List.length_map, List.length_take]; omega), show wrap64 ((i : Int) + 1) = ((i + 1 : Nat) : Int) from by unfold wrap64; omega, rd52_at hlt]
    rw [List.take_succ_eq_append_getElem hlt, List.map_append] at h
    exact h
theorem cells_k (l : List S52) (hl : l.length ≤ 1000000) (k : Nat) (hk : l.length < k) : maquettelaw15_cells.f k l = some (l.map cvC) := by
  unfold maquettelaw15_cells.f
  exact cells_lp l hl l.length k 0 (by omega) (by omega) hk
theorem cond79 (x y : S79) : (!((x.f0) == (y.f0)) || (!((x.f1) == (y.f1)) || (!((x.f2) == (y.f2)) || (!(((x.f3).toList) == ((y.f3).toList)))))) = true ↔ x ≠ y := by
  obtain ⟨x0, x1, x2, x3⟩ := x
  obtain ⟨y0, y1, y2, y3⟩ := y
  simp only [ne_eq, S79.mk.injEq, Bool.or_eq_true, Bool.not_eq_true', beq_eq_false_iff_ne, toList_inj_iff]
  by_cases h0 : x0 = y0
  · by_cases h1 : x1 = y1
    · by_cases h2 : x2 = y2
      · simp [h0, h1, h2]
      · simp [h2]
    · simp [h1]
  · simp [h0]
theorem sameCells_loop (m t : List S79) (ht : t.length ≤ 1000000) (d : Nat) : ∀ (k i : Nat), t.length - i = d → i ≤ t.length → i ≤ m.length → d < k → ∃ b, maquettelaw15_sameCells.l0 k m t (t.length : Int) (i : Int) = some b ∧ (b = true ↔ t.drop i = m.drop i) := by
  induction d with
  | zero =>
    intro k i hd hi hm hk
    obtain ⟨k, rfl⟩ : ∃ m, k = m + 1 := ⟨k - 1, by omega⟩
    simp only [maquettelaw15_sameCells.l0]
    rw [if_neg (by omega)]
    refine ⟨_, rfl, ?_⟩
    rw [beq_iff_eq, List.drop_of_length_le (show t.length ≤ i by omega)]
    constructor
    · intro h; rw [List.drop_of_length_le (by omega)]
    · intro h
      have := congrArg List.length h
      rw [List.length_drop, List.length_nil] at this
      omega
  | succ d ih =>
    intro k i hd hi hm hk
    obtain ⟨k, rfl⟩ : ∃ m, k = m + 1 := ⟨k - 1, by omega⟩
    have hlt : i < t.length := by omega
    simp only [maquettelaw15_sameCells.l0]
    rw [if_pos (by omega)]
    by_cases h1 : m.length ≤ i
    · rw [if_pos (by omega)]
      refine ⟨false, rfl, ?_⟩
      constructor
      · intro h; cases h
      · intro h
        have := congrArg List.length h
        rw [List.length_drop, List.length_drop] at this
        omega
    · have hlm : i < m.length := by omega
      rw [if_neg (by omega), if_pos (by omega), if_pos (by omega), if_pos (by omega)]
      by_cases hc : t[i] = m[i]
      · rw [if_neg (by rw [cond79, rd79_at hlt, rd79_at hlm]; exact fun h => h hc), show wrap64 ((i : Int) + 1) = ((i + 1 : Nat) : Int) from by unfold wrap64; omega]
        obtain ⟨b, e, hb⟩ := ih k (i + 1) (by omega) (by omega) (by omega) (by omega)
        refine ⟨b, e, ?_⟩
        rw [hb, List.drop_eq_getElem_cons hlt, List.drop_eq_getElem_cons hlm, hc]
        constructor
        · intro h; rw [h]
        · intro h; injection h
      · rw [if_pos (by rw [cond79, rd79_at hlt, rd79_at hlm]; exact hc)]
        refine ⟨false, rfl, ?_⟩
        constructor
        · intro h; cases h
        · intro h
          rw [List.drop_eq_getElem_cons hlt, List.drop_eq_getElem_cons hlm] at h
          injection h with h _
          exact absurd h hc
theorem sameCells_k (l : List S52) (m : List S79) (hl : l.length ≤ 1000000) (k : Nat) (hk : l.length < k) : ∃ b, maquettelaw15_sameCells.f k l m = some b ∧ (b = true ↔ l.map cvC = m) := by
  unfold maquettelaw15_sameCells.f
  rw [cells_k l hl k hk, Option.bind_some]
  have := sameCells_loop m (l.map cvC) (by rw [List.length_map]; exact hl) l.length k 0 (by rw [List.length_map]; rfl) (by omega) (by omega) hk
  simpa using this
end Go.Proofs.Ytlgmabibcpkdmaa.PAll
