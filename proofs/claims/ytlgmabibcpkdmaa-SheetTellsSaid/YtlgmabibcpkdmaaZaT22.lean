/- Of the texts that the row stands on, what it needs (part 22), put together by a program of this session. -/
import Derived.Test.YtlgmabibcpkdmaaZaT21
import Derived.Test.YtlgmabibcpkdmaaZaT17
namespace Go.Proofs.Ytlgmabibcpkdmaa.PAll
open Go.RowKit Go.Proofs.YtlgmabibcpkdmaaW.PrintWords Go.Proofs.YtlgmabibcpkdmaaW.PrintLast Go.Proofs.YtlgmabibcpkdmaaW.PrintMore
set_option linter.unusedSimpArgs false
set_option linter.unusedVariables false
def cvS (x : S41) : S81 := ⟨x.f0, x.f1⟩
theorem rd41_at {l : List S41} {i : Nat} (h : i < l.length) : rd_T41 l (i : Int) = l[i] := by
  unfold rd_T41
  rw [Int.toNat_natCast, List.getD, List.getElem?_eq_getElem h]; rfl
theorem rd81_at {l : List S81} {i : Nat} (h : i < l.length) : rd_T81 l (i : Int) = l[i] := by
  unfold rd_T81
  rw [Int.toNat_natCast, List.getD, List.getElem?_eq_getElem h]; rfl
theorem slots_lp (l : List S41) (hl : l.length ≤ 1000000) (d : Nat) : ∀ (k i : Nat), l.length - i = d → i ≤ l.length → d < k → maquettelaw15_slots.l0 k ((l.take i).map cvS) l (l.length : Int) (i : Int) = some (l.map cvS) := by
  induction d with
  | zero =>
    intro k i hd hi hk
    obtain ⟨k, rfl⟩ : ∃ m, k = m + 1 := ⟨k - 1, by omega⟩
    simp only [maquettelaw15_slots.l0]
    rw [if_neg (by omega), List.take_of_length_le (by omega)]
  | succ d ih =>
    intro k i hd hi hk
    obtain ⟨k, rfl⟩ : ∃ m, k = m + 1 := ⟨k - 1, by omega⟩
    have hlt : i < l.length := by omega
    have h := ih k (i + 1) (by omega) (by omega) (by omega)
    simp only [maquettelaw15_slots.l0]
    rw [if_pos (by omega), if_pos (by omega), if_pos (by omega), if_pos (by rw [List.length_map, List.length_take]; omega), show wrap64 ((i : Int) + 1) = ((i + 1 : Nat) : Int) from by unfold wrap64; omega, rd41_at hlt]
    rw [List.take_succ_eq_append_getElem hlt, List.map_append] at h
    exact h
theorem slots_k (l : List S41) (hl : l.length ≤ 1000000) (k : Nat) (hk : l.length < k) : maquettelaw15_slots.f k l = some (l.map cvS) := by
  unfold maquettelaw15_slots.f
  exact slots_lp l hl l.length k 0 (by omega) (by omega) hk
theorem cond81 (x y : S81) : (!((x.f0) == (y.f0)) || (!((x.f1) == (y.f1)))) = true ↔ x ≠ y := by
  obtain ⟨x0, x1⟩ := x
  obtain ⟨y0, y1⟩ := y
  simp only [ne_eq, S81.mk.injEq, Bool.or_eq_true, Bool.not_eq_true', beq_eq_false_iff_ne]
  omega
theorem sameSlots_loop (m t : List S81) (ht : t.length ≤ 1000000) (d : Nat) : ∀ (k i : Nat), t.length - i = d → i ≤ t.length → i ≤ m.length → d < k → ∃ b, maquettelaw15_sameSlots.l0 k m t (t.length : Int) (i : Int) = some b ∧ (b = true ↔ t.drop i = m.drop i) := by
  induction d with
  | zero =>
    intro k i hd hi hm hk
    obtain ⟨k, rfl⟩ : ∃ m, k = m + 1 := ⟨k - 1, by omega⟩
    simp only [maquettelaw15_sameSlots.l0]
    rw [if_neg (by omega)]
    refine ⟨_, rfl, ?_⟩
    rw [beq_iff_eq, List.drop_of_length_le (show t.length ≤ i by omega)]
    constructor
    · intro h; rw [List.drop_of_length_le (by omega)]
    · intro h
      have := congrArg List.length h
      rw [List.length_drop, List.length_nil] at this
      omega
  | succ d ih =>
    intro k i hd hi hm hk
    obtain ⟨k, rfl⟩ : ∃ m, k = m + 1 := ⟨k - 1, by omega⟩
    have hlt : i < t.length := by omega
    simp only [maquettelaw15_sameSlots.l0]
    rw [if_pos (by omega)]
    by_cases h1 : m.length ≤ i
    · rw [if_pos (by omega)]
      refine ⟨false, rfl, ?_⟩
      constructor
      · intro h; cases h
      · intro h
        have := congrArg List.length h
        rw [List.length_drop, List.length_drop] at this
        omega
    · have hlm : i < m.length := by omega
      rw [if_neg (by omega), if_pos (by omega), if_pos (by omega), if_pos (by omega)]
      by_cases hc : t[i] = m[i]
      · rw [if_neg (by rw [cond81, rd81_at hlt, rd81_at hlm]; exact fun h => h hc), show wrap64 ((i : Int) + 1) = ((i + 1 : Nat) : Int) from by unfold wrap64; omega]
        obtain ⟨b, e, hb⟩ := ih k (i + 1) (by omega) (by omega) (by omega) (by omega)
        refine ⟨b, e, ?_⟩
        rw [hb, List.drop_eq_getElem_cons hlt, List.drop_eq_getElem_cons hlm, hc]
        constructor
        · intro h; rw [h]
        · intro h; injection h
      · rw [if_pos (by rw [cond81, rd81_at hlt, rd81_at hlm]; exact hc)]
        refine ⟨false, rfl, ?_⟩
        constructor
        · intro h; cases h
        · intro h
          rw [List.drop_eq_getElem_cons hlt, List.drop_eq_getElem_cons hlm] at h
          injection h with h _
          exact absurd h hc
theorem sameSlots_k (l : List S41) (m : List S81) (hl : l.length ≤ 1000000) (k : Nat) (hk : l.length < k) : ∃ b, maquettelaw15_sameSlots.f k l m = some b ∧ (b = true ↔ l.map cvS = m) := by
  unfold maquettelaw15_sameSlots.f
  rw [slots_k l hl k hk, Option.bind_some]
  have := sameSlots_loop m (l.map cvS) (by rw [List.length_map]; exact hl) l.length k 0 (by rw [List.length_map]; rfl) (by omega) (by omega) hk
  simpa using this
end Go.Proofs.Ytlgmabibcpkdmaa.PAll
