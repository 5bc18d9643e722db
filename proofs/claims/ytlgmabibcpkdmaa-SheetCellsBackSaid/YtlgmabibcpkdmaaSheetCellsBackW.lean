/- SheetCellsBack: the list is read back. -/
import Derived.Test.YtlgmabibcpkdmaaPAllx12
import Derived.Test.YtlgmabibcpkdmaaC6
namespace Go.Proofs.Ytlgmabibcpkdmaa.PAll
open Go.RowKit Go.Proofs.YtlgmabibcpkdmaaW.PrintWords Go.Proofs.YtlgmabibcpkdmaaW.PrintLast Go.Proofs.YtlgmabibcpkdmaaW.PrintMore
open Go.Proofs.Ytlgmabibcpkdmaa.V (byI byL byL_length strOf_append)
set_option linter.unusedSimpArgs false
set_option linter.unusedVariables false

theorem cellsFin_none {a : ByteArray} {bad : Bool} {l : List S52} (h : (cellsFin a bad l).2 = false) : (cellsFin a bad l).1 = [] := by
  unfold cellsFin at h ⊢
  split
  · rename_i h1; rw [if_pos h1] at h; cases h
  · rfl
theorem back_end (l : List S52) (hl : l.length ≤ 40) (k : Nat) (hk : 700 ≤ k) : maquettelaw15_SheetCellsBack.l0 k l l (l.length : Int) (l.length : Int) = some true := by
  obtain ⟨k, rfl⟩ : ∃ m, k = m + 2 := ⟨k - 2, by omega⟩
  simp only [maquettelaw15_SheetCellsBack.l0]
  rw [if_neg (by omega), leaf_k, Option.bind_some]
  unfold leafR
  cases h : leafOk l with
  | false =>
    simp only [Bool.false_eq_true, if_false]
    obtain ⟨bad, m, e⟩ := cells_ex (⟨#[]⟩ : ByteArray)
    have hf : (cellsFin (⟨#[]⟩ : ByteArray) bad m).2 = false := by
      cases h2 : (cellsFin (⟨#[]⟩ : ByteArray) bad m).2 with
      | false => rfl
      | true => have := cells_fb h2; cases this
    rw [e _ (by omega), Option.bind_some, hf, cellsFin_none hf, if_neg (by decide), if_pos (toList_nil_iff.2 rfl)]
    rfl
  | true =>
    simp only [if_true]
    have hlen : (leafL l).length ≤ 128 := by
      unfold leafOk at h
      rw [Bool.and_eq_true, Bool.and_eq_true, decide_eq_true_eq, decide_eq_true_eq] at h
      exact h.2.2
    obtain ⟨s, c, q, e1, e2, e3, _, h1, h2, h3⟩ := page_ex (strOfNums (pad (leafL l))) (by rw [strOfNums_size, pad_length hlen]; decide)
    have hc : c = (l, true) := by
      have := cells_back h 600 (by decide)
      rw [e2 600 (by decide)] at this
      injection this
    subst hc
    have f := h2 rfl
    have hs : s.2 = false := by
      cases hh : s.2 with
      | false => rfl
      | true => have := h1 hh; rw [f] at this; cases this
    have hq : q.2.2 = false := by
      cases hh : q.2.2 with
      | false => rfl
      | true => have := h3 hh; rw [f] at this; cases this
    rw [e2 _ (by omega), Option.bind_some, e1 _ (by omega), Option.bind_some, e3 _ (by omega), Option.bind_some]
    simp only [if_true]
    rw [cells_k l (by omega) _ (by omega), Option.bind_some]
    obtain ⟨b, e, hb⟩ := sameCells_k l (l.map cvC) (by omega) (k + 1) (by omega)
    rw [e, Option.bind_some, hb.2 rfl, if_pos rfl, if_pos (by rw [strOfNums_size, pad_length hlen]; rfl), hs, if_neg (by decide), hq]
    rfl
theorem back_loop (l : List S52) (hl : l.length ≤ 40) (d : Nat) : ∀ (k i : Nat), l.length - i = d → i ≤ l.length → 700 + d ≤ k → maquettelaw15_SheetCellsBack.l0 k l l (l.length : Int) (i : Int) = some true := by
  induction d with
  | zero =>
    intro k i hd hi hk
    obtain rfl : i = l.length := by omega
    exact back_end l hl k (by omega)
  | succ d ih =>
    intro k i hd hi hk
    obtain ⟨k, rfl⟩ : ∃ m, k = m + 1 := ⟨k - 1, by omega⟩
    simp only [maquettelaw15_SheetCellsBack.l0]
    rw [if_pos (by omega), if_pos (by omega), if_pos (by omega), show wrap64 ((i : Int) + 1) = ((i + 1 : Nat) : Int) from by unfold wrap64; omega]
    split
    · rfl
    · exact ih k (i + 1) (by omega) (by omega) (by omega)
theorem back_k (l : List S52) : maquettelaw15_SheetCellsBack.f 2000 l = some true := by
  unfold maquettelaw15_SheetCellsBack.f
  by_cases h : (l.length : Int) > 40
  · rw [if_pos h]
    show maquettelaw15_SheetCellsBack.j0 (1999 + 1) l true = some true
    simp only [maquettelaw15_SheetCellsBack.j0, if_true]
    rw [alive_k _ (by decide)]; rfl
  · rw [if_neg h, alive_k _ (by decide), Option.bind_some]
    show maquettelaw15_SheetCellsBack.j0 (1999 + 1) l (!true) = some true
    simp only [maquettelaw15_SheetCellsBack.j0, Bool.not_true, Bool.false_eq_true, if_false]
    exact back_loop l (by omega) l.length 1999 0 (by omega) (by omega) (by omega)
theorem cellsBack_any (w0 : World) (A : Option Addr) (c : Nat) (l : List S52) (hr : Kd.C k52 w0 A l.length l) (hc : l.length ≤ c) :
    Calls Try.prog 7 #[.slice A l.length c] w0 fun e w' => e = .returned (.bool true) ∧ Below w0.heap.size w0 w' :=
  maquettelaw15_SheetCellsBack.calls 2000 A c l true w0 hr hc (back_k l)
end Go.Proofs.Ytlgmabibcpkdmaa.PAll
