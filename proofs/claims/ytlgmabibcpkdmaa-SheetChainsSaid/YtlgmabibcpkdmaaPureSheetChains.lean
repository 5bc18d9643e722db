/- SheetChains in plain form. -/
import Derived.Test.YtlgmabibcpkdmaaPAllx9
import Derived.Test.YtlgmabibcpkdmaaC4
namespace Go.Proofs.Ytlgmabibcpkdmaa.PAll
open Go.RowKit Go.Proofs.YtlgmabibcpkdmaaW.PrintWords Go.Proofs.YtlgmabibcpkdmaaW.PrintLast Go.Proofs.YtlgmabibcpkdmaaW.PrintMore
open Go.Proofs.Ytlgmabibcpkdmaa.V (okP)
set_option linter.unusedSimpArgs false
set_option linter.unusedVariables false

theorem fb_nil : fb (⟨#[]⟩ : ByteArray) = none := rfl
theorem chains_may (k : Nat) (x0 : ByteArray) (x1 : Int) (c : ByteArray × Bool) :
    (if (x0.size : Int) ≥ 1 then (if (x0.size : Int) ≤ 120 then (if x1 = 0 then (maquettelaw15_SheetChains.j1 k x0 x1 c.1 c.2 true) else (if x1 ≥ 2 then (maquettelaw15_SheetChains.j1 k x0 x1 c.1 c.2 (decide (x1 < 200))) else (maquettelaw15_SheetChains.j1 k x0 x1 c.1 c.2 false))) else (maquettelaw15_SheetChains.j1 k x0 x1 c.1 c.2 false)) else (maquettelaw15_SheetChains.j1 k x0 x1 c.1 c.2 false)) = maquettelaw15_SheetChains.j1 k x0 x1 c.1 c.2 (chOk x1 x0) := by
  unfold chOk okP
  by_cases h1 : 1 ≤ x0.size
  · rw [if_pos (by omega), decide_eq_true h1]
    by_cases h2 : x0.size ≤ 120
    · rw [if_pos (by omega), decide_eq_true h2]
      by_cases h3 : x1 = 0
      · rw [if_pos h3, decide_eq_true h3]; rfl
      · rw [if_neg h3, decide_eq_false h3]
        by_cases h4 : 2 ≤ x1
        · rw [if_pos h4, decide_eq_true h4, Bool.false_or, Bool.true_and, Bool.true_and, Bool.and_true]
        · rw [if_neg h4, decide_eq_false h4]; rfl
    · rw [if_neg (by omega), decide_eq_false h2, Bool.and_false, Bool.and_false]
  · rw [if_neg (by omega), decide_eq_false h1, Bool.false_and, Bool.and_false]
theorem chains_k (a0 : ByteArray) (a1 : Int) : maquettelaw15_SheetChains.f 2000 a0 a1 = some true := by
  unfold maquettelaw15_SheetChains.f
  by_cases hl : (a0.size : Int) > 200
  · rw [if_pos hl]
    show maquettelaw15_SheetChains.j0 (1999 + 1) a0 a1 true = some true
    simp only [maquettelaw15_SheetChains.j0, if_true]
    rw [alive_k _ (by decide)]; rfl
  · rw [if_neg hl, alive_k _ (by decide), Option.bind_some]
    show maquettelaw15_SheetChains.j0 (1999 + 1) a0 a1 (!true) = some true
    simp only [maquettelaw15_SheetChains.j0, Bool.not_true, Bool.false_eq_true, if_false]
    rw [chain_k a1 a0 (by omega) _ (by decide), Option.bind_some, chains_may]
    show maquettelaw15_SheetChains.j1 (1998 + 1) a0 a1 (chA a1 a0).1 (chA a1 a0).2 (chOk a1 a0) = some true
    simp only [maquettelaw15_SheetChains.j1]
    unfold chA
    cases h : chOk a1 a0 with
    | false =>
      simp only [Bool.false_eq_true, if_false]
      obtain ⟨s, c, l, _, _, e3, _, _, _, hl3⟩ := page_ex (⟨#[]⟩ : ByteArray) (by decide)
      have hf : l.2.2 = false := by
        cases h2 : l.2.2 with
        | false => rfl
        | true => have := hl3 h2; rw [fb_nil] at this; cases this
      rw [e3 _ (by decide), Option.bind_some, hf]
      rfl
    | true =>
      simp only [if_true]
      obtain ⟨s, c, l, _, _, e3, e4, h1, h2, h3⟩ := page_ex (strOfNums (pad (chL a1 a0))) (by rw [strOfNums_size, pad_length (by rw [chL_length]; unfold chOk at h; simp at h; omega)]; decide)
      have hb := link_back h
      have hl : l = (a1, a0, true) := by
        have := hb 600 (by decide)
        rw [e3 600 (by decide)] at this
        injection this
      subst hl
      have f3 := h3 rfl
      have hs : s.2 = false := by
        cases hh : s.2 with
        | false => rfl
        | true => have := h1 hh; rw [f3] at this; cases this
      have hc : c.2 = false := by
        cases hh : c.2 with
        | false => rfl
        | true => have := h2 hh; rw [f3] at this; cases this
      rw [e3 _ (by decide), Option.bind_some]
      have hsz : ((strOfNums (pad (chL a1 a0))).size : Int) = 128 := by
        rw [strOfNums_size, pad_length (by rw [chL_length]; unfold chOk at h; simp at h; omega)]; rfl
      simp only [beq_self_eq_true, if_true, hsz]
      rw [e4 _ (by decide), Option.bind_some, hs, hc]
      rfl
end Go.Proofs.Ytlgmabibcpkdmaa.PAll
namespace Go.Proofs.Ytlgmabibcpkdmaa.Pure
open Go.RowKit Go.Proofs.Ytlgmabibcpkdmaa.PAll
theorem SheetChains : maquettelaw15_SheetChains.Pure := fun a0 a1 _ _ => ⟨2000, chains_k a0 a1⟩
end Go.Proofs.Ytlgmabibcpkdmaa.Pure
