/- ClayKinds in plain form. -/
import Derived.Test.YtbjknbfagadhfaaQPAllx18
import Derived.Test.YtbjknbfagadhfaaQC6
namespace Go.Proofs.Ytbjknbfagadhfaa.PAll
open Go.RowKit Go.Proofs.YtbjknbfagadhfaaW.PrintWords Go.Proofs.YtbjknbfagadhfaaW.PrintLast Go.Proofs.YtbjknbfagadhfaaW.PrintMore
open Go.Proofs.Ytbjknbfagadhfaa.V (byI byL byL_length byL_snoc inL inL_length)
set_option linter.unusedSimpArgs false
set_option linter.unusedVariables false

theorem kinds_k (a0 a1 a2 a3 a4 a5 a6 a7 a8 a9 a10 a11 a12 : Int) (l : List Int) (y : Int) : maquettelaw18_ClayKinds.f 3000 a0 a1 a2 a3 a4 a5 a6 a7 a8 a9 a10 a11 a12 l y = some true := by
  unfold maquettelaw18_ClayKinds.f
  by_cases hl : (l.length : Int) > 20
  · rw [if_pos hl]
    show maquettelaw18_ClayKinds.j0 (2999 + 1) y true a0 a1 a2 a3 a4 a5 a6 a7 a8 a9 a10 a11 a12 l = some true
    simp only [maquettelaw18_ClayKinds.j0, if_true]
    rw [alive_k _ (by decide)]; rfl
  · rw [if_neg hl, alive_k _ (by decide), Option.bind_some]
    show maquettelaw18_ClayKinds.j0 (2999 + 1) y (!true) a0 a1 a2 a3 a4 a5 a6 a7 a8 a9 a10 a11 a12 l = some true
    simp only [maquettelaw18_ClayKinds.j0, Bool.not_true, Bool.false_eq_true, if_false]
    rw [put_k _ _ _ _ _ _ _ _ _ _ _ _ _ l (by omega) _ (by omega), Option.bind_some]
    by_cases h : okT a0 a1 a2 a3 a4 a5 a6 a7 a8 a9 a10 a11 a12 l
    · rw [if_pos h]
      obtain ⟨t, ht, hs⟩ := putL_shape h
      have hok := okB_putL a0 a1 a2 a3 a4 a5 a6 a7 a8 a9 a10 a11 a12 l
      rw [ht] at hok
      have okt : okB t := fun x hx => hok x (List.mem_cons_of_mem _ hx)
      have hsz : (strOfNums (putL a0 a1 a2 a3 a4 a5 a6 a7 a8 a9 a10 a11 a12 l)).size = t.length + 1 := by rw [strOfNums_size, ht, List.length_cons]
      simp only [if_true]
      rw [if_neg (by rw [hsz]; omega), get_put h _ (by decide), Option.bind_some, Option.bind_some, if_pos (by rw [hsz]; omega)]
      have hex : (strOfNums (putL a0 a1 a2 a3 a4 a5 a6 a7 a8 a9 a10 a11 a12 l)).extract 1 (strOfNums (putL a0 a1 a2 a3 a4 a5 a6 a7 a8 a9 a10 a11 a12 l)).size = strOfNums t := by
        rw [extract_strOf, hsz, ht, List.drop_succ_cons, List.drop_zero, List.take_of_length_le (by omega)]
      rw [hex, strOf_append, if_pos (by rw [strOfNums_size, strOfNums_size]; simp; rcases hs with h | h | h <;> omega)]
      simp only [if_true]
      have hy0 : 0 ≤ y % 256 := by omega
      have hy1 : y % 256 < 256 := by omega
      have ha1 : a1 % 256 = a1 := by rcases hs with h | h | h <;> omega
      rw [ha1]
      by_cases hy : y % 256 = a1
      · rw [hy, show [a1] ++ t = putL a0 a1 a2 a3 a4 a5 a6 a7 a8 a9 a10 a11 a12 l from ht.symm, get_put h _ (by decide), Option.bind_some]
        simp only [if_true, beq_self_eq_true]
        rfl
      · obtain ⟨x0, x1, x2, x3, x4, x5, x6, x7, x8, x9, x10, x11, x12, l2, is, e, _, h1, h2⟩ := get_any (strOfNums ([y % 256] ++ t))
        rw [e _ (by decide), Option.bind_some]
        have hf : is = false := by
          cases is with
          | false => rfl
          | true =>
            exfalso
            obtain ⟨hx, hb⟩ := h1 rfl
            obtain ⟨t2, ht2, hs2⟩ := putL_shape hx
            have := strOf_inj (okB_append.2 ⟨by intro z hz; simp at hz; omega, okt⟩) (okB_putL x0 x1 x2 x3 x4 x5 x6 x7 x8 x9 x10 x11 x12 l2) hb
            rw [ht2] at this
            injection this with e1 e2
            have e3 : t.length = t2.length := congrArg List.length e2
            rcases hs with h | h | h <;> rcases hs2 with h2 | h2 | h2 <;> omega
        subst hf
        have hz := h2 rfl
        have hb : ((y % 256 == a1) == false) = true := by simp [hy]
        simp only [if_true, hb, Bool.false_eq_true, if_false, hz.1, beq_self_eq_true]
        rfl
    · rw [if_neg h]
      simp
end Go.Proofs.Ytbjknbfagadhfaa.PAll
