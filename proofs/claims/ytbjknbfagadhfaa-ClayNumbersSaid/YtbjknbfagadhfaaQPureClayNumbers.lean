/- ClayNumbers in plain form. -/
import Derived.Test.YtbjknbfagadhfaaQPAllx17
import Derived.Test.YtbjknbfagadhfaaQC6
namespace Go.Proofs.Ytbjknbfagadhfaa.PAll
open Go.RowKit Go.Proofs.YtbjknbfagadhfaaW.PrintWords Go.Proofs.YtbjknbfagadhfaaW.PrintLast Go.Proofs.YtbjknbfagadhfaaW.PrintMore
open Go.Proofs.Ytbjknbfagadhfaa.V (byI byL byL_length byL_snoc inL inL_length)
set_option linter.unusedSimpArgs false
set_option linter.unusedVariables false

theorem numbers_k (a0 a1 a2 a3 a4 a5 a6 a7 i : Int) : maquettelaw18_ClayNumbers.f 3000 a0 a1 a2 a3 a4 a5 a6 a7 i = some true := by
  have jt : maquettelaw18_ClayNumbers.j0 3000 i true a0 a1 a2 a3 a4 a5 a6 a7 = some true := by
    show maquettelaw18_ClayNumbers.j0 (2999 + 1) i true a0 a1 a2 a3 a4 a5 a6 a7 = some true
    simp only [maquettelaw18_ClayNumbers.j0, if_true]
    rw [alive_k _ (by decide)]; rfl
  unfold maquettelaw18_ClayNumbers.f
  by_cases h1 : i < 1
  · rw [if_pos h1]; exact jt
  · rw [if_neg h1]
    by_cases h2 : i > 1000000
    · rw [if_pos h2]; exact jt
    · rw [if_neg h2, alive_k _ (by decide), Option.bind_some]
      show maquettelaw18_ClayNumbers.j0 (2999 + 1) i (!true) a0 a1 a2 a3 a4 a5 a6 a7 = some true
      simp only [maquettelaw18_ClayNumbers.j0, Bool.not_true, Bool.false_eq_true, if_false]
      rw [put_k _ _ _ _ _ _ _ _ _ _ _ _ _ [] (by decide) _ (by decide), Option.bind_some]
      by_cases h : okT i 1 a0 a1 a2 a3 a4 a5 a6 a7 0 0 0 []
      · rw [if_pos h]
        simp only [if_true]
        have n0 : ¬ okT 0 1 a0 a1 a2 a3 a4 a5 a6 a7 0 0 0 [] := fun h => absurd h.1.1 (by decide)
        have n1 : ¬ okT 1000001 1 a0 a1 a2 a3 a4 a5 a6 a7 0 0 0 [] := fun h => absurd h.1.2 (by decide)
        rw [get_put h _ (by decide), Option.bind_some, put_k _ _ _ _ _ _ _ _ _ _ _ _ _ [] (by decide) _ (by decide), if_neg n0, Option.bind_some,
          put_k _ _ _ _ _ _ _ _ _ _ _ _ _ [] (by decide) _ (by decide), if_neg n1, Option.bind_some]
        simp only [beq_self_eq_true, Bool.and_self, if_true, Bool.false_eq_true, if_false, Bool.not_false]
        rfl
      · rw [if_neg h]
        simp only [Bool.false_eq_true, if_false]
        rw [right_k _ _ _ _ _ _ _ _ _ _ _ _ _ [] (by decide) _ (by decide), decide_eq_false h]
        rfl
end Go.Proofs.Ytbjknbfagadhfaa.PAll
