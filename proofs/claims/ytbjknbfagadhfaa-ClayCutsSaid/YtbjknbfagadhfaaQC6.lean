/- alive with any rounds. -/
import Derived.Test.YtbjknbfagadhfaaQC4
import Derived.Test.YtbjknbfagadhfaaQC5
namespace Go.Proofs.Ytbjknbfagadhfaa.PAll
open Go.RowKit Go.Proofs.YtbjknbfagadhfaaW.PrintWords Go.Proofs.YtbjknbfagadhfaaW.PrintLast Go.Proofs.YtbjknbfagadhfaaW.PrintMore
open Go.Proofs.Ytbjknbfagadhfaa.V (byI byL byL_length byL_snoc inL inL_length)
set_option linter.unusedSimpArgs false
set_option linter.unusedVariables false

theorem alive_k (k : Nat) (hk : 60 ≤ k) : maquettelaw18_alive.f k = some true := by
  induction k with
  | zero => omega
  | succ k ih =>
    by_cases h : k + 1 = 60
    · rw [h]; exact alive_60
    · exact maquettelaw18_alive.mono k _ (ih (by omega))
end Go.Proofs.Ytbjknbfagadhfaa.PAll
