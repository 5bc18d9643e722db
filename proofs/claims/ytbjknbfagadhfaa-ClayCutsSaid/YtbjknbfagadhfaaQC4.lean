/- alive, plain: the first call's answer. -/
import Derived.Test.YtbjknbfagadhfaaQPAllx13
import Derived.Test.YtbjknbfagadhfaaQC3
namespace Go.Proofs.Ytbjknbfagadhfaa.PAll
open Go.RowKit Go.Proofs.YtbjknbfagadhfaaW.PrintWords Go.Proofs.YtbjknbfagadhfaaW.PrintLast Go.Proofs.YtbjknbfagadhfaaW.PrintMore
set_option linter.unusedSimpArgs false
set_option linter.unusedVariables false

set_option maxRecDepth 100000 in
theorem alive_60 : maquettelaw18_alive.f 60 = some true := by decide +kernel
end Go.Proofs.Ytbjknbfagadhfaa.PAll
