/- ClayNumbers, walked: whatever the body and the number, the law returns true. -/
import Derived.Test.YtbjknbfagadhfaaQPureClayNumbers
namespace Go.Proofs.Ytbjknbfagadhfaa.PAll
open Go.RowKit Go.Proofs.YtbjknbfagadhfaaW.PrintWords Go.Proofs.YtbjknbfagadhfaaW.PrintLast Go.Proofs.YtbjknbfagadhfaaW.PrintMore
set_option linter.unusedVariables false

theorem clayNumbers_any (w0 : World) (a0 a1 a2 a3 a4 a5 a6 a7 y : Int) (wy : (Lit.int .i64 y).wf = true) :
    Calls Try.prog 8 #[.agg #[.int .i64 a0, .int .i64 a1, .int .i64 a2, .int .i64 a3, .int .i64 a4, .int .i64 a5, .int .i64 a6, .int .i64 a7], .int .i64 y] w0 fun e w' => e = .returned (.bool true) ∧ Below w0.heap.size w0 w' :=
  maquettelaw18_ClayNumbers.calls 3000 a0 a1 a2 a3 a4 a5 a6 a7 y true w0 (numbers_k a0 a1 a2 a3 a4 a5 a6 a7 y)
end Go.Proofs.Ytbjknbfagadhfaa.PAll
