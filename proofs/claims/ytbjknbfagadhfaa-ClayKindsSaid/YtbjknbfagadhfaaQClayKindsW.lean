/- ClayKinds, walked: whatever the thing and the kind, the law returns true. -/
import Derived.Test.YtbjknbfagadhfaaQPureClayKinds
namespace Go.Proofs.Ytbjknbfagadhfaa.PAll
open Go.RowKit Go.Proofs.YtbjknbfagadhfaaW.PrintWords Go.Proofs.YtbjknbfagadhfaaW.PrintLast Go.Proofs.YtbjknbfagadhfaaW.PrintMore
set_option linter.unusedVariables false

theorem clayKinds_any (w0 : World) (a0 a1 a2 a3 a4 a5 a6 a7 a8 a9 a10 a11 a12 : Int) (A : Option Addr) (c : Nat) (l : List Int) (y : Int) (hr : Kd.C (Kd.int .i64) w0 A l.length l) (hc : l.length ≤ c) (wy : (Lit.int .i64 y).wf = true) :
    Calls Try.prog 10 #[.agg #[.int .i64 a0, .int .i64 a1, .int .i64 a2, .int .i64 a3, .int .i64 a4, .int .i64 a5, .int .i64 a6, .int .i64 a7, .int .i64 a8, .int .i64 a9, .int .i64 a10, .int .i64 a11, .int .i64 a12, .slice A l.length c], .int .i64 y] w0 fun e w' => e = .returned (.bool true) ∧ Below w0.heap.size w0 w' :=
  maquettelaw18_ClayKinds.calls 3000 a0 a1 a2 a3 a4 a5 a6 a7 a8 a9 a10 a11 a12 A c l y true w0 hr hc (kinds_k a0 a1 a2 a3 a4 a5 a6 a7 a8 a9 a10 a11 a12 l y)
end Go.Proofs.Ytbjknbfagadhfaa.PAll
