/- ClayTurned, walked: whatever the thing, the place and the byte, the law returns true. -/
import Derived.Test.YtbjknbfagadhfaaQPureClayTurned
namespace Go.Proofs.Ytbjknbfagadhfaa.PAll
open Go.RowKit Go.Proofs.YtbjknbfagadhfaaW.PrintWords Go.Proofs.YtbjknbfagadhfaaW.PrintLast Go.Proofs.YtbjknbfagadhfaaW.PrintMore
set_option linter.unusedVariables false

theorem clayTurned_any (w0 : World) (a0 a1 a2 a3 a4 a5 a6 a7 a8 a9 a10 a11 a12 : Int) (A : Option Addr) (c : Nat) (l : List Int) (x y : Int) (hr : Kd.C (Kd.int .i64) w0 A l.length l) (hc : l.length ≤ c) (wx : (Lit.int .i64 x).wf = true) (wy : (Lit.int .u8 y).wf = true) :
    Calls Try.prog 7 #[.agg #[.int .i64 a0, .int .i64 a1, .int .i64 a2, .int .i64 a3, .int .i64 a4, .int .i64 a5, .int .i64 a6, .int .i64 a7, .int .i64 a8, .int .i64 a9, .int .i64 a10, .int .i64 a11, .int .i64 a12, .slice A l.length c], .int .i64 x, .int .u8 y] w0 fun e w' => e = .returned (.bool true) ∧ Below w0.heap.size w0 w' := by
  have hy : 0 ≤ y ∧ y < 256 := by
    simp [Lit.wf, IntKind.min, IntKind.max, IntKind.signed, IntKind.bits] at wy
    omega
  exact maquettelaw18_ClayTurned.calls 3000 a0 a1 a2 a3 a4 a5 a6 a7 a8 a9 a10 a11 a12 A c l x y true w0 hr hc (turned_k a0 a1 a2 a3 a4 a5 a6 a7 a8 a9 a10 a11 a12 l x y hy.1 hy.2)
end Go.Proofs.Ytbjknbfagadhfaa.PAll
