/- ClayCuts, walked: whatever the thing, the entry, the place and the bytes, the law returns true. -/
import Derived.Test.YtbjknbfagadhfaaQPureClayCuts
namespace Go.Proofs.Ytbjknbfagadhfaa.PAll
open Go.RowKit Go.Proofs.YtbjknbfagadhfaaW.PrintWords Go.Proofs.YtbjknbfagadhfaaW.PrintLast Go.Proofs.YtbjknbfagadhfaaW.PrintMore
set_option linter.unusedVariables false

theorem clayCuts_any (w0 : World) (a0 a1 a2 a3 a4 a5 a6 a7 a8 a9 a10 a11 a12 : Int) (A : Option Addr) (c : Nat) (l : List Int) (B : Option Addr) (d : Nat) (e : List S73) (t : Bool) (b2 b3 b4 b5 b6 b7 : Int) (x : Int) (y : ByteArray) (hr : Kd.C (Kd.int .i64) w0 A l.length l) (hc : l.length ≤ c) (gr : Kd.C k73 w0 B e.length e) (gc : e.length ≤ d) (gm : e.length ≤ maxLen) (wx : (Lit.int .i64 x).wf = true) (wy : y.size ≤ maxLen) :
    Calls Try.prog 5 #[.agg #[.int .i64 a0, .int .i64 a1, .int .i64 a2, .int .i64 a3, .int .i64 a4, .int .i64 a5, .int .i64 a6, .int .i64 a7, .int .i64 a8, .int .i64 a9, .int .i64 a10, .int .i64 a11, .int .i64 a12, .slice A l.length c], .agg #[.slice B e.length d, .bool t, .int .i64 b2, .int .i64 b3, .int .i64 b4, .int .i64 b5, .int .i64 b6, .int .i64 b7], .int .i64 x, .string y] w0 fun e w' => e = .returned (.bool true) ∧ Below w0.heap.size w0 w' :=
  maquettelaw18_ClayCuts.calls (e.length + 5000) a0 a1 a2 a3 a4 a5 a6 a7 a8 a9 a10 a11 a12 A c l B d e t b2 b3 b4 b5 b6 b7 x y true w0 hr hc gr gc (cuts_k a0 a1 a2 a3 a4 a5 a6 a7 a8 a9 a10 a11 a12 l e t b2 b3 b4 b5 b6 b7 x y gm _ (Nat.le_refl _))
end Go.Proofs.Ytbjknbfagadhfaa.PAll
