/- ShelfLong: any size. -/
import Derived.Test.YtpeeojbhfebcdaaPureShelfLong
namespace Go.Proofs.Ytpeeojbhfebcdaa.V
open Go.RowKit Go.Proofs.Ytpeeojbhfebcdaa.PAll
theorem long_any (x : Int) (w0 : (Lit.int .i64 x).wf = true) (w : World) : Calls Try.prog 5 #[.int .i64 x] w fun e w' => e = .returned (.bool true) ∧ Below w.heap.size w w' :=
  maquettelaw16_ShelfLong.walk long_Pure x w w0
end Go.Proofs.Ytpeeojbhfebcdaa.V
