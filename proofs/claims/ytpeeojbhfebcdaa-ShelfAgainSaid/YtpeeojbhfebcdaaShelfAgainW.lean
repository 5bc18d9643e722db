/- ShelfAgain: any records. -/
import Derived.Test.YtpeeojbhfebcdaaQ3
namespace Go.Proofs.Ytpeeojbhfebcdaa.V
open Go.RowKit Go.Proofs.YtpeeojbhfebcdaaW.PrintWords Go.Proofs.YtpeeojbhfebcdaaW.PrintLast Go.Proofs.YtpeeojbhfebcdaaW.PrintMore
open Go.Proofs.Ytpeeojbhfebcdaa.PAll
theorem again_any (w0 : World) (A : Option Addr) (c : Nat) (l : List S45) (hr : Kd.C k45 w0 A l.length l) (hc : l.length ≤ c) :
    Calls Try.prog 4 #[.slice A l.length c] w0 fun e w' => e = .returned (.bool true) ∧ Below w0.heap.size w0 w' := by
  obtain ⟨k, hk⟩ := again_pure l hr.2.1
  exact maquettelaw16_ShelfAgain.calls k A c l true w0 hr hc hk
end Go.Proofs.Ytpeeojbhfebcdaa.V
