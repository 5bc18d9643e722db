/- Of the texts that the row stands on, what it needs (part 38), put together by a program of this session. -/
import Derived.Test.YtdhaoaehboonpaaGreatZdT34
import Derived.Test.YtdhaoaehboonpaaGreatZdT36
import Derived.Test.YtdhaoaehboonpaaGreatZdT37
namespace Go.Proofs.YtdhaoaehboonpaaGreat.V
open Go.RowKit Go.Proofs.YtdhaoaehboonpaaGreatW.PrintWords Go.Proofs.YtdhaoaehboonpaaGreatW.PrintLast Go.Proofs.YtdhaoaehboonpaaGreatW.PrintMore Go.Proofs.YtdhaoaehboonpaaGreatM
open Go.Proofs.YtdhaoaehboonpaaGreat.PSm (S50 k50)
open Go.Proofs.YtdhaoaehboonpaaGreat.Th (Rw IsRows)
set_option linter.unusedVariables false
set_option linter.unusedSimpArgs false
theorem tR5_len (l : List S50) : (tR5 l).length = l.length := by rw [tR5, List.length_map]
theorem C_tR5 {w : World} {A : Option Addr} {l : List S50} (h : Kd.C k50 w A l.length l) : Kd.C kR w A (tR5 l).length (tR5 l) := by rw [tR5_len]; exact C_iso h
end Go.Proofs.YtdhaoaehboonpaaGreat.V
