/- A plan, plain: what put, chain, leaves do. -/
import Derived.Test.YtpeeojbhfebcdaaK
namespace Go.Proofs.Ytpeeojbhfebcdaa.V
open Go.RowKit Go.Proofs.YtpeeojbhfebcdaaW.PrintWords Go.Proofs.YtpeeojbhfebcdaaW.PrintLast Go.Proofs.YtpeeojbhfebcdaaW.PrintMore Go.Proofs.YtpeeojbhfebcdaaM
set_option linter.unusedVariables false
set_option linter.unusedSimpArgs false

structure PS where
  known : ByteArray → Option Int
  free : List Int
  out : List R2
  e : Int
def putN (S : PS) (b : ByteArray) (is : Bool) : Int :=
  if S.e = 0 then (if is = true then (match S.known b with | some n => n | none => (match S.free with | [] => 0 | n :: _ => n)) else 0) else 0
def putS (S : PS) (b : ByteArray) (is : Bool) : PS :=
  if S.e = 0 then (if is = true then (match S.known b with | some _ => S | none => (match S.free with | [] => { S with e := 8 } | n :: fr => { S with known := upd S.known b n, free := fr, out := S.out ++ [(n, b)] })) else { S with e := 9 }) else S
end Go.Proofs.Ytpeeojbhfebcdaa.V
