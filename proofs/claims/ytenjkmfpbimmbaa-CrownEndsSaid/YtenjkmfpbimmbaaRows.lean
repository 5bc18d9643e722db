/-
  No cell of these rows narrows 'for every input' (looked for: loops, veiled, ifaces, maps, wideKeys, modest, calm, conditions, laid).
  DERIVED. THE GIVEN ROWS OF THIS SEAT. 6 by the template 'for every input the law returns true; each argument reads behind the call as it read before'; 0 by the template 'total and deterministic' (their statements: YtenjkmfpbimmbaaTotals.lean).
  GIVEN WITH THE SEED: the statements are not yours to turn. If you find one false, say at which input.
  Laid BY PROGRAM, IN A SANDBOX (cutbox-rows.mjs): the forced cells as the released guide's own fill.sh prints them over the translation ecb10d20ce797f34… (all of the seat's roots in one cut). By AI agents, Wed Nov 11 2026. No macro, syntax, notation, axiom, sorry.
-/
import Derived.Test.YtenjkmfpbimmbaaChecked
import GoSem.Claim
import GoSem.ClaimJoined
import GoSem.ClaimMapViews
import Derived.JoinedTies
import Derived.KernelRfl
namespace Go.Proofs.Ytenjkmfpbimmbaa
/- THE CELL 'sum', in the pinned program and in every row, IS THE sha256 OF THE DUMP (.gsa) THAT YtenjkmfpbimmbaaProg.lean LOADS. Nothing in Lean hashes anything: it is a label: what it is worth is what the hold of that sum in a sandbox is worth. -/
noncomputable def Try.pinned : Pinned := { name := "ytenjkmfpbimmbaa", sum := "ecb10d20ce797f34c986af367e7f8996e103ea9457aee0029b5c65696121fead", checked := Try.checked }
namespace Rows
def none {H : Type} : Left H := { results := [], args := [] }

/-- 'maquettelaw14.CrownTells': WHATEVER THE INPUT: true; the input reads as it did. -/
def crownTellsSpec : ChangeSpec := { name := "crownTells", fn := fun _ => fun
  | [d1, d2, d3, d4] => { results := [.lit (.bool true)], args := [d1, d2, d3, d4] }
  | _ => none }
def crownTellsRow : OpenClaim := { program := "ytenjkmfpbimmbaa", sum := "ecb10d20ce797f34c986af367e7f8996e103ea9457aee0029b5c65696121fead", func := "maquette/maquettelaw14.CrownTells", spec := "crownTells", inPlace := ["internal/abi.NoEscape", "internal/bytealg.MakeNoZero"], apart := false }
def CrownTellsSaid : Prop := crownTellsRow.holds Try.pinned (OpenSpec.ofChange crownTellsSpec)

/-- ITS FALSE NEIGHBOUR: 'it returns false'. Refute it at one input. -/
def crownTellsWrong : ChangeSpec := { name := "crownTells", fn := fun _ => fun
  | [d1, d2, d3, d4] => { results := [.lit (.bool false)], args := [d1, d2, d3, d4] }
  | _ => none }
def CrownTellsWrongFalsely : Prop := crownTellsRow.holds Try.pinned (OpenSpec.ofChange crownTellsWrong)

/-- 'maquettelaw14.CrownTears': WHATEVER THE INPUT: true; the input reads as it did. -/
def crownTearsSpec : ChangeSpec := { name := "crownTears", fn := fun _ => fun
  | [d1, d2, d3] => { results := [.lit (.bool true)], args := [d1, d2, d3] }
  | _ => none }
def crownTearsRow : OpenClaim := { program := "ytenjkmfpbimmbaa", sum := "ecb10d20ce797f34c986af367e7f8996e103ea9457aee0029b5c65696121fead", func := "maquette/maquettelaw14.CrownTears", spec := "crownTears", inPlace := ["internal/abi.NoEscape", "internal/bytealg.MakeNoZero"], apart := false }
def CrownTearsSaid : Prop := crownTearsRow.holds Try.pinned (OpenSpec.ofChange crownTearsSpec)

/-- ITS FALSE NEIGHBOUR: 'it returns false'. Refute it at one input. -/
def crownTearsWrong : ChangeSpec := { name := "crownTears", fn := fun _ => fun
  | [d1, d2, d3] => { results := [.lit (.bool false)], args := [d1, d2, d3] }
  | _ => none }
def CrownTearsWrongFalsely : Prop := crownTearsRow.holds Try.pinned (OpenSpec.ofChange crownTearsWrong)

/-- 'maquettelaw14.CrownTurns': WHATEVER THE INPUT: true; the input reads as it did. -/
def crownTurnsSpec : ChangeSpec := { name := "crownTurns", fn := fun _ => fun
  | [d1, d2, d3] => { results := [.lit (.bool true)], args := [d1, d2, d3] }
  | _ => none }
def crownTurnsRow : OpenClaim := { program := "ytenjkmfpbimmbaa", sum := "ecb10d20ce797f34c986af367e7f8996e103ea9457aee0029b5c65696121fead", func := "maquette/maquettelaw14.CrownTurns", spec := "crownTurns", inPlace := ["internal/abi.NoEscape", "internal/bytealg.MakeNoZero"], apart := false }
def CrownTurnsSaid : Prop := crownTurnsRow.holds Try.pinned (OpenSpec.ofChange crownTurnsSpec)

/-- ITS FALSE NEIGHBOUR: 'it returns false'. Refute it at one input. -/
def crownTurnsWrong : ChangeSpec := { name := "crownTurns", fn := fun _ => fun
  | [d1, d2, d3] => { results := [.lit (.bool false)], args := [d1, d2, d3] }
  | _ => none }
def CrownTurnsWrongFalsely : Prop := crownTurnsRow.holds Try.pinned (OpenSpec.ofChange crownTurnsWrong)

/-- 'maquettelaw14.CrownEdges': WHATEVER THE INPUT: true; the input reads as it did. -/
def crownEdgesSpec : ChangeSpec := { name := "crownEdges", fn := fun _ => fun
  | [d1, d2] => { results := [.lit (.bool true)], args := [d1, d2] }
  | _ => none }
def crownEdgesRow : OpenClaim := { program := "ytenjkmfpbimmbaa", sum := "ecb10d20ce797f34c986af367e7f8996e103ea9457aee0029b5c65696121fead", func := "maquette/maquettelaw14.CrownEdges", spec := "crownEdges", inPlace := ["internal/abi.NoEscape", "internal/bytealg.MakeNoZero"], apart := false }
def CrownEdgesSaid : Prop := crownEdgesRow.holds Try.pinned (OpenSpec.ofChange crownEdgesSpec)

/-- ITS FALSE NEIGHBOUR: 'it returns false'. Refute it at one input. -/
def crownEdgesWrong : ChangeSpec := { name := "crownEdges", fn := fun _ => fun
  | [d1, d2] => { results := [.lit (.bool false)], args := [d1, d2] }
  | _ => none }
def CrownEdgesWrongFalsely : Prop := crownEdgesRow.holds Try.pinned (OpenSpec.ofChange crownEdgesWrong)

/-- 'maquettelaw14.CrownEnds': WHATEVER THE INPUT: true; the input reads as it did. -/
def crownEndsSpec : ChangeSpec := { name := "crownEnds", fn := fun _ => fun
  | [d1, d2, d3] => { results := [.lit (.bool true)], args := [d1, d2, d3] }
  | _ => none }
def crownEndsRow : OpenClaim := { program := "ytenjkmfpbimmbaa", sum := "ecb10d20ce797f34c986af367e7f8996e103ea9457aee0029b5c65696121fead", func := "maquette/maquettelaw14.CrownEnds", spec := "crownEnds", inPlace := ["internal/abi.NoEscape", "internal/bytealg.MakeNoZero"], apart := false }
def CrownEndsSaid : Prop := crownEndsRow.holds Try.pinned (OpenSpec.ofChange crownEndsSpec)

/-- ITS FALSE NEIGHBOUR: 'it returns false'. Refute it at one input. -/
def crownEndsWrong : ChangeSpec := { name := "crownEnds", fn := fun _ => fun
  | [d1, d2, d3] => { results := [.lit (.bool false)], args := [d1, d2, d3] }
  | _ => none }
def CrownEndsWrongFalsely : Prop := crownEndsRow.holds Try.pinned (OpenSpec.ofChange crownEndsWrong)

/-- 'maquettelaw14.CrownOrder': WHATEVER THE INPUT: true; the input reads as it did. -/
def crownOrderSpec : ChangeSpec := { name := "crownOrder", fn := fun _ => fun
  | [d1, d2] => { results := [.lit (.bool true)], args := [d1, d2] }
  | _ => none }
def crownOrderRow : OpenClaim := { program := "ytenjkmfpbimmbaa", sum := "ecb10d20ce797f34c986af367e7f8996e103ea9457aee0029b5c65696121fead", func := "maquette/maquettelaw14.CrownOrder", spec := "crownOrder", inPlace := ["internal/abi.NoEscape", "internal/bytealg.MakeNoZero"], apart := false }
def CrownOrderSaid : Prop := crownOrderRow.holds Try.pinned (OpenSpec.ofChange crownOrderSpec)

/-- ITS FALSE NEIGHBOUR: 'it returns false'. Refute it at one input. -/
def crownOrderWrong : ChangeSpec := { name := "crownOrder", fn := fun _ => fun
  | [d1, d2] => { results := [.lit (.bool false)], args := [d1, d2] }
  | _ => none }
def CrownOrderWrongFalsely : Prop := crownOrderRow.holds Try.pinned (OpenSpec.ofChange crownOrderWrong)

/- THE SECOND FORM. 'bulk': how many values and letters a reading holds, each counted each time it is reached (what is shared counts as often as it is met; a slice's spare places count too). A statement '..UptoSaid' is the law's where the arguments, and the package variables that the reading takes, are together of bulk at most 1048576: NARROWER than '..Said'. Prove '..Said' where nothing that the law and all that it calls make is longer than what came in: it says more and counts as full. Else prove '..UptoSaid'. A law counts once. -/
mutual
def uptoBulk {H : Type} : DataW H → Nat
  | .lit (.string bytes) => bytes.length + 1
  | .lit _ => 1
  | .nil => 1
  | .ptr d => uptoBulk d + 1
  | .slice elems spare => uptoBulkAll elems + uptoBulkAll spare + 1
  | .agg parts => uptoBulkAll parts + 1
  | .iface _ d => uptoBulk d + 1
  | .map entries => uptoBulkEntries entries + 1
  | .held _ => 1
def uptoBulkAll {H : Type} : List (DataW H) → Nat
  | [] => 0
  | d :: r => uptoBulk d + uptoBulkAll r
def uptoBulkEntries {H : Type} : List (Lit × DataW H) → Nat
  | [] => 0
  | x :: r => uptoBulkEntry x + uptoBulkEntries r
def uptoBulkEntry {H : Type} : Lit × DataW H → Nat
  | (.string bytes, d) => bytes.length + uptoBulk d + 1
  | (_, d) => uptoBulk d + 1
 end
def uptoSmall : (H : Type) → List (DataW H) → Bool := fun _ ds => decide (uptoBulkAll ds ≤ 1048576)
def OpenSpec.upto (s : _root_.Go.ChangeSpec) : _root_.Go.OpenSpec := { _root_.Go.OpenSpec.ofChange s with cond := some uptoSmall }

/-- 'maquettelaw14.CrownTells', WHERE WHAT IT READS IS OF BULK AT MOST 1048576: true; the input reads as it did. -/
def crownTellsUptoRow : OpenClaim := { program := "ytenjkmfpbimmbaa", sum := "ecb10d20ce797f34c986af367e7f8996e103ea9457aee0029b5c65696121fead", func := "maquette/maquettelaw14.CrownTells", spec := "crownTells", inPlace := ["internal/abi.NoEscape", "internal/bytealg.MakeNoZero"], apart := false, narrowed := true }
def CrownTellsUptoSaid : Prop := crownTellsUptoRow.holds Try.pinned (OpenSpec.upto crownTellsSpec)

/-- 'maquettelaw14.CrownTears', WHERE WHAT IT READS IS OF BULK AT MOST 1048576: true; the input reads as it did. -/
def crownTearsUptoRow : OpenClaim := { program := "ytenjkmfpbimmbaa", sum := "ecb10d20ce797f34c986af367e7f8996e103ea9457aee0029b5c65696121fead", func := "maquette/maquettelaw14.CrownTears", spec := "crownTears", inPlace := ["internal/abi.NoEscape", "internal/bytealg.MakeNoZero"], apart := false, narrowed := true }
def CrownTearsUptoSaid : Prop := crownTearsUptoRow.holds Try.pinned (OpenSpec.upto crownTearsSpec)

/-- 'maquettelaw14.CrownTurns', WHERE WHAT IT READS IS OF BULK AT MOST 1048576: true; the input reads as it did. -/
def crownTurnsUptoRow : OpenClaim := { program := "ytenjkmfpbimmbaa", sum := "ecb10d20ce797f34c986af367e7f8996e103ea9457aee0029b5c65696121fead", func := "maquette/maquettelaw14.CrownTurns", spec := "crownTurns", inPlace := ["internal/abi.NoEscape", "internal/bytealg.MakeNoZero"], apart := false, narrowed := true }
def CrownTurnsUptoSaid : Prop := crownTurnsUptoRow.holds Try.pinned (OpenSpec.upto crownTurnsSpec)

/-- 'maquettelaw14.CrownEdges', WHERE WHAT IT READS IS OF BULK AT MOST 1048576: true; the input reads as it did. -/
def crownEdgesUptoRow : OpenClaim := { program := "ytenjkmfpbimmbaa", sum := "ecb10d20ce797f34c986af367e7f8996e103ea9457aee0029b5c65696121fead", func := "maquette/maquettelaw14.CrownEdges", spec := "crownEdges", inPlace := ["internal/abi.NoEscape", "internal/bytealg.MakeNoZero"], apart := false, narrowed := true }
def CrownEdgesUptoSaid : Prop := crownEdgesUptoRow.holds Try.pinned (OpenSpec.upto crownEdgesSpec)

/-- 'maquettelaw14.CrownEnds', WHERE WHAT IT READS IS OF BULK AT MOST 1048576: true; the input reads as it did. -/
def crownEndsUptoRow : OpenClaim := { program := "ytenjkmfpbimmbaa", sum := "ecb10d20ce797f34c986af367e7f8996e103ea9457aee0029b5c65696121fead", func := "maquette/maquettelaw14.CrownEnds", spec := "crownEnds", inPlace := ["internal/abi.NoEscape", "internal/bytealg.MakeNoZero"], apart := false, narrowed := true }
def CrownEndsUptoSaid : Prop := crownEndsUptoRow.holds Try.pinned (OpenSpec.upto crownEndsSpec)

/-- 'maquettelaw14.CrownOrder', WHERE WHAT IT READS IS OF BULK AT MOST 1048576: true; the input reads as it did. -/
def crownOrderUptoRow : OpenClaim := { program := "ytenjkmfpbimmbaa", sum := "ecb10d20ce797f34c986af367e7f8996e103ea9457aee0029b5c65696121fead", func := "maquette/maquettelaw14.CrownOrder", spec := "crownOrder", inPlace := ["internal/abi.NoEscape", "internal/bytealg.MakeNoZero"], apart := false, narrowed := true }
def CrownOrderUptoSaid : Prop := crownOrderUptoRow.holds Try.pinned (OpenSpec.upto crownOrderSpec)

end Rows
end Go.Proofs.Ytenjkmfpbimmbaa
