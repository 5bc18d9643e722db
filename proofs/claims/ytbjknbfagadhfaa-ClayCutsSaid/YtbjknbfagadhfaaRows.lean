/-
  No cell of these rows narrows 'for every input' (looked for: loops, veiled, ifaces, maps, wideKeys, modest, calm, conditions, laid).
  DERIVED. THE GIVEN ROWS OF THIS SEAT. 8 by the template 'for every input the law returns true; each argument reads behind the call as it read before'; 0 by the template 'total and deterministic' (their statements: YtbjknbfagadhfaaTotals.lean).
  GIVEN WITH THE SEED: the statements are not yours to turn. If you find one false, say at which input.
  Laid BY PROGRAM, IN A SANDBOX (cutbox-rows.mjs): the forced cells as the released guide's own fill.sh prints them over the translation ece4215ab9c1a495… (all of the seat's roots in one cut). By AI agents, Wed Nov 11 2026. No macro, syntax, notation, axiom, sorry.
-/
import Derived.Test.YtbjknbfagadhfaaChecked
import GoSem.Claim
import GoSem.ClaimJoined
import GoSem.ClaimMapViews
import Derived.JoinedTies
import Derived.KernelRfl
namespace Go.Proofs.Ytbjknbfagadhfaa
/- THE CELL 'sum', in the pinned program and in every row, IS THE sha256 OF THE DUMP (.gsa) THAT YtbjknbfagadhfaaProg.lean LOADS. Nothing in Lean hashes anything: it is a label: what it is worth is what the hold of that sum in a sandbox is worth. -/
noncomputable def Try.pinned : Pinned := { name := "ytbjknbfagadhfaa", sum := "ece4215ab9c1a49527b7c5203b9ffdc200c7cba2e84d978606378426377b5708", checked := Try.checked }
namespace Rows
def none {H : Type} : Left H := { results := [], args := [] }

/-- 'maquettelaw18.ClayTells': WHATEVER THE INPUT: true; the input reads as it did. -/
def clayTellsSpec : ChangeSpec := { name := "clayTells", fn := fun _ => fun
  | [d1, d2] => { results := [.lit (.bool true)], args := [d1, d2] }
  | _ => none }
def clayTellsRow : OpenClaim := { program := "ytbjknbfagadhfaa", sum := "ece4215ab9c1a49527b7c5203b9ffdc200c7cba2e84d978606378426377b5708", func := "maquette/maquettelaw18.ClayTells", spec := "clayTells", apart := false }
def ClayTellsSaid : Prop := clayTellsRow.holds Try.pinned (OpenSpec.ofChange clayTellsSpec)

/-- ITS FALSE NEIGHBOUR: 'it returns false'. Refute it at one input. -/
def clayTellsWrong : ChangeSpec := { name := "clayTells", fn := fun _ => fun
  | [d1, d2] => { results := [.lit (.bool false)], args := [d1, d2] }
  | _ => none }
def ClayTellsWrongFalsely : Prop := clayTellsRow.holds Try.pinned (OpenSpec.ofChange clayTellsWrong)

/-- 'maquettelaw18.ClayEntries': WHATEVER THE INPUT: true; the input reads as it did. -/
def clayEntriesSpec : ChangeSpec := { name := "clayEntries", fn := fun _ => fun
  | [d1, d2] => { results := [.lit (.bool true)], args := [d1, d2] }
  | _ => none }
def clayEntriesRow : OpenClaim := { program := "ytbjknbfagadhfaa", sum := "ece4215ab9c1a49527b7c5203b9ffdc200c7cba2e84d978606378426377b5708", func := "maquette/maquettelaw18.ClayEntries", spec := "clayEntries", apart := false }
def ClayEntriesSaid : Prop := clayEntriesRow.holds Try.pinned (OpenSpec.ofChange clayEntriesSpec)

/-- ITS FALSE NEIGHBOUR: 'it returns false'. Refute it at one input. -/
def clayEntriesWrong : ChangeSpec := { name := "clayEntries", fn := fun _ => fun
  | [d1, d2] => { results := [.lit (.bool false)], args := [d1, d2] }
  | _ => none }
def ClayEntriesWrongFalsely : Prop := clayEntriesRow.holds Try.pinned (OpenSpec.ofChange clayEntriesWrong)

/-- 'maquettelaw18.ClayCuts': WHATEVER THE INPUT: true; the input reads as it did. -/
def clayCutsSpec : ChangeSpec := { name := "clayCuts", fn := fun _ => fun
  | [d1, d2, d3, d4] => { results := [.lit (.bool true)], args := [d1, d2, d3, d4] }
  | _ => none }
def clayCutsRow : OpenClaim := { program := "ytbjknbfagadhfaa", sum := "ece4215ab9c1a49527b7c5203b9ffdc200c7cba2e84d978606378426377b5708", func := "maquette/maquettelaw18.ClayCuts", spec := "clayCuts", apart := false }
def ClayCutsSaid : Prop := clayCutsRow.holds Try.pinned (OpenSpec.ofChange clayCutsSpec)

/-- ITS FALSE NEIGHBOUR: 'it returns false'. Refute it at one input. -/
def clayCutsWrong : ChangeSpec := { name := "clayCuts", fn := fun _ => fun
  | [d1, d2, d3, d4] => { results := [.lit (.bool false)], args := [d1, d2, d3, d4] }
  | _ => none }
def ClayCutsWrongFalsely : Prop := clayCutsRow.holds Try.pinned (OpenSpec.ofChange clayCutsWrong)

/-- 'maquettelaw18.ClaySizes': WHATEVER THE INPUT: true; the input reads as it did. -/
def claySizesSpec : ChangeSpec := { name := "claySizes", fn := fun _ => fun
  | [d] => { results := [.lit (.bool true)], args := [d] }
  | _ => none }
def claySizesRow : OpenClaim := { program := "ytbjknbfagadhfaa", sum := "ece4215ab9c1a49527b7c5203b9ffdc200c7cba2e84d978606378426377b5708", func := "maquette/maquettelaw18.ClaySizes", spec := "claySizes", apart := false }
def ClaySizesSaid : Prop := claySizesRow.holds Try.pinned (OpenSpec.ofChange claySizesSpec)

/-- ITS FALSE NEIGHBOUR: 'it returns false'. Refute it at one input. -/
def claySizesWrong : ChangeSpec := { name := "claySizes", fn := fun _ => fun
  | [d] => { results := [.lit (.bool false)], args := [d] }
  | _ => none }
def ClaySizesWrongFalsely : Prop := claySizesRow.holds Try.pinned (OpenSpec.ofChange claySizesWrong)

/-- 'maquettelaw18.ClayTurned': WHATEVER THE INPUT: true; the input reads as it did. -/
def clayTurnedSpec : ChangeSpec := { name := "clayTurned", fn := fun _ => fun
  | [d1, d2, d3] => { results := [.lit (.bool true)], args := [d1, d2, d3] }
  | _ => none }
def clayTurnedRow : OpenClaim := { program := "ytbjknbfagadhfaa", sum := "ece4215ab9c1a49527b7c5203b9ffdc200c7cba2e84d978606378426377b5708", func := "maquette/maquettelaw18.ClayTurned", spec := "clayTurned", apart := false }
def ClayTurnedSaid : Prop := clayTurnedRow.holds Try.pinned (OpenSpec.ofChange clayTurnedSpec)

/-- ITS FALSE NEIGHBOUR: 'it returns false'. Refute it at one input. -/
def clayTurnedWrong : ChangeSpec := { name := "clayTurned", fn := fun _ => fun
  | [d1, d2, d3] => { results := [.lit (.bool false)], args := [d1, d2, d3] }
  | _ => none }
def ClayTurnedWrongFalsely : Prop := clayTurnedRow.holds Try.pinned (OpenSpec.ofChange clayTurnedWrong)

/-- 'maquettelaw18.ClayNumbers': WHATEVER THE INPUT: true; the input reads as it did. -/
def clayNumbersSpec : ChangeSpec := { name := "clayNumbers", fn := fun _ => fun
  | [d1, d2] => { results := [.lit (.bool true)], args := [d1, d2] }
  | _ => none }
def clayNumbersRow : OpenClaim := { program := "ytbjknbfagadhfaa", sum := "ece4215ab9c1a49527b7c5203b9ffdc200c7cba2e84d978606378426377b5708", func := "maquette/maquettelaw18.ClayNumbers", spec := "clayNumbers", apart := false }
def ClayNumbersSaid : Prop := clayNumbersRow.holds Try.pinned (OpenSpec.ofChange clayNumbersSpec)

/-- ITS FALSE NEIGHBOUR: 'it returns false'. Refute it at one input. -/
def clayNumbersWrong : ChangeSpec := { name := "clayNumbers", fn := fun _ => fun
  | [d1, d2] => { results := [.lit (.bool false)], args := [d1, d2] }
  | _ => none }
def ClayNumbersWrongFalsely : Prop := clayNumbersRow.holds Try.pinned (OpenSpec.ofChange clayNumbersWrong)

/-- 'maquettelaw18.ClayMixed': WHATEVER THE INPUT: true; the input reads as it did. -/
def clayMixedSpec : ChangeSpec := { name := "clayMixed", fn := fun _ => fun
  | [d1, d2] => { results := [.lit (.bool true)], args := [d1, d2] }
  | _ => none }
def clayMixedRow : OpenClaim := { program := "ytbjknbfagadhfaa", sum := "ece4215ab9c1a49527b7c5203b9ffdc200c7cba2e84d978606378426377b5708", func := "maquette/maquettelaw18.ClayMixed", spec := "clayMixed", apart := false }
def ClayMixedSaid : Prop := clayMixedRow.holds Try.pinned (OpenSpec.ofChange clayMixedSpec)

/-- ITS FALSE NEIGHBOUR: 'it returns false'. Refute it at one input. -/
def clayMixedWrong : ChangeSpec := { name := "clayMixed", fn := fun _ => fun
  | [d1, d2] => { results := [.lit (.bool false)], args := [d1, d2] }
  | _ => none }
def ClayMixedWrongFalsely : Prop := clayMixedRow.holds Try.pinned (OpenSpec.ofChange clayMixedWrong)

/-- 'maquettelaw18.ClayKinds': WHATEVER THE INPUT: true; the input reads as it did. -/
def clayKindsSpec : ChangeSpec := { name := "clayKinds", fn := fun _ => fun
  | [d1, d2] => { results := [.lit (.bool true)], args := [d1, d2] }
  | _ => none }
def clayKindsRow : OpenClaim := { program := "ytbjknbfagadhfaa", sum := "ece4215ab9c1a49527b7c5203b9ffdc200c7cba2e84d978606378426377b5708", func := "maquette/maquettelaw18.ClayKinds", spec := "clayKinds", apart := false }
def ClayKindsSaid : Prop := clayKindsRow.holds Try.pinned (OpenSpec.ofChange clayKindsSpec)

/-- ITS FALSE NEIGHBOUR: 'it returns false'. Refute it at one input. -/
def clayKindsWrong : ChangeSpec := { name := "clayKinds", fn := fun _ => fun
  | [d1, d2] => { results := [.lit (.bool false)], args := [d1, d2] }
  | _ => none }
def ClayKindsWrongFalsely : Prop := clayKindsRow.holds Try.pinned (OpenSpec.ofChange clayKindsWrong)

/- THE SECOND FORM. 'bulk': how many values and letters a reading holds, each counted each time it is reached (what is shared counts as often as it is met; a slice's spare places count too). A statement '..UptoSaid' is the law's where the arguments, and the package variables that the reading takes, are together of bulk at most 1048576: NARROWER than '..Said'. Prove '..Said' where nothing that the law and all that it calls make is longer than what came in: it says more and counts as full. Else prove '..UptoSaid'. A law counts once. -/
mutual
def uptoBulk {H : Type} : DataW H → Nat
  | .lit (.string bytes) => bytes.length + 1
  | .lit _ => 1
  | .nil => 1
  | .ptr d => uptoBulk d + 1
  | .slice elems spare => uptoBulkAll elems + uptoBulkAll spare + 1
  | .agg parts => uptoBulkAll parts + 1
  | .iface _ d => uptoBulk d + 1
  | .map entries => uptoBulkEntries entries + 1
  | .held _ => 1
def uptoBulkAll {H : Type} : List (DataW H) → Nat
  | [] => 0
  | d :: r => uptoBulk d + uptoBulkAll r
def uptoBulkEntries {H : Type} : List (Lit × DataW H) → Nat
  | [] => 0
  | x :: r => uptoBulkEntry x + uptoBulkEntries r
def uptoBulkEntry {H : Type} : Lit × DataW H → Nat
  | (.string bytes, d) => bytes.length + uptoBulk d + 1
  | (_, d) => uptoBulk d + 1
 end
def uptoSmall : (H : Type) → List (DataW H) → Bool := fun _ ds => decide (uptoBulkAll ds ≤ 1048576)
def OpenSpec.upto (s : _root_.Go.ChangeSpec) : _root_.Go.OpenSpec := { _root_.Go.OpenSpec.ofChange s with cond := some uptoSmall }

/-- 'maquettelaw18.ClayTells', WHERE WHAT IT READS IS OF BULK AT MOST 1048576: true; the input reads as it did. -/
def clayTellsUptoRow : OpenClaim := { program := "ytbjknbfagadhfaa", sum := "ece4215ab9c1a49527b7c5203b9ffdc200c7cba2e84d978606378426377b5708", func := "maquette/maquettelaw18.ClayTells", spec := "clayTells", apart := false, narrowed := true }
def ClayTellsUptoSaid : Prop := clayTellsUptoRow.holds Try.pinned (OpenSpec.upto clayTellsSpec)

/-- 'maquettelaw18.ClayEntries', WHERE WHAT IT READS IS OF BULK AT MOST 1048576: true; the input reads as it did. -/
def clayEntriesUptoRow : OpenClaim := { program := "ytbjknbfagadhfaa", sum := "ece4215ab9c1a49527b7c5203b9ffdc200c7cba2e84d978606378426377b5708", func := "maquette/maquettelaw18.ClayEntries", spec := "clayEntries", apart := false, narrowed := true }
def ClayEntriesUptoSaid : Prop := clayEntriesUptoRow.holds Try.pinned (OpenSpec.upto clayEntriesSpec)

/-- 'maquettelaw18.ClayCuts', WHERE WHAT IT READS IS OF BULK AT MOST 1048576: true; the input reads as it did. -/
def clayCutsUptoRow : OpenClaim := { program := "ytbjknbfagadhfaa", sum := "ece4215ab9c1a49527b7c5203b9ffdc200c7cba2e84d978606378426377b5708", func := "maquette/maquettelaw18.ClayCuts", spec := "clayCuts", apart := false, narrowed := true }
def ClayCutsUptoSaid : Prop := clayCutsUptoRow.holds Try.pinned (OpenSpec.upto clayCutsSpec)

/-- 'maquettelaw18.ClaySizes', WHERE WHAT IT READS IS OF BULK AT MOST 1048576: true; the input reads as it did. -/
def claySizesUptoRow : OpenClaim := { program := "ytbjknbfagadhfaa", sum := "ece4215ab9c1a49527b7c5203b9ffdc200c7cba2e84d978606378426377b5708", func := "maquette/maquettelaw18.ClaySizes", spec := "claySizes", apart := false, narrowed := true }
def ClaySizesUptoSaid : Prop := claySizesUptoRow.holds Try.pinned (OpenSpec.upto claySizesSpec)

/-- 'maquettelaw18.ClayTurned', WHERE WHAT IT READS IS OF BULK AT MOST 1048576: true; the input reads as it did. -/
def clayTurnedUptoRow : OpenClaim := { program := "ytbjknbfagadhfaa", sum := "ece4215ab9c1a49527b7c5203b9ffdc200c7cba2e84d978606378426377b5708", func := "maquette/maquettelaw18.ClayTurned", spec := "clayTurned", apart := false, narrowed := true }
def ClayTurnedUptoSaid : Prop := clayTurnedUptoRow.holds Try.pinned (OpenSpec.upto clayTurnedSpec)

/-- 'maquettelaw18.ClayNumbers', WHERE WHAT IT READS IS OF BULK AT MOST 1048576: true; the input reads as it did. -/
def clayNumbersUptoRow : OpenClaim := { program := "ytbjknbfagadhfaa", sum := "ece4215ab9c1a49527b7c5203b9ffdc200c7cba2e84d978606378426377b5708", func := "maquette/maquettelaw18.ClayNumbers", spec := "clayNumbers", apart := false, narrowed := true }
def ClayNumbersUptoSaid : Prop := clayNumbersUptoRow.holds Try.pinned (OpenSpec.upto clayNumbersSpec)

/-- 'maquettelaw18.ClayMixed', WHERE WHAT IT READS IS OF BULK AT MOST 1048576: true; the input reads as it did. -/
def clayMixedUptoRow : OpenClaim := { program := "ytbjknbfagadhfaa", sum := "ece4215ab9c1a49527b7c5203b9ffdc200c7cba2e84d978606378426377b5708", func := "maquette/maquettelaw18.ClayMixed", spec := "clayMixed", apart := false, narrowed := true }
def ClayMixedUptoSaid : Prop := clayMixedUptoRow.holds Try.pinned (OpenSpec.upto clayMixedSpec)

/-- 'maquettelaw18.ClayKinds', WHERE WHAT IT READS IS OF BULK AT MOST 1048576: true; the input reads as it did. -/
def clayKindsUptoRow : OpenClaim := { program := "ytbjknbfagadhfaa", sum := "ece4215ab9c1a49527b7c5203b9ffdc200c7cba2e84d978606378426377b5708", func := "maquette/maquettelaw18.ClayKinds", spec := "clayKinds", apart := false, narrowed := true }
def ClayKindsUptoSaid : Prop := clayKindsUptoRow.holds Try.pinned (OpenSpec.upto clayKindsSpec)

end Rows
end Go.Proofs.Ytbjknbfagadhfaa
