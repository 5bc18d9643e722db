/-
  No cell of these rows narrows 'for every input' (looked for: loops, veiled, ifaces, maps, wideKeys, modest, calm, conditions, laid).
  DERIVED. THE GIVEN ROWS OF THIS SEAT. 7 by the template 'for every input the law returns true; each argument reads behind the call as it read before'; 0 by the template 'total and deterministic' (their statements: YtlgmabibcpkdmaaTotals.lean).
  GIVEN WITH THE SEED: the statements are not yours to turn. If you find one false, say at which input.
  Laid BY PROGRAM, IN A SANDBOX (cutbox-rows.mjs): the forced cells as the released guide's own fill.sh prints them over the translation ac37d25b51f8b19e… (all of the seat's roots in one cut). By AI agents, Wed Nov 11 2026. No macro, syntax, notation, axiom, sorry.
-/
import Derived.Test.YtlgmabibcpkdmaaChecked
import GoSem.Claim
import GoSem.ClaimJoined
import GoSem.ClaimMapViews
import Derived.JoinedTies
import Derived.KernelRfl
namespace Go.Proofs.Ytlgmabibcpkdmaa
/- THE CELL 'sum', in the pinned program and in every row, IS THE sha256 OF THE DUMP (.gsa) THAT YtlgmabibcpkdmaaProg.lean LOADS. Nothing in Lean hashes anything: it is a label: what it is worth is what the hold of that sum in a sandbox is worth. -/
noncomputable def Try.pinned : Pinned := { name := "ytlgmabibcpkdmaa", sum := "ac37d25b51f8b19ee118bbba1f88f8cd717e66516b2921142eca0ac2ad98892b", checked := Try.checked }
namespace Rows
def none {H : Type} : Left H := { results := [], args := [] }

/-- 'maquettelaw15.SheetTurned': WHATEVER THE INPUT: true; the input reads as it did. -/
def sheetTurnedSpec : ChangeSpec := { name := "sheetTurned", fn := fun _ => fun
  | [d1, d2, d3] => { results := [.lit (.bool true)], args := [d1, d2, d3] }
  | _ => none }
def sheetTurnedRow : OpenClaim := { program := "ytlgmabibcpkdmaa", sum := "ac37d25b51f8b19ee118bbba1f88f8cd717e66516b2921142eca0ac2ad98892b", func := "maquette/maquettelaw15.SheetTurned", spec := "sheetTurned", inPlace := ["internal/abi.NoEscape", "internal/bytealg.MakeNoZero"], apart := false }
def SheetTurnedSaid : Prop := sheetTurnedRow.holds Try.pinned (OpenSpec.ofChange sheetTurnedSpec)

/-- ITS FALSE NEIGHBOUR: 'it returns false'. Refute it at one input. -/
def sheetTurnedWrong : ChangeSpec := { name := "sheetTurned", fn := fun _ => fun
  | [d1, d2, d3] => { results := [.lit (.bool false)], args := [d1, d2, d3] }
  | _ => none }
def SheetTurnedWrongFalsely : Prop := sheetTurnedRow.holds Try.pinned (OpenSpec.ofChange sheetTurnedWrong)

/-- 'maquettelaw15.SheetChains': WHATEVER THE INPUT: true; the input reads as it did. -/
def sheetChainsSpec : ChangeSpec := { name := "sheetChains", fn := fun _ => fun
  | [d1, d2] => { results := [.lit (.bool true)], args := [d1, d2] }
  | _ => none }
def sheetChainsRow : OpenClaim := { program := "ytlgmabibcpkdmaa", sum := "ac37d25b51f8b19ee118bbba1f88f8cd717e66516b2921142eca0ac2ad98892b", func := "maquette/maquettelaw15.SheetChains", spec := "sheetChains", inPlace := ["internal/abi.NoEscape", "internal/bytealg.MakeNoZero"], apart := false }
def SheetChainsSaid : Prop := sheetChainsRow.holds Try.pinned (OpenSpec.ofChange sheetChainsSpec)

/-- ITS FALSE NEIGHBOUR: 'it returns false'. Refute it at one input. -/
def sheetChainsWrong : ChangeSpec := { name := "sheetChains", fn := fun _ => fun
  | [d1, d2] => { results := [.lit (.bool false)], args := [d1, d2] }
  | _ => none }
def SheetChainsWrongFalsely : Prop := sheetChainsRow.holds Try.pinned (OpenSpec.ofChange sheetChainsWrong)

/-- 'maquettelaw15.SheetIndexes': WHATEVER THE INPUT: true; the input reads as it did. -/
def sheetIndexesSpec : ChangeSpec := { name := "sheetIndexes", fn := fun _ => fun
  | [d1, d2] => { results := [.lit (.bool true)], args := [d1, d2] }
  | _ => none }
def sheetIndexesRow : OpenClaim := { program := "ytlgmabibcpkdmaa", sum := "ac37d25b51f8b19ee118bbba1f88f8cd717e66516b2921142eca0ac2ad98892b", func := "maquette/maquettelaw15.SheetIndexes", spec := "sheetIndexes", inPlace := ["internal/abi.NoEscape", "internal/bytealg.MakeNoZero"], apart := false }
def SheetIndexesSaid : Prop := sheetIndexesRow.holds Try.pinned (OpenSpec.ofChange sheetIndexesSpec)

/-- ITS FALSE NEIGHBOUR: 'it returns false'. Refute it at one input. -/
def sheetIndexesWrong : ChangeSpec := { name := "sheetIndexes", fn := fun _ => fun
  | [d1, d2] => { results := [.lit (.bool false)], args := [d1, d2] }
  | _ => none }
def SheetIndexesWrongFalsely : Prop := sheetIndexesRow.holds Try.pinned (OpenSpec.ofChange sheetIndexesWrong)

/-- 'maquettelaw15.SheetKinds': WHATEVER THE INPUT: true; the input reads as it did. -/
def sheetKindsSpec : ChangeSpec := { name := "sheetKinds", fn := fun _ => fun
  | [d1, d2] => { results := [.lit (.bool true)], args := [d1, d2] }
  | _ => none }
def sheetKindsRow : OpenClaim := { program := "ytlgmabibcpkdmaa", sum := "ac37d25b51f8b19ee118bbba1f88f8cd717e66516b2921142eca0ac2ad98892b", func := "maquette/maquettelaw15.SheetKinds", spec := "sheetKinds", inPlace := ["internal/abi.NoEscape", "internal/bytealg.MakeNoZero"], apart := false }
def SheetKindsSaid : Prop := sheetKindsRow.holds Try.pinned (OpenSpec.ofChange sheetKindsSpec)

/-- ITS FALSE NEIGHBOUR: 'it returns false'. Refute it at one input. -/
def sheetKindsWrong : ChangeSpec := { name := "sheetKinds", fn := fun _ => fun
  | [d1, d2] => { results := [.lit (.bool false)], args := [d1, d2] }
  | _ => none }
def SheetKindsWrongFalsely : Prop := sheetKindsRow.holds Try.pinned (OpenSpec.ofChange sheetKindsWrong)

/-- 'maquettelaw15.SheetCellsBack': WHATEVER THE INPUT: true; the input reads as it did. -/
def sheetCellsBackSpec : ChangeSpec := { name := "sheetCellsBack", fn := fun _ => fun
  | [d] => { results := [.lit (.bool true)], args := [d] }
  | _ => none }
def sheetCellsBackRow : OpenClaim := { program := "ytlgmabibcpkdmaa", sum := "ac37d25b51f8b19ee118bbba1f88f8cd717e66516b2921142eca0ac2ad98892b", func := "maquette/maquettelaw15.SheetCellsBack", spec := "sheetCellsBack", inPlace := ["internal/abi.NoEscape", "internal/bytealg.MakeNoZero"], apart := false }
def SheetCellsBackSaid : Prop := sheetCellsBackRow.holds Try.pinned (OpenSpec.ofChange sheetCellsBackSpec)

/-- ITS FALSE NEIGHBOUR: 'it returns false'. Refute it at one input. -/
def sheetCellsBackWrong : ChangeSpec := { name := "sheetCellsBack", fn := fun _ => fun
  | [d] => { results := [.lit (.bool false)], args := [d] }
  | _ => none }
def SheetCellsBackWrongFalsely : Prop := sheetCellsBackRow.holds Try.pinned (OpenSpec.ofChange sheetCellsBackWrong)

/-- 'maquettelaw15.SheetTells': WHATEVER THE INPUT: true; the input reads as it did. -/
def sheetTellsSpec : ChangeSpec := { name := "sheetTells", fn := fun _ => fun
  | [d1, d2, d3, d4, d5] => { results := [.lit (.bool true)], args := [d1, d2, d3, d4, d5] }
  | _ => none }
def sheetTellsRow : OpenClaim := { program := "ytlgmabibcpkdmaa", sum := "ac37d25b51f8b19ee118bbba1f88f8cd717e66516b2921142eca0ac2ad98892b", func := "maquette/maquettelaw15.SheetTells", spec := "sheetTells", inPlace := ["internal/abi.NoEscape", "internal/bytealg.MakeNoZero"], apart := false }
def SheetTellsSaid : Prop := sheetTellsRow.holds Try.pinned (OpenSpec.ofChange sheetTellsSpec)

/-- ITS FALSE NEIGHBOUR: 'it returns false'. Refute it at one input. -/
def sheetTellsWrong : ChangeSpec := { name := "sheetTells", fn := fun _ => fun
  | [d1, d2, d3, d4, d5] => { results := [.lit (.bool false)], args := [d1, d2, d3, d4, d5] }
  | _ => none }
def SheetTellsWrongFalsely : Prop := sheetTellsRow.holds Try.pinned (OpenSpec.ofChange sheetTellsWrong)

/-- 'maquettelaw15.SheetRoom': WHATEVER THE INPUT: true; the input reads as it did. -/
def sheetRoomSpec : ChangeSpec := { name := "sheetRoom", fn := fun _ => fun
  | [d1, d2] => { results := [.lit (.bool true)], args := [d1, d2] }
  | _ => none }
def sheetRoomRow : OpenClaim := { program := "ytlgmabibcpkdmaa", sum := "ac37d25b51f8b19ee118bbba1f88f8cd717e66516b2921142eca0ac2ad98892b", func := "maquette/maquettelaw15.SheetRoom", spec := "sheetRoom", inPlace := ["internal/abi.NoEscape", "internal/bytealg.MakeNoZero"], apart := false }
def SheetRoomSaid : Prop := sheetRoomRow.holds Try.pinned (OpenSpec.ofChange sheetRoomSpec)

/-- ITS FALSE NEIGHBOUR: 'it returns false'. Refute it at one input. -/
def sheetRoomWrong : ChangeSpec := { name := "sheetRoom", fn := fun _ => fun
  | [d1, d2] => { results := [.lit (.bool false)], args := [d1, d2] }
  | _ => none }
def SheetRoomWrongFalsely : Prop := sheetRoomRow.holds Try.pinned (OpenSpec.ofChange sheetRoomWrong)

/- THE SECOND FORM. 'bulk': how many values and letters a reading holds, each counted each time it is reached (what is shared counts as often as it is met; a slice's spare places count too). A statement '..UptoSaid' is the law's where the arguments, and the package variables that the reading takes, are together of bulk at most 1048576: NARROWER than '..Said'. Prove '..Said' where nothing that the law and all that it calls make is longer than what came in: it says more and counts as full. Else prove '..UptoSaid'. A law counts once. -/
mutual
def uptoBulk {H : Type} : DataW H → Nat
  | .lit (.string bytes) => bytes.length + 1
  | .lit _ => 1
  | .nil => 1
  | .ptr d => uptoBulk d + 1
  | .slice elems spare => uptoBulkAll elems + uptoBulkAll spare + 1
  | .agg parts => uptoBulkAll parts + 1
  | .iface _ d => uptoBulk d + 1
  | .map entries => uptoBulkEntries entries + 1
  | .held _ => 1
def uptoBulkAll {H : Type} : List (DataW H) → Nat
  | [] => 0
  | d :: r => uptoBulk d + uptoBulkAll r
def uptoBulkEntries {H : Type} : List (Lit × DataW H) → Nat
  | [] => 0
  | x :: r => uptoBulkEntry x + uptoBulkEntries r
def uptoBulkEntry {H : Type} : Lit × DataW H → Nat
  | (.string bytes, d) => bytes.length + uptoBulk d + 1
  | (_, d) => uptoBulk d + 1
 end
def uptoSmall : (H : Type) → List (DataW H) → Bool := fun _ ds => decide (uptoBulkAll ds ≤ 1048576)
def OpenSpec.upto (s : _root_.Go.ChangeSpec) : _root_.Go.OpenSpec := { _root_.Go.OpenSpec.ofChange s with cond := some uptoSmall }

/-- 'maquettelaw15.SheetTurned', WHERE WHAT IT READS IS OF BULK AT MOST 1048576: true; the input reads as it did. -/
def sheetTurnedUptoRow : OpenClaim := { program := "ytlgmabibcpkdmaa", sum := "ac37d25b51f8b19ee118bbba1f88f8cd717e66516b2921142eca0ac2ad98892b", func := "maquette/maquettelaw15.SheetTurned", spec := "sheetTurned", inPlace := ["internal/abi.NoEscape", "internal/bytealg.MakeNoZero"], apart := false, narrowed := true }
def SheetTurnedUptoSaid : Prop := sheetTurnedUptoRow.holds Try.pinned (OpenSpec.upto sheetTurnedSpec)

/-- 'maquettelaw15.SheetChains', WHERE WHAT IT READS IS OF BULK AT MOST 1048576: true; the input reads as it did. -/
def sheetChainsUptoRow : OpenClaim := { program := "ytlgmabibcpkdmaa", sum := "ac37d25b51f8b19ee118bbba1f88f8cd717e66516b2921142eca0ac2ad98892b", func := "maquette/maquettelaw15.SheetChains", spec := "sheetChains", inPlace := ["internal/abi.NoEscape", "internal/bytealg.MakeNoZero"], apart := false, narrowed := true }
def SheetChainsUptoSaid : Prop := sheetChainsUptoRow.holds Try.pinned (OpenSpec.upto sheetChainsSpec)

/-- 'maquettelaw15.SheetIndexes', WHERE WHAT IT READS IS OF BULK AT MOST 1048576: true; the input reads as it did. -/
def sheetIndexesUptoRow : OpenClaim := { program := "ytlgmabibcpkdmaa", sum := "ac37d25b51f8b19ee118bbba1f88f8cd717e66516b2921142eca0ac2ad98892b", func := "maquette/maquettelaw15.SheetIndexes", spec := "sheetIndexes", inPlace := ["internal/abi.NoEscape", "internal/bytealg.MakeNoZero"], apart := false, narrowed := true }
def SheetIndexesUptoSaid : Prop := sheetIndexesUptoRow.holds Try.pinned (OpenSpec.upto sheetIndexesSpec)

/-- 'maquettelaw15.SheetKinds', WHERE WHAT IT READS IS OF BULK AT MOST 1048576: true; the input reads as it did. -/
def sheetKindsUptoRow : OpenClaim := { program := "ytlgmabibcpkdmaa", sum := "ac37d25b51f8b19ee118bbba1f88f8cd717e66516b2921142eca0ac2ad98892b", func := "maquette/maquettelaw15.SheetKinds", spec := "sheetKinds", inPlace := ["internal/abi.NoEscape", "internal/bytealg.MakeNoZero"], apart := false, narrowed := true }
def SheetKindsUptoSaid : Prop := sheetKindsUptoRow.holds Try.pinned (OpenSpec.upto sheetKindsSpec)

/-- 'maquettelaw15.SheetCellsBack', WHERE WHAT IT READS IS OF BULK AT MOST 1048576: true; the input reads as it did. -/
def sheetCellsBackUptoRow : OpenClaim := { program := "ytlgmabibcpkdmaa", sum := "ac37d25b51f8b19ee118bbba1f88f8cd717e66516b2921142eca0ac2ad98892b", func := "maquette/maquettelaw15.SheetCellsBack", spec := "sheetCellsBack", inPlace := ["internal/abi.NoEscape", "internal/bytealg.MakeNoZero"], apart := false, narrowed := true }
def SheetCellsBackUptoSaid : Prop := sheetCellsBackUptoRow.holds Try.pinned (OpenSpec.upto sheetCellsBackSpec)

/-- 'maquettelaw15.SheetTells', WHERE WHAT IT READS IS OF BULK AT MOST 1048576: true; the input reads as it did. -/
def sheetTellsUptoRow : OpenClaim := { program := "ytlgmabibcpkdmaa", sum := "ac37d25b51f8b19ee118bbba1f88f8cd717e66516b2921142eca0ac2ad98892b", func := "maquette/maquettelaw15.SheetTells", spec := "sheetTells", inPlace := ["internal/abi.NoEscape", "internal/bytealg.MakeNoZero"], apart := false, narrowed := true }
def SheetTellsUptoSaid : Prop := sheetTellsUptoRow.holds Try.pinned (OpenSpec.upto sheetTellsSpec)

/-- 'maquettelaw15.SheetRoom', WHERE WHAT IT READS IS OF BULK AT MOST 1048576: true; the input reads as it did. -/
def sheetRoomUptoRow : OpenClaim := { program := "ytlgmabibcpkdmaa", sum := "ac37d25b51f8b19ee118bbba1f88f8cd717e66516b2921142eca0ac2ad98892b", func := "maquette/maquettelaw15.SheetRoom", spec := "sheetRoom", inPlace := ["internal/abi.NoEscape", "internal/bytealg.MakeNoZero"], apart := false, narrowed := true }
def SheetRoomUptoSaid : Prop := sheetRoomUptoRow.holds Try.pinned (OpenSpec.upto sheetRoomSpec)

end Rows
end Go.Proofs.Ytlgmabibcpkdmaa
