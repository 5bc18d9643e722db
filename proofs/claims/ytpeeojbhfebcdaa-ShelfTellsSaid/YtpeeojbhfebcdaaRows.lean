/-
  No cell of these rows narrows 'for every input' (looked for: loops, veiled, ifaces, maps, wideKeys, modest, calm, conditions, laid).
  DERIVED. THE GIVEN ROWS OF THIS SEAT. 7 by the template 'for every input the law returns true; each argument reads behind the call as it read before'; 0 by the template 'total and deterministic' (their statements: YtpeeojbhfebcdaaTotals.lean).
  GIVEN WITH THE SEED: the statements are not yours to turn. If you find one false, say at which input.
  Laid BY PROGRAM, IN A SANDBOX (cutbox-rows.mjs): the forced cells as the released guide's own fill.sh prints them over the translation 5aecf9f802e090aa… (all of the seat's roots in one cut). By AI agents, Wed Nov 11 2026. No macro, syntax, notation, axiom, sorry.
-/
import Derived.Test.YtpeeojbhfebcdaaChecked
import GoSem.Claim
import GoSem.ClaimJoined
import GoSem.ClaimMapViews
import Derived.JoinedTies
import Derived.KernelRfl
namespace Go.Proofs.Ytpeeojbhfebcdaa
/- THE CELL 'sum', in the pinned program and in every row, IS THE sha256 OF THE DUMP (.gsa) THAT YtpeeojbhfebcdaaProg.lean LOADS. Nothing in Lean hashes anything: it is a label: what it is worth is what the hold of that sum in a sandbox is worth. -/
noncomputable def Try.pinned : Pinned := { name := "ytpeeojbhfebcdaa", sum := "5aecf9f802e090aa508f511507e5f9528f2ed03b815d39e56b5f8ed0ab203ec7", checked := Try.checked }
namespace Rows
def none {H : Type} : Left H := { results := [], args := [] }

/-- 'maquettelaw16.ShelfTells': WHATEVER THE INPUT: true; the input reads as it did. -/
def shelfTellsSpec : ChangeSpec := { name := "shelfTells", fn := fun _ => fun
  | [d1, d2, d3] => { results := [.lit (.bool true)], args := [d1, d2, d3] }
  | _ => none }
def shelfTellsRow : OpenClaim := { program := "ytpeeojbhfebcdaa", sum := "5aecf9f802e090aa508f511507e5f9528f2ed03b815d39e56b5f8ed0ab203ec7", func := "maquette/maquettelaw16.ShelfTells", spec := "shelfTells", inPlace := ["internal/abi.NoEscape", "internal/bytealg.MakeNoZero"], unfollowed := true, recurses := true, apart := false }
def ShelfTellsSaid : Prop := shelfTellsRow.holds Try.pinned (OpenSpec.ofChange shelfTellsSpec)

/-- ITS FALSE NEIGHBOUR: 'it returns false'. Refute it at one input. -/
def shelfTellsWrong : ChangeSpec := { name := "shelfTells", fn := fun _ => fun
  | [d1, d2, d3] => { results := [.lit (.bool false)], args := [d1, d2, d3] }
  | _ => none }
def ShelfTellsWrongFalsely : Prop := shelfTellsRow.holds Try.pinned (OpenSpec.ofChange shelfTellsWrong)

/-- 'maquettelaw16.ShelfAgain': WHATEVER THE INPUT: true; the input reads as it did. -/
def shelfAgainSpec : ChangeSpec := { name := "shelfAgain", fn := fun _ => fun
  | [d] => { results := [.lit (.bool true)], args := [d] }
  | _ => none }
def shelfAgainRow : OpenClaim := { program := "ytpeeojbhfebcdaa", sum := "5aecf9f802e090aa508f511507e5f9528f2ed03b815d39e56b5f8ed0ab203ec7", func := "maquette/maquettelaw16.ShelfAgain", spec := "shelfAgain", inPlace := ["internal/abi.NoEscape", "internal/bytealg.MakeNoZero"], unfollowed := true, recurses := true, apart := false }
def ShelfAgainSaid : Prop := shelfAgainRow.holds Try.pinned (OpenSpec.ofChange shelfAgainSpec)

/-- ITS FALSE NEIGHBOUR: 'it returns false'. Refute it at one input. -/
def shelfAgainWrong : ChangeSpec := { name := "shelfAgain", fn := fun _ => fun
  | [d] => { results := [.lit (.bool false)], args := [d] }
  | _ => none }
def ShelfAgainWrongFalsely : Prop := shelfAgainRow.holds Try.pinned (OpenSpec.ofChange shelfAgainWrong)

/-- 'maquettelaw16.ShelfLong': WHATEVER THE INPUT: true; the input reads as it did. -/
def shelfLongSpec : ChangeSpec := { name := "shelfLong", fn := fun _ => fun
  | [d] => { results := [.lit (.bool true)], args := [d] }
  | _ => none }
def shelfLongRow : OpenClaim := { program := "ytpeeojbhfebcdaa", sum := "5aecf9f802e090aa508f511507e5f9528f2ed03b815d39e56b5f8ed0ab203ec7", func := "maquette/maquettelaw16.ShelfLong", spec := "shelfLong", inPlace := ["internal/abi.NoEscape", "internal/bytealg.MakeNoZero"], unfollowed := true, recurses := true, apart := false }
def ShelfLongSaid : Prop := shelfLongRow.holds Try.pinned (OpenSpec.ofChange shelfLongSpec)

/-- ITS FALSE NEIGHBOUR: 'it returns false'. Refute it at one input. -/
def shelfLongWrong : ChangeSpec := { name := "shelfLong", fn := fun _ => fun
  | [d] => { results := [.lit (.bool false)], args := [d] }
  | _ => none }
def ShelfLongWrongFalsely : Prop := shelfLongRow.holds Try.pinned (OpenSpec.ofChange shelfLongWrong)

/-- 'maquettelaw16.ShelfErrors': WHATEVER THE INPUT: true; the input reads as it did. -/
def shelfErrorsSpec : ChangeSpec := { name := "shelfErrors", fn := fun _ => fun
  | [d1, d2, d3] => { results := [.lit (.bool true)], args := [d1, d2, d3] }
  | _ => none }
def shelfErrorsRow : OpenClaim := { program := "ytpeeojbhfebcdaa", sum := "5aecf9f802e090aa508f511507e5f9528f2ed03b815d39e56b5f8ed0ab203ec7", func := "maquette/maquettelaw16.ShelfErrors", spec := "shelfErrors", inPlace := ["internal/abi.NoEscape", "internal/bytealg.MakeNoZero"], unfollowed := true, recurses := true, apart := false }
def ShelfErrorsSaid : Prop := shelfErrorsRow.holds Try.pinned (OpenSpec.ofChange shelfErrorsSpec)

/-- ITS FALSE NEIGHBOUR: 'it returns false'. Refute it at one input. -/
def shelfErrorsWrong : ChangeSpec := { name := "shelfErrors", fn := fun _ => fun
  | [d1, d2, d3] => { results := [.lit (.bool false)], args := [d1, d2, d3] }
  | _ => none }
def ShelfErrorsWrongFalsely : Prop := shelfErrorsRow.holds Try.pinned (OpenSpec.ofChange shelfErrorsWrong)

/-- 'maquettelaw16.ShelfRights': WHATEVER THE INPUT: true; the input reads as it did. -/
def shelfRightsSpec : ChangeSpec := { name := "shelfRights", fn := fun _ => fun
  | [d1, d2, d3] => { results := [.lit (.bool true)], args := [d1, d2, d3] }
  | _ => none }
def shelfRightsRow : OpenClaim := { program := "ytpeeojbhfebcdaa", sum := "5aecf9f802e090aa508f511507e5f9528f2ed03b815d39e56b5f8ed0ab203ec7", func := "maquette/maquettelaw16.ShelfRights", spec := "shelfRights", inPlace := ["internal/abi.NoEscape", "internal/bytealg.MakeNoZero"], unfollowed := true, recurses := true, apart := false }
def ShelfRightsSaid : Prop := shelfRightsRow.holds Try.pinned (OpenSpec.ofChange shelfRightsSpec)

/-- ITS FALSE NEIGHBOUR: 'it returns false'. Refute it at one input. -/
def shelfRightsWrong : ChangeSpec := { name := "shelfRights", fn := fun _ => fun
  | [d1, d2, d3] => { results := [.lit (.bool false)], args := [d1, d2, d3] }
  | _ => none }
def ShelfRightsWrongFalsely : Prop := shelfRightsRow.holds Try.pinned (OpenSpec.ofChange shelfRightsWrong)

/-- 'maquettelaw16.ShelfMore': WHATEVER THE INPUT: true; the input reads as it did. -/
def shelfMoreSpec : ChangeSpec := { name := "shelfMore", fn := fun _ => fun
  | [d1, d2] => { results := [.lit (.bool true)], args := [d1, d2] }
  | _ => none }
def shelfMoreRow : OpenClaim := { program := "ytpeeojbhfebcdaa", sum := "5aecf9f802e090aa508f511507e5f9528f2ed03b815d39e56b5f8ed0ab203ec7", func := "maquette/maquettelaw16.ShelfMore", spec := "shelfMore", inPlace := ["internal/abi.NoEscape", "internal/bytealg.MakeNoZero"], unfollowed := true, recurses := true, apart := false }
def ShelfMoreSaid : Prop := shelfMoreRow.holds Try.pinned (OpenSpec.ofChange shelfMoreSpec)

/-- ITS FALSE NEIGHBOUR: 'it returns false'. Refute it at one input. -/
def shelfMoreWrong : ChangeSpec := { name := "shelfMore", fn := fun _ => fun
  | [d1, d2] => { results := [.lit (.bool false)], args := [d1, d2] }
  | _ => none }
def ShelfMoreWrongFalsely : Prop := shelfMoreRow.holds Try.pinned (OpenSpec.ofChange shelfMoreWrong)

/-- 'maquettelaw16.ShelfBack': WHATEVER THE INPUT: true; the input reads as it did. -/
def shelfBackSpec : ChangeSpec := { name := "shelfBack", fn := fun _ => fun
  | [d1, d2] => { results := [.lit (.bool true)], args := [d1, d2] }
  | _ => none }
def shelfBackRow : OpenClaim := { program := "ytpeeojbhfebcdaa", sum := "5aecf9f802e090aa508f511507e5f9528f2ed03b815d39e56b5f8ed0ab203ec7", func := "maquette/maquettelaw16.ShelfBack", spec := "shelfBack", inPlace := ["internal/abi.NoEscape", "internal/bytealg.MakeNoZero"], unfollowed := true, recurses := true, apart := false }
def ShelfBackSaid : Prop := shelfBackRow.holds Try.pinned (OpenSpec.ofChange shelfBackSpec)

/-- ITS FALSE NEIGHBOUR: 'it returns false'. Refute it at one input. -/
def shelfBackWrong : ChangeSpec := { name := "shelfBack", fn := fun _ => fun
  | [d1, d2] => { results := [.lit (.bool false)], args := [d1, d2] }
  | _ => none }
def ShelfBackWrongFalsely : Prop := shelfBackRow.holds Try.pinned (OpenSpec.ofChange shelfBackWrong)

/- THE SECOND FORM. 'bulk': how many values and letters a reading holds, each counted each time it is reached (what is shared counts as often as it is met; a slice's spare places count too). A statement '..UptoSaid' is the law's where the arguments, and the package variables that the reading takes, are together of bulk at most 1048576: NARROWER than '..Said'. Prove '..Said' where nothing that the law and all that it calls make is longer than what came in: it says more and counts as full. Else prove '..UptoSaid'. A law counts once. -/
mutual
def uptoBulk {H : Type} : DataW H → Nat
  | .lit (.string bytes) => bytes.length + 1
  | .lit _ => 1
  | .nil => 1
  | .ptr d => uptoBulk d + 1
  | .slice elems spare => uptoBulkAll elems + uptoBulkAll spare + 1
  | .agg parts => uptoBulkAll parts + 1
  | .iface _ d => uptoBulk d + 1
  | .map entries => uptoBulkEntries entries + 1
  | .held _ => 1
def uptoBulkAll {H : Type} : List (DataW H) → Nat
  | [] => 0
  | d :: r => uptoBulk d + uptoBulkAll r
def uptoBulkEntries {H : Type} : List (Lit × DataW H) → Nat
  | [] => 0
  | x :: r => uptoBulkEntry x + uptoBulkEntries r
def uptoBulkEntry {H : Type} : Lit × DataW H → Nat
  | (.string bytes, d) => bytes.length + uptoBulk d + 1
  | (_, d) => uptoBulk d + 1
 end
def uptoSmall : (H : Type) → List (DataW H) → Bool := fun _ ds => decide (uptoBulkAll ds ≤ 1048576)
def OpenSpec.upto (s : _root_.Go.ChangeSpec) : _root_.Go.OpenSpec := { _root_.Go.OpenSpec.ofChange s with cond := some uptoSmall }

/-- 'maquettelaw16.ShelfTells', WHERE WHAT IT READS IS OF BULK AT MOST 1048576: true; the input reads as it did. -/
def shelfTellsUptoRow : OpenClaim := { program := "ytpeeojbhfebcdaa", sum := "5aecf9f802e090aa508f511507e5f9528f2ed03b815d39e56b5f8ed0ab203ec7", func := "maquette/maquettelaw16.ShelfTells", spec := "shelfTells", inPlace := ["internal/abi.NoEscape", "internal/bytealg.MakeNoZero"], unfollowed := true, recurses := true, apart := false, narrowed := true }
def ShelfTellsUptoSaid : Prop := shelfTellsUptoRow.holds Try.pinned (OpenSpec.upto shelfTellsSpec)

/-- 'maquettelaw16.ShelfAgain', WHERE WHAT IT READS IS OF BULK AT MOST 1048576: true; the input reads as it did. -/
def shelfAgainUptoRow : OpenClaim := { program := "ytpeeojbhfebcdaa", sum := "5aecf9f802e090aa508f511507e5f9528f2ed03b815d39e56b5f8ed0ab203ec7", func := "maquette/maquettelaw16.ShelfAgain", spec := "shelfAgain", inPlace := ["internal/abi.NoEscape", "internal/bytealg.MakeNoZero"], unfollowed := true, recurses := true, apart := false, narrowed := true }
def ShelfAgainUptoSaid : Prop := shelfAgainUptoRow.holds Try.pinned (OpenSpec.upto shelfAgainSpec)

/-- 'maquettelaw16.ShelfLong', WHERE WHAT IT READS IS OF BULK AT MOST 1048576: true; the input reads as it did. -/
def shelfLongUptoRow : OpenClaim := { program := "ytpeeojbhfebcdaa", sum := "5aecf9f802e090aa508f511507e5f9528f2ed03b815d39e56b5f8ed0ab203ec7", func := "maquette/maquettelaw16.ShelfLong", spec := "shelfLong", inPlace := ["internal/abi.NoEscape", "internal/bytealg.MakeNoZero"], unfollowed := true, recurses := true, apart := false, narrowed := true }
def ShelfLongUptoSaid : Prop := shelfLongUptoRow.holds Try.pinned (OpenSpec.upto shelfLongSpec)

/-- 'maquettelaw16.ShelfErrors', WHERE WHAT IT READS IS OF BULK AT MOST 1048576: true; the input reads as it did. -/
def shelfErrorsUptoRow : OpenClaim := { program := "ytpeeojbhfebcdaa", sum := "5aecf9f802e090aa508f511507e5f9528f2ed03b815d39e56b5f8ed0ab203ec7", func := "maquette/maquettelaw16.ShelfErrors", spec := "shelfErrors", inPlace := ["internal/abi.NoEscape", "internal/bytealg.MakeNoZero"], unfollowed := true, recurses := true, apart := false, narrowed := true }
def ShelfErrorsUptoSaid : Prop := shelfErrorsUptoRow.holds Try.pinned (OpenSpec.upto shelfErrorsSpec)

/-- 'maquettelaw16.ShelfRights', WHERE WHAT IT READS IS OF BULK AT MOST 1048576: true; the input reads as it did. -/
def shelfRightsUptoRow : OpenClaim := { program := "ytpeeojbhfebcdaa", sum := "5aecf9f802e090aa508f511507e5f9528f2ed03b815d39e56b5f8ed0ab203ec7", func := "maquette/maquettelaw16.ShelfRights", spec := "shelfRights", inPlace := ["internal/abi.NoEscape", "internal/bytealg.MakeNoZero"], unfollowed := true, recurses := true, apart := false, narrowed := true }
def ShelfRightsUptoSaid : Prop := shelfRightsUptoRow.holds Try.pinned (OpenSpec.upto shelfRightsSpec)

/-- 'maquettelaw16.ShelfMore', WHERE WHAT IT READS IS OF BULK AT MOST 1048576: true; the input reads as it did. -/
def shelfMoreUptoRow : OpenClaim := { program := "ytpeeojbhfebcdaa", sum := "5aecf9f802e090aa508f511507e5f9528f2ed03b815d39e56b5f8ed0ab203ec7", func := "maquette/maquettelaw16.ShelfMore", spec := "shelfMore", inPlace := ["internal/abi.NoEscape", "internal/bytealg.MakeNoZero"], unfollowed := true, recurses := true, apart := false, narrowed := true }
def ShelfMoreUptoSaid : Prop := shelfMoreUptoRow.holds Try.pinned (OpenSpec.upto shelfMoreSpec)

/-- 'maquettelaw16.ShelfBack', WHERE WHAT IT READS IS OF BULK AT MOST 1048576: true; the input reads as it did. -/
def shelfBackUptoRow : OpenClaim := { program := "ytpeeojbhfebcdaa", sum := "5aecf9f802e090aa508f511507e5f9528f2ed03b815d39e56b5f8ed0ab203ec7", func := "maquette/maquettelaw16.ShelfBack", spec := "shelfBack", inPlace := ["internal/abi.NoEscape", "internal/bytealg.MakeNoZero"], unfollowed := true, recurses := true, apart := false, narrowed := true }
def ShelfBackUptoSaid : Prop := shelfBackUptoRow.holds Try.pinned (OpenSpec.upto shelfBackSpec)

end Rows
end Go.Proofs.Ytpeeojbhfebcdaa
