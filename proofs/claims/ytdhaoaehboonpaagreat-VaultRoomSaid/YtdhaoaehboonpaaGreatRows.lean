/-
  No cell of these rows narrows 'for every input' (looked for: loops, veiled, ifaces, maps, wideKeys, modest, calm, conditions, laid).
  DERIVED. THE GIVEN ROWS OF THIS SEAT. 8 by the template 'for every input the law returns true; each argument reads behind the call as it read before'; 0 by the template 'total and deterministic' (their statements: YtdhaoaehboonpaaGreatTotals.lean).
  GIVEN WITH THE SEED: the statements are not yours to turn. If you find one false, say at which input.
  Laid BY PROGRAM, IN A SANDBOX (cutbox-rows.mjs): the forced cells as the released guide's own fill.sh prints them over the translation ba3d70c1a5498c5f… (all of the seat's roots in one cut). By AI agents, Wed Nov 11 2026. No macro, syntax, notation, axiom, sorry.
-/
import Derived.Test.YtdhaoaehboonpaaGreatChecked
import GoSem.Claim
import GoSem.ClaimJoined
import GoSem.ClaimMapViews
import Derived.JoinedTies
import Derived.KernelRfl
namespace Go.Proofs.YtdhaoaehboonpaaGreat
/- THE CELL 'sum', in the pinned program and in every row, IS THE sha256 OF THE DUMP (.gsa) THAT YtdhaoaehboonpaaGreatProg.lean LOADS. Nothing in Lean hashes anything: it is a label: what it is worth is what the hold of that sum in a sandbox is worth. -/
noncomputable def Tryz.pinned : Pinned := { name := "ytdhaoaehboonpaagreat", sum := "ba3d70c1a5498c5f2b42c68ed086f0bdcc9be2d02320a5693ac3532065c27f84", checked := Tryz.checked }
namespace Rows
def none {H : Type} : Left H := { results := [], args := [] }

/-- 'maquettelaw17.VaultGens': WHATEVER THE INPUT: true; the input reads as it did. -/
def vaultGensSpec : ChangeSpec := { name := "vaultGens", fn := fun _ => fun
  | [d] => { results := [.lit (.bool true)], args := [d] }
  | _ => none }
def vaultGensRow : OpenClaim := { program := "ytdhaoaehboonpaagreat", sum := "ba3d70c1a5498c5f2b42c68ed086f0bdcc9be2d02320a5693ac3532065c27f84", func := "maquette/maquettelaw17.VaultGens", spec := "vaultGens", inPlace := ["internal/abi.NoEscape", "internal/bytealg.MakeNoZero"], unfollowed := true, recurses := true, apart := false }
def VaultGensSaid : Prop := vaultGensRow.holds Tryz.pinned (OpenSpec.ofChange vaultGensSpec)

/-- ITS FALSE NEIGHBOUR: 'it returns false'. Refute it at one input. -/
def vaultGensWrong : ChangeSpec := { name := "vaultGens", fn := fun _ => fun
  | [d] => { results := [.lit (.bool false)], args := [d] }
  | _ => none }
def VaultGensWrongFalsely : Prop := vaultGensRow.holds Tryz.pinned (OpenSpec.ofChange vaultGensWrong)

/-- 'maquettelaw17.VaultAtomic': WHATEVER THE INPUT: true; the input reads as it did. -/
def vaultAtomicSpec : ChangeSpec := { name := "vaultAtomic", fn := fun _ => fun
  | [d1, d2, d3, d4, d5] => { results := [.lit (.bool true)], args := [d1, d2, d3, d4, d5] }
  | _ => none }
def vaultAtomicRow : OpenClaim := { program := "ytdhaoaehboonpaagreat", sum := "ba3d70c1a5498c5f2b42c68ed086f0bdcc9be2d02320a5693ac3532065c27f84", func := "maquette/maquettelaw17.VaultAtomic", spec := "vaultAtomic", inPlace := ["internal/abi.NoEscape", "internal/bytealg.MakeNoZero"], unfollowed := true, recurses := true, apart := false }
def VaultAtomicSaid : Prop := vaultAtomicRow.holds Tryz.pinned (OpenSpec.ofChange vaultAtomicSpec)

/-- ITS FALSE NEIGHBOUR: 'it returns false'. Refute it at one input. -/
def vaultAtomicWrong : ChangeSpec := { name := "vaultAtomic", fn := fun _ => fun
  | [d1, d2, d3, d4, d5] => { results := [.lit (.bool false)], args := [d1, d2, d3, d4, d5] }
  | _ => none }
def VaultAtomicWrongFalsely : Prop := vaultAtomicRow.holds Tryz.pinned (OpenSpec.ofChange vaultAtomicWrong)

/-- 'maquettelaw17.VaultTwice': WHATEVER THE INPUT: true; the input reads as it did. -/
def vaultTwiceSpec : ChangeSpec := { name := "vaultTwice", fn := fun _ => fun
  | [d] => { results := [.lit (.bool true)], args := [d] }
  | _ => none }
def vaultTwiceRow : OpenClaim := { program := "ytdhaoaehboonpaagreat", sum := "ba3d70c1a5498c5f2b42c68ed086f0bdcc9be2d02320a5693ac3532065c27f84", func := "maquette/maquettelaw17.VaultTwice", spec := "vaultTwice", inPlace := ["internal/abi.NoEscape", "internal/bytealg.MakeNoZero"], unfollowed := true, recurses := true, apart := false }
def VaultTwiceSaid : Prop := vaultTwiceRow.holds Tryz.pinned (OpenSpec.ofChange vaultTwiceSpec)

/-- ITS FALSE NEIGHBOUR: 'it returns false'. Refute it at one input. -/
def vaultTwiceWrong : ChangeSpec := { name := "vaultTwice", fn := fun _ => fun
  | [d] => { results := [.lit (.bool false)], args := [d] }
  | _ => none }
def VaultTwiceWrongFalsely : Prop := vaultTwiceRow.holds Tryz.pinned (OpenSpec.ofChange vaultTwiceWrong)

/-- 'maquettelaw17.VaultFormats': WHATEVER THE INPUT: true; the input reads as it did. -/
def vaultFormatsSpec : ChangeSpec := { name := "vaultFormats", fn := fun _ => fun
  | [d] => { results := [.lit (.bool true)], args := [d] }
  | _ => none }
def vaultFormatsRow : OpenClaim := { program := "ytdhaoaehboonpaagreat", sum := "ba3d70c1a5498c5f2b42c68ed086f0bdcc9be2d02320a5693ac3532065c27f84", func := "maquette/maquettelaw17.VaultFormats", spec := "vaultFormats", inPlace := ["internal/abi.NoEscape", "internal/bytealg.MakeNoZero"], unfollowed := true, recurses := true, apart := false }
def VaultFormatsSaid : Prop := vaultFormatsRow.holds Tryz.pinned (OpenSpec.ofChange vaultFormatsSpec)

/-- ITS FALSE NEIGHBOUR: 'it returns false'. Refute it at one input. -/
def vaultFormatsWrong : ChangeSpec := { name := "vaultFormats", fn := fun _ => fun
  | [d] => { results := [.lit (.bool false)], args := [d] }
  | _ => none }
def VaultFormatsWrongFalsely : Prop := vaultFormatsRow.holds Tryz.pinned (OpenSpec.ofChange vaultFormatsWrong)

/-- 'maquettelaw17.VaultKeeps': WHATEVER THE INPUT: true; the input reads as it did. -/
def vaultKeepsSpec : ChangeSpec := { name := "vaultKeeps", fn := fun _ => fun
  | [d1, d2] => { results := [.lit (.bool true)], args := [d1, d2] }
  | _ => none }
def vaultKeepsRow : OpenClaim := { program := "ytdhaoaehboonpaagreat", sum := "ba3d70c1a5498c5f2b42c68ed086f0bdcc9be2d02320a5693ac3532065c27f84", func := "maquette/maquettelaw17.VaultKeeps", spec := "vaultKeeps", inPlace := ["internal/abi.NoEscape", "internal/bytealg.MakeNoZero"], unfollowed := true, recurses := true, apart := false }
def VaultKeepsSaid : Prop := vaultKeepsRow.holds Tryz.pinned (OpenSpec.ofChange vaultKeepsSpec)

/-- ITS FALSE NEIGHBOUR: 'it returns false'. Refute it at one input. -/
def vaultKeepsWrong : ChangeSpec := { name := "vaultKeeps", fn := fun _ => fun
  | [d1, d2] => { results := [.lit (.bool false)], args := [d1, d2] }
  | _ => none }
def VaultKeepsWrongFalsely : Prop := vaultKeepsRow.holds Tryz.pinned (OpenSpec.ofChange vaultKeepsWrong)

/-- 'maquettelaw17.VaultRoom': WHATEVER THE INPUT: true; the input reads as it did. -/
def vaultRoomSpec : ChangeSpec := { name := "vaultRoom", fn := fun _ => fun
  | [d1, d2] => { results := [.lit (.bool true)], args := [d1, d2] }
  | _ => none }
def vaultRoomRow : OpenClaim := { program := "ytdhaoaehboonpaagreat", sum := "ba3d70c1a5498c5f2b42c68ed086f0bdcc9be2d02320a5693ac3532065c27f84", func := "maquette/maquettelaw17.VaultRoom", spec := "vaultRoom", inPlace := ["internal/abi.NoEscape", "internal/bytealg.MakeNoZero"], unfollowed := true, recurses := true, apart := false }
def VaultRoomSaid : Prop := vaultRoomRow.holds Tryz.pinned (OpenSpec.ofChange vaultRoomSpec)

/-- ITS FALSE NEIGHBOUR: 'it returns false'. Refute it at one input. -/
def vaultRoomWrong : ChangeSpec := { name := "vaultRoom", fn := fun _ => fun
  | [d1, d2] => { results := [.lit (.bool false)], args := [d1, d2] }
  | _ => none }
def VaultRoomWrongFalsely : Prop := vaultRoomRow.holds Tryz.pinned (OpenSpec.ofChange vaultRoomWrong)

/-- 'maquettelaw17.VaultPlays': WHATEVER THE INPUT: true; the input reads as it did. -/
def vaultPlaysSpec : ChangeSpec := { name := "vaultPlays", fn := fun _ => fun
  | [d1, d2, d3] => { results := [.lit (.bool true)], args := [d1, d2, d3] }
  | _ => none }
def vaultPlaysRow : OpenClaim := { program := "ytdhaoaehboonpaagreat", sum := "ba3d70c1a5498c5f2b42c68ed086f0bdcc9be2d02320a5693ac3532065c27f84", func := "maquette/maquettelaw17.VaultPlays", spec := "vaultPlays", inPlace := ["internal/abi.NoEscape", "internal/bytealg.MakeNoZero"], unfollowed := true, recurses := true, apart := false }
def VaultPlaysSaid : Prop := vaultPlaysRow.holds Tryz.pinned (OpenSpec.ofChange vaultPlaysSpec)

/-- ITS FALSE NEIGHBOUR: 'it returns false'. Refute it at one input. -/
def vaultPlaysWrong : ChangeSpec := { name := "vaultPlays", fn := fun _ => fun
  | [d1, d2, d3] => { results := [.lit (.bool false)], args := [d1, d2, d3] }
  | _ => none }
def VaultPlaysWrongFalsely : Prop := vaultPlaysRow.holds Tryz.pinned (OpenSpec.ofChange vaultPlaysWrong)

/-- 'maquettelaw17.VaultPages': WHATEVER THE INPUT: true; the input reads as it did. -/
def vaultPagesSpec : ChangeSpec := { name := "vaultPages", fn := fun _ => fun
  | [d1, d2] => { results := [.lit (.bool true)], args := [d1, d2] }
  | _ => none }
def vaultPagesRow : OpenClaim := { program := "ytdhaoaehboonpaagreat", sum := "ba3d70c1a5498c5f2b42c68ed086f0bdcc9be2d02320a5693ac3532065c27f84", func := "maquette/maquettelaw17.VaultPages", spec := "vaultPages", inPlace := ["internal/abi.NoEscape", "internal/bytealg.MakeNoZero"], unfollowed := true, recurses := true, apart := false }
def VaultPagesSaid : Prop := vaultPagesRow.holds Tryz.pinned (OpenSpec.ofChange vaultPagesSpec)

/-- ITS FALSE NEIGHBOUR: 'it returns false'. Refute it at one input. -/
def vaultPagesWrong : ChangeSpec := { name := "vaultPages", fn := fun _ => fun
  | [d1, d2] => { results := [.lit (.bool false)], args := [d1, d2] }
  | _ => none }
def VaultPagesWrongFalsely : Prop := vaultPagesRow.holds Tryz.pinned (OpenSpec.ofChange vaultPagesWrong)

/- THE SECOND FORM. 'bulk': how many values and letters a reading holds, each counted each time it is reached (what is shared counts as often as it is met; a slice's spare places count too). A statement '..UptoSaid' is the law's where the arguments, and the package variables that the reading takes, are together of bulk at most 1048576: NARROWER than '..Said'. Prove '..Said' where nothing that the law and all that it calls make is longer than what came in: it says more and counts as full. Else prove '..UptoSaid'. A law counts once. -/
mutual
def uptoBulk {H : Type} : DataW H → Nat
  | .lit (.string bytes) => bytes.length + 1
  | .lit _ => 1
  | .nil => 1
  | .ptr d => uptoBulk d + 1
  | .slice elems spare => uptoBulkAll elems + uptoBulkAll spare + 1
  | .agg parts => uptoBulkAll parts + 1
  | .iface _ d => uptoBulk d + 1
  | .map entries => uptoBulkEntries entries + 1
  | .held _ => 1
def uptoBulkAll {H : Type} : List (DataW H) → Nat
  | [] => 0
  | d :: r => uptoBulk d + uptoBulkAll r
def uptoBulkEntries {H : Type} : List (Lit × DataW H) → Nat
  | [] => 0
  | x :: r => uptoBulkEntry x + uptoBulkEntries r
def uptoBulkEntry {H : Type} : Lit × DataW H → Nat
  | (.string bytes, d) => bytes.length + uptoBulk d + 1
  | (_, d) => uptoBulk d + 1
 end
def uptoSmall : (H : Type) → List (DataW H) → Bool := fun _ ds => decide (uptoBulkAll ds ≤ 1048576)
def OpenSpec.upto (s : _root_.Go.ChangeSpec) : _root_.Go.OpenSpec := { _root_.Go.OpenSpec.ofChange s with cond := some uptoSmall }

/-- 'maquettelaw17.VaultGens', WHERE WHAT IT READS IS OF BULK AT MOST 1048576: true; the input reads as it did. -/
def vaultGensUptoRow : OpenClaim := { program := "ytdhaoaehboonpaagreat", sum := "ba3d70c1a5498c5f2b42c68ed086f0bdcc9be2d02320a5693ac3532065c27f84", func := "maquette/maquettelaw17.VaultGens", spec := "vaultGens", inPlace := ["internal/abi.NoEscape", "internal/bytealg.MakeNoZero"], unfollowed := true, recurses := true, apart := false, narrowed := true }
def VaultGensUptoSaid : Prop := vaultGensUptoRow.holds Tryz.pinned (OpenSpec.upto vaultGensSpec)

/-- 'maquettelaw17.VaultAtomic', WHERE WHAT IT READS IS OF BULK AT MOST 1048576: true; the input reads as it did. -/
def vaultAtomicUptoRow : OpenClaim := { program := "ytdhaoaehboonpaagreat", sum := "ba3d70c1a5498c5f2b42c68ed086f0bdcc9be2d02320a5693ac3532065c27f84", func := "maquette/maquettelaw17.VaultAtomic", spec := "vaultAtomic", inPlace := ["internal/abi.NoEscape", "internal/bytealg.MakeNoZero"], unfollowed := true, recurses := true, apart := false, narrowed := true }
def VaultAtomicUptoSaid : Prop := vaultAtomicUptoRow.holds Tryz.pinned (OpenSpec.upto vaultAtomicSpec)

/-- 'maquettelaw17.VaultTwice', WHERE WHAT IT READS IS OF BULK AT MOST 1048576: true; the input reads as it did. -/
def vaultTwiceUptoRow : OpenClaim := { program := "ytdhaoaehboonpaagreat", sum := "ba3d70c1a5498c5f2b42c68ed086f0bdcc9be2d02320a5693ac3532065c27f84", func := "maquette/maquettelaw17.VaultTwice", spec := "vaultTwice", inPlace := ["internal/abi.NoEscape", "internal/bytealg.MakeNoZero"], unfollowed := true, recurses := true, apart := false, narrowed := true }
def VaultTwiceUptoSaid : Prop := vaultTwiceUptoRow.holds Tryz.pinned (OpenSpec.upto vaultTwiceSpec)

/-- 'maquettelaw17.VaultFormats', WHERE WHAT IT READS IS OF BULK AT MOST 1048576: true; the input reads as it did. -/
def vaultFormatsUptoRow : OpenClaim := { program := "ytdhaoaehboonpaagreat", sum := "ba3d70c1a5498c5f2b42c68ed086f0bdcc9be2d02320a5693ac3532065c27f84", func := "maquette/maquettelaw17.VaultFormats", spec := "vaultFormats", inPlace := ["internal/abi.NoEscape", "internal/bytealg.MakeNoZero"], unfollowed := true, recurses := true, apart := false, narrowed := true }
def VaultFormatsUptoSaid : Prop := vaultFormatsUptoRow.holds Tryz.pinned (OpenSpec.upto vaultFormatsSpec)

/-- 'maquettelaw17.VaultKeeps', WHERE WHAT IT READS IS OF BULK AT MOST 1048576: true; the input reads as it did. -/
def vaultKeepsUptoRow : OpenClaim := { program := "ytdhaoaehboonpaagreat", sum := "ba3d70c1a5498c5f2b42c68ed086f0bdcc9be2d02320a5693ac3532065c27f84", func := "maquette/maquettelaw17.VaultKeeps", spec := "vaultKeeps", inPlace := ["internal/abi.NoEscape", "internal/bytealg.MakeNoZero"], unfollowed := true, recurses := true, apart := false, narrowed := true }
def VaultKeepsUptoSaid : Prop := vaultKeepsUptoRow.holds Tryz.pinned (OpenSpec.upto vaultKeepsSpec)

/-- 'maquettelaw17.VaultRoom', WHERE WHAT IT READS IS OF BULK AT MOST 1048576: true; the input reads as it did. -/
def vaultRoomUptoRow : OpenClaim := { program := "ytdhaoaehboonpaagreat", sum := "ba3d70c1a5498c5f2b42c68ed086f0bdcc9be2d02320a5693ac3532065c27f84", func := "maquette/maquettelaw17.VaultRoom", spec := "vaultRoom", inPlace := ["internal/abi.NoEscape", "internal/bytealg.MakeNoZero"], unfollowed := true, recurses := true, apart := false, narrowed := true }
def VaultRoomUptoSaid : Prop := vaultRoomUptoRow.holds Tryz.pinned (OpenSpec.upto vaultRoomSpec)

/-- 'maquettelaw17.VaultPlays', WHERE WHAT IT READS IS OF BULK AT MOST 1048576: true; the input reads as it did. -/
def vaultPlaysUptoRow : OpenClaim := { program := "ytdhaoaehboonpaagreat", sum := "ba3d70c1a5498c5f2b42c68ed086f0bdcc9be2d02320a5693ac3532065c27f84", func := "maquette/maquettelaw17.VaultPlays", spec := "vaultPlays", inPlace := ["internal/abi.NoEscape", "internal/bytealg.MakeNoZero"], unfollowed := true, recurses := true, apart := false, narrowed := true }
def VaultPlaysUptoSaid : Prop := vaultPlaysUptoRow.holds Tryz.pinned (OpenSpec.upto vaultPlaysSpec)

/-- 'maquettelaw17.VaultPages', WHERE WHAT IT READS IS OF BULK AT MOST 1048576: true; the input reads as it did. -/
def vaultPagesUptoRow : OpenClaim := { program := "ytdhaoaehboonpaagreat", sum := "ba3d70c1a5498c5f2b42c68ed086f0bdcc9be2d02320a5693ac3532065c27f84", func := "maquette/maquettelaw17.VaultPages", spec := "vaultPages", inPlace := ["internal/abi.NoEscape", "internal/bytealg.MakeNoZero"], unfollowed := true, recurses := true, apart := false, narrowed := true }
def VaultPagesUptoSaid : Prop := vaultPagesUptoRow.holds Tryz.pinned (OpenSpec.upto vaultPagesSpec)

end Rows
end Go.Proofs.YtdhaoaehboonpaaGreat
