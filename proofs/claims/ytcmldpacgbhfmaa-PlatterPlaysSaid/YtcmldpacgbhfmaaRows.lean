/-
  No cell of these rows narrows 'for every input' (looked for: loops, veiled, ifaces, maps, wideKeys, modest, calm, conditions, laid).
  DERIVED. THE GIVEN ROWS OF THIS SEAT. 8 by the template 'for every input the law returns true; each argument reads behind the call as it read before'; 0 by the template 'total and deterministic' (their statements: YtcmldpacgbhfmaaTotals.lean).
  GIVEN WITH THE SEED: the statements are not yours to turn. If you find one false, say at which input.
  Laid BY PROGRAM, IN A SANDBOX (cutbox-rows.mjs): the forced cells as the released guide's own fill.sh prints them over the translation de50a8d8461b8875… (all of the seat's roots in one cut). By AI agents, Wed Nov 11 2026. No macro, syntax, notation, axiom, sorry.
-/
import Derived.Test.YtcmldpacgbhfmaaChecked
import GoSem.Claim
import GoSem.ClaimJoined
import GoSem.ClaimMapViews
import Derived.JoinedTies
import Derived.KernelRfl
namespace Go.Proofs.Ytcmldpacgbhfmaa
/- THE CELL 'sum', in the pinned program and in every row, IS THE sha256 OF THE DUMP (.gsa) THAT YtcmldpacgbhfmaaProg.lean LOADS. Nothing in Lean hashes anything: it is a label: what it is worth is what the hold of that sum in a sandbox is worth. -/
noncomputable def Try.pinned : Pinned := { name := "ytcmldpacgbhfmaa", sum := "de50a8d8461b8875f955a6c61c2ac0744bb033194fd1a6eb132c5dca996ab453", checked := Try.checked }
namespace Rows
def none {H : Type} : Left H := { results := [], args := [] }

/-- 'maquettelaw13.PlatterTears': WHATEVER THE INPUT: true; the input reads as it did. -/
def platterTearsSpec : ChangeSpec := { name := "platterTears", fn := fun _ => fun
  | [d1, d2, d3] => { results := [.lit (.bool true)], args := [d1, d2, d3] }
  | _ => none }
def platterTearsRow : OpenClaim := { program := "ytcmldpacgbhfmaa", sum := "de50a8d8461b8875f955a6c61c2ac0744bb033194fd1a6eb132c5dca996ab453", func := "maquette/maquettelaw13.PlatterTears", spec := "platterTears", inPlace := ["internal/abi.NoEscape", "internal/bytealg.MakeNoZero"], apart := false }
def PlatterTearsSaid : Prop := platterTearsRow.holds Try.pinned (OpenSpec.ofChange platterTearsSpec)

/-- ITS FALSE NEIGHBOUR: 'it returns false'. Refute it at one input. -/
def platterTearsWrong : ChangeSpec := { name := "platterTears", fn := fun _ => fun
  | [d1, d2, d3] => { results := [.lit (.bool false)], args := [d1, d2, d3] }
  | _ => none }
def PlatterTearsWrongFalsely : Prop := platterTearsRow.holds Try.pinned (OpenSpec.ofChange platterTearsWrong)

/-- 'maquettelaw13.PlatterLasts': WHATEVER THE INPUT: true; the input reads as it did. -/
def platterLastsSpec : ChangeSpec := { name := "platterLasts", fn := fun _ => fun
  | [d1, d2] => { results := [.lit (.bool true)], args := [d1, d2] }
  | _ => none }
def platterLastsRow : OpenClaim := { program := "ytcmldpacgbhfmaa", sum := "de50a8d8461b8875f955a6c61c2ac0744bb033194fd1a6eb132c5dca996ab453", func := "maquette/maquettelaw13.PlatterLasts", spec := "platterLasts", inPlace := ["internal/abi.NoEscape", "internal/bytealg.MakeNoZero"], apart := false }
def PlatterLastsSaid : Prop := platterLastsRow.holds Try.pinned (OpenSpec.ofChange platterLastsSpec)

/-- ITS FALSE NEIGHBOUR: 'it returns false'. Refute it at one input. -/
def platterLastsWrong : ChangeSpec := { name := "platterLasts", fn := fun _ => fun
  | [d1, d2] => { results := [.lit (.bool false)], args := [d1, d2] }
  | _ => none }
def PlatterLastsWrongFalsely : Prop := platterLastsRow.holds Try.pinned (OpenSpec.ofChange platterLastsWrong)

/-- 'maquettelaw13.PlatterOrder': WHATEVER THE INPUT: true; the input reads as it did. -/
def platterOrderSpec : ChangeSpec := { name := "platterOrder", fn := fun _ => fun
  | [d1, d2, d3, d4] => { results := [.lit (.bool true)], args := [d1, d2, d3, d4] }
  | _ => none }
def platterOrderRow : OpenClaim := { program := "ytcmldpacgbhfmaa", sum := "de50a8d8461b8875f955a6c61c2ac0744bb033194fd1a6eb132c5dca996ab453", func := "maquette/maquettelaw13.PlatterOrder", spec := "platterOrder", inPlace := ["internal/abi.NoEscape", "internal/bytealg.MakeNoZero"], apart := false }
def PlatterOrderSaid : Prop := platterOrderRow.holds Try.pinned (OpenSpec.ofChange platterOrderSpec)

/-- ITS FALSE NEIGHBOUR: 'it returns false'. Refute it at one input. -/
def platterOrderWrong : ChangeSpec := { name := "platterOrder", fn := fun _ => fun
  | [d1, d2, d3, d4] => { results := [.lit (.bool false)], args := [d1, d2, d3, d4] }
  | _ => none }
def PlatterOrderWrongFalsely : Prop := platterOrderRow.holds Try.pinned (OpenSpec.ofChange platterOrderWrong)

/-- 'maquettelaw13.PlatterKeeps': WHATEVER THE INPUT: true; the input reads as it did. -/
def platterKeepsSpec : ChangeSpec := { name := "platterKeeps", fn := fun _ => fun
  | [d] => { results := [.lit (.bool true)], args := [d] }
  | _ => none }
def platterKeepsRow : OpenClaim := { program := "ytcmldpacgbhfmaa", sum := "de50a8d8461b8875f955a6c61c2ac0744bb033194fd1a6eb132c5dca996ab453", func := "maquette/maquettelaw13.PlatterKeeps", spec := "platterKeeps", inPlace := ["internal/abi.NoEscape", "internal/bytealg.MakeNoZero"], apart := false }
def PlatterKeepsSaid : Prop := platterKeepsRow.holds Try.pinned (OpenSpec.ofChange platterKeepsSpec)

/-- ITS FALSE NEIGHBOUR: 'it returns false'. Refute it at one input. -/
def platterKeepsWrong : ChangeSpec := { name := "platterKeeps", fn := fun _ => fun
  | [d] => { results := [.lit (.bool false)], args := [d] }
  | _ => none }
def PlatterKeepsWrongFalsely : Prop := platterKeepsRow.holds Try.pinned (OpenSpec.ofChange platterKeepsWrong)

/-- 'maquettelaw13.PlatterStops': WHATEVER THE INPUT: true; the input reads as it did. -/
def platterStopsSpec : ChangeSpec := { name := "platterStops", fn := fun _ => fun
  | [d1, d2] => { results := [.lit (.bool true)], args := [d1, d2] }
  | _ => none }
def platterStopsRow : OpenClaim := { program := "ytcmldpacgbhfmaa", sum := "de50a8d8461b8875f955a6c61c2ac0744bb033194fd1a6eb132c5dca996ab453", func := "maquette/maquettelaw13.PlatterStops", spec := "platterStops", inPlace := ["internal/abi.NoEscape", "internal/bytealg.MakeNoZero"], apart := false }
def PlatterStopsSaid : Prop := platterStopsRow.holds Try.pinned (OpenSpec.ofChange platterStopsSpec)

/-- ITS FALSE NEIGHBOUR: 'it returns false'. Refute it at one input. -/
def platterStopsWrong : ChangeSpec := { name := "platterStops", fn := fun _ => fun
  | [d1, d2] => { results := [.lit (.bool false)], args := [d1, d2] }
  | _ => none }
def PlatterStopsWrongFalsely : Prop := platterStopsRow.holds Try.pinned (OpenSpec.ofChange platterStopsWrong)

/-- 'maquettelaw13.PlatterEdges': WHATEVER THE INPUT: true; the input reads as it did. -/
def platterEdgesSpec : ChangeSpec := { name := "platterEdges", fn := fun _ => fun
  | [d1, d2, d3] => { results := [.lit (.bool true)], args := [d1, d2, d3] }
  | _ => none }
def platterEdgesRow : OpenClaim := { program := "ytcmldpacgbhfmaa", sum := "de50a8d8461b8875f955a6c61c2ac0744bb033194fd1a6eb132c5dca996ab453", func := "maquette/maquettelaw13.PlatterEdges", spec := "platterEdges", inPlace := ["internal/abi.NoEscape", "internal/bytealg.MakeNoZero"], apart := false }
def PlatterEdgesSaid : Prop := platterEdgesRow.holds Try.pinned (OpenSpec.ofChange platterEdgesSpec)

/-- ITS FALSE NEIGHBOUR: 'it returns false'. Refute it at one input. -/
def platterEdgesWrong : ChangeSpec := { name := "platterEdges", fn := fun _ => fun
  | [d1, d2, d3] => { results := [.lit (.bool false)], args := [d1, d2, d3] }
  | _ => none }
def PlatterEdgesWrongFalsely : Prop := platterEdgesRow.holds Try.pinned (OpenSpec.ofChange platterEdgesWrong)

/-- 'maquettelaw13.PlatterTwins': WHATEVER THE INPUT: true; the input reads as it did. -/
def platterTwinsSpec : ChangeSpec := { name := "platterTwins", fn := fun _ => fun
  | [d1, d2, d3] => { results := [.lit (.bool true)], args := [d1, d2, d3] }
  | _ => none }
def platterTwinsRow : OpenClaim := { program := "ytcmldpacgbhfmaa", sum := "de50a8d8461b8875f955a6c61c2ac0744bb033194fd1a6eb132c5dca996ab453", func := "maquette/maquettelaw13.PlatterTwins", spec := "platterTwins", inPlace := ["internal/abi.NoEscape", "internal/bytealg.MakeNoZero"], apart := false }
def PlatterTwinsSaid : Prop := platterTwinsRow.holds Try.pinned (OpenSpec.ofChange platterTwinsSpec)

/-- ITS FALSE NEIGHBOUR: 'it returns false'. Refute it at one input. -/
def platterTwinsWrong : ChangeSpec := { name := "platterTwins", fn := fun _ => fun
  | [d1, d2, d3] => { results := [.lit (.bool false)], args := [d1, d2, d3] }
  | _ => none }
def PlatterTwinsWrongFalsely : Prop := platterTwinsRow.holds Try.pinned (OpenSpec.ofChange platterTwinsWrong)

/-- 'maquettelaw13.PlatterPlays': WHATEVER THE INPUT: true; the input reads as it did. -/
def platterPlaysSpec : ChangeSpec := { name := "platterPlays", fn := fun _ => fun
  | [d1, d2] => { results := [.lit (.bool true)], args := [d1, d2] }
  | _ => none }
def platterPlaysRow : OpenClaim := { program := "ytcmldpacgbhfmaa", sum := "de50a8d8461b8875f955a6c61c2ac0744bb033194fd1a6eb132c5dca996ab453", func := "maquette/maquettelaw13.PlatterPlays", spec := "platterPlays", inPlace := ["internal/abi.NoEscape", "internal/bytealg.MakeNoZero"], apart := false }
def PlatterPlaysSaid : Prop := platterPlaysRow.holds Try.pinned (OpenSpec.ofChange platterPlaysSpec)

/-- ITS FALSE NEIGHBOUR: 'it returns false'. Refute it at one input. -/
def platterPlaysWrong : ChangeSpec := { name := "platterPlays", fn := fun _ => fun
  | [d1, d2] => { results := [.lit (.bool false)], args := [d1, d2] }
  | _ => none }
def PlatterPlaysWrongFalsely : Prop := platterPlaysRow.holds Try.pinned (OpenSpec.ofChange platterPlaysWrong)

/- THE SECOND FORM. 'bulk': how many values and letters a reading holds, each counted each time it is reached (what is shared counts as often as it is met; a slice's spare places count too). A statement '..UptoSaid' is the law's where the arguments, and the package variables that the reading takes, are together of bulk at most 1048576: NARROWER than '..Said'. Prove '..Said' where nothing that the law and all that it calls make is longer than what came in: it says more and counts as full. Else prove '..UptoSaid'. A law counts once. -/
mutual
def uptoBulk {H : Type} : DataW H → Nat
  | .lit (.string bytes) => bytes.length + 1
  | .lit _ => 1
  | .nil => 1
  | .ptr d => uptoBulk d + 1
  | .slice elems spare => uptoBulkAll elems + uptoBulkAll spare + 1
  | .agg parts => uptoBulkAll parts + 1
  | .iface _ d => uptoBulk d + 1
  | .map entries => uptoBulkEntries entries + 1
  | .held _ => 1
def uptoBulkAll {H : Type} : List (DataW H) → Nat
  | [] => 0
  | d :: r => uptoBulk d + uptoBulkAll r
def uptoBulkEntries {H : Type} : List (Lit × DataW H) → Nat
  | [] => 0
  | x :: r => uptoBulkEntry x + uptoBulkEntries r
def uptoBulkEntry {H : Type} : Lit × DataW H → Nat
  | (.string bytes, d) => bytes.length + uptoBulk d + 1
  | (_, d) => uptoBulk d + 1
 end
def uptoSmall : (H : Type) → List (DataW H) → Bool := fun _ ds => decide (uptoBulkAll ds ≤ 1048576)
def OpenSpec.upto (s : _root_.Go.ChangeSpec) : _root_.Go.OpenSpec := { _root_.Go.OpenSpec.ofChange s with cond := some uptoSmall }

/-- 'maquettelaw13.PlatterTears', WHERE WHAT IT READS IS OF BULK AT MOST 1048576: true; the input reads as it did. -/
def platterTearsUptoRow : OpenClaim := { program := "ytcmldpacgbhfmaa", sum := "de50a8d8461b8875f955a6c61c2ac0744bb033194fd1a6eb132c5dca996ab453", func := "maquette/maquettelaw13.PlatterTears", spec := "platterTears", inPlace := ["internal/abi.NoEscape", "internal/bytealg.MakeNoZero"], apart := false, narrowed := true }
def PlatterTearsUptoSaid : Prop := platterTearsUptoRow.holds Try.pinned (OpenSpec.upto platterTearsSpec)

/-- 'maquettelaw13.PlatterLasts', WHERE WHAT IT READS IS OF BULK AT MOST 1048576: true; the input reads as it did. -/
def platterLastsUptoRow : OpenClaim := { program := "ytcmldpacgbhfmaa", sum := "de50a8d8461b8875f955a6c61c2ac0744bb033194fd1a6eb132c5dca996ab453", func := "maquette/maquettelaw13.PlatterLasts", spec := "platterLasts", inPlace := ["internal/abi.NoEscape", "internal/bytealg.MakeNoZero"], apart := false, narrowed := true }
def PlatterLastsUptoSaid : Prop := platterLastsUptoRow.holds Try.pinned (OpenSpec.upto platterLastsSpec)

/-- 'maquettelaw13.PlatterOrder', WHERE WHAT IT READS IS OF BULK AT MOST 1048576: true; the input reads as it did. -/
def platterOrderUptoRow : OpenClaim := { program := "ytcmldpacgbhfmaa", sum := "de50a8d8461b8875f955a6c61c2ac0744bb033194fd1a6eb132c5dca996ab453", func := "maquette/maquettelaw13.PlatterOrder", spec := "platterOrder", inPlace := ["internal/abi.NoEscape", "internal/bytealg.MakeNoZero"], apart := false, narrowed := true }
def PlatterOrderUptoSaid : Prop := platterOrderUptoRow.holds Try.pinned (OpenSpec.upto platterOrderSpec)

/-- 'maquettelaw13.PlatterKeeps', WHERE WHAT IT READS IS OF BULK AT MOST 1048576: true; the input reads as it did. -/
def platterKeepsUptoRow : OpenClaim := { program := "ytcmldpacgbhfmaa", sum := "de50a8d8461b8875f955a6c61c2ac0744bb033194fd1a6eb132c5dca996ab453", func := "maquette/maquettelaw13.PlatterKeeps", spec := "platterKeeps", inPlace := ["internal/abi.NoEscape", "internal/bytealg.MakeNoZero"], apart := false, narrowed := true }
def PlatterKeepsUptoSaid : Prop := platterKeepsUptoRow.holds Try.pinned (OpenSpec.upto platterKeepsSpec)

/-- 'maquettelaw13.PlatterStops', WHERE WHAT IT READS IS OF BULK AT MOST 1048576: true; the input reads as it did. -/
def platterStopsUptoRow : OpenClaim := { program := "ytcmldpacgbhfmaa", sum := "de50a8d8461b8875f955a6c61c2ac0744bb033194fd1a6eb132c5dca996ab453", func := "maquette/maquettelaw13.PlatterStops", spec := "platterStops", inPlace := ["internal/abi.NoEscape", "internal/bytealg.MakeNoZero"], apart := false, narrowed := true }
def PlatterStopsUptoSaid : Prop := platterStopsUptoRow.holds Try.pinned (OpenSpec.upto platterStopsSpec)

/-- 'maquettelaw13.PlatterEdges', WHERE WHAT IT READS IS OF BULK AT MOST 1048576: true; the input reads as it did. -/
def platterEdgesUptoRow : OpenClaim := { program := "ytcmldpacgbhfmaa", sum := "de50a8d8461b8875f955a6c61c2ac0744bb033194fd1a6eb132c5dca996ab453", func := "maquette/maquettelaw13.PlatterEdges", spec := "platterEdges", inPlace := ["internal/abi.NoEscape", "internal/bytealg.MakeNoZero"], apart := false, narrowed := true }
def PlatterEdgesUptoSaid : Prop := platterEdgesUptoRow.holds Try.pinned (OpenSpec.upto platterEdgesSpec)

/-- 'maquettelaw13.PlatterTwins', WHERE WHAT IT READS IS OF BULK AT MOST 1048576: true; the input reads as it did. -/
def platterTwinsUptoRow : OpenClaim := { program := "ytcmldpacgbhfmaa", sum := "de50a8d8461b8875f955a6c61c2ac0744bb033194fd1a6eb132c5dca996ab453", func := "maquette/maquettelaw13.PlatterTwins", spec := "platterTwins", inPlace := ["internal/abi.NoEscape", "internal/bytealg.MakeNoZero"], apart := false, narrowed := true }
def PlatterTwinsUptoSaid : Prop := platterTwinsUptoRow.holds Try.pinned (OpenSpec.upto platterTwinsSpec)

/-- 'maquettelaw13.PlatterPlays', WHERE WHAT IT READS IS OF BULK AT MOST 1048576: true; the input reads as it did. -/
def platterPlaysUptoRow : OpenClaim := { program := "ytcmldpacgbhfmaa", sum := "de50a8d8461b8875f955a6c61c2ac0744bb033194fd1a6eb132c5dca996ab453", func := "maquette/maquettelaw13.PlatterPlays", spec := "platterPlays", inPlace := ["internal/abi.NoEscape", "internal/bytealg.MakeNoZero"], apart := false, narrowed := true }
def PlatterPlaysUptoSaid : Prop := platterPlaysUptoRow.holds Try.pinned (OpenSpec.upto platterPlaysSpec)

end Rows
end Go.Proofs.Ytcmldpacgbhfmaa
