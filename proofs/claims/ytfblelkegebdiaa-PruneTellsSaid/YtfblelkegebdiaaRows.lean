/-
  No cell of these rows narrows 'for every input' (looked for: loops, veiled, ifaces, maps, wideKeys, modest, calm, conditions, laid).
  DERIVED. THE GIVEN ROWS OF THIS SEAT. 5 by the template 'for every input the law returns true; each argument reads behind the call as it read before'; 0 by the template 'total and deterministic' (their statements: YtfblelkegebdiaaTotals.lean).
  GIVEN WITH THE SEED: the statements are not yours to turn. If you find one false, say at which input.
  Laid BY PROGRAM, IN A SANDBOX (cutbox-rows.mjs): the forced cells as the released guide's own fill.sh prints them over the translation 8e91447cbb69bb76… (all of the seat's roots in one cut). By AI agents, Wed Nov 11 2026. No macro, syntax, notation, axiom, sorry.
-/
import Derived.Test.YtfblelkegebdiaaChecked
import GoSem.Claim
import GoSem.ClaimJoined
import GoSem.ClaimMapViews
import Derived.JoinedTies
import Derived.KernelRfl
namespace Go.Proofs.Ytfblelkegebdiaa
/- THE CELL 'sum', in the pinned program and in every row, IS THE sha256 OF THE DUMP (.gsa) THAT YtfblelkegebdiaaProg.lean LOADS. Nothing in Lean hashes anything: it is a label: what it is worth is what the hold of that sum in a sandbox is worth. -/
noncomputable def Try.pinned : Pinned := { name := "ytfblelkegebdiaa", sum := "8e91447cbb69bb768585983980e65ffb26e20b5f8af5415440fe350e12f0aa40", checked := Try.checked }
namespace Rows
def none {H : Type} : Left H := { results := [], args := [] }

/-- 'maquettelaw9.PruneTells': WHATEVER THE INPUT: true; the input reads as it did. -/
def pruneTellsSpec : ChangeSpec := { name := "pruneTells", fn := fun _ => fun
  | [d] => { results := [.lit (.bool true)], args := [d] }
  | _ => none }
def pruneTellsRow : OpenClaim := { program := "ytfblelkegebdiaa", sum := "8e91447cbb69bb768585983980e65ffb26e20b5f8af5415440fe350e12f0aa40", func := "maquette/maquettelaw9.PruneTells", spec := "pruneTells", unfollowed := true, recurses := true, plainKeys := false, apart := false }
def PruneTellsSaid : Prop := pruneTellsRow.holds Try.pinned (OpenSpec.ofChange pruneTellsSpec)

/-- ITS FALSE NEIGHBOUR: 'it returns false'. Refute it at one input. -/
def pruneTellsWrong : ChangeSpec := { name := "pruneTells", fn := fun _ => fun
  | [d] => { results := [.lit (.bool false)], args := [d] }
  | _ => none }
def PruneTellsWrongFalsely : Prop := pruneTellsRow.holds Try.pinned (OpenSpec.ofChange pruneTellsWrong)

/-- 'maquettelaw9.PruneFar': WHATEVER THE INPUT: true; the input reads as it did. -/
def pruneFarSpec : ChangeSpec := { name := "pruneFar", fn := fun _ => fun
  | [d1, d2] => { results := [.lit (.bool true)], args := [d1, d2] }
  | _ => none }
def pruneFarRow : OpenClaim := { program := "ytfblelkegebdiaa", sum := "8e91447cbb69bb768585983980e65ffb26e20b5f8af5415440fe350e12f0aa40", func := "maquette/maquettelaw9.PruneFar", spec := "pruneFar", unfollowed := true, recurses := true, plainKeys := false, apart := false }
def PruneFarSaid : Prop := pruneFarRow.holds Try.pinned (OpenSpec.ofChange pruneFarSpec)

/-- ITS FALSE NEIGHBOUR: 'it returns false'. Refute it at one input. -/
def pruneFarWrong : ChangeSpec := { name := "pruneFar", fn := fun _ => fun
  | [d1, d2] => { results := [.lit (.bool false)], args := [d1, d2] }
  | _ => none }
def PruneFarWrongFalsely : Prop := pruneFarRow.holds Try.pinned (OpenSpec.ofChange pruneFarWrong)

/-- 'maquettelaw9.PruneTurned': WHATEVER THE INPUT: true; the input reads as it did. -/
def pruneTurnedSpec : ChangeSpec := { name := "pruneTurned", fn := fun _ => fun
  | [d1, d2] => { results := [.lit (.bool true)], args := [d1, d2] }
  | _ => none }
def pruneTurnedRow : OpenClaim := { program := "ytfblelkegebdiaa", sum := "8e91447cbb69bb768585983980e65ffb26e20b5f8af5415440fe350e12f0aa40", func := "maquette/maquettelaw9.PruneTurned", spec := "pruneTurned", unfollowed := true, recurses := true, plainKeys := false, apart := false }
def PruneTurnedSaid : Prop := pruneTurnedRow.holds Try.pinned (OpenSpec.ofChange pruneTurnedSpec)

/-- ITS FALSE NEIGHBOUR: 'it returns false'. Refute it at one input. -/
def pruneTurnedWrong : ChangeSpec := { name := "pruneTurned", fn := fun _ => fun
  | [d1, d2] => { results := [.lit (.bool false)], args := [d1, d2] }
  | _ => none }
def PruneTurnedWrongFalsely : Prop := pruneTurnedRow.holds Try.pinned (OpenSpec.ofChange pruneTurnedWrong)

/-- 'maquettelaw9.PruneMore': WHATEVER THE INPUT: true; the input reads as it did. -/
def pruneMoreSpec : ChangeSpec := { name := "pruneMore", fn := fun _ => fun
  | [d1, d2] => { results := [.lit (.bool true)], args := [d1, d2] }
  | _ => none }
def pruneMoreRow : OpenClaim := { program := "ytfblelkegebdiaa", sum := "8e91447cbb69bb768585983980e65ffb26e20b5f8af5415440fe350e12f0aa40", func := "maquette/maquettelaw9.PruneMore", spec := "pruneMore", unfollowed := true, recurses := true, plainKeys := false, apart := false }
def PruneMoreSaid : Prop := pruneMoreRow.holds Try.pinned (OpenSpec.ofChange pruneMoreSpec)

/-- ITS FALSE NEIGHBOUR: 'it returns false'. Refute it at one input. -/
def pruneMoreWrong : ChangeSpec := { name := "pruneMore", fn := fun _ => fun
  | [d1, d2] => { results := [.lit (.bool false)], args := [d1, d2] }
  | _ => none }
def PruneMoreWrongFalsely : Prop := pruneMoreRow.holds Try.pinned (OpenSpec.ofChange pruneMoreWrong)

/-- 'maquettelaw9.PruneAll': WHATEVER THE INPUT: true; the input reads as it did. -/
def pruneAllSpec : ChangeSpec := { name := "pruneAll", fn := fun _ => fun
  | [d1, d2] => { results := [.lit (.bool true)], args := [d1, d2] }
  | _ => none }
def pruneAllRow : OpenClaim := { program := "ytfblelkegebdiaa", sum := "8e91447cbb69bb768585983980e65ffb26e20b5f8af5415440fe350e12f0aa40", func := "maquette/maquettelaw9.PruneAll", spec := "pruneAll", unfollowed := true, recurses := true, plainKeys := false, apart := false }
def PruneAllSaid : Prop := pruneAllRow.holds Try.pinned (OpenSpec.ofChange pruneAllSpec)

/-- ITS FALSE NEIGHBOUR: 'it returns false'. Refute it at one input. -/
def pruneAllWrong : ChangeSpec := { name := "pruneAll", fn := fun _ => fun
  | [d1, d2] => { results := [.lit (.bool false)], args := [d1, d2] }
  | _ => none }
def PruneAllWrongFalsely : Prop := pruneAllRow.holds Try.pinned (OpenSpec.ofChange pruneAllWrong)

/- THE SECOND FORM. 'bulk': how many values and letters a reading holds, each counted each time it is reached (what is shared counts as often as it is met; a slice's spare places count too). A statement '..UptoSaid' is the law's where the arguments, and the package variables that the reading takes, are together of bulk at most 1048576: NARROWER than '..Said'. Prove '..Said' where nothing that the law and all that it calls make is longer than what came in: it says more and counts as full. Else prove '..UptoSaid'. A law counts once. -/
mutual
def uptoBulk {H : Type} : DataW H → Nat
  | .lit (.string bytes) => bytes.length + 1
  | .lit _ => 1
  | .nil => 1
  | .ptr d => uptoBulk d + 1
  | .slice elems spare => uptoBulkAll elems + uptoBulkAll spare + 1
  | .agg parts => uptoBulkAll parts + 1
  | .iface _ d => uptoBulk d + 1
  | .map entries => uptoBulkEntries entries + 1
  | .held _ => 1
def uptoBulkAll {H : Type} : List (DataW H) → Nat
  | [] => 0
  | d :: r => uptoBulk d + uptoBulkAll r
def uptoBulkEntries {H : Type} : List (Lit × DataW H) → Nat
  | [] => 0
  | x :: r => uptoBulkEntry x + uptoBulkEntries r
def uptoBulkEntry {H : Type} : Lit × DataW H → Nat
  | (.string bytes, d) => bytes.length + uptoBulk d + 1
  | (_, d) => uptoBulk d + 1
 end
def uptoSmall : (H : Type) → List (DataW H) → Bool := fun _ ds => decide (uptoBulkAll ds ≤ 1048576)
def OpenSpec.upto (s : _root_.Go.ChangeSpec) : _root_.Go.OpenSpec := { _root_.Go.OpenSpec.ofChange s with cond := some uptoSmall }

/-- 'maquettelaw9.PruneTells', WHERE WHAT IT READS IS OF BULK AT MOST 1048576: true; the input reads as it did. -/
def pruneTellsUptoRow : OpenClaim := { program := "ytfblelkegebdiaa", sum := "8e91447cbb69bb768585983980e65ffb26e20b5f8af5415440fe350e12f0aa40", func := "maquette/maquettelaw9.PruneTells", spec := "pruneTells", unfollowed := true, recurses := true, plainKeys := false, apart := false, narrowed := true }
def PruneTellsUptoSaid : Prop := pruneTellsUptoRow.holds Try.pinned (OpenSpec.upto pruneTellsSpec)

/-- 'maquettelaw9.PruneFar', WHERE WHAT IT READS IS OF BULK AT MOST 1048576: true; the input reads as it did. -/
def pruneFarUptoRow : OpenClaim := { program := "ytfblelkegebdiaa", sum := "8e91447cbb69bb768585983980e65ffb26e20b5f8af5415440fe350e12f0aa40", func := "maquette/maquettelaw9.PruneFar", spec := "pruneFar", unfollowed := true, recurses := true, plainKeys := false, apart := false, narrowed := true }
def PruneFarUptoSaid : Prop := pruneFarUptoRow.holds Try.pinned (OpenSpec.upto pruneFarSpec)

/-- 'maquettelaw9.PruneTurned', WHERE WHAT IT READS IS OF BULK AT MOST 1048576: true; the input reads as it did. -/
def pruneTurnedUptoRow : OpenClaim := { program := "ytfblelkegebdiaa", sum := "8e91447cbb69bb768585983980e65ffb26e20b5f8af5415440fe350e12f0aa40", func := "maquette/maquettelaw9.PruneTurned", spec := "pruneTurned", unfollowed := true, recurses := true, plainKeys := false, apart := false, narrowed := true }
def PruneTurnedUptoSaid : Prop := pruneTurnedUptoRow.holds Try.pinned (OpenSpec.upto pruneTurnedSpec)

/-- 'maquettelaw9.PruneMore', WHERE WHAT IT READS IS OF BULK AT MOST 1048576: true; the input reads as it did. -/
def pruneMoreUptoRow : OpenClaim := { program := "ytfblelkegebdiaa", sum := "8e91447cbb69bb768585983980e65ffb26e20b5f8af5415440fe350e12f0aa40", func := "maquette/maquettelaw9.PruneMore", spec := "pruneMore", unfollowed := true, recurses := true, plainKeys := false, apart := false, narrowed := true }
def PruneMoreUptoSaid : Prop := pruneMoreUptoRow.holds Try.pinned (OpenSpec.upto pruneMoreSpec)

/-- 'maquettelaw9.PruneAll', WHERE WHAT IT READS IS OF BULK AT MOST 1048576: true; the input reads as it did. -/
def pruneAllUptoRow : OpenClaim := { program := "ytfblelkegebdiaa", sum := "8e91447cbb69bb768585983980e65ffb26e20b5f8af5415440fe350e12f0aa40", func := "maquette/maquettelaw9.PruneAll", spec := "pruneAll", unfollowed := true, recurses := true, plainKeys := false, apart := false, narrowed := true }
def PruneAllUptoSaid : Prop := pruneAllUptoRow.holds Try.pinned (OpenSpec.upto pruneAllSpec)

end Rows
end Go.Proofs.Ytfblelkegebdiaa
