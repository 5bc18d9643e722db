/-
  No cell of these rows narrows 'for every input' (looked for: loops, veiled, ifaces, maps, wideKeys, modest, calm, conditions, laid).
  DERIVED. THE GIVEN ROWS OF THIS SEAT. 12 by the template 'for every input the law returns true; each argument reads behind the call as it read before'; 0 by the template 'total and deterministic' (their statements: YtopkfjnhaikpaaaTotals.lean).
  GIVEN WITH THE SEED: the statements are not yours to turn. If you find one false, say at which input.
  Laid BY PROGRAM, IN A SANDBOX (cutbox-rows.mjs): the forced cells as the released guide's own fill.sh prints them over the translation 9f3a058b7718cabf… (all of the seat's roots in one cut). By AI agents, Wed Nov 11 2026. No macro, syntax, notation, axiom, sorry.
-/
import Derived.Test.YtopkfjnhaikpaaaChecked
import GoSem.Claim
import GoSem.ClaimJoined
import GoSem.ClaimMapViews
import Derived.JoinedTies
import Derived.KernelRfl
namespace Go.Proofs.Ytopkfjnhaikpaaa
/- THE CELL 'sum', in the pinned program and in every row, IS THE sha256 OF THE DUMP (.gsa) THAT YtopkfjnhaikpaaaProg.lean LOADS. Nothing in Lean hashes anything: it is a label: what it is worth is what the hold of that sum in a sandbox is worth. -/
noncomputable def Try.pinned : Pinned := { name := "ytopkfjnhaikpaaa", sum := "9f3a058b7718cabfd87f45b6adeac6f04d0926c80f8ba70b7545c03e98600e16", checked := Try.checked }
namespace Rows
def none {H : Type} : Left H := { results := [], args := [] }

/-- 'maquettelaw2.RealBack': WHATEVER THE INPUT: true; the input reads as it did. -/
def realBackSpec : ChangeSpec := { name := "realBack", fn := fun _ => fun
  | [d] => { results := [.lit (.bool true)], args := [d] }
  | _ => none }
def realBackRow : OpenClaim := { program := "ytopkfjnhaikpaaa", sum := "9f3a058b7718cabfd87f45b6adeac6f04d0926c80f8ba70b7545c03e98600e16", func := "maquette/maquettelaw2.RealBack", spec := "realBack", inPlace := ["math.Float64bits", "math.Float64frombits", "math.RoundToEven"], apart := false }
def RealBackSaid : Prop := realBackRow.holds Try.pinned (OpenSpec.ofChange realBackSpec)

/-- ITS FALSE NEIGHBOUR: 'it returns false'. Refute it at one input. -/
def realBackWrong : ChangeSpec := { name := "realBack", fn := fun _ => fun
  | [d] => { results := [.lit (.bool false)], args := [d] }
  | _ => none }
def RealBackWrongFalsely : Prop := realBackRow.holds Try.pinned (OpenSpec.ofChange realBackWrong)

/-- 'maquettelaw2.RealOrder': WHATEVER THE INPUT: true; the input reads as it did. -/
def realOrderSpec : ChangeSpec := { name := "realOrder", fn := fun _ => fun
  | [d1, d2, d3] => { results := [.lit (.bool true)], args := [d1, d2, d3] }
  | _ => none }
def realOrderRow : OpenClaim := { program := "ytopkfjnhaikpaaa", sum := "9f3a058b7718cabfd87f45b6adeac6f04d0926c80f8ba70b7545c03e98600e16", func := "maquette/maquettelaw2.RealOrder", spec := "realOrder", inPlace := ["math.Float64bits", "math.Float64frombits", "math.RoundToEven"], apart := false }
def RealOrderSaid : Prop := realOrderRow.holds Try.pinned (OpenSpec.ofChange realOrderSpec)

/-- ITS FALSE NEIGHBOUR: 'it returns false'. Refute it at one input. -/
def realOrderWrong : ChangeSpec := { name := "realOrder", fn := fun _ => fun
  | [d1, d2, d3] => { results := [.lit (.bool false)], args := [d1, d2, d3] }
  | _ => none }
def RealOrderWrongFalsely : Prop := realOrderRow.holds Try.pinned (OpenSpec.ofChange realOrderWrong)

/-- 'maquettelaw2.RealNearest': WHATEVER THE INPUT: true; the input reads as it did. -/
def realNearestSpec : ChangeSpec := { name := "realNearest", fn := fun _ => fun
  | [d] => { results := [.lit (.bool true)], args := [d] }
  | _ => none }
def realNearestRow : OpenClaim := { program := "ytopkfjnhaikpaaa", sum := "9f3a058b7718cabfd87f45b6adeac6f04d0926c80f8ba70b7545c03e98600e16", func := "maquette/maquettelaw2.RealNearest", spec := "realNearest", inPlace := ["math.Float64bits", "math.Float64frombits", "math.RoundToEven"], apart := false }
def RealNearestSaid : Prop := realNearestRow.holds Try.pinned (OpenSpec.ofChange realNearestSpec)

/-- ITS FALSE NEIGHBOUR: 'it returns false'. Refute it at one input. -/
def realNearestWrong : ChangeSpec := { name := "realNearest", fn := fun _ => fun
  | [d] => { results := [.lit (.bool false)], args := [d] }
  | _ => none }
def RealNearestWrongFalsely : Prop := realNearestRow.holds Try.pinned (OpenSpec.ofChange realNearestWrong)

/-- 'maquettelaw2.RealClasses': WHATEVER THE INPUT: true; the input reads as it did. -/
def realClassesSpec : ChangeSpec := { name := "realClasses", fn := fun _ => fun
  | [d] => { results := [.lit (.bool true)], args := [d] }
  | _ => none }
def realClassesRow : OpenClaim := { program := "ytopkfjnhaikpaaa", sum := "9f3a058b7718cabfd87f45b6adeac6f04d0926c80f8ba70b7545c03e98600e16", func := "maquette/maquettelaw2.RealClasses", spec := "realClasses", inPlace := ["math.Float64bits", "math.Float64frombits", "math.RoundToEven"], apart := false }
def RealClassesSaid : Prop := realClassesRow.holds Try.pinned (OpenSpec.ofChange realClassesSpec)

/-- ITS FALSE NEIGHBOUR: 'it returns false'. Refute it at one input. -/
def realClassesWrong : ChangeSpec := { name := "realClasses", fn := fun _ => fun
  | [d] => { results := [.lit (.bool false)], args := [d] }
  | _ => none }
def RealClassesWrongFalsely : Prop := realClassesRow.holds Try.pinned (OpenSpec.ofChange realClassesWrong)

/-- 'maquettelaw2.RealSigns': WHATEVER THE INPUT: true; the input reads as it did. -/
def realSignsSpec : ChangeSpec := { name := "realSigns", fn := fun _ => fun
  | [d] => { results := [.lit (.bool true)], args := [d] }
  | _ => none }
def realSignsRow : OpenClaim := { program := "ytopkfjnhaikpaaa", sum := "9f3a058b7718cabfd87f45b6adeac6f04d0926c80f8ba70b7545c03e98600e16", func := "maquette/maquettelaw2.RealSigns", spec := "realSigns", inPlace := ["math.Float64bits", "math.Float64frombits", "math.RoundToEven"], apart := false }
def RealSignsSaid : Prop := realSignsRow.holds Try.pinned (OpenSpec.ofChange realSignsSpec)

/-- ITS FALSE NEIGHBOUR: 'it returns false'. Refute it at one input. -/
def realSignsWrong : ChangeSpec := { name := "realSigns", fn := fun _ => fun
  | [d] => { results := [.lit (.bool false)], args := [d] }
  | _ => none }
def RealSignsWrongFalsely : Prop := realSignsRow.holds Try.pinned (OpenSpec.ofChange realSignsWrong)

/-- 'maquettelaw2.RealOverflow': WHATEVER THE INPUT: true; the input reads as it did. -/
def realOverflowSpec : ChangeSpec := { name := "realOverflow", fn := fun _ => fun
  | [d] => { results := [.lit (.bool true)], args := [d] }
  | _ => none }
def realOverflowRow : OpenClaim := { program := "ytopkfjnhaikpaaa", sum := "9f3a058b7718cabfd87f45b6adeac6f04d0926c80f8ba70b7545c03e98600e16", func := "maquette/maquettelaw2.RealOverflow", spec := "realOverflow", inPlace := ["math.Float64bits", "math.Float64frombits", "math.RoundToEven"], apart := false }
def RealOverflowSaid : Prop := realOverflowRow.holds Try.pinned (OpenSpec.ofChange realOverflowSpec)

/-- ITS FALSE NEIGHBOUR: 'it returns false'. Refute it at one input. -/
def realOverflowWrong : ChangeSpec := { name := "realOverflow", fn := fun _ => fun
  | [d] => { results := [.lit (.bool false)], args := [d] }
  | _ => none }
def RealOverflowWrongFalsely : Prop := realOverflowRow.holds Try.pinned (OpenSpec.ofChange realOverflowWrong)

/-- 'maquettelaw2.RealTies': WHATEVER THE INPUT: true; the input reads as it did. -/
def realTiesSpec : ChangeSpec := { name := "realTies", fn := fun _ => fun
  | [d] => { results := [.lit (.bool true)], args := [d] }
  | _ => none }
def realTiesRow : OpenClaim := { program := "ytopkfjnhaikpaaa", sum := "9f3a058b7718cabfd87f45b6adeac6f04d0926c80f8ba70b7545c03e98600e16", func := "maquette/maquettelaw2.RealTies", spec := "realTies", inPlace := ["math.Float64bits", "math.Float64frombits", "math.RoundToEven"], apart := false }
def RealTiesSaid : Prop := realTiesRow.holds Try.pinned (OpenSpec.ofChange realTiesSpec)

/-- ITS FALSE NEIGHBOUR: 'it returns false'. Refute it at one input. -/
def realTiesWrong : ChangeSpec := { name := "realTies", fn := fun _ => fun
  | [d] => { results := [.lit (.bool false)], args := [d] }
  | _ => none }
def RealTiesWrongFalsely : Prop := realTiesRow.holds Try.pinned (OpenSpec.ofChange realTiesWrong)

/-- 'maquettelaw2.RealSteps': WHATEVER THE INPUT: true; the input reads as it did. -/
def realStepsSpec : ChangeSpec := { name := "realSteps", fn := fun _ => fun
  | [d1, d2] => { results := [.lit (.bool true)], args := [d1, d2] }
  | _ => none }
def realStepsRow : OpenClaim := { program := "ytopkfjnhaikpaaa", sum := "9f3a058b7718cabfd87f45b6adeac6f04d0926c80f8ba70b7545c03e98600e16", func := "maquette/maquettelaw2.RealSteps", spec := "realSteps", inPlace := ["math.Float64bits", "math.Float64frombits", "math.RoundToEven"], apart := false }
def RealStepsSaid : Prop := realStepsRow.holds Try.pinned (OpenSpec.ofChange realStepsSpec)

/-- ITS FALSE NEIGHBOUR: 'it returns false'. Refute it at one input. -/
def realStepsWrong : ChangeSpec := { name := "realSteps", fn := fun _ => fun
  | [d1, d2] => { results := [.lit (.bool false)], args := [d1, d2] }
  | _ => none }
def RealStepsWrongFalsely : Prop := realStepsRow.holds Try.pinned (OpenSpec.ofChange realStepsWrong)

/-- 'maquettelaw2.RealPuts': WHATEVER THE INPUT: true; the input reads as it did. -/
def realPutsSpec : ChangeSpec := { name := "realPuts", fn := fun _ => fun
  | [d1, d2] => { results := [.lit (.bool true)], args := [d1, d2] }
  | _ => none }
def realPutsRow : OpenClaim := { program := "ytopkfjnhaikpaaa", sum := "9f3a058b7718cabfd87f45b6adeac6f04d0926c80f8ba70b7545c03e98600e16", func := "maquette/maquettelaw2.RealPuts", spec := "realPuts", inPlace := ["math.Float64bits", "math.Float64frombits", "math.RoundToEven"], apart := false }
def RealPutsSaid : Prop := realPutsRow.holds Try.pinned (OpenSpec.ofChange realPutsSpec)

/-- ITS FALSE NEIGHBOUR: 'it returns false'. Refute it at one input. -/
def realPutsWrong : ChangeSpec := { name := "realPuts", fn := fun _ => fun
  | [d1, d2] => { results := [.lit (.bool false)], args := [d1, d2] }
  | _ => none }
def RealPutsWrongFalsely : Prop := realPutsRow.holds Try.pinned (OpenSpec.ofChange realPutsWrong)

/-- 'maquettelaw2.RealSame': WHATEVER THE INPUT: true; the input reads as it did. -/
def realSameSpec : ChangeSpec := { name := "realSame", fn := fun _ => fun
  | [d1, d2] => { results := [.lit (.bool true)], args := [d1, d2] }
  | _ => none }
def realSameRow : OpenClaim := { program := "ytopkfjnhaikpaaa", sum := "9f3a058b7718cabfd87f45b6adeac6f04d0926c80f8ba70b7545c03e98600e16", func := "maquette/maquettelaw2.RealSame", spec := "realSame", inPlace := ["math.Float64bits", "math.Float64frombits", "math.RoundToEven"], apart := false }
def RealSameSaid : Prop := realSameRow.holds Try.pinned (OpenSpec.ofChange realSameSpec)

/-- ITS FALSE NEIGHBOUR: 'it returns false'. Refute it at one input. -/
def realSameWrong : ChangeSpec := { name := "realSame", fn := fun _ => fun
  | [d1, d2] => { results := [.lit (.bool false)], args := [d1, d2] }
  | _ => none }
def RealSameWrongFalsely : Prop := realSameRow.holds Try.pinned (OpenSpec.ofChange realSameWrong)

/-- 'maquettelaw2.RealBytes': WHATEVER THE INPUT: true; the input reads as it did. -/
def realBytesSpec : ChangeSpec := { name := "realBytes", fn := fun _ => fun
  | [d1, d2] => { results := [.lit (.bool true)], args := [d1, d2] }
  | _ => none }
def realBytesRow : OpenClaim := { program := "ytopkfjnhaikpaaa", sum := "9f3a058b7718cabfd87f45b6adeac6f04d0926c80f8ba70b7545c03e98600e16", func := "maquette/maquettelaw2.RealBytes", spec := "realBytes", inPlace := ["math.Float64bits", "math.Float64frombits", "math.RoundToEven"], apart := false }
def RealBytesSaid : Prop := realBytesRow.holds Try.pinned (OpenSpec.ofChange realBytesSpec)

/-- ITS FALSE NEIGHBOUR: 'it returns false'. Refute it at one input. -/
def realBytesWrong : ChangeSpec := { name := "realBytes", fn := fun _ => fun
  | [d1, d2] => { results := [.lit (.bool false)], args := [d1, d2] }
  | _ => none }
def RealBytesWrongFalsely : Prop := realBytesRow.holds Try.pinned (OpenSpec.ofChange realBytesWrong)

/-- 'maquettelaw2.RealTells': WHATEVER THE INPUT: true; the input reads as it did. -/
def realTellsSpec : ChangeSpec := { name := "realTells", fn := fun _ => fun
  | [d1, d2, d3, d4] => { results := [.lit (.bool true)], args := [d1, d2, d3, d4] }
  | _ => none }
def realTellsRow : OpenClaim := { program := "ytopkfjnhaikpaaa", sum := "9f3a058b7718cabfd87f45b6adeac6f04d0926c80f8ba70b7545c03e98600e16", func := "maquette/maquettelaw2.RealTells", spec := "realTells", inPlace := ["math.Float64bits", "math.Float64frombits", "math.RoundToEven"], apart := false }
def RealTellsSaid : Prop := realTellsRow.holds Try.pinned (OpenSpec.ofChange realTellsSpec)

/-- ITS FALSE NEIGHBOUR: 'it returns false'. Refute it at one input. -/
def realTellsWrong : ChangeSpec := { name := "realTells", fn := fun _ => fun
  | [d1, d2, d3, d4] => { results := [.lit (.bool false)], args := [d1, d2, d3, d4] }
  | _ => none }
def RealTellsWrongFalsely : Prop := realTellsRow.holds Try.pinned (OpenSpec.ofChange realTellsWrong)

/- THE SECOND FORM. 'bulk': how many values and letters a reading holds, each counted each time it is reached (what is shared counts as often as it is met; a slice's spare places count too). A statement '..UptoSaid' is the law's where the arguments, and the package variables that the reading takes, are together of bulk at most 1048576: NARROWER than '..Said'. Prove '..Said' where nothing that the law and all that it calls make is longer than what came in: it says more and counts as full. Else prove '..UptoSaid'. A law counts once. -/
mutual
def uptoBulk {H : Type} : DataW H → Nat
  | .lit (.string bytes) => bytes.length + 1
  | .lit _ => 1
  | .nil => 1
  | .ptr d => uptoBulk d + 1
  | .slice elems spare => uptoBulkAll elems + uptoBulkAll spare + 1
  | .agg parts => uptoBulkAll parts + 1
  | .iface _ d => uptoBulk d + 1
  | .map entries => uptoBulkEntries entries + 1
  | .held _ => 1
def uptoBulkAll {H : Type} : List (DataW H) → Nat
  | [] => 0
  | d :: r => uptoBulk d + uptoBulkAll r
def uptoBulkEntries {H : Type} : List (Lit × DataW H) → Nat
  | [] => 0
  | x :: r => uptoBulkEntry x + uptoBulkEntries r
def uptoBulkEntry {H : Type} : Lit × DataW H → Nat
  | (.string bytes, d) => bytes.length + uptoBulk d + 1
  | (_, d) => uptoBulk d + 1
 end
def uptoSmall : (H : Type) → List (DataW H) → Bool := fun _ ds => decide (uptoBulkAll ds ≤ 1048576)
def OpenSpec.upto (s : _root_.Go.ChangeSpec) : _root_.Go.OpenSpec := { _root_.Go.OpenSpec.ofChange s with cond := some uptoSmall }

/-- 'maquettelaw2.RealBack', WHERE WHAT IT READS IS OF BULK AT MOST 1048576: true; the input reads as it did. -/
def realBackUptoRow : OpenClaim := { program := "ytopkfjnhaikpaaa", sum := "9f3a058b7718cabfd87f45b6adeac6f04d0926c80f8ba70b7545c03e98600e16", func := "maquette/maquettelaw2.RealBack", spec := "realBack", inPlace := ["math.Float64bits", "math.Float64frombits", "math.RoundToEven"], apart := false, narrowed := true }
def RealBackUptoSaid : Prop := realBackUptoRow.holds Try.pinned (OpenSpec.upto realBackSpec)

/-- 'maquettelaw2.RealOrder', WHERE WHAT IT READS IS OF BULK AT MOST 1048576: true; the input reads as it did. -/
def realOrderUptoRow : OpenClaim := { program := "ytopkfjnhaikpaaa", sum := "9f3a058b7718cabfd87f45b6adeac6f04d0926c80f8ba70b7545c03e98600e16", func := "maquette/maquettelaw2.RealOrder", spec := "realOrder", inPlace := ["math.Float64bits", "math.Float64frombits", "math.RoundToEven"], apart := false, narrowed := true }
def RealOrderUptoSaid : Prop := realOrderUptoRow.holds Try.pinned (OpenSpec.upto realOrderSpec)

/-- 'maquettelaw2.RealNearest', WHERE WHAT IT READS IS OF BULK AT MOST 1048576: true; the input reads as it did. -/
def realNearestUptoRow : OpenClaim := { program := "ytopkfjnhaikpaaa", sum := "9f3a058b7718cabfd87f45b6adeac6f04d0926c80f8ba70b7545c03e98600e16", func := "maquette/maquettelaw2.RealNearest", spec := "realNearest", inPlace := ["math.Float64bits", "math.Float64frombits", "math.RoundToEven"], apart := false, narrowed := true }
def RealNearestUptoSaid : Prop := realNearestUptoRow.holds Try.pinned (OpenSpec.upto realNearestSpec)

/-- 'maquettelaw2.RealClasses', WHERE WHAT IT READS IS OF BULK AT MOST 1048576: true; the input reads as it did. -/
def realClassesUptoRow : OpenClaim := { program := "ytopkfjnhaikpaaa", sum := "9f3a058b7718cabfd87f45b6adeac6f04d0926c80f8ba70b7545c03e98600e16", func := "maquette/maquettelaw2.RealClasses", spec := "realClasses", inPlace := ["math.Float64bits", "math.Float64frombits", "math.RoundToEven"], apart := false, narrowed := true }
def RealClassesUptoSaid : Prop := realClassesUptoRow.holds Try.pinned (OpenSpec.upto realClassesSpec)

/-- 'maquettelaw2.RealSigns', WHERE WHAT IT READS IS OF BULK AT MOST 1048576: true; the input reads as it did. -/
def realSignsUptoRow : OpenClaim := { program := "ytopkfjnhaikpaaa", sum := "9f3a058b7718cabfd87f45b6adeac6f04d0926c80f8ba70b7545c03e98600e16", func := "maquette/maquettelaw2.RealSigns", spec := "realSigns", inPlace := ["math.Float64bits", "math.Float64frombits", "math.RoundToEven"], apart := false, narrowed := true }
def RealSignsUptoSaid : Prop := realSignsUptoRow.holds Try.pinned (OpenSpec.upto realSignsSpec)

/-- 'maquettelaw2.RealOverflow', WHERE WHAT IT READS IS OF BULK AT MOST 1048576: true; the input reads as it did. -/
def realOverflowUptoRow : OpenClaim := { program := "ytopkfjnhaikpaaa", sum := "9f3a058b7718cabfd87f45b6adeac6f04d0926c80f8ba70b7545c03e98600e16", func := "maquette/maquettelaw2.RealOverflow", spec := "realOverflow", inPlace := ["math.Float64bits", "math.Float64frombits", "math.RoundToEven"], apart := false, narrowed := true }
def RealOverflowUptoSaid : Prop := realOverflowUptoRow.holds Try.pinned (OpenSpec.upto realOverflowSpec)

/-- 'maquettelaw2.RealTies', WHERE WHAT IT READS IS OF BULK AT MOST 1048576: true; the input reads as it did. -/
def realTiesUptoRow : OpenClaim := { program := "ytopkfjnhaikpaaa", sum := "9f3a058b7718cabfd87f45b6adeac6f04d0926c80f8ba70b7545c03e98600e16", func := "maquette/maquettelaw2.RealTies", spec := "realTies", inPlace := ["math.Float64bits", "math.Float64frombits", "math.RoundToEven"], apart := false, narrowed := true }
def RealTiesUptoSaid : Prop := realTiesUptoRow.holds Try.pinned (OpenSpec.upto realTiesSpec)

/-- 'maquettelaw2.RealSteps', WHERE WHAT IT READS IS OF BULK AT MOST 1048576: true; the input reads as it did. -/
def realStepsUptoRow : OpenClaim := { program := "ytopkfjnhaikpaaa", sum := "9f3a058b7718cabfd87f45b6adeac6f04d0926c80f8ba70b7545c03e98600e16", func := "maquette/maquettelaw2.RealSteps", spec := "realSteps", inPlace := ["math.Float64bits", "math.Float64frombits", "math.RoundToEven"], apart := false, narrowed := true }
def RealStepsUptoSaid : Prop := realStepsUptoRow.holds Try.pinned (OpenSpec.upto realStepsSpec)

/-- 'maquettelaw2.RealPuts', WHERE WHAT IT READS IS OF BULK AT MOST 1048576: true; the input reads as it did. -/
def realPutsUptoRow : OpenClaim := { program := "ytopkfjnhaikpaaa", sum := "9f3a058b7718cabfd87f45b6adeac6f04d0926c80f8ba70b7545c03e98600e16", func := "maquette/maquettelaw2.RealPuts", spec := "realPuts", inPlace := ["math.Float64bits", "math.Float64frombits", "math.RoundToEven"], apart := false, narrowed := true }
def RealPutsUptoSaid : Prop := realPutsUptoRow.holds Try.pinned (OpenSpec.upto realPutsSpec)

/-- 'maquettelaw2.RealSame', WHERE WHAT IT READS IS OF BULK AT MOST 1048576: true; the input reads as it did. -/
def realSameUptoRow : OpenClaim := { program := "ytopkfjnhaikpaaa", sum := "9f3a058b7718cabfd87f45b6adeac6f04d0926c80f8ba70b7545c03e98600e16", func := "maquette/maquettelaw2.RealSame", spec := "realSame", inPlace := ["math.Float64bits", "math.Float64frombits", "math.RoundToEven"], apart := false, narrowed := true }
def RealSameUptoSaid : Prop := realSameUptoRow.holds Try.pinned (OpenSpec.upto realSameSpec)

/-- 'maquettelaw2.RealBytes', WHERE WHAT IT READS IS OF BULK AT MOST 1048576: true; the input reads as it did. -/
def realBytesUptoRow : OpenClaim := { program := "ytopkfjnhaikpaaa", sum := "9f3a058b7718cabfd87f45b6adeac6f04d0926c80f8ba70b7545c03e98600e16", func := "maquette/maquettelaw2.RealBytes", spec := "realBytes", inPlace := ["math.Float64bits", "math.Float64frombits", "math.RoundToEven"], apart := false, narrowed := true }
def RealBytesUptoSaid : Prop := realBytesUptoRow.holds Try.pinned (OpenSpec.upto realBytesSpec)

/-- 'maquettelaw2.RealTells', WHERE WHAT IT READS IS OF BULK AT MOST 1048576: true; the input reads as it did. -/
def realTellsUptoRow : OpenClaim := { program := "ytopkfjnhaikpaaa", sum := "9f3a058b7718cabfd87f45b6adeac6f04d0926c80f8ba70b7545c03e98600e16", func := "maquette/maquettelaw2.RealTells", spec := "realTells", inPlace := ["math.Float64bits", "math.Float64frombits", "math.RoundToEven"], apart := false, narrowed := true }
def RealTellsUptoSaid : Prop := realTellsUptoRow.holds Try.pinned (OpenSpec.upto realTellsSpec)

end Rows
end Go.Proofs.Ytopkfjnhaikpaaa
