/- slices' stable sort of whole numbers: symMergeCmpFunc permutes. -/
import Derived.Test.YtfblelkegebdiaaZ6
namespace Go.Proofs.Ytfblelkegebdiaa.V
open Go.Proofs Go.Shelf Go.RowKit Go.Lib Go.Sort
set_option linter.unusedVariables false
variable {α : Type} [Inhabited α]

theorem symMerge_s (enc : α → Value) (cf : α → α → Int) (lt : α → α → Bool) (key : α → Nat) (hst : StOrd cf lt key) (g : Nat) (cb : Array Value) (blk off cap : Nat) (d0 : Array α) (w0 : World)
    (eg : ∀ args w, (callFunc g args).run Try.prog w = .ok (.enter g args) w) (hcmp : CmpLays1 Try.prog g cb enc cf blk off d0.size w0)
    (R : Row1 enc w0 blk off d0) (hsz : d0.size < 4611686018427387904) :
    ∀ (N a m b : Nat), b - a ≤ N → a < m → m < b → b ≤ d0.size → SymOK lt key enc g cb blk off cap d0 w0 a m b := by
  intro N
  induction N with
  | zero => intro a m b h h1 h2 _; omega
  | succ N ih =>
    intro a m b h h1 h2 h3 d w hs S
    by_cases hA : m = a + 1
    · exact symMergeA_s enc cf lt key hst g cb blk off cap a m b d0 d w0 w eg hcmp R hs S hA h2 (by omega) (by omega)
    · by_cases hB : b = m + 1
      · exact symMergeB_s enc cf lt key hst g cb blk off cap a m b d0 d w0 w eg hcmp R hs S (by omega) hB (by omega) (by omega)
      · exact symMergeC_s enc cf lt key hst g cb blk off cap a m b d0 d w0 w eg hcmp R hs S (by omega) (by omega) (by omega) (by omega) (fun a' m' b' h4 h5 h6 h7 => ih a' m' b' (by omega) h5 h6 h7)
end Go.Proofs.Ytfblelkegebdiaa.V
