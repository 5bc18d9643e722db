/- slices' stable sort of whole numbers: stableCmpFunc permutes. -/
import Derived.Test.YtfblelkegebdiaaZ7
import Derived.Test.YtfblelkegebdiaaQC
namespace Go.Proofs.Ytfblelkegebdiaa.V
open Go.Proofs Go.Shelf Go.RowKit Go.Lib Go.Sort
set_option linter.unusedVariables false
set_option linter.unusedSimpArgs false
variable {α : Type} [Inhabited α]

theorem insertion_s (enc : α → Value) (cf : α → α → Int) (lt : α → α → Bool) (key : α → Nat) (hst : StOrd cf lt key) (hO : SWO (ltOf cf)) (g : Nat) (cb : Array Value) (blk off cap a b : Nat) (d0 d : Array α) (w0 w : World)
    (eg : ∀ args w, (callFunc g args).run Try.prog w = .ok (.enter g args) w) (hcmp : CmpLays1 Try.prog g cb enc cf blk off d0.size w0)
    (R : Row1 enc w0 blk off d0) (hs : d0.size = d.size) (S : SW enc w0 blk off d w) (hab : a ≤ b) (hb : b ≤ d.size) (hsz : d.size < 4611686018427387904) :
    Calls Try.prog 84 #[.slice (some ⟨blk, off, none⟩) d.size cap, .int .i64 a, .int .i64 b, .func (.func g) #[] cb] w fun e w' => e = .returned (.tuple #[]) ∧ SQ enc w0 blk off d (InsQ lt key a b d) w' := by
  refine (Any.insertionSortCmpFunc_s Try.laysSlF20_f84 enc cf g cb blk off cap a b d0 d w0 w eg hcmp R hs S hab hb hsz).mono ?_
  rintro e w' ⟨rfl, hw⟩
  exact ⟨rfl, _, permIn_mono _ _ _ _ _ _ (Nat.zero_le _) hb (Nat.le_refl _) (insertionSort_holds hO d a b hab hb).1, ins_q hst d a b hb, hw⟩
end Go.Proofs.Ytfblelkegebdiaa.V
