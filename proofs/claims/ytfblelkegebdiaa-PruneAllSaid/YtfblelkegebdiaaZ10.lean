/- slices.SortStableFunc of whole numbers permutes. -/
import Derived.Test.YtfblelkegebdiaaZ9
namespace Go.Proofs.Ytfblelkegebdiaa.V
open Go.Proofs Go.Shelf Go.RowKit Go.Lib Go.Sort
set_option linter.unusedVariables false
set_option linter.unusedSimpArgs false
variable {α : Type} [Inhabited α]

set_option maxHeartbeats 2000000 in
set_option maxRecDepth 1000000 in
theorem sortStable_s (enc : α → Value) (cf : α → α → Int) (lt : α → α → Bool) (key : α → Nat) (hst : StOrd cf lt key) (hO : SWO (ltOf cf)) (g : Nat) (cb : Array Value) (blk off cap : Nat) (d : Array α) (w : World)
    (eg : ∀ args w, (callFunc g args).run Try.prog w = .ok (.enter g args) w) (hcmp : CmpLays1 Try.prog g cb enc cf blk off d.size w)
    (R : Row1 enc w blk off d) (hsz : d.size ≤ 1000000) (hkey : ∀ x, x < d.size → key d[x]! = x) :
    Calls Try.prog 23 #[.slice (some ⟨blk, off, none⟩) d.size cap, .func (.func g) #[] cb] w fun e w' => e = .returned (.tuple #[]) ∧ SQ enc w blk off d (Asc lt 0 d.size) w' := by
  have hc := stable_s enc cf lt key hst hO g cb blk off cap d d w w eg hcmp R rfl (SW.start R.hH) hsz hkey
  clear hcmp
  have HC : Aside (Calls Try.prog 60 #[.slice (some ⟨blk, off, none⟩) d.size cap, .int .i64 d.size, .func (.func g) #[] cb] w fun e w' => e = .returned (.tuple #[]) ∧ SQ enc w blk off d (Asc lt 0 d.size) w') := hc
  clear hc
  go_enter Try.func23, Try.ntmps23
  go_wp2_with (fail)
  with_reducible refine (HC.out).mono ?_
  rintro e w' ⟨rfl, hp⟩
  have P1 : Aside (SQ enc w blk off d (Asc lt 0 d.size) w') := hp
  clear hp
  go_wp2_with (fail)
  go_end0
  exact ⟨rfl, P1.out⟩
end Go.Proofs.Ytfblelkegebdiaa.V
