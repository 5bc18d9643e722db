/- slices.SortStableFunc of fewer than twenty: sorted. -/
import Derived.Test.YtfblelkegebdiaaS10
namespace Go.Proofs.Ytfblelkegebdiaa.V
open Go.Proofs Go.Shelf Go.RowKit Go.Lib Go.Sort
set_option linter.unusedVariables false
set_option linter.unusedSimpArgs false
variable {α : Type} [Inhabited α]

def SS (enc : α → Value) (cf : α → α → Int) (w0 : World) (blk off : Nat) (d : Array α) (w' : World) : Prop := ∃ d', PermIn 0 d.size d d' ∧ SortedIn (ltOf cf) 0 d.size d' ∧ SW enc w0 blk off d' w'
set_option maxHeartbeats 2000000 in
set_option maxRecDepth 1000000 in
theorem stable_small (enc : α → Value) (cf : α → α → Int) (hO : SWO (ltOf cf)) (g : Nat) (cb : Array Value) (blk off cap : Nat) (d : Array α) (w : World)
    (eg : ∀ args w, (callFunc g args).run Try.prog w = .ok (.enter g args) w) (hcmp : CmpLays1 Try.prog g cb enc cf blk off d.size w)
    (R : Row1 enc w blk off d) (hsz : d.size < 20) :
    Calls Try.prog 60 #[.slice (some ⟨blk, off, none⟩) d.size cap, .int .i64 d.size, .func (.func g) #[] cb] w fun e w' => e = .returned (.tuple #[]) ∧ SS enc cf w blk off d w' := by
  have hins : ∀ (W : World), SW enc w blk off d W → Calls Try.prog 84 #[.slice (some ⟨blk, off, none⟩) d.size cap, .int .i64 0, .int .i64 d.size, .func (.func g) #[] cb] W fun e w' => e = .returned (.tuple #[]) ∧ SS enc cf w blk off d w' := by
    intro W hW
    refine (Any.insertionSortCmpFunc_s Try.laysSlF20_f84 enc cf g cb blk off cap 0 d.size d d w W eg hcmp R rfl hW (Nat.zero_le _) (Nat.le_refl _) (by omega)).mono ?_
    rintro e w' ⟨rfl, hw⟩
    exact ⟨rfl, _, (insertionSort_holds hO d 0 d.size (Nat.zero_le _) (Nat.le_refl _)).1, (insertionSort_holds hO d 0 d.size (Nat.zero_le _) (Nat.le_refl _)).2, hw⟩
  have HINS : Aside (Calls Try.prog 84 #[.slice (some ⟨blk, off, none⟩) d.size cap, .int .i64 0, .int .i64 d.size, .func (.func g) #[] cb] w fun e w' => e = .returned (.tuple #[]) ∧ SS enc cf w blk off d w') := hins w (SW.start R.hH)
  clear hins hcmp R
  have d1 : ¬ (20 : Int) ≤ (d.size : Int) := by omega
  have d2 : ¬ 20 ≤ d.size := by omega
  have d3 : ¬ (20 : Int) < (d.size : Int) := by omega
  have d4 : ¬ 20 < d.size := by omega
  go_enter Try.func60, Try.ntmps60
  go_wp2_with (fail)
  go_loopg [7, 8] 0 (fun kx s7 s8 wr => wr = w ∧ s7 = .int .i64 0 ∧ s8 = .int .i64 20)
  case atStart => exact ⟨rfl, rfl, rfl⟩
  case round =>
    obtain ⟨rfl, rfl, rfl⟩ := hrel
    go_wp2_with (fail)
    with_reducible refine (HINS.out).mono ?_
    rintro e w' ⟨rfl, hp⟩
    have HP : Aside (SS enc cf wr blk off d w') := hp
    clear hp
    go_wp2_with (fail)
    go_loopg [6] 0 (fun kx s6 w2 => w2 = w' ∧ s6 = .int .i64 20)
    case atStart => exact ⟨rfl, rfl⟩
    case round =>
      obtain ⟨rfl, rfl⟩ := hrel
      go_wp2_with (fail)
      go_end0
      exact ⟨rfl, HP.out⟩
set_option maxHeartbeats 2000000 in
theorem sortStable_small (enc : α → Value) (cf : α → α → Int) (hO : SWO (ltOf cf)) (g : Nat) (cb : Array Value) (blk off cap : Nat) (d : Array α) (w : World)
    (eg : ∀ args w, (callFunc g args).run Try.prog w = .ok (.enter g args) w) (hcmp : CmpLays1 Try.prog g cb enc cf blk off d.size w)
    (R : Row1 enc w blk off d) (hsz : d.size < 20) :
    Calls Try.prog 23 #[.slice (some ⟨blk, off, none⟩) d.size cap, .func (.func g) #[] cb] w fun e w' => e = .returned (.tuple #[]) ∧ SS enc cf w blk off d w' := by
  have HC : Aside (Calls Try.prog 60 #[.slice (some ⟨blk, off, none⟩) d.size cap, .int .i64 d.size, .func (.func g) #[] cb] w fun e w' => e = .returned (.tuple #[]) ∧ SS enc cf w blk off d w') := stable_small enc cf hO g cb blk off cap d w eg hcmp R hsz
  clear hcmp R
  go_enter Try.func23, Try.ntmps23
  go_wp2_with (fail)
  with_reducible refine (HC.out).mono ?_
  rintro e w' ⟨rfl, hp⟩
  have P1 : Aside (SS enc cf w blk off d w') := hp
  clear hp
  go_wp2_with (fail)
  go_end0
  exact ⟨rfl, P1.out⟩
/-- permuted; of fewer than twenty: sorted -/
def SX (enc : α → Value) (cf : α → α → Int) (w0 : World) (blk off : Nat) (d : Array α) (w' : World) : Prop := ∃ d', PermIn 0 d.size d d' ∧ (d.size < 20 → SortedIn (ltOf cf) 0 d.size d') ∧ SW enc w0 blk off d' w'
theorem sortStable_x (enc : α → Value) (cf : α → α → Int) (hO : SWO (ltOf cf)) (g : Nat) (cb : Array Value) (blk off cap : Nat) (d : Array α) (w : World)
    (eg : ∀ args w, (callFunc g args).run Try.prog w = .ok (.enter g args) w) (hcmp : CmpLays1 Try.prog g cb enc cf blk off d.size w)
    (R : Row1 enc w blk off d) (hsz : d.size ≤ 1000000) :
    Calls Try.prog 23 #[.slice (some ⟨blk, off, none⟩) d.size cap, .func (.func g) #[] cb] w fun e w' => e = .returned (.tuple #[]) ∧ SX enc cf w blk off d w' := by
  by_cases h : d.size < 20
  · exact (sortStable_small enc cf hO g cb blk off cap d w eg hcmp R h).mono fun _ _ ⟨he, d', h1, h2, h3⟩ => ⟨he, d', h1, fun _ => h2, h3⟩
  · exact (sortStable_s enc cf hO g cb blk off cap d w eg hcmp R hsz).mono fun _ _ ⟨he, d', h1, h3⟩ => ⟨he, d', h1, fun h' => absurd h' h, h3⟩
end Go.Proofs.Ytfblelkegebdiaa.V
