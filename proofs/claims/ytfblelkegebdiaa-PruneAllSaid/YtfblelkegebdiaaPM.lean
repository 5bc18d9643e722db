/- prune, plain: boxes with one place in common. -/
import Derived.Test.YtfblelkegebdiaaPL2
import Derived.Test.YtfblelkegebdiaaK
namespace Go.Proofs.Ytfblelkegebdiaa.V
open Go.Proofs Go.RowKit Go.Lib
set_option linter.unusedVariables false
set_option linter.unusedSimpArgs false

def allB (x y : Int) (k : Nat) : Bx := ⟨x - k, y - 2 * k, x + k, y + k⟩
def allL (x y : Int) (n : Nat) : List Bx := (List.range n).map (allB x y)
theorem allL_length (x y : Int) (n : Nat) : (allL x y n).length = n := by unfold allL; simp
theorem allL_snoc (x y : Int) (n : Nat) : allL x y (n + 1) = allL x y n ++ [allB x y n] := by unfold allL; rw [List.range_succ, List.map_append]; rfl
theorem all_at (x y : Int) (n i : Nat) (h : i < n) : at_ (allL x y n) i = allB x y i := by
  unfold at_ allL
  simp [List.getD, h]
theorem all_meet (x y : Int) (i j : Nat) : meetB (allB x y i) (allB x y j) = true := by
  unfold meetB allB
  simp only [Bool.and_eq_true, decide_eq_true_eq]
  omega
def allP (n : Nat) : List Pr := (List.range n).flatMap fun i => ((List.range n).filter fun j => decide (i < j)).map fun j => ⟨(i : Nat), (j : Nat)⟩
theorem all_pairs (x y : Int) (n : Nat) : pairsOf (allL x y n) = allP n := by
  unfold pairsOf allP
  rw [allL_length]
  refine flatMap_congr' _ _ _ (fun i hi => ?_)
  rw [List.mem_range] at hi
  congr 1
  apply List.filter_congr
  intro j hj
  rw [List.mem_range] at hj
  rw [all_at x y n i hi, all_at x y n j hj, all_meet, Bool.and_true]
theorem all_count : ∀ n, n < 31 → (((allP n).length : Nat) : Int) = wrap64 ((wrap64 ((n : Int) * ((n : Int) - 1))).tdiv 2) := by decide +kernel
theorem all_first (x y : Int) (n : Nat) (d : List Nat) (hp : d.Perm (List.range n)) (hs : d.Pairwise fun a b => (at_ (allL x y n) a).f0 < (at_ (allL x y n) b).f0 ∨ (at_ (allL x y n) a).f0 = (at_ (allL x y n) b).f0 ∧ a < b) (h : 0 < n) :
    ∃ r, d = (n - 1) :: r := by
  have hl : d.length = n := by have := hp.length_eq; simpa using this
  cases d with
  | nil => simp at hl; omega
  | cons a r =>
    have ha : a < n := by
      have := hp.mem_iff.1 (List.mem_cons_self (a := a) (l := r))
      simpa using this
    have hm : n - 1 ∈ a :: r := hp.mem_iff.2 (by rw [List.mem_range]; omega)
    rw [List.mem_cons] at hm
    rcases hm with hm | hm
    · exact ⟨r, by rw [hm]⟩
    · have h1 := (List.pairwise_cons.1 hs).1 _ hm
      rw [all_at x y n a ha, all_at x y n (n - 1) (by omega)] at h1
      simp only [allB] at h1
      omega
end Go.Proofs.Ytfblelkegebdiaa.V
