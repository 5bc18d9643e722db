/- prune, plain: boxes in a row; one box more. -/
import Derived.Test.YtfblelkegebdiaaPL
namespace Go.Proofs.Ytfblelkegebdiaa.V
set_option linter.unusedVariables false
set_option linter.unusedSimpArgs false

theorem flatMap_congr' {α β : Type} (l : List α) (f g : α → List β) (h : ∀ x, x ∈ l → f x = g x) : l.flatMap f = l.flatMap g := by
  induction l with
  | nil => rfl
  | cons a l ih => rw [List.flatMap_cons, List.flatMap_cons, h a List.mem_cons_self, ih (fun x hx => h x (List.mem_cons_of_mem _ hx))]
/-! PruneMore -/
def atL (p : Pr) (n : Nat) : Bool := decide (p.f1 = (n : Int))
theorem at_app (l : List Bx) (b : Bx) (i : Nat) (h : i < l.length) : at_ (l ++ [b]) i = at_ l i := by
  unfold at_
  simp [List.getD, List.getElem?_append_left h]
theorem more_filter (l : List Bx) (b : Bx) : (pairsOf (l ++ [b])).filter (fun p => !atL p l.length) = pairsOf l := by
  unfold pairsOf
  rw [List.filter_flatMap, List.length_append, List.length_singleton, List.range_succ, List.flatMap_append]
  have h2 : List.flatMap (fun i => List.filter (fun p => !atL p l.length) (List.map (fun j => (⟨(i : Nat), (j : Nat)⟩ : Pr)) (List.filter (fun j => decide (i < j) && meetB (at_ (l ++ [b]) i) (at_ (l ++ [b]) j)) (List.range l.length ++ [l.length])))) [l.length] = [] := by
    simp only [List.flatMap_cons, List.flatMap_nil, List.append_nil]
    rw [List.filter_eq_nil_iff]
    intro x hx
    rw [List.mem_map] at hx
    obtain ⟨j, hj, rfl⟩ := hx
    simp only [List.mem_filter, List.mem_append, List.mem_range, List.mem_singleton, Bool.and_eq_true, decide_eq_true_eq] at hj
    omega
  rw [h2, List.append_nil]
  refine flatMap_congr' _ _ _ (fun i hi => ?_)
  rw [List.mem_range] at hi
  rw [List.filter_map, List.filter_filter, List.filter_append]
  have h3 : List.filter (fun a => ((fun p : Pr => !atL p l.length) ∘ fun j : Nat => (⟨(i : Nat), (j : Nat)⟩ : Pr)) a && (decide (i < a) && meetB (at_ (l ++ [b]) i) (at_ (l ++ [b]) a))) [l.length] = [] := by
    rw [List.filter_eq_nil_iff]
    intro x hx
    rw [List.mem_singleton] at hx
    subst hx
    simp [atL]
  rw [h3, List.append_nil]
  congr 1
  apply List.filter_congr
  intro j hj
  rw [List.mem_range] at hj
  rw [at_app l b i hi, at_app l b j hj]
  have : atL (⟨(i : Nat), (j : Nat)⟩ : Pr) l.length = false := by unfold atL; exact decide_eq_false (by show ¬ ((j : Int) = (l.length : Int)); omega)
  simp [this]
theorem more_few (l : List Bx) (b : Bx) : ((pairsOf (l ++ [b])).filter (fun p => atL p l.length)).length ≤ l.length := by
  have h : ((pairsOf (l ++ [b])).filter (fun p => atL p l.length)).length ≤ ((List.range l.length).map fun i : Nat => (⟨(i : Nat), (l.length : Nat)⟩ : Pr)).length := by
    refine List.Nodup.length_le_of_subset ((pairsOf_nodup _).filter _) ?_
    intro x hx
    rw [List.mem_filter, mem_pairsOf] at hx
    obtain ⟨⟨i, j, hij, hj, hm, rfl⟩, hb⟩ := hx
    unfold atL at hb
    have hb' : ((j : Nat) : Int) = (l.length : Int) := of_decide_eq_true hb
    rw [List.mem_map]
    exact ⟨i, by rw [List.mem_range]; omega, by rw [show j = l.length by omega]⟩
  simpa using h
/-! PruneFar -/
def farB (s : Int) (k : Nat) : Bx := ⟨k * s, 0, k * s + 10, 5⟩
def farL (s : Int) (n : Nat) : List Bx := (List.range n).map (farB s)
theorem farL_length (s : Int) (n : Nat) : (farL s n).length = n := by unfold farL; simp
theorem farL_snoc (s : Int) (n : Nat) : farL s (n + 1) = farL s n ++ [farB s n] := by unfold farL; rw [List.range_succ, List.map_append]; rfl
theorem far_at (s : Int) (n i : Nat) (h : i < n) : at_ (farL s n) i = farB s i := by
  unfold at_ farL
  simp [List.getD, h]
theorem far_meet (s : Int) (i j : Nat) (hij : i < j) (hs : 0 ≤ s) : meetB (farB s i) (farB s j) = decide ((j : Int) * s ≤ (i : Int) * s + 10) := by
  have h : (i : Int) * s ≤ (j : Int) * s := Int.mul_le_mul_of_nonneg_right (by omega) hs
  unfold meetB farB
  rw [Bool.eq_iff_iff]
  simp only [Bool.and_eq_true, decide_eq_true_eq]
  omega
theorem far_none (s : Int) (n : Nat) (hs : 10 < s) : pairsOf (farL s n) = [] := by
  unfold pairsOf
  rw [List.flatMap_eq_nil_iff]
  intro i hi
  rw [List.map_eq_nil_iff, List.filter_eq_nil_iff]
  intro j hj
  rw [List.mem_range, farL_length] at hi hj
  rw [far_at s n i hi, far_at s n j hj]
  by_cases hij : i < j
  · rw [far_meet s i j hij (by omega)]
    have h : ((i : Int) + 1) * s ≤ (j : Int) * s := Int.mul_le_mul_of_nonneg_right (by omega) (by omega)
    rw [Int.add_mul] at h
    simp
    intro _
    omega
  · simp [hij]
theorem range_filter_one (i n : Nat) (f : Nat → Bool) (h : ∀ j, j < n → (f j = true ↔ j = i + 1)) : (List.range n).filter f = if i + 1 < n then [i + 1] else [] := by
  induction n with
  | zero => simp
  | succ n ih =>
    rw [List.range_succ, List.filter_append, ih (fun j hj => h j (by omega))]
    have hn := h n (by omega)
    by_cases h1 : n = i + 1
    · have hf : f n = true := hn.2 h1
      rw [if_neg (by omega), if_pos (by omega)]
      simp [hf, h1]
      rw [← h1]; exact hf
    · have hf : f n = false := by rw [Bool.eq_false_iff]; exact fun e => h1 (hn.1 e)
      by_cases h2 : i + 1 < n
      · rw [if_pos h2, if_pos (by omega)]; simp [hf]
      · rw [if_neg h2, if_neg (by omega)]; simp [hf]
theorem far_next (s : Int) (n : Nat) (h8 : 8 ≤ s) (h10 : s ≤ 10) : pairsOf (farL s n) = (List.range (n - 1)).map fun i : Nat => (⟨(i : Nat), (i + 1 : Nat)⟩ : Pr) := by
  have key : pairsOf (farL s n) = (List.range n).flatMap fun i => if i + 1 < n then [(⟨(i : Nat), (i + 1 : Nat)⟩ : Pr)] else [] := by
    unfold pairsOf
    rw [farL_length]
    refine flatMap_congr' _ _ _ (fun i hi => ?_)
    rw [List.mem_range] at hi
    rw [range_filter_one i n _ (fun j hj => ?_)]
    · by_cases h : i + 1 < n
      · rw [if_pos h, if_pos h]; rfl
      · rw [if_neg h, if_neg h]; rfl
    · rw [far_at s n i hi, far_at s n j hj]
      by_cases hij : i < j
      · rw [far_meet s i j hij (by omega)]
        simp only [hij, decide_true, Bool.true_and, decide_eq_true_eq]
        constructor
        · intro hle
          apply Classical.byContradiction
          intro hne
          have h : ((i : Int) + 2) * s ≤ (j : Int) * s := Int.mul_le_mul_of_nonneg_right (by omega) (by omega)
          rw [Int.add_mul] at h
          omega
        · rintro rfl
          rw [Int.natCast_add, Int.add_mul]
          simp
          omega
      · simp [hij]
        omega
  rw [key]
  cases n with
  | zero => rfl
  | succ n =>
    rw [List.range_succ, List.flatMap_append, Nat.add_sub_cancel]
    simp only [List.flatMap_cons, List.flatMap_nil, List.append_nil]
    rw [if_neg (by omega), List.append_nil]
    rw [show (List.range n).map (fun i : Nat => (⟨(i : Nat), (i + 1 : Nat)⟩ : Pr)) = (List.range n).flatMap fun i => [(⟨(i : Nat), (i + 1 : Nat)⟩ : Pr)] from by rw [List.map_eq_flatMap]]
    refine flatMap_congr' _ _ _ (fun i hi => ?_)
    rw [List.mem_range] at hi
    rw [if_pos (by omega)]
end Go.Proofs.Ytfblelkegebdiaa.V
