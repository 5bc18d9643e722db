/- prune, plain: who meets whom, in order. -/
import Derived.KernelRfl
namespace Go.Proofs.Ytfblelkegebdiaa.V
set_option linter.unusedVariables false
set_option linter.unusedSimpArgs false

/-- a box: low x, low y, high x, high y -/
structure Bx where
  f0 : Int
  f1 : Int
  f2 : Int
  f3 : Int
  deriving DecidableEq
/-- a pair -/
structure Pr where
  f0 : Int
  f1 : Int
  deriving DecidableEq
def meetB (a b : Bx) : Bool := decide (a.f0 ≤ b.f2) && decide (b.f0 ≤ a.f2) && decide (a.f1 ≤ b.f3) && decide (b.f1 ≤ a.f3)
theorem meetB_comm (a b : Bx) : meetB a b = meetB b a := by
  unfold meetB
  rw [Bool.eq_iff_iff]
  simp only [Bool.and_eq_true, decide_eq_true_eq]
  omega
def bx0 : Bx := ⟨0, 0, 0, 0⟩
def at_ (l : List Bx) (i : Nat) : Bx := l.getD i bx0
/-- the pair of two places -/
def mk (i j : Nat) : Pr := ⟨(min i j : Nat), (max i j : Nat)⟩
theorem mk_comm (i j : Nat) : mk i j = mk j i := by unfold mk; rw [Nat.min_comm, Nat.max_comm]
theorem mk_inj {i j a b : Nat} (h : mk i j = mk a b) : (i = a ∧ j = b) ∨ (i = b ∧ j = a) := by
  unfold mk at h
  rw [Pr.mk.injEq] at h
  omega
/-- what the two loops put in line -/
def rawOf (l : List Bx) : List Nat → List Pr
  | [] => []
  | i :: r => ((r.filter fun j => meetB (at_ l i) (at_ l j)).map (mk i)) ++ rawOf l r
def pairsOf (l : List Bx) : List Pr :=
  (List.range l.length).flatMap fun i => ((List.range l.length).filter fun j => decide (i < j) && meetB (at_ l i) (at_ l j)).map fun j => ⟨(i : Nat), (j : Nat)⟩
def lexlt (p q : Pr) : Prop := p.f0 < q.f0 ∨ (p.f0 = q.f0 ∧ p.f1 < q.f1)
theorem lexlt_irrefl (p : Pr) : ¬ lexlt p p := by unfold lexlt; omega
theorem mem_rawOf (l : List Bx) : ∀ (r : List Nat), r.Nodup → ∀ x, x ∈ rawOf l r ↔ ∃ i j, i ∈ r ∧ j ∈ r ∧ i ≠ j ∧ meetB (at_ l i) (at_ l j) = true ∧ x = mk i j
  | [], _, x => by simp [rawOf]
  | i :: r, hn, x => by
    rw [List.nodup_cons] at hn
    rw [rawOf, List.mem_append, mem_rawOf l r hn.2 x, List.mem_map]
    constructor
    · rintro (⟨j, hj, rfl⟩ | ⟨a, b, ha, hb, hab, hm, rfl⟩)
      · rw [List.mem_filter] at hj
        exact ⟨i, j, List.mem_cons_self, List.mem_cons_of_mem _ hj.1, fun e => hn.1 (e ▸ hj.1), hj.2, rfl⟩
      · exact ⟨a, b, List.mem_cons_of_mem _ ha, List.mem_cons_of_mem _ hb, hab, hm, rfl⟩
    · rintro ⟨a, b, ha, hb, hab, hm, rfl⟩
      rw [List.mem_cons] at ha hb
      rcases ha with rfl | ha
      · rcases hb with rfl | hb
        · exact absurd rfl hab
        · exact .inl ⟨b, List.mem_filter.2 ⟨hb, hm⟩, rfl⟩
      · rcases hb with rfl | hb
        · exact .inl ⟨a, List.mem_filter.2 ⟨ha, by rw [meetB_comm]; exact hm⟩, mk_comm _ _⟩
        · exact .inr ⟨a, b, ha, hb, hab, hm, rfl⟩
theorem nodup_rawOf (l : List Bx) : ∀ (r : List Nat), r.Nodup → (rawOf l r).Nodup
  | [], _ => List.nodup_nil
  | i :: r, hn => by
    have hn' := hn
    rw [List.nodup_cons] at hn
    rw [rawOf, List.nodup_append]
    refine ⟨?_, nodup_rawOf l r hn.2, ?_⟩
    · rw [List.nodup_iff_pairwise_ne, List.pairwise_map]
      refine List.Pairwise.imp_of_mem ?_ (List.nodup_iff_pairwise_ne.1 (hn.2.filter _))
      intro a b ha hb hab e
      rcases mk_inj e with ⟨_, h⟩ | ⟨h, _⟩
      · exact hab h
      · rw [List.mem_filter] at hb
        exact hn.1 (h ▸ hb.1)
    · intro x hx y hy e
      subst e
      rw [List.mem_map] at hx
      obtain ⟨j, hj, rfl⟩ := hx
      rw [mem_rawOf l r hn.2] at hy
      obtain ⟨a, b, ha, hb, hab, hm, e⟩ := hy
      rcases mk_inj e with ⟨h, _⟩ | ⟨h, _⟩
      · exact hn.1 (h ▸ ha)
      · exact hn.1 (h ▸ hb)
theorem mem_pairsOf (l : List Bx) (x : Pr) : x ∈ pairsOf l ↔ ∃ i j : Nat, i < j ∧ j < l.length ∧ meetB (at_ l i) (at_ l j) = true ∧ x = ⟨i, j⟩ := by
  unfold pairsOf
  simp only [List.mem_flatMap, List.mem_map, List.mem_filter, List.mem_range, Bool.and_eq_true, decide_eq_true_eq]
  constructor
  · rintro ⟨i, hi, j, ⟨hj, hij, hm⟩, rfl⟩
    exact ⟨i, j, hij, hj, hm, rfl⟩
  · rintro ⟨i, j, hij, hj, hm, rfl⟩
    exact ⟨i, by omega, j, ⟨hj, hij, hm⟩, rfl⟩
theorem pairsOf_sorted (l : List Bx) : (pairsOf l).Pairwise lexlt := by
  unfold pairsOf
  rw [List.pairwise_flatMap]
  refine ⟨fun i _ => ?_, ?_⟩
  · rw [List.pairwise_map]
    refine (List.pairwise_lt_range.filter _).imp ?_
    intro a b hab
    exact .inr ⟨rfl, by simpa using hab⟩
  · refine List.pairwise_lt_range.imp ?_
    intro a b hab x hx y hy
    rw [List.mem_map] at hx hy
    obtain ⟨_, _, rfl⟩ := hx
    obtain ⟨_, _, rfl⟩ := hy
    exact .inl (by simpa using hab)
theorem pairsOf_nodup (l : List Bx) : (pairsOf l).Nodup := by
  rw [List.nodup_iff_pairwise_ne]
  refine (pairsOf_sorted l).imp ?_
  rintro a b h rfl
  exact lexlt_irrefl _ h
theorem raw_perm (l : List Bx) (r : List Nat) (h : r.Perm (List.range l.length)) : (rawOf l r).Perm (pairsOf l) := by
  have hn : r.Nodup := h.nodup_iff.2 List.nodup_range
  rw [List.perm_ext_iff_of_nodup (nodup_rawOf l r hn) (pairsOf_nodup l)]
  intro x
  rw [mem_rawOf l r hn, mem_pairsOf]
  have hr : ∀ i, i ∈ r ↔ i < l.length := fun i => by rw [h.mem_iff, List.mem_range]
  constructor
  · rintro ⟨i, j, hi, hj, hij, hm, rfl⟩
    rw [hr] at hi hj
    rcases Nat.lt_or_gt_of_ne hij with h1 | h1
    · exact ⟨i, j, h1, hj, hm, by unfold mk; rw [Nat.min_eq_left (by omega), Nat.max_eq_right (by omega)]⟩
    · exact ⟨j, i, h1, hi, by rw [meetB_comm]; exact hm, by unfold mk; rw [Nat.min_eq_right (by omega), Nat.max_eq_left (by omega)]⟩
  · rintro ⟨i, j, hij, hj, hm, rfl⟩
    exact ⟨i, j, (hr i).2 (by omega), (hr j).2 hj, by omega, hm, by unfold mk; rw [Nat.min_eq_left (by omega), Nat.max_eq_right (by omega)]⟩
/-- what is sorted by both places, and has been permuted, is the list of pairs -/
theorem sorted_pairs (l : List Bx) (r : List Nat) (h : r.Perm (List.range l.length)) (d : List Pr) (hp : d.Perm (rawOf l r)) (hs : d.Pairwise fun p q => ¬ lexlt q p) : d = pairsOf l := by
  refine List.Perm.eq_of_pairwise (le := fun p q => ¬ lexlt q p) ?_ hs ((pairsOf_sorted l).imp ?_) (hp.trans (raw_perm l r h))
  · intro a b _ _ h1 h2
    unfold lexlt at h1 h2
    rcases a with ⟨a0, a1⟩
    rcases b with ⟨b0, b1⟩
    simp only [Pr.mk.injEq] at *
    omega
  · intro a b h1 h2
    unfold lexlt at h1 h2
    omega
end Go.Proofs.Ytfblelkegebdiaa.V
