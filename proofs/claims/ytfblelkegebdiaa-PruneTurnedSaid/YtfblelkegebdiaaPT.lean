/- prune, plain: boxes turned around. -/
import Derived.Test.YtfblelkegebdiaaPL2
namespace Go.Proofs.Ytfblelkegebdiaa.V
set_option linter.unusedVariables false
set_option linter.unusedSimpArgs false

theorem mod_inj {n T i j : Nat} (hi : i < n) (hj : j < n) (h : (i + T) % n = (j + T) % n) : i = j := by
  have h1 := Nat.mod_add_div (i + T) n
  have h2 := Nat.mod_add_div (j + T) n
  rcases Nat.lt_or_ge i j with hlt | hge
  · have h3 : (i + T) / n ≤ (j + T) / n := Nat.div_le_div_right (by omega)
    rcases Nat.eq_or_lt_of_le h3 with h4 | h4
    · rw [h4] at h1; omega
    · have h5 : n * ((i + T) / n) + n ≤ n * ((j + T) / n) := by
        have := Nat.mul_le_mul_left n (show (i + T) / n + 1 ≤ (j + T) / n from h4)
        rw [Nat.mul_add, Nat.mul_one] at this; exact this
      omega
  · rcases Nat.eq_or_lt_of_le hge with h | hgt
    · exact h.symm
    · have h3 : (j + T) / n ≤ (i + T) / n := Nat.div_le_div_right (by omega)
      rcases Nat.eq_or_lt_of_le h3 with h4 | h4
      · rw [h4] at h2; omega
      · have h5 : n * ((j + T) / n) + n ≤ n * ((i + T) / n) := by
          have := Nat.mul_le_mul_left n (show (j + T) / n + 1 ≤ (i + T) / n from h4)
          rw [Nat.mul_add, Nat.mul_one] at this; exact this
        omega
theorem mem_mk {l : List Bx} {x y : Nat} (hx : x < l.length) (hy : y < l.length) (hne : x ≠ y) (hm : meetB (at_ l x) (at_ l y) = true) : mk x y ∈ pairsOf l := by
  rw [mem_pairsOf]
  rcases Nat.lt_or_gt_of_ne hne with h | h
  · exact ⟨x, y, h, hy, hm, by unfold mk; rw [Nat.min_eq_left (by omega), Nat.max_eq_right (by omega)]⟩
  · exact ⟨y, x, h, hx, by rw [meetB_comm]; exact hm, by unfold mk; rw [Nat.min_eq_right (by omega), Nat.max_eq_left (by omega)]⟩
/-- two that meet behind the turn meet ahead of it -/
theorem turned_mem (l m : List Bx) (T : Nat) (hl : m.length = l.length) (h : ∀ i, i < l.length → at_ m i = at_ l ((i + T) % l.length)) (p : Pr) (hp : p ∈ pairsOf m) :
    ∃ i j : Nat, p = ⟨i, j⟩ ∧ i < j ∧ j < l.length ∧ (i + T) % l.length ≠ (j + T) % l.length ∧ mk ((i + T) % l.length) ((j + T) % l.length) ∈ pairsOf l := by
  rw [mem_pairsOf] at hp
  obtain ⟨i, j, hij, hj, hm, rfl⟩ := hp
  rw [hl] at hj
  have hn : 0 < l.length := by omega
  have hne : (i + T) % l.length ≠ (j + T) % l.length := fun e => by have := mod_inj (by omega) hj e; omega
  rw [h i (by omega), h j hj] at hm
  exact ⟨i, j, rfl, hij, hj, hne, mem_mk (Nat.mod_lt _ hn) (Nat.mod_lt _ hn) hne hm⟩
def turn1 (n T : Nat) (p : Pr) : Pr := mk ((p.f0.toNat + T) % n) ((p.f1.toNat + T) % n)
theorem turned_le (l m : List Bx) (T : Nat) (hl : m.length = l.length) (h : ∀ i, i < l.length → at_ m i = at_ l ((i + T) % l.length)) : (pairsOf m).length ≤ (pairsOf l).length := by
  have h1 : ((pairsOf m).map (turn1 l.length T)).length ≤ (pairsOf l).length := by
    refine List.Nodup.length_le_of_subset ?_ ?_
    · rw [List.nodup_iff_pairwise_ne, List.pairwise_map]
      refine List.Pairwise.imp_of_mem ?_ (List.nodup_iff_pairwise_ne.1 (pairsOf_nodup m))
      intro p q hp hq hpq e
      obtain ⟨i, j, rfl, hij, hj, _, _⟩ := turned_mem l m T hl h p hp
      obtain ⟨a, b, rfl, hab, hb, _, _⟩ := turned_mem l m T hl h q hq
      unfold turn1 at e
      simp only [Int.toNat_natCast] at e
      rcases mk_inj e with ⟨h1, h2⟩ | ⟨h1, h2⟩
      · have e1 := mod_inj (by omega) (by omega) h1
        have e2 := mod_inj hj hb h2
        exact hpq (by rw [e1, e2])
      · have e1 := mod_inj (by omega) hb h1
        have e2 := mod_inj hj (by omega) h2
        omega
    · intro x hx
      rw [List.mem_map] at hx
      obtain ⟨p, hp, rfl⟩ := hx
      obtain ⟨i, j, rfl, hij, hj, _, hm⟩ := turned_mem l m T hl h p hp
      unfold turn1
      simp only [Int.toNat_natCast]
      exact hm
  rw [List.length_map] at h1
  exact h1
theorem turned_back (l m : List Bx) (T : Nat) (hT : T < l.length) (hl : m.length = l.length) (h : ∀ i, i < l.length → at_ m i = at_ l ((i + T) % l.length)) : ∀ i, i < m.length → at_ l i = at_ m ((i + (l.length - T)) % m.length) := by
  intro i hi
  rw [hl] at hi ⊢
  have hn : 0 < l.length := by omega
  rw [h _ (Nat.mod_lt _ hn)]
  have e : ((i + (l.length - T)) % l.length + T) % l.length = i := by
    rw [Nat.mod_add_mod, show i + (l.length - T) + T = i + l.length by omega, Nat.add_mod_right, Nat.mod_eq_of_lt hi]
  rw [e]
theorem turned_len (l m : List Bx) (T : Nat) (hT : T < l.length) (hl : m.length = l.length) (h : ∀ i, i < l.length → at_ m i = at_ l ((i + T) % l.length)) : (pairsOf m).length = (pairsOf l).length :=
  Nat.le_antisymm (turned_le l m T hl h) (turned_le m l (l.length - T) hl.symm (turned_back l m T hT hl h))
def turnL (l : List Bx) (T k : Nat) : List Bx := (List.range k).map fun i => at_ l ((i + T) % l.length)
theorem turnL_length (l : List Bx) (T k : Nat) : (turnL l T k).length = k := by unfold turnL; simp
theorem turnL_snoc (l : List Bx) (T k : Nat) : turnL l T (k + 1) = turnL l T k ++ [at_ l ((k + T) % l.length)] := by unfold turnL; rw [List.range_succ, List.map_append]; rfl
theorem turnL_at (l : List Bx) (T k i : Nat) (h : i < k) : at_ (turnL l T k) i = at_ l ((i + T) % l.length) := by
  show (turnL l T k).getD i bx0 = _
  unfold turnL
  simp [List.getD, h]
end Go.Proofs.Ytfblelkegebdiaa.V
