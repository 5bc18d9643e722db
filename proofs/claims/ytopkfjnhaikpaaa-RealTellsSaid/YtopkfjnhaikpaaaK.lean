/- Order, by one key: plain. -/
import Derived.Test.YtopkfjnhaikpaaaC
namespace Go.Proofs.Ytopkfjnhaikpaaa
open Go.Fl
open Go.RowKit (wrap64 Hid Below)

/-- NaNs below all; -0 just below +0. -/
def key (x : Nat) : Int := if num x then 2 * sval x + (if cls x = 5 then -1 else 0) else -2 * (mag 9218868437227405312 : Int) - 2
def cmp3 (a b : Int) : Int := if a < b then -1 else if b < a then 1 else 0

theorem sval_bound {x : Nat} (h : num x) : -(mag 9218868437227405312 : Int) ≤ sval x ∧ sval x ≤ mag 9218868437227405312 := by
  have := mag_mono (show rg x ≤ 9218868437227405312 from h)
  unfold sval
  cases neg x
  · simp only [Bool.false_eq_true, if_false]; omega
  · simp only [if_true]; omega

theorem cls_num {x : Nat} (h : num x) : cls x ≠ 1 ∧ (cls x = 5 → sval x = 0) ∧ (cls x = 4 → sval x = 0) ∧ (sval x = 0 → cls x = 4 ∨ cls x = 5) := by
  have hz := sval_zero (x := x)
  unfold num at h
  unfold cls
  rw [if_neg (by omega)]
  by_cases hi : rg x = 9218868437227405312
  · rw [if_pos hi]
    have : sval x ≠ 0 := fun hs => by have := hz.1 hs; omega
    cases neg x <;> simp [this]
  · rw [if_neg hi]
    by_cases h0 : rg x = 0
    · rw [if_pos h0]
      have := hz.2 h0
      cases neg x <;> simp [this]
    · rw [if_neg h0]
      have : sval x ≠ 0 := fun hs => by have := hz.1 hs; omega
      split <;> simp [this]

theorem ordA_key (x y : Nat) : ordA x y = cmp3 (key x) (key y) := by
  unfold ordA ordB key
  by_cases hx : num x
  · obtain ⟨a1, a2, a3, a4⟩ := cls_num hx
    have e1 := beq_f a1
    by_cases hy : num y
    · obtain ⟨b1, b2, b3, b4⟩ := cls_num hy
      have e2 := beq_f b1
      rw [e1, e2, cmp_lt hx hy, cmp_gt hx hy, if_pos hx, if_pos hy]
      simp only [Bool.false_eq_true, if_false]
      unfold cmp3
      generalize sval x = s at *
      generalize sval y = t at *
      generalize cls x = c at *
      generalize cls y = d at *
      rcases Int.lt_trichotomy s t with h | h | h
      · have g1 : decide (s < t) = true := decide_eq_true h
        rw [g1, Bool.true_or, if_pos rfl, if_pos]
        split <;> split <;> omega
      · subst h
        have g1 : decide (s < s) = false := decide_eq_false (by omega)
        rw [g1, Bool.false_or, Bool.false_or]
        by_cases hs : s = 0
        · rcases a4 hs with hc | hc <;> rcases b4 hs with hd | hd <;> subst hc <;> subst hd <;> simp <;> omega
        · have c5 : c ≠ 5 := fun h => hs (a2 h)
          have c4 : c ≠ 4 := fun h => hs (a3 h)
          have d5 : d ≠ 5 := fun h => hs (b2 h)
          simp [c5, c4, d5]
      · have g1 : decide (s < t) = false := decide_eq_false (by omega)
        have g2 : decide (t < s) = true := decide_eq_true h
        have g3 : (c == 5 && d == 4) = false := by
          rw [Bool.and_eq_false_iff]
          by_cases hc : c = 5
          · right; exact beq_f (fun hd => by have := a2 hc; have := b3 hd; omega)
          · left; exact beq_f hc
        rw [g1, g2, g3, Bool.false_or, Bool.true_or, if_neg (by decide), if_pos rfl, if_neg, if_pos]
        · split <;> split <;> omega
        · split <;> split <;> omega
    · have e2 := beq_t (cls_1 hy)
      rw [e1, e2, if_pos hx, if_neg hy]
      simp only [Bool.false_eq_true, if_false, if_true]
      have := sval_bound hx
      unfold cmp3
      rw [if_neg (by split <;> omega), if_pos (by split <;> omega)]
  · have e1 := beq_t (cls_1 hx)
    rw [e1, if_neg hx]
    simp only [if_true]
    by_cases hy : num y
    · obtain ⟨b1, _⟩ := cls_num hy
      rw [beq_f b1, if_pos hy]
      have := sval_bound hy
      simp only [Bool.false_eq_true, if_false]
      unfold cmp3
      rw [if_pos (by split <;> omega)]
    · rw [beq_t (cls_1 hy), if_neg hy]
      simp only [if_true]
      unfold cmp3
      rw [if_neg (by omega), if_neg (by omega)]

theorem ordA_self (x : Nat) : ordA x x = 0 := by rw [ordA_key]; unfold cmp3; rw [if_neg (by omega), if_neg (by omega)]
theorem ordA_turn (x y : Nat) : ordA y x = -ordA x y := by
  rw [ordA_key, ordA_key]; unfold cmp3
  split <;> split <;> (try split) <;> omega
theorem ordA_range (x y : Nat) : -1 ≤ ordA x y ∧ ordA x y ≤ 1 := by
  rw [ordA_key]; unfold cmp3; split
  · omega
  · split <;> omega
theorem ordA_trans (x y z : Nat) : ordA x y ≤ 0 → ordA y z ≤ 0 → ordA x z ≤ 0 := by
  rw [ordA_key, ordA_key, ordA_key]; unfold cmp3
  intro h1 h2
  have a : key x ≤ key y := by split at h1 <;> (try split at h1) <;> omega
  have b : key y ≤ key z := by split at h2 <;> (try split at h2) <;> omega
  split
  · omega
  · rw [if_neg (by omega)]; omega
theorem ordA_lt {x y : Nat} (h : Ieee.double.order x y = some .lt) : ordA x y = -1 := by
  have hn : num x ∧ num y := by
    constructor
    · rcases Decidable.em (num x) with g | g
      · exact g
      · rw [order_nan_left g] at h; cases h
    · rcases Decidable.em (num y) with g | g
      · exact g
      · rw [order_nan_right g] at h; cases h
  have hs : sval x < sval y := by
    have := cmp_lt hn.1 hn.2
    rw [h] at this
    exact of_decide_eq_true this.symm
  rw [ordA_key]; unfold cmp3 key
  rw [if_pos hn.1, if_pos hn.2, if_pos (by split <;> split <;> omega)]
theorem ordA_eq {x y : Nat} (h : Ieee.double.order x y = some .eq) (h0 : ¬ Ieee.double.order x 0 = some .eq) : ordA x y = 0 := by
  have hn : num x ∧ num y := by
    constructor
    · rcases Decidable.em (num x) with g | g
      · exact g
      · rw [order_nan_left g] at h; cases h
    · rcases Decidable.em (num y) with g | g
      · exact g
      · rw [order_nan_right g] at h; cases h
  have hs : sval x = sval y := by
    have := cmp_eq hn.1 hn.2
    rw [h] at this
    exact of_decide_eq_true this.symm
  have hz : sval x ≠ 0 := by
    intro hz
    have n0 : num 0 := by unfold num; decide
    have := cmp_eq hn.1 n0
    rw [hz, sval_zero.2 (show rg 0 = 0 by decide)] at this
    exact h0 (by simpa using this)
  obtain ⟨_, a2, _, _⟩ := cls_num hn.1
  obtain ⟨_, b2, _, _⟩ := cls_num hn.2
  have c5 : cls x ≠ 5 := fun h => hz (a2 h)
  have d5 : cls y ≠ 5 := fun h => hz (by rw [hs]; exact b2 h)
  rw [ordA_key]; unfold cmp3 key
  rw [if_pos hn.1, if_pos hn.2, if_neg c5, if_neg d5, hs, if_neg (by omega), if_neg (by omega)]
end Go.Proofs.Ytopkfjnhaikpaaa
