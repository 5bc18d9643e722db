/- A stable sort in plain terms: insertion; blocks that are merged two by two. -/
import Derived.Test.YtfblelkegebdiaaQB
namespace Go.Proofs.Ytfblelkegebdiaa.V
open Go.Proofs Go.Shelf Go.Sort
set_option linter.unusedVariables false
set_option linter.unusedSectionVars false
variable {α : Type} [Inhabited α] {cf : α → α → Int} {lt : α → α → Bool} {key : α → Nat}

structure InsS (lt : α → α → Bool) (a j i : Nat) (d : Array α) : Prop where
  rest : ∀ p q, a ≤ p → p < q → q ≤ i → p ≠ j → q ≠ j → lt d[p]! d[q]! = true
  right : ∀ q, j < q → q ≤ i → lt d[j]! d[q]! = true
theorem InsS.stop (h : StOrd cf lt key) {a j i : Nat} {d : Array α} (g : InsS lt a j i d) (hs : j ≤ a ∨ lt d[j - 1]! d[j]! = true) : Asc lt a (i + 1) d := by
  intro p q hap hpq hqi
  by_cases hq : q = j
  · subst hq
    rcases hs with hs | hs
    · omega
    · by_cases hp : p = q - 1
      · subst hp; exact hs
      · exact h.trans _ _ _ (g.rest p (q - 1) hap (by omega) (by omega) (by omega) (by omega)) hs
  · by_cases hp : p = j
    · subst hp; exact g.right q hpq (by omega)
    · exact g.rest p q hap hpq (by omega) hp hq
theorem InsS.step {a j i : Nat} {d : Array α} (h : InsS lt a (j + 1) i d) (hl : lt d[j + 1]! d[j]! = true) (haj : a ≤ j) (hsz : j + 1 < d.size) : InsS lt a j i (swp d (j + 1) j) := by
  have g := swp_get d hsz (show j < d.size by omega)
  constructor
  · intro p q hap hpq hqi hp hq
    rw [g, g]
    by_cases hq1 : q = j + 1
    · subst hq1
      simp only [hq, hp, if_false, if_true, show p ≠ j + 1 by omega]
      exact h.rest p j hap (by omega) (by omega) (by omega) (by omega)
    · by_cases hp1 : p = j + 1
      · subst hp1
        simp only [hq, hp, hq1, if_false, if_true]
        exact h.rest j q haj (by omega) hqi (by omega) hq1
      · simp only [hq, hp, hq1, hp1, if_false]
        exact h.rest p q hap hpq hqi hp1 hq1
  · intro q hjq hqi
    rw [g, g]
    by_cases hq1 : q = j + 1
    · subst hq1
      simpa [show j + 1 ≠ j by omega] using hl
    · simp only [if_true, show q ≠ j by omega, hq1, if_false]
      exact h.right q (by omega) hqi
theorem insInner_st (h : StOrd cf lt key) (a i : Nat) : ∀ (j : Nat) (d : Array α), a ≤ j → j ≤ i → i < d.size → InsS lt a j i d → (∀ p, a ≤ p → p < j → key d[p]! < key d[j]!) →
    InR a (i + 1) d (insInner (ltOf cf) a j d) ∧ Asc lt a (i + 1) (insInner (ltOf cf) a j d)
  | 0, d, _, _, _, hI, _ => by
    unfold insInner
    exact ⟨InR.refl _ _ _, hI.stop h (Or.inl (Nat.zero_le _))⟩
  | j + 1, d, haj, hji, hb, hI, hk => by
    unfold insInner
    split
    · rename_i hc
      simp only [Bool.and_eq_true, decide_eq_true_eq] at hc
      have hl : lt d[j + 1]! d[j]! = true := by rw [← h.cr _ _ (hk j (by omega) (by omega))]; exact hc.2
      have g := swp_get d (show j + 1 < d.size by omega) (show j < d.size by omega)
      have ih := insInner_st h a i j (swp d (j + 1) j) (by omega) (by omega) (by rw [swp_size]; exact hb) (hI.step hl (by omega) (by omega)) (fun p h1 h2 => by
        rw [g, g, if_neg (by omega), if_neg (by omega), if_pos rfl]
        exact hk p h1 (by omega))
      exact ⟨(InR.swp a (i + 1) (j + 1) j d haj (by omega) (by omega) (by omega) (by omega)).trans ih.1, ih.2⟩
    · rename_i hc
      simp only [Bool.and_eq_true, decide_eq_true_eq, not_and, Bool.not_eq_true] at hc
      refine ⟨InR.refl _ _ _, hI.stop h ?_⟩
      by_cases hj : j + 1 > a
      · refine Or.inr ?_
        have h0 := hc hj
        rw [h.cr _ _ (hk j (by omega) (by omega))] at h0
        exact h.tot _ _ (hk j (by omega) (by omega)) h0
      · exact Or.inl (by omega)
theorem insOuter_st (h : StOrd cf lt key) (a b : Nat) : ∀ (n i : Nat) (d : Array α), b - i = n → a < i → i ≤ b → b ≤ d.size → Asc lt a i d → (∀ p q, a ≤ p → p < q → q < b → i ≤ q → key d[p]! < key d[q]!) →
    InR a b d (insOuter (ltOf cf) a b i d) ∧ Asc lt a b (insOuter (ltOf cf) a b i d)
  | 0, i, d, hn, _, hib, _, hs, _ => by
    obtain rfl : i = b := by omega
    rw [insOuter, if_neg (by omega)]
    exact ⟨InR.refl _ _ _, hs⟩
  | n + 1, i, d, hn, hai, hib, hb, hs, hk => by
    have hlt : i < b := by omega
    rw [insOuter, if_pos hlt]
    have h1 := insInner_st h a i i d (by omega) (Nat.le_refl _) (by omega) ⟨fun p q hap hpq hqi _ hq => hs p q hap hpq (by omega), fun q h1 h2 => by omega⟩ (fun p h1 h2 => hk p i h1 h2 hlt (Nat.le_refl _))
    have h2 := insOuter_st h a b n (i + 1) (insInner (ltOf cf) a i d) (by omega) (by omega) (by omega) (by rw [h1.1.1]; exact hb) h1.2 (fun p q g1 g2 g3 g4 => by
      rw [h1.1.2.1 q (by omega)]
      by_cases hp : p < i + 1
      · obtain ⟨y, y1, y2, y3⟩ := h1.1.2.2 p g1 hp
        rw [y3]
        exact hk y q y1 (by omega) g3 (by omega)
      · rw [h1.1.2.1 p (by omega)]
        exact hk p q g1 g2 g3 (by omega))
    exact ⟨(h1.1.mono (Nat.le_refl _) (by omega)).trans h2.1, h2.2⟩
def InsQ (lt : α → α → Bool) (key : α → Nat) (a b : Nat) (d d' : Array α) : Prop := InR a b d d' ∧ ((∀ i j, a ≤ i → i < j → j < b → key d[i]! < key d[j]!) → Asc lt a b d')
theorem inR_insInner (c : α → α → Bool) (a i : Nat) : ∀ (j : Nat) (d : Array α), j ≤ i → i < d.size → InR a (i + 1) d (insInner c a j d)
  | 0, d, _, _ => by unfold insInner; exact InR.refl _ _ _
  | j + 1, d, h1, h2 => by
    unfold insInner
    split
    · rename_i hc
      simp only [Bool.and_eq_true, decide_eq_true_eq] at hc
      exact (InR.swp a (i + 1) (j + 1) j d (by omega) (by omega) (by omega) (by omega) (by omega)).trans (inR_insInner c a i j _ (by omega) (by rw [swp_size]; exact h2))
    · exact InR.refl _ _ _
theorem inR_insOuter (c : α → α → Bool) (a b : Nat) : ∀ (n i : Nat) (d : Array α), b - i = n → b ≤ d.size → InR a b d (insOuter c a b i d)
  | 0, i, d, hn, _ => by rw [insOuter, if_neg (by omega)]; exact InR.refl _ _ _
  | n + 1, i, d, hn, hb => by
    rw [insOuter, if_pos (by omega)]
    have h1 := inR_insInner c a i i d (Nat.le_refl _) (by omega)
    exact (h1.mono (Nat.le_refl _) (by omega)).trans (inR_insOuter c a b n (i + 1) _ (by omega) (by rw [h1.1]; exact hb))
theorem ins_q (h : StOrd cf lt key) (d : Array α) (a b : Nat) (hb : b ≤ d.size) : InsQ lt key a b d (insertionSort (ltOf cf) d a b) := by
  unfold insertionSort
  refine ⟨inR_insOuter _ a b _ _ d rfl hb, fun hk => ?_⟩
  by_cases hab : a < b
  · exact (insOuter_st h a b _ (a + 1) d rfl (by omega) (by omega) hb (fun i j h1 h2 h3 => by omega) (fun p q h1 h2 h3 _ => hk p q h1 h2 h3)).2
  · exact fun i j h1 h2 h3 => by omega

/-! blocks -/
def Blk (lt : α → α → Bool) (key : α → Nat) (n bs u : Nat) (d : Array α) : Prop :=
  (∀ x, u ≤ x → x < u + bs → x < n → u ≤ key d[x]! ∧ key d[x]! < u + bs) ∧ ∀ i j, u ≤ i → i < j → j < u + bs → j < n → lt d[i]! d[j]! = true
def St1 (lt : α → α → Bool) (key : α → Nat) (n p : Nat) (d : Array α) : Prop := (∀ u, 20 ∣ u → u < p → Blk lt key n 20 u d) ∧ ∀ x, p ≤ x → x < n → key d[x]! = x
def St2 (lt : α → α → Bool) (key : α → Nat) (n bs : Nat) (d : Array α) : Prop := ∀ u, bs ∣ u → Blk lt key n bs u d
def St3 (lt : α → α → Bool) (key : α → Nat) (n bs p : Nat) (d : Array α) : Prop := (∀ u, 2 * bs ∣ u → u < p → Blk lt key n (2 * bs) u d) ∧ ∀ u, bs ∣ u → p ≤ u → Blk lt key n bs u d
theorem dvd_step {k u p : Nat} (h1 : k ∣ u) (h2 : k ∣ p) (h : p < u) : p + k ≤ u := by
  have := Nat.le_of_dvd (by omega) (Nat.dvd_sub h1 h2)
  omega
theorem Blk.out {n bs u a b : Nat} {d d' : Array α} (h : Blk lt key n bs u d) (g : InR a b d d') (ho : u + bs ≤ a ∨ b ≤ u) : Blk lt key n bs u d' :=
  ⟨fun x h1 h2 h3 => by rw [g.2.1 x (by omega)]; exact h.1 x h1 h2 h3, fun i j h1 h2 h3 h4 => by rw [g.2.1 i (by omega), g.2.1 j (by omega)]; exact h.2 i j h1 h2 h3 h4⟩
theorem St1.start {n : Nat} {d : Array α} (h : ∀ x, x < n → key d[x]! = x) : St1 lt key n 0 d := ⟨fun u _ h => absurd h (by omega), fun x _ hx => h x hx⟩
theorem St1.step {n p : Nat} {d d' : Array α} (h : St1 lt key n p d) (hp : 20 ∣ p) (hn : p + 20 ≤ n) (q : InsQ lt key p (p + 20) d d') : St1 lt key n (p + 20) d' := by
  have A := q.2 (fun i j h1 h2 h3 => by rw [h.2 i h1 (by omega), h.2 j (by omega) (by omega)]; exact h2)
  refine ⟨fun u hu hlt => ?_, fun x h1 h2 => by rw [q.1.2.1 x (by omega)]; exact h.2 x (by omega) h2⟩
  by_cases hup : u < p
  · exact (h.1 u hu hup).out q.1 (.inl (dvd_step hp hu hup))
  · obtain rfl : u = p := by
      by_cases hh : p < u
      · have := dvd_step hu hp hh; omega
      · omega
    refine ⟨fun x h1 h2 h3 => ?_, fun i j h1 h2 h3 h4 => A i j h1 h2 h3⟩
    obtain ⟨y, y1, y2, y3⟩ := q.1.2.2 x h1 h2
    rw [y3, h.2 y y1 (by omega)]
    omega
theorem St1.fin {n p : Nat} {d d' : Array α} (h : St1 lt key n p d) (hp : 20 ∣ p) (hpn : p ≤ n) (hn : ¬ p + 20 ≤ n) (q : InsQ lt key p n d d') : St2 lt key n 20 d' := by
  have A := q.2 (fun i j h1 h2 h3 => by rw [h.2 i h1 (by omega), h.2 j (by omega) (by omega)]; exact h2)
  intro u hu
  by_cases hup : u < p
  · exact (h.1 u hu hup).out q.1 (.inl (dvd_step hp hu hup))
  · by_cases hh : p < u
    · have := dvd_step hu hp hh
      exact ⟨fun x h1 h2 h3 => by omega, fun i j h1 h2 h3 h4 => by omega⟩
    · obtain rfl : u = p := by omega
      refine ⟨fun x h1 h2 h3 => ?_, fun i j h1 h2 h3 h4 => A i j h1 h2 h4⟩
      obtain ⟨y, y1, y2, y3⟩ := q.1.2.2 x h1 h3
      rw [y3, h.2 y y1 (by omega)]
      omega
theorem St3.start {n bs : Nat} {d : Array α} (h : St2 lt key n bs d) : St3 lt key n bs 0 d := ⟨fun u _ h => absurd h (by omega), fun u hu _ => h u hu⟩
theorem two_dvd {bs u : Nat} (h : 2 * bs ∣ u) : bs ∣ u := Nat.dvd_trans ⟨2, by omega⟩ h
theorem St3.step {n bs p : Nat} {d d' : Array α} (h : St3 lt key n bs p d) (hp : 2 * bs ∣ p) (hn : p + 2 * bs ≤ n) (q : SymQ lt key p (p + bs) (p + 2 * bs) d d') : St3 lt key n bs (p + 2 * bs) d' := by
  have b1 := h.2 p (two_dvd hp) (Nat.le_refl _)
  have b2 := h.2 (p + bs) (Nat.dvd_add (two_dvd hp) (Nat.dvd_refl _)) (by omega)
  have A := q.2 ⟨fun i j h1 h2 h3 => b1.2 i j h1 h2 h3 (by omega), fun i j h1 h2 h3 => b2.2 i j h1 h2 (by omega) (by omega), fun i j h1 h2 h3 h4 => by
    have := (b1.1 i h1 h2 (by omega)).2
    have := (b2.1 j h3 (by omega) (by omega)).1
    omega⟩
  refine ⟨fun u hu hlt => ?_, fun u hu hle => (h.2 u hu (by omega)).out q.1 (.inr hle)⟩
  by_cases hup : u < p
  · exact (h.1 u hu hup).out q.1 (.inl (dvd_step hp hu hup))
  · obtain rfl : u = p := by
      by_cases hh : p < u
      · have := dvd_step hu hp hh; omega
      · omega
    refine ⟨fun x h1 h2 h3 => ?_, fun i j h1 h2 h3 h4 => A i j h1 h2 h3⟩
    obtain ⟨y, y1, y2, y3⟩ := q.1.2.2 x h1 h2
    rw [y3]
    by_cases hy : y < u + bs
    · have := b1.1 y y1 hy (by omega); omega
    · have := b2.1 y (by omega) (by omega) (by omega); omega
theorem St3.fin {n bs p : Nat} {d d' : Array α} (h : St3 lt key n bs p d) (hp : 2 * bs ∣ p) (hm : p + bs < n) (hn : ¬ p + 2 * bs ≤ n) (q : SymQ lt key p (p + bs) n d d') : St2 lt key n (2 * bs) d' := by
  have b1 := h.2 p (two_dvd hp) (Nat.le_refl _)
  have b2 := h.2 (p + bs) (Nat.dvd_add (two_dvd hp) (Nat.dvd_refl _)) (by omega)
  have A := q.2 ⟨fun i j h1 h2 h3 => b1.2 i j h1 h2 h3 (by omega), fun i j h1 h2 h3 => b2.2 i j h1 h2 (by omega) (by omega), fun i j h1 h2 h3 h4 => by
    have := (b1.1 i h1 h2 (by omega)).2
    have := (b2.1 j h3 (by omega) (by omega)).1
    omega⟩
  intro u hu
  by_cases hup : u < p
  · exact (h.1 u hu hup).out q.1 (.inl (dvd_step hp hu hup))
  · by_cases hh : p < u
    · have := dvd_step hu hp hh
      exact ⟨fun x h1 h2 h3 => by omega, fun i j h1 h2 h3 h4 => by omega⟩
    · obtain rfl : u = p := by omega
      refine ⟨fun x h1 h2 h3 => ?_, fun i j h1 h2 h3 h4 => A i j h1 h2 h4⟩
      obtain ⟨y, y1, y2, y3⟩ := q.1.2.2 x h1 h3
      rw [y3]
      by_cases hy : y < u + bs
      · have := b1.1 y y1 hy (by omega); omega
      · have := b2.1 y (by omega) (by omega) (by omega); omega
theorem St3.fin0 {n bs p : Nat} {d : Array α} (h : St3 lt key n bs p d) (hp : 2 * bs ∣ p) (hm : ¬ p + bs < n) : St2 lt key n (2 * bs) d := by
  have b1 := h.2 p (two_dvd hp) (Nat.le_refl _)
  intro u hu
  by_cases hup : u < p
  · exact h.1 u hu hup
  · by_cases hh : p < u
    · have := dvd_step hu hp hh
      exact ⟨fun x h1 h2 h3 => by omega, fun i j h1 h2 h3 h4 => by omega⟩
    · obtain rfl : u = p := by omega
      exact ⟨fun x h1 h2 h3 => by have := b1.1 x h1 (by omega) h3; omega, fun i j h1 h2 h3 h4 => b1.2 i j h1 h2 (by omega) h4⟩
theorem St2.asc {n bs : Nat} {d : Array α} (h : St2 lt key n bs d) (hn : n ≤ bs) : Asc lt 0 n d := fun i j h1 h2 h3 => (h 0 (Nat.dvd_zero _)).2 i j h1 h2 (by omega) h3
end Go.Proofs.Ytfblelkegebdiaa.V
