/- A stable sort in plain terms: rows that are turned around, merged, put in order by insertion. -/
import Derived.Sort.Lot0
import Derived.Sort.LotA
import Derived.Shelf.SlSortCmp.Insertion1
namespace Go.Proofs.Ytfblelkegebdiaa.V
open Go.Proofs Go.Shelf Go.Sort
set_option linter.unusedVariables false
set_option linter.unusedSimpArgs false
variable {α : Type} [Inhabited α]

/-- an order by which no two are alike, that says what cf says of one that stood behind another -/
structure StOrd (cf : α → α → Int) (lt : α → α → Bool) (key : α → Nat) : Prop where
  trans : ∀ x y z, lt x y = true → lt y z = true → lt x z = true
  cr : ∀ x y, key x < key y → ltOf cf y x = lt y x
  tot : ∀ x y, key x < key y → lt y x = false → lt x y = true

def Mv (f : Nat → Nat) (d d' : Array α) : Prop := d'.size = d.size ∧ ∀ x, x < d.size → d'[x]! = d[f x]!
def InR (a b : Nat) (d d' : Array α) : Prop := d'.size = d.size ∧ (∀ x, ¬ (a ≤ x ∧ x < b) → d'[x]! = d[x]!) ∧ ∀ x, a ≤ x → x < b → ∃ y, a ≤ y ∧ y < b ∧ d'[x]! = d[y]!
def Asc (lt : α → α → Bool) (a b : Nat) (d : Array α) : Prop := ∀ i j, a ≤ i → i < j → j < b → lt d[i]! d[j]! = true
def rotIdx (a m b x : Nat) : Nat := if x < a then x else if x < a + (b - m) then x + (m - a) else if x < b then x - (b - m) else x
def swIdx (a b n x : Nat) : Nat := if a ≤ x ∧ x < a + n then x + (b - a) else if b ≤ x ∧ x < b + n then x - (b - a) else x

theorem out_eq (d d' : Array α) (h : d'.size = d.size) (x : Nat) (hx : d.size ≤ x) : d'[x]! = d[x]! := by
  rw [getElem!_def, getElem!_def, Array.getElem?_eq_none (by omega), Array.getElem?_eq_none (by omega)]
theorem InR.refl (a b : Nat) (d : Array α) : InR a b d d := ⟨rfl, fun _ _ => rfl, fun x h1 h2 => ⟨x, h1, h2, rfl⟩⟩
theorem InR.trans {a b : Nat} {d d' d'' : Array α} (h : InR a b d d') (g : InR a b d' d'') : InR a b d d'' :=
  ⟨g.1.trans h.1, fun x hx => (g.2.1 x hx).trans (h.2.1 x hx), fun x h1 h2 => by
    obtain ⟨y, h3, h4, h5⟩ := g.2.2 x h1 h2
    obtain ⟨z, h6, h7, h8⟩ := h.2.2 y h3 h4
    exact ⟨z, h6, h7, h5.trans h8⟩⟩
theorem InR.mono {a b a' b' : Nat} {d d' : Array α} (h : InR a b d d') (ha : a' ≤ a) (hb : b ≤ b') : InR a' b' d d' :=
  ⟨h.1, fun x hx => h.2.1 x (by omega), fun x h1 h2 => by
    by_cases hx : a ≤ x ∧ x < b
    · obtain ⟨y, h3, h4, h5⟩ := h.2.2 x hx.1 hx.2
      exact ⟨y, by omega, by omega, h5⟩
    · exact ⟨x, h1, h2, h.2.1 x hx⟩⟩
theorem InR.swp (a b i j : Nat) (d : Array α) (h1 : a ≤ i) (h2 : i < b) (h3 : a ≤ j) (h4 : j < b) (hb : b ≤ d.size) : InR a b d (swp d i j) := by
  have g := swp_get d (show i < d.size by omega) (show j < d.size by omega)
  refine ⟨size_swp d i j, fun x hx => ?_, fun x hx1 hx2 => ?_⟩
  · rw [g, if_neg (by omega), if_neg (by omega)]
  · rw [g]
    by_cases e1 : x = j
    · rw [if_pos e1]; exact ⟨i, h1, h2, rfl⟩
    · rw [if_neg e1]
      by_cases e2 : x = i
      · rw [if_pos e2]; exact ⟨j, h3, h4, rfl⟩
      · rw [if_neg e2]; exact ⟨x, hx1, hx2, rfl⟩
theorem Mv.inR {a b : Nat} {f : Nat → Nat} {d d' : Array α} (h : Mv f d d') (ho : ∀ x, ¬ (a ≤ x ∧ x < b) → f x = x) (hi : ∀ x, a ≤ x → x < b → a ≤ f x ∧ f x < b) (hb : b ≤ d.size) : InR a b d d' :=
  ⟨h.1, fun x hx => by
    by_cases hs : x < d.size
    · rw [h.2 x hs, ho x hx]
    · exact out_eq d d' h.1 x (by omega), fun x h1 h2 => ⟨f x, (hi x h1 h2).1, (hi x h1 h2).2, h.2 x (by omega)⟩⟩
theorem rot_out {s m e x : Nat} (h : x < s ∨ e ≤ x) (h1 : s ≤ m) (h2 : m ≤ e) : rotIdx s m e x = x := by
  unfold rotIdx
  split
  · rfl
  · split
    · omega
    · split <;> omega
theorem rot_in {s m e x : Nat} (h : s ≤ x) (h' : x < e) (h1 : s ≤ m) (h2 : m ≤ e) : s ≤ rotIdx s m e x ∧ rotIdx s m e x < e := by
  unfold rotIdx
  rw [if_neg (by omega)]
  by_cases c : x < s + (e - m)
  · rw [if_pos c]; omega
  · rw [if_neg c, if_pos h']; omega
theorem rot_lt {s m e x n : Nat} (h : x < n) (h1 : s ≤ m) (h2 : m ≤ e) (he : e ≤ n) : rotIdx s m e x < n := by
  unfold rotIdx
  split
  · omega
  · split
    · omega
    · split <;> omega
theorem rot_same {s m e x : Nat} (h : s = m ∨ e = m) (h1 : s ≤ m) (h2 : m ≤ e) : rotIdx s m e x = x := by
  unfold rotIdx
  split
  · rfl
  · split
    · omega
    · split <;> omega
theorem rot_inR {s m e : Nat} {d d' : Array α} (h : Mv (rotIdx s m e) d d') (h1 : s ≤ m) (h2 : m ≤ e) (hb : e ≤ d.size) : InR s e d d' :=
  h.inR (fun x hx => rot_out (by omega) h1 h2) (fun x hx hy => rot_in hx hy h1 h2) hb

/-! the parts of a rotation -/
theorem Mv.refl (f : Nat → Nat) (d : Array α) (h : ∀ x, x < d.size → f x = x) : Mv f d d := ⟨rfl, fun x hx => by rw [h x hx]⟩
theorem Mv.comp {f g k : Nat → Nat} {d d' d'' : Array α} (h : Mv f d d') (h2 : Mv g d' d'') (hk : ∀ x, x < d.size → g x < d.size ∧ f (g x) = k x) : Mv k d d'' :=
  ⟨h2.1.trans h.1, fun x hx => by rw [h2.2 x (by rw [h.1]; exact hx), h.2 _ (hk x hx).1, (hk x hx).2]⟩
theorem mv_swp {a b n : Nat} {d dk : Array α} (h : Mv (swIdx a b n) d dk) (hab : a + (n + 1) ≤ b) (hb : b + (n + 1) ≤ d.size) : Mv (swIdx a b (n + 1)) d (swp dk (a + n) (b + n)) := by
  have hs := h.1
  have g := swp_get dk (show a + n < dk.size by omega) (show b + n < dk.size by omega)
  refine ⟨(size_swp _ _ _).trans hs, fun x hx => ?_⟩
  rw [g]
  by_cases e1 : x = b + n
  · rw [if_pos e1, h.2 _ (by omega)]
    congr 1
    unfold swIdx
    rw [if_neg (by omega), if_neg (by omega), if_neg (by omega), if_pos (by omega)]
    omega
  · rw [if_neg e1]
    by_cases e2 : x = a + n
    · rw [if_pos e2, h.2 _ (by omega)]
      congr 1
      unfold swIdx
      rw [if_neg (by omega), if_neg (by omega), if_pos (by omega)]
      omega
    · rw [if_neg e2, h.2 _ hx]
      congr 1
      unfold swIdx
      by_cases c1 : a ≤ x ∧ x < a + n
      · rw [if_pos c1, if_pos (by omega)]
      · rw [if_neg c1, if_neg (show ¬ (a ≤ x ∧ x < a + (n + 1)) by omega)]
        by_cases c2 : b ≤ x ∧ x < b + n
        · rw [if_pos c2, if_pos (by omega)]
        · rw [if_neg c2, if_neg (by omega)]
theorem mv_sw0 (a b : Nat) (d : Array α) : Mv (swIdx a b 0) d d := Mv.refl _ _ fun x _ => by unfold swIdx; rw [if_neg (by omega), if_neg (by omega)]
def RotRest (a m b i j : Nat) (d dk : Array α) : Prop := ∀ T, Mv (rotIdx (m - i) m (m + j)) dk T → Mv (rotIdx a m b) d T
theorem rr_start {a m b : Nat} (d : Array α) (h1 : a < m) (h2 : m < b) : RotRest a m b (m - a) (b - m) d d := by
  intro T h
  rw [show m - (m - a) = a by omega, show m + (b - m) = b by omega] at h
  exact h
theorem rr_left {a m b i j : Nat} {d dk d2 : Array α} (h : RotRest a m b i j d dk) (hs : dk.size = d.size) (hij : j < i) (him : i ≤ m) (hj : m + j ≤ d.size) (hm : Mv (swIdx (m - i) m j) dk d2) : RotRest a m b (i - j) j d d2 := by
  intro T hT
  refine h T (hm.comp hT fun x hx => ?_)
  refine ⟨rot_lt hx (by omega) (by omega) (by omega), ?_⟩
  unfold rotIdx swIdx
  · by_cases c1 : x < m - i
    · rw [if_pos (show x < m - (i - j) by omega), if_neg (by omega), if_neg (by omega), if_pos c1]
    · rw [if_neg c1]
      by_cases c2 : x < m - i + j
      · rw [if_pos (show x < m - (i - j) by omega), if_pos (by omega), if_pos (by omega)]
      · rw [if_neg (show ¬ x < m - (i - j) by omega), if_neg (show ¬ x < m - i + (m + j - m) by omega)]
        by_cases c3 : x < m - (i - j) + (m + j - m)
        · rw [if_pos c3, if_pos (show x < m + j by omega), if_neg (by omega), if_pos (by omega)]; omega
        · rw [if_neg c3]
          by_cases c4 : x < m + j
          · rw [if_pos c4, if_neg (by omega), if_neg (by omega)]
          · rw [if_neg c4, if_neg (by omega), if_neg (by omega)]
theorem rr_right {a m b i j : Nat} {d dk d2 : Array α} (h : RotRest a m b i j d dk) (hs : dk.size = d.size) (hij : i < j) (him : i ≤ m) (hj : m + j ≤ d.size) (hm : Mv (swIdx (m - i) (m + j - i) i) dk d2) : RotRest a m b i (j - i) d d2 := by
  intro T hT
  refine h T (hm.comp hT fun x hx => ?_)
  refine ⟨rot_lt hx (by omega) (by omega) (by omega), ?_⟩
  unfold rotIdx swIdx
  · by_cases c1 : x < m - i
    · rw [if_pos c1, if_pos c1, if_neg (by omega), if_neg (by omega)]
    · rw [if_neg c1, if_neg c1]
      by_cases c2 : x < m - i + (m + (j - i) - m)
      · rw [if_pos c2, if_neg (by omega), if_neg (by omega), if_pos (by omega)]
      · rw [if_neg c2]
        by_cases c3 : x < m + (j - i)
        · rw [if_pos c3, if_pos (by omega)]
          by_cases c5 : x < m - i + (m + j - m)
          · rw [if_pos c5]; omega
          · rw [if_neg c5]; rw [if_pos (by omega)]; omega
        · rw [if_neg c3]
          by_cases c4 : x < m + j
          · rw [if_neg (by omega), if_pos (by omega), if_neg (by omega), if_pos c4]; omega
          · rw [if_neg (by omega), if_neg (by omega), if_neg (by omega), if_neg c4]
theorem rr_end {a m b i : Nat} {d dk d2 : Array α} (h : RotRest a m b i i d dk) (hs : dk.size = d.size) (him : i ≤ m) (hj : m + i ≤ d.size) (hm : Mv (swIdx (m - i) m i) dk d2) : Mv (rotIdx a m b) d d2 := by
  refine h d2 ⟨hm.1, fun x hx => ?_⟩
  rw [hm.2 x hx]
  congr 1
  unfold rotIdx swIdx
  by_cases c1 : x < m - i
  · rw [if_neg (by omega), if_neg (by omega), if_pos c1]
  · rw [if_neg c1]
    by_cases c2 : x < m - i + (m + i - m)
    · rw [if_pos (by omega), if_pos c2]
    · rw [if_neg (by omega), if_neg c2]
      by_cases c4 : x < m + i
      · rw [if_pos (by omega), if_pos c4]; omega
      · rw [if_neg (by omega), if_neg c4]

/-! merging -/
section
variable (cf : α → α → Int) (lt : α → α → Bool) (key : α → Nat)
def MP (a m b : Nat) (d : Array α) : Prop := Asc lt a m d ∧ Asc lt m b d ∧ ∀ i j, a ≤ i → i < m → m ≤ j → j < b → key d[i]! < key d[j]!
def SymQ (a m b : Nat) (d d' : Array α) : Prop := InR a b d d' ∧ (MP lt key a m b d → Asc lt a b d')
end
variable {cf : α → α → Int} {lt : α → α → Bool} {key : α → Nat}
theorem symQ_triv {a s b : Nat} (d : Array α) (h : s = a ∨ s = b) : SymQ lt key a s b d d := by
  refine ⟨InR.refl _ _ _, fun hp => ?_⟩
  rcases h with rfl | rfl
  · exact hp.2.1
  · exact hp.1
theorem Asc.le (h : StOrd cf lt key) {a b : Nat} {d : Array α} (g : Asc lt a b d) {i j : Nat} (h1 : a ≤ i) (h2 : i ≤ j) (h3 : j < b) {z : α} (hz : lt d[j]! z = true) : lt d[i]! z = true := by
  by_cases e : i = j
  · rw [e]; exact hz
  · exact h.trans _ _ _ (g i j h1 (by omega) h3) hz
theorem Asc.ge (h : StOrd cf lt key) {a b : Nat} {d : Array α} (g : Asc lt a b d) {i j : Nat} (h1 : a ≤ i) (h2 : i ≤ j) (h3 : j < b) {z : α} (hz : lt z d[i]! = true) : lt z d[j]! = true := by
  by_cases e : i = j
  · rw [← e]; exact hz
  · exact h.trans _ _ _ hz (g i j h1 (by omega) h3)
omit [Inhabited α] in
theorem StOrd.yes (h : StOrd cf lt key) {x y : α} (hk : key x < key y) (hc : cf y x < 0) : lt y x = true := by
  rw [← h.cr x y hk]; unfold ltOf; exact decide_eq_true hc
omit [Inhabited α] in
theorem StOrd.no (h : StOrd cf lt key) {x y : α} (hk : key x < key y) (hc : ¬ cf y x < 0) : lt x y = true :=
  h.tot x y hk (by rw [← h.cr x y hk]; unfold ltOf; exact decide_eq_false hc)

theorem rot_lo {s m e x : Nat} {d d1 : Array α} (mv : Mv (rotIdx s m e) d d1) (hx : x < d.size) (h : x < s) : d1[x]! = d[x]! := by
  rw [mv.2 x hx]; unfold rotIdx; rw [if_pos h]
theorem rot_r {s m e x : Nat} {d d1 : Array α} (mv : Mv (rotIdx s m e) d d1) (hx : x < d.size) (h : s ≤ x) (h2 : x < s + (e - m)) : d1[x]! = d[x + (m - s)]! := by
  rw [mv.2 x hx]; unfold rotIdx; rw [if_neg (by omega), if_pos h2]
theorem rot_l {s m e x : Nat} {d d1 : Array α} (mv : Mv (rotIdx s m e) d d1) (hx : x < d.size) (hs : s + (e - m) ≤ x) (h2 : x < e) : d1[x]! = d[x - (e - m)]! := by
  rw [mv.2 x hx]; unfold rotIdx; rw [if_neg (by omega), if_neg (by omega), if_pos h2]
theorem rot_hi {s m e x : Nat} {d d1 : Array α} (mv : Mv (rotIdx s m e) d d1) (hx : x < d.size) (h1 : s ≤ m) (h3 : m ≤ e) (h2 : e ≤ x) : d1[x]! = d[x]! := by
  rw [mv.2 x hx]; unfold rotIdx; rw [if_neg (by omega), if_neg (by omega), if_neg (by omega)]

theorem sym_join (h : StOrd cf lt key) {a m b mid s e : Nat} {d d1 d2 d3 : Array α} (hb : b ≤ d.size) (has : a ≤ s) (hsm : s ≤ m) (hme : m ≤ e) (heb : e ≤ b) (hmid : mid = s + (e - m))
    (bl : s = a ∨ e = b ∨ ¬ cf d[e]! d[s - 1]! < 0) (br : s = m ∨ e = m ∨ cf d[e - 1]! d[s]! < 0)
    (mv : Mv (rotIdx s m e) d d1) (q2 : SymQ lt key a s mid d1 d2) (q3 : SymQ lt key mid e b d2 d3) : SymQ lt key a m b d d3 := by
  refine ⟨((rot_inR mv hsm hme (by omega)).mono has heb).trans ((q2.1.mono (Nat.le_refl _) (by omega)).trans (q3.1.mono (by omega) (Nat.le_refl _))), fun ⟨p1, p2, p3⟩ => ?_⟩
  have A2 : Asc lt a mid d2 := q2.2 ⟨fun i j h1 h2 h3 => by rw [rot_lo mv (by omega) (by omega), rot_lo mv (by omega) h3]; exact p1 i j h1 h2 (by omega),
    fun i j h1 h2 h3 => by rw [rot_r mv (by omega) h1 (by omega), rot_r mv (by omega) (by omega) (by omega)]; exact p2 _ _ (by omega) (by omega) (by omega),
    fun i j h1 h2 h3 h4 => by rw [rot_lo mv (by omega) h2, rot_r mv (by omega) h3 (by omega)]; exact p3 _ _ h1 (by omega) (by omega) (by omega)⟩
  have o2 : ∀ x, mid ≤ x → d2[x]! = d1[x]! := fun x hx => q2.1.2.1 x (by omega)
  have A3 : Asc lt mid b d3 := q3.2 ⟨fun i j h1 h2 h3 => by rw [o2 i h1, o2 j (by omega), rot_l mv (by omega) (by omega) (by omega), rot_l mv (by omega) (by omega) h3]; exact p1 _ _ (by omega) (by omega) (by omega),
    fun i j h1 h2 h3 => by rw [o2 i (by omega), o2 j (by omega), rot_hi mv (by omega) hsm hme h1, rot_hi mv (by omega) hsm hme (by omega)]; exact p2 _ _ (by omega) h2 h3,
    fun i j h1 h2 h3 h4 => by rw [o2 i (by omega), o2 j (by omega), rot_l mv (by omega) (by omega) h2, rot_hi mv (by omega) hsm hme h3]; exact p3 _ _ (by omega) (by omega) (by omega) h4⟩
  have X : ∀ y1 y2, a ≤ y1 → y1 < mid → mid ≤ y2 → y2 < b → lt d1[y1]! d1[y2]! = true := by
    intro y1 y2 h1 h2 h3 h4
    by_cases c1 : y1 < s
    · rw [rot_lo mv (by omega) c1]
      by_cases c2 : y2 < e
      · rw [rot_l mv (by omega) (by omega) c2]
        exact p1 _ _ h1 (by omega) (by omega)
      · rw [rot_hi mv (by omega) hsm hme (by omega)]
        have hc : ¬ cf d[e]! d[s - 1]! < 0 := by
          rcases bl with hh | hh | hh
          · omega
          · omega
          · exact hh
        have h0 := h.no (p3 (s - 1) e (by omega) (by omega) hme (by omega)) hc
        exact p1.le h h1 (show y1 ≤ s - 1 by omega) (by omega) (p2.ge h hme (show e ≤ y2 by omega) h4 h0)
    · rw [rot_r mv (by omega) (by omega) (by omega)]
      by_cases c2 : y2 < e
      · rw [rot_l mv (by omega) (by omega) c2]
        have hc : cf d[e - 1]! d[s]! < 0 := by
          rcases br with hh | hh | hh
          · omega
          · omega
          · exact hh
        have h0 := h.yes (p3 s (e - 1) has (by omega) (by omega) (by omega)) hc
        exact p2.le h (show m ≤ y1 + (m - s) by omega) (show y1 + (m - s) ≤ e - 1 by omega) (by omega) (p1.ge h has (show s ≤ y2 - (e - m) by omega) (by omega) h0)
      · rw [rot_hi mv (by omega) hsm hme (by omega)]
        exact p2 _ _ (by omega) (by omega) h4
  intro i j h1 h2 h3
  by_cases c1 : mid ≤ i
  · exact A3 i j c1 h2 h3
  · by_cases c2 : j < mid
    · rw [q3.1.2.1 i (by omega), q3.1.2.1 j (by omega)]
      exact A2 i j h1 h2 c2
    · obtain ⟨y2, g1, g2, g3⟩ := q3.1.2.2 j (by omega) h3
      obtain ⟨y1, g4, g5, g6⟩ := q2.1.2.2 i h1 (by omega)
      rw [q3.1.2.1 i (by omega), g3, g6, o2 y2 g1]
      exact X y1 y2 g4 g5 g1 g2
/-- one element to the left -/
theorem sym_a (h : StOrd cf lt key) {a b i : Nat} {d d' : Array α} (hb : b ≤ d.size) (hai : a + 1 ≤ i) (hib : i ≤ b)
    (bl : i = a + 1 ∨ cf d[i - 1]! d[a]! < 0) (br : i = b ∨ ¬ cf d[i]! d[a]! < 0) (mv : Mv (rotIdx a (a + 1) i) d d') : SymQ lt key a (a + 1) b d d' := by
  refine ⟨(rot_inR mv (by omega) hai (by omega)).mono (Nat.le_refl _) hib, fun ⟨p1, p2, p3⟩ => ?_⟩
  have L : ∀ x, a + 1 ≤ x → x < i → lt d[x]! d[a]! = true := by
    intro x h1 h2
    rcases bl with hh | hh
    · omega
    · exact p2.le h h1 (show x ≤ i - 1 by omega) (by omega) (h.yes (p3 a (i - 1) (Nat.le_refl _) (by omega) (by omega) (by omega)) hh)
  have R : ∀ x, i ≤ x → x < b → lt d[a]! d[x]! = true := by
    intro x h1 h2
    rcases br with hh | hh
    · omega
    · exact p2.ge h hai h1 h2 (h.no (p3 a i (Nat.le_refl _) (by omega) hai (by omega)) hh)
  intro x y h1 h2 h3
  by_cases c1 : x < i - 1
  · rw [rot_r mv (by omega) h1 (by omega)]
    by_cases c2 : y < i - 1
    · rw [rot_r mv (by omega) (by omega) (by omega)]
      exact p2 _ _ (by omega) (by omega) (by omega)
    · by_cases c3 : y < i
      · rw [rot_l mv (by omega) (by omega) c3, show y - (i - (a + 1)) = a by omega]
        exact L _ (by omega) (by omega)
      · rw [rot_hi mv (by omega) (by omega) hai (by omega)]
        exact p2 _ _ (by omega) (by omega) h3
  · by_cases c3 : x < i
    · rw [rot_l mv (by omega) (by omega) c3, show x - (i - (a + 1)) = a by omega, rot_hi mv (by omega) (by omega) hai (by omega)]
      exact R y (by omega) h3
    · rw [rot_hi mv (by omega) (by omega) hai (by omega), rot_hi mv (by omega) (by omega) hai (by omega)]
      exact p2 _ _ (by omega) h2 h3
/-- one element to the right -/
theorem sym_b (h : StOrd cf lt key) {a m i : Nat} {d d' : Array α} (hb : m + 1 ≤ d.size) (hai : a ≤ i) (him : i ≤ m)
    (bl : i = a ∨ ¬ cf d[m]! d[i - 1]! < 0) (br : i = m ∨ cf d[m]! d[i]! < 0) (mv : Mv (rotIdx i m (m + 1)) d d') : SymQ lt key a m (m + 1) d d' := by
  refine ⟨(rot_inR mv him (by omega) hb).mono hai (Nat.le_refl _), fun ⟨p1, p2, p3⟩ => ?_⟩
  have L : ∀ x, a ≤ x → x < i → lt d[x]! d[m]! = true := by
    intro x h1 h2
    rcases bl with hh | hh
    · omega
    · exact p1.le h h1 (show x ≤ i - 1 by omega) (by omega) (h.no (p3 (i - 1) m (by omega) (by omega) (Nat.le_refl _) (by omega)) hh)
  have R : ∀ x, i ≤ x → x < m → lt d[m]! d[x]! = true := by
    intro x h1 h2
    rcases br with hh | hh
    · omega
    · exact p1.ge h hai h1 h2 (h.yes (p3 i m hai (by omega) (Nat.le_refl _) (by omega)) hh)
  intro x y h1 h2 h3
  by_cases c1 : x < i
  · rw [rot_lo mv (by omega) c1]
    by_cases c2 : y < i
    · rw [rot_lo mv (by omega) c2]
      exact p1 _ _ h1 h2 (by omega)
    · by_cases c3 : y < i + 1
      · rw [rot_r mv (by omega) (by omega) (by omega), show y + (m - i) = m by omega]
        exact L _ h1 c1
      · rw [rot_l mv (by omega) (by omega) (by omega)]
        exact p1 _ _ h1 (by omega) (by omega)
  · by_cases c3 : x < i + 1
    · rw [rot_r mv (by omega) (by omega) (by omega), show x + (m - i) = m by omega, rot_l mv (by omega) (by omega) (by omega)]
      exact R _ (by omega) (by omega)
    · rw [rot_l mv (by omega) (by omega) (by omega), rot_l mv (by omega) (by omega) (by omega)]
      exact p1 _ _ (by omega) (by omega) (by omega)
/-- the shifts of one element -/
theorem sh_a {a k : Nat} {d dk : Array α} (h : Mv (rotIdx a (a + 1) (k + 1)) d dk) (hak : a ≤ k) (hk : k + 1 < d.size) : Mv (rotIdx a (a + 1) (k + 1 + 1)) d (swp dk k (k + 1)) := by
  have hs := h.1
  have g := swp_get dk (show k < dk.size by omega) (show k + 1 < dk.size by omega)
  refine ⟨(size_swp _ _ _).trans hs, fun x hx => ?_⟩
  rw [g]
  by_cases e1 : x = k + 1
  · rw [if_pos e1, h.2 _ (by omega)]
    congr 1
    unfold rotIdx
    rw [if_neg (by omega), if_neg (by omega), if_pos (by omega), if_neg (by omega), if_neg (by omega), if_pos (by omega)]
    omega
  · rw [if_neg e1]
    by_cases e2 : x = k
    · rw [if_pos e2, h.2 _ (by omega)]
      congr 1
      unfold rotIdx
      rw [if_neg (by omega), if_neg (by omega), if_neg (by omega), if_neg (by omega), if_pos (by omega)]
      omega
    · rw [if_neg e2, h.2 _ hx]
      congr 1
      unfold rotIdx
      by_cases c1 : x < a
      · rw [if_pos c1, if_pos c1]
      · rw [if_neg c1, if_neg c1]
        by_cases c2 : x < a + (k + 1 - (a + 1))
        · rw [if_pos c2, if_pos (by omega)]
        · rw [if_neg c2, if_neg (by omega), if_neg (by omega), if_neg (by omega)]
theorem sh_a0 (a : Nat) (d : Array α) : Mv (rotIdx a (a + 1) (a + 1)) d d := Mv.refl _ _ fun x _ => rot_same (by omega) (by omega) (by omega)
theorem sh_b {k m : Nat} {d dk : Array α} (h : Mv (rotIdx k m (m + 1)) d dk) (hk : 0 < k) (hkm : k ≤ m) (hm : m < d.size) : Mv (rotIdx (k - 1) m (m + 1)) d (swp dk k (k - 1)) := by
  have hs := h.1
  have g := swp_get dk (show k < dk.size by omega) (show k - 1 < dk.size by omega)
  refine ⟨(size_swp _ _ _).trans hs, fun x hx => ?_⟩
  rw [g]
  by_cases e1 : x = k - 1
  · rw [if_pos e1, h.2 _ (by omega)]
    congr 1
    unfold rotIdx
    rw [if_neg (by omega), if_pos (by omega), if_neg (by omega), if_pos (by omega)]
    omega
  · rw [if_neg e1]
    by_cases e2 : x = k
    · rw [if_pos e2, h.2 _ (by omega)]
      congr 1
      unfold rotIdx
      rw [if_pos (by omega), if_neg (by omega), if_neg (by omega), if_pos (by omega)]
      omega
    · rw [if_neg e2, h.2 _ hx]
      congr 1
      unfold rotIdx
      by_cases c1 : x < k - 1
      · rw [if_pos (by omega), if_pos c1]
      · rw [if_neg (show ¬ x < k by omega), if_neg (show ¬ x < k + (m + 1 - m) by omega), if_neg c1, if_neg (show ¬ x < k - 1 + (m + 1 - m) by omega)]
theorem sh_b0 (m : Nat) (d : Array α) : Mv (rotIdx m m (m + 1)) d d := Mv.refl _ _ fun x _ => rot_same (by omega) (by omega) (by omega)
theorem rot_id {s m e : Nat} (d : Array α) (h : s = m ∨ e = m) (h1 : s ≤ m) (h2 : m ≤ e) : Mv (rotIdx s m e) d d := Mv.refl _ _ fun x _ => rot_same (by omega) (by omega) (by omega)
end Go.Proofs.Ytfblelkegebdiaa.V
/- A stable sort in plain terms: what a search in two rows has found. -/
namespace Go.Proofs.Ytfblelkegebdiaa.V
open Go.Proofs Go.Shelf Go.Sort
set_option linter.unusedVariables false
variable {α : Type} [Inhabited α]
def BA (cf : α → α → Int) (d : Array α) (a b i j : Nat) : Prop := (i = a + 1 ∨ cf d[i - 1]! d[a]! < 0) ∧ (j = b ∨ ¬ cf d[j]! d[a]! < 0)
theorem BA.lo {cf : α → α → Int} {d : Array α} {a b i j c : Nat} (h : BA cf d a b i j) (hc : cf d[c]! d[a]! < 0) : BA cf d a b (c + 1) j := ⟨.inr hc, h.2⟩
theorem BA.hi {cf : α → α → Int} {d : Array α} {a b i j c : Nat} (h : BA cf d a b i j) (hc : ¬ cf d[c]! d[a]! < 0) : BA cf d a b i c := ⟨h.1, .inr hc⟩
theorem BA.start (cf : α → α → Int) (d : Array α) (a b : Nat) : BA cf d a b (a + 1) b := ⟨.inl rfl, .inl rfl⟩
def BB (cf : α → α → Int) (d : Array α) (a m i j : Nat) : Prop := (i = a ∨ ¬ cf d[m]! d[i - 1]! < 0) ∧ (j = m ∨ cf d[m]! d[j]! < 0)
theorem BB.lo {cf : α → α → Int} {d : Array α} {a m i j c : Nat} (h : BB cf d a m i j) (hc : ¬ cf d[m]! d[c]! < 0) : BB cf d a m (c + 1) j := ⟨.inr hc, h.2⟩
theorem BB.hi {cf : α → α → Int} {d : Array α} {a m i j c : Nat} (h : BB cf d a m i j) (hc : cf d[m]! d[c]! < 0) : BB cf d a m i c := ⟨h.1, .inr hc⟩
theorem BB.start (cf : α → α → Int) (d : Array α) (a m : Nat) : BB cf d a m a m := ⟨.inl rfl, .inl rfl⟩
def BS (cf : α → α → Int) (d : Array α) (lo hi n i j : Nat) : Prop := (i = lo ∨ ¬ cf d[n - i]! d[i - 1]! < 0) ∧ (j = hi ∨ cf d[n - j - 1]! d[j]! < 0)
theorem BS.start (cf : α → α → Int) (d : Array α) (lo hi n : Nat) : BS cf d lo hi n lo hi := ⟨.inl rfl, .inl rfl⟩
theorem BS.low {cf : α → α → Int} {d : Array α} {lo hi n i j c : Nat} (h : BS cf d lo hi n i j) (hc : ¬ cf d[n - 1 - c]! d[c]! < 0) : BS cf d lo hi n (c + 1) j :=
  ⟨.inr (by rw [show n - (c + 1) = n - 1 - c by omega]; exact hc), h.2⟩
theorem BS.high {cf : α → α → Int} {d : Array α} {lo hi n i j c : Nat} (h : BS cf d lo hi n i j) (hc : cf d[n - 1 - c]! d[c]! < 0) : BS cf d lo hi n i c :=
  ⟨h.1, .inr (by rw [show n - c - 1 = n - 1 - c by omega]; exact hc)⟩
end Go.Proofs.Ytfblelkegebdiaa.V
/- A stable sort in plain terms: insertion; blocks that are merged two by two. -/
namespace Go.Proofs.Ytfblelkegebdiaa.V
open Go.Proofs Go.Shelf Go.Sort
set_option linter.unusedVariables false
set_option linter.unusedSectionVars false
variable {α : Type} [Inhabited α] {cf : α → α → Int} {lt : α → α → Bool} {key : α → Nat}

structure InsS (lt : α → α → Bool) (a j i : Nat) (d : Array α) : Prop where
  rest : ∀ p q, a ≤ p → p < q → q ≤ i → p ≠ j → q ≠ j → lt d[p]! d[q]! = true
  right : ∀ q, j < q → q ≤ i → lt d[j]! d[q]! = true
theorem InsS.stop (h : StOrd cf lt key) {a j i : Nat} {d : Array α} (g : InsS lt a j i d) (hs : j ≤ a ∨ lt d[j - 1]! d[j]! = true) : Asc lt a (i + 1) d := by
  intro p q hap hpq hqi
  by_cases hq : q = j
  · subst hq
    rcases hs with hs | hs
    · omega
    · by_cases hp : p = q - 1
      · subst hp; exact hs
      · exact h.trans _ _ _ (g.rest p (q - 1) hap (by omega) (by omega) (by omega) (by omega)) hs
  · by_cases hp : p = j
    · subst hp; exact g.right q hpq (by omega)
    · exact g.rest p q hap hpq (by omega) hp hq
theorem InsS.step {a j i : Nat} {d : Array α} (h : InsS lt a (j + 1) i d) (hl : lt d[j + 1]! d[j]! = true) (haj : a ≤ j) (hsz : j + 1 < d.size) : InsS lt a j i (swp d (j + 1) j) := by
  have g := swp_get d hsz (show j < d.size by omega)
  constructor
  · intro p q hap hpq hqi hp hq
    rw [g, g]
    by_cases hq1 : q = j + 1
    · subst hq1
      simp only [hq, hp, if_false, if_true, show p ≠ j + 1 by omega]
      exact h.rest p j hap (by omega) (by omega) (by omega) (by omega)
    · by_cases hp1 : p = j + 1
      · subst hp1
        simp only [hq, hp, hq1, if_false, if_true]
        exact h.rest j q haj (by omega) hqi (by omega) hq1
      · simp only [hq, hp, hq1, hp1, if_false]
        exact h.rest p q hap hpq hqi hp1 hq1
  · intro q hjq hqi
    rw [g, g]
    by_cases hq1 : q = j + 1
    · subst hq1
      simpa [show j + 1 ≠ j by omega] using hl
    · simp only [if_true, show q ≠ j by omega, hq1, if_false]
      exact h.right q (by omega) hqi
theorem insInner_st (h : StOrd cf lt key) (a i : Nat) : ∀ (j : Nat) (d : Array α), a ≤ j → j ≤ i → i < d.size → InsS lt a j i d → (∀ p, a ≤ p → p < j → key d[p]! < key d[j]!) →
    InR a (i + 1) d (insInner (ltOf cf) a j d) ∧ Asc lt a (i + 1) (insInner (ltOf cf) a j d)
  | 0, d, _, _, _, hI, _ => by
    unfold insInner
    exact ⟨InR.refl _ _ _, hI.stop h (Or.inl (Nat.zero_le _))⟩
  | j + 1, d, haj, hji, hb, hI, hk => by
    unfold insInner
    split
    · rename_i hc
      simp only [Bool.and_eq_true, decide_eq_true_eq] at hc
      have hl : lt d[j + 1]! d[j]! = true := by rw [← h.cr _ _ (hk j (by omega) (by omega))]; exact hc.2
      have g := swp_get d (show j + 1 < d.size by omega) (show j < d.size by omega)
      have ih := insInner_st h a i j (swp d (j + 1) j) (by omega) (by omega) (by rw [swp_size]; exact hb) (hI.step hl (by omega) (by omega)) (fun p h1 h2 => by
        rw [g, g, if_neg (by omega), if_neg (by omega), if_pos rfl]
        exact hk p h1 (by omega))
      exact ⟨(InR.swp a (i + 1) (j + 1) j d haj (by omega) (by omega) (by omega) (by omega)).trans ih.1, ih.2⟩
    · rename_i hc
      simp only [Bool.and_eq_true, decide_eq_true_eq, not_and, Bool.not_eq_true] at hc
      refine ⟨InR.refl _ _ _, hI.stop h ?_⟩
      by_cases hj : j + 1 > a
      · refine Or.inr ?_
        have h0 := hc hj
        rw [h.cr _ _ (hk j (by omega) (by omega))] at h0
        exact h.tot _ _ (hk j (by omega) (by omega)) h0
      · exact Or.inl (by omega)
theorem insOuter_st (h : StOrd cf lt key) (a b : Nat) : ∀ (n i : Nat) (d : Array α), b - i = n → a < i → i ≤ b → b ≤ d.size → Asc lt a i d → (∀ p q, a ≤ p → p < q → q < b → i ≤ q → key d[p]! < key d[q]!) →
    InR a b d (insOuter (ltOf cf) a b i d) ∧ Asc lt a b (insOuter (ltOf cf) a b i d)
  | 0, i, d, hn, _, hib, _, hs, _ => by
    obtain rfl : i = b := by omega
    rw [insOuter, if_neg (by omega)]
    exact ⟨InR.refl _ _ _, hs⟩
  | n + 1, i, d, hn, hai, hib, hb, hs, hk => by
    have hlt : i < b := by omega
    rw [insOuter, if_pos hlt]
    have h1 := insInner_st h a i i d (by omega) (Nat.le_refl _) (by omega) ⟨fun p q hap hpq hqi _ hq => hs p q hap hpq (by omega), fun q h1 h2 => by omega⟩ (fun p h1 h2 => hk p i h1 h2 hlt (Nat.le_refl _))
    have h2 := insOuter_st h a b n (i + 1) (insInner (ltOf cf) a i d) (by omega) (by omega) (by omega) (by rw [h1.1.1]; exact hb) h1.2 (fun p q g1 g2 g3 g4 => by
      rw [h1.1.2.1 q (by omega)]
      by_cases hp : p < i + 1
      · obtain ⟨y, y1, y2, y3⟩ := h1.1.2.2 p g1 hp
        rw [y3]
        exact hk y q y1 (by omega) g3 (by omega)
      · rw [h1.1.2.1 p (by omega)]
        exact hk p q g1 g2 g3 (by omega))
    exact ⟨(h1.1.mono (Nat.le_refl _) (by omega)).trans h2.1, h2.2⟩
def InsQ (lt : α → α → Bool) (key : α → Nat) (a b : Nat) (d d' : Array α) : Prop := InR a b d d' ∧ ((∀ i j, a ≤ i → i < j → j < b → key d[i]! < key d[j]!) → Asc lt a b d')
theorem inR_insInner (c : α → α → Bool) (a i : Nat) : ∀ (j : Nat) (d : Array α), j ≤ i → i < d.size → InR a (i + 1) d (insInner c a j d)
  | 0, d, _, _ => by unfold insInner; exact InR.refl _ _ _
  | j + 1, d, h1, h2 => by
    unfold insInner
    split
    · rename_i hc
      simp only [Bool.and_eq_true, decide_eq_true_eq] at hc
      exact (InR.swp a (i + 1) (j + 1) j d (by omega) (by omega) (by omega) (by omega) (by omega)).trans (inR_insInner c a i j _ (by omega) (by rw [swp_size]; exact h2))
    · exact InR.refl _ _ _
theorem inR_insOuter (c : α → α → Bool) (a b : Nat) : ∀ (n i : Nat) (d : Array α), b - i = n → b ≤ d.size → InR a b d (insOuter c a b i d)
  | 0, i, d, hn, _ => by rw [insOuter, if_neg (by omega)]; exact InR.refl _ _ _
  | n + 1, i, d, hn, hb => by
    rw [insOuter, if_pos (by omega)]
    have h1 := inR_insInner c a i i d (Nat.le_refl _) (by omega)
    exact (h1.mono (Nat.le_refl _) (by omega)).trans (inR_insOuter c a b n (i + 1) _ (by omega) (by rw [h1.1]; exact hb))
theorem ins_q (h : StOrd cf lt key) (d : Array α) (a b : Nat) (hb : b ≤ d.size) : InsQ lt key a b d (insertionSort (ltOf cf) d a b) := by
  unfold insertionSort
  refine ⟨inR_insOuter _ a b _ _ d rfl hb, fun hk => ?_⟩
  by_cases hab : a < b
  · exact (insOuter_st h a b _ (a + 1) d rfl (by omega) (by omega) hb (fun i j h1 h2 h3 => by omega) (fun p q h1 h2 h3 _ => hk p q h1 h2 h3)).2
  · exact fun i j h1 h2 h3 => by omega

/-! blocks -/
def Blk (lt : α → α → Bool) (key : α → Nat) (n bs u : Nat) (d : Array α) : Prop :=
  (∀ x, u ≤ x → x < u + bs → x < n → u ≤ key d[x]! ∧ key d[x]! < u + bs) ∧ ∀ i j, u ≤ i → i < j → j < u + bs → j < n → lt d[i]! d[j]! = true
def St1 (lt : α → α → Bool) (key : α → Nat) (n p : Nat) (d : Array α) : Prop := (∀ u, 20 ∣ u → u < p → Blk lt key n 20 u d) ∧ ∀ x, p ≤ x → x < n → key d[x]! = x
def St2 (lt : α → α → Bool) (key : α → Nat) (n bs : Nat) (d : Array α) : Prop := ∀ u, bs ∣ u → Blk lt key n bs u d
def St3 (lt : α → α → Bool) (key : α → Nat) (n bs p : Nat) (d : Array α) : Prop := (∀ u, 2 * bs ∣ u → u < p → Blk lt key n (2 * bs) u d) ∧ ∀ u, bs ∣ u → p ≤ u → Blk lt key n bs u d
theorem dvd_step {k u p : Nat} (h1 : k ∣ u) (h2 : k ∣ p) (h : p < u) : p + k ≤ u := by
  have := Nat.le_of_dvd (by omega) (Nat.dvd_sub h1 h2)
  omega
theorem Blk.out {n bs u a b : Nat} {d d' : Array α} (h : Blk lt key n bs u d) (g : InR a b d d') (ho : u + bs ≤ a ∨ b ≤ u) : Blk lt key n bs u d' :=
  ⟨fun x h1 h2 h3 => by rw [g.2.1 x (by omega)]; exact h.1 x h1 h2 h3, fun i j h1 h2 h3 h4 => by rw [g.2.1 i (by omega), g.2.1 j (by omega)]; exact h.2 i j h1 h2 h3 h4⟩
theorem St1.start {n : Nat} {d : Array α} (h : ∀ x, x < n → key d[x]! = x) : St1 lt key n 0 d := ⟨fun u _ h => absurd h (by omega), fun x _ hx => h x hx⟩
theorem St1.step {n p : Nat} {d d' : Array α} (h : St1 lt key n p d) (hp : 20 ∣ p) (hn : p + 20 ≤ n) (q : InsQ lt key p (p + 20) d d') : St1 lt key n (p + 20) d' := by
  have A := q.2 (fun i j h1 h2 h3 => by rw [h.2 i h1 (by omega), h.2 j (by omega) (by omega)]; exact h2)
  refine ⟨fun u hu hlt => ?_, fun x h1 h2 => by rw [q.1.2.1 x (by omega)]; exact h.2 x (by omega) h2⟩
  by_cases hup : u < p
  · exact (h.1 u hu hup).out q.1 (.inl (dvd_step hp hu hup))
  · obtain rfl : u = p := by
      by_cases hh : p < u
      · have := dvd_step hu hp hh; omega
      · omega
    refine ⟨fun x h1 h2 h3 => ?_, fun i j h1 h2 h3 h4 => A i j h1 h2 h3⟩
    obtain ⟨y, y1, y2, y3⟩ := q.1.2.2 x h1 h2
    rw [y3, h.2 y y1 (by omega)]
    omega
theorem St1.fin {n p : Nat} {d d' : Array α} (h : St1 lt key n p d) (hp : 20 ∣ p) (hpn : p ≤ n) (hn : ¬ p + 20 ≤ n) (q : InsQ lt key p n d d') : St2 lt key n 20 d' := by
  have A := q.2 (fun i j h1 h2 h3 => by rw [h.2 i h1 (by omega), h.2 j (by omega) (by omega)]; exact h2)
  intro u hu
  by_cases hup : u < p
  · exact (h.1 u hu hup).out q.1 (.inl (dvd_step hp hu hup))
  · by_cases hh : p < u
    · have := dvd_step hu hp hh
      exact ⟨fun x h1 h2 h3 => by omega, fun i j h1 h2 h3 h4 => by omega⟩
    · obtain rfl : u = p := by omega
      refine ⟨fun x h1 h2 h3 => ?_, fun i j h1 h2 h3 h4 => A i j h1 h2 h4⟩
      obtain ⟨y, y1, y2, y3⟩ := q.1.2.2 x h1 h3
      rw [y3, h.2 y y1 (by omega)]
      omega
theorem St3.start {n bs : Nat} {d : Array α} (h : St2 lt key n bs d) : St3 lt key n bs 0 d := ⟨fun u _ h => absurd h (by omega), fun u hu _ => h u hu⟩
theorem two_dvd {bs u : Nat} (h : 2 * bs ∣ u) : bs ∣ u := Nat.dvd_trans ⟨2, by omega⟩ h
theorem St3.step {n bs p : Nat} {d d' : Array α} (h : St3 lt key n bs p d) (hp : 2 * bs ∣ p) (hn : p + 2 * bs ≤ n) (q : SymQ lt key p (p + bs) (p + 2 * bs) d d') : St3 lt key n bs (p + 2 * bs) d' := by
  have b1 := h.2 p (two_dvd hp) (Nat.le_refl _)
  have b2 := h.2 (p + bs) (Nat.dvd_add (two_dvd hp) (Nat.dvd_refl _)) (by omega)
  have A := q.2 ⟨fun i j h1 h2 h3 => b1.2 i j h1 h2 h3 (by omega), fun i j h1 h2 h3 => b2.2 i j h1 h2 (by omega) (by omega), fun i j h1 h2 h3 h4 => by
    have := (b1.1 i h1 h2 (by omega)).2
    have := (b2.1 j h3 (by omega) (by omega)).1
    omega⟩
  refine ⟨fun u hu hlt => ?_, fun u hu hle => (h.2 u hu (by omega)).out q.1 (.inr hle)⟩
  by_cases hup : u < p
  · exact (h.1 u hu hup).out q.1 (.inl (dvd_step hp hu hup))
  · obtain rfl : u = p := by
      by_cases hh : p < u
      · have := dvd_step hu hp hh; omega
      · omega
    refine ⟨fun x h1 h2 h3 => ?_, fun i j h1 h2 h3 h4 => A i j h1 h2 h3⟩
    obtain ⟨y, y1, y2, y3⟩ := q.1.2.2 x h1 h2
    rw [y3]
    by_cases hy : y < u + bs
    · have := b1.1 y y1 hy (by omega); omega
    · have := b2.1 y (by omega) (by omega) (by omega); omega
theorem St3.fin {n bs p : Nat} {d d' : Array α} (h : St3 lt key n bs p d) (hp : 2 * bs ∣ p) (hm : p + bs < n) (hn : ¬ p + 2 * bs ≤ n) (q : SymQ lt key p (p + bs) n d d') : St2 lt key n (2 * bs) d' := by
  have b1 := h.2 p (two_dvd hp) (Nat.le_refl _)
  have b2 := h.2 (p + bs) (Nat.dvd_add (two_dvd hp) (Nat.dvd_refl _)) (by omega)
  have A := q.2 ⟨fun i j h1 h2 h3 => b1.2 i j h1 h2 h3 (by omega), fun i j h1 h2 h3 => b2.2 i j h1 h2 (by omega) (by omega), fun i j h1 h2 h3 h4 => by
    have := (b1.1 i h1 h2 (by omega)).2
    have := (b2.1 j h3 (by omega) (by omega)).1
    omega⟩
  intro u hu
  by_cases hup : u < p
  · exact (h.1 u hu hup).out q.1 (.inl (dvd_step hp hu hup))
  · by_cases hh : p < u
    · have := dvd_step hu hp hh
      exact ⟨fun x h1 h2 h3 => by omega, fun i j h1 h2 h3 h4 => by omega⟩
    · obtain rfl : u = p := by omega
      refine ⟨fun x h1 h2 h3 => ?_, fun i j h1 h2 h3 h4 => A i j h1 h2 h4⟩
      obtain ⟨y, y1, y2, y3⟩ := q.1.2.2 x h1 h3
      rw [y3]
      by_cases hy : y < u + bs
      · have := b1.1 y y1 hy (by omega); omega
      · have := b2.1 y (by omega) (by omega) (by omega); omega
theorem St3.fin0 {n bs p : Nat} {d : Array α} (h : St3 lt key n bs p d) (hp : 2 * bs ∣ p) (hm : ¬ p + bs < n) : St2 lt key n (2 * bs) d := by
  have b1 := h.2 p (two_dvd hp) (Nat.le_refl _)
  intro u hu
  by_cases hup : u < p
  · exact h.1 u hu hup
  · by_cases hh : p < u
    · have := dvd_step hu hp hh
      exact ⟨fun x h1 h2 h3 => by omega, fun i j h1 h2 h3 h4 => by omega⟩
    · obtain rfl : u = p := by omega
      exact ⟨fun x h1 h2 h3 => by have := b1.1 x h1 (by omega) h3; omega, fun i j h1 h2 h3 h4 => b1.2 i j h1 h2 (by omega) h4⟩
theorem St2.asc {n bs : Nat} {d : Array α} (h : St2 lt key n bs d) (hn : n ≤ bs) : Asc lt 0 n d := fun i j h1 h2 h3 => (h 0 (Nat.dvd_zero _)).2 i j h1 h2 (by omega) h3
end Go.Proofs.Ytfblelkegebdiaa.V
