/- Plain float64: what words stand for, in whole numbers; no Go in sight. -/
import GoSem.Core.Float
namespace Go.Fl
open Ieee

/-- n / 2^d, to the nearest, and between two the even one. -/
def rne (n d : Nat) : Nat := n / 2 ^ d + (if 2 ^ d < 2 * (n % 2 ^ d) ∨ (2 ^ d = 2 * (n % 2 ^ d) ∧ n / 2 ^ d % 2 = 1) then 1 else 0)

theorem rne_zero_drop (n : Nat) : rne n 0 = n := by
  unfold rne; simp [Nat.mod_one]

theorem rne_scale (n d k : Nat) : rne (n * 2 ^ k) (d + k) = rne n d := by
  have hk : 0 < 2 ^ k := Nat.two_pow_pos k
  have h1 : n * 2 ^ k / 2 ^ (d + k) = n / 2 ^ d := by
    rw [Nat.pow_add]; exact Nat.mul_div_mul_right _ _ hk
  have h2 : n * 2 ^ k % 2 ^ (d + k) = n % 2 ^ d * 2 ^ k := by
    rw [Nat.pow_add]; exact Nat.mul_mod_mul_right _ _ _
  unfold rne
  rw [h1, h2]
  have e1 : (2 ^ (d + k) < 2 * (n % 2 ^ d * 2 ^ k)) ↔ (2 ^ d < 2 * (n % 2 ^ d)) := by
    rw [Nat.pow_add, ← Nat.mul_assoc]; exact Nat.mul_lt_mul_right hk
  have e2 : (2 ^ (d + k) = 2 * (n % 2 ^ d * 2 ^ k)) ↔ (2 ^ d = 2 * (n % 2 ^ d)) := by
    rw [Nat.pow_add, ← Nat.mul_assoc]
    exact ⟨fun h => Nat.eq_of_mul_eq_mul_right hk h, fun h => congrArg (· * 2 ^ k) h⟩
  simp only [e1, e2]

theorem rne_exact (m k : Nat) : rne (m * 2 ^ k) k = m := by
  have := rne_scale m 0 k
  rw [Nat.zero_add] at this
  rw [this, rne_zero_drop]

theorem cut_eq (s : Bool) (n d : Nat) : Toward.even.cut s n d = rne n d := by
  unfold Toward.cut rne
  simp only [Nat.shiftLeft_eq, Nat.one_mul]
  by_cases h : d ≤ n.log2 + 2
  · rw [Nat.min_eq_left h]
    generalize 2 ^ d = g
    congr 1
    by_cases a : g < 2 * (n % g)
    · simp [a]
    · by_cases b : g = 2 * (n % g)
      · by_cases c : n / g % 2 = 1
        · simp [c, ← b]
        · simp [a, c]
      · simp [a, b]
  · rw [Nat.min_eq_right (by omega)]
    have hlt : n < 2 ^ (n.log2 + 1) := Nat.lt_log2_self
    have hm : 2 ^ (n.log2 + 2) ≤ 2 ^ d := Nat.pow_le_pow_right (by omega) (by omega)
    have hp : 2 ^ (n.log2 + 2) = 2 * 2 ^ (n.log2 + 1) := by rw [Nat.pow_succ]; omega
    have h1 : n < 2 ^ (n.log2 + 2) := by omega
    have h2 : n < 2 ^ d := by omega
    rw [Nat.div_eq_of_lt h1, Nat.mod_eq_of_lt h1, Nat.div_eq_of_lt h2, Nat.mod_eq_of_lt h2]
    have a1 : ¬ 2 ^ (n.log2 + 2) < 2 * n := by omega
    have a2 : ¬ 2 ^ d < 2 * n := by omega
    simp [a1, a2]

/-- twice the distance is at most the unit. -/
theorem rne_near (n d : Nat) : 2 * (rne n d * 2 ^ d) ≤ 2 * n + 2 ^ d ∧ 2 * n ≤ 2 * (rne n d * 2 ^ d) + 2 ^ d := by
  unfold rne
  have hd := Nat.div_add_mod n (2 ^ d)
  have hp : 0 < 2 ^ d := Nat.two_pow_pos d
  have hl := Nat.mod_lt n hp
  generalize 2 ^ d = g at *
  generalize n / g = q at *
  generalize n % g = r at *
  split
  · rename_i h
    rw [Nat.add_mul, Nat.one_mul, Nat.mul_comm q g]
    omega
  · rename_i h
    rw [Nat.add_zero, Nat.mul_comm q g]
    omega

theorem rne_even (n d : Nat) (h : 2 * (rne n d * 2 ^ d) = 2 * n + 2 ^ d ∨ 2 * n = 2 * (rne n d * 2 ^ d) + 2 ^ d) : rne n d % 2 = 0 ∨ d = 0 := by
  unfold rne at h ⊢
  have hd := Nat.div_add_mod n (2 ^ d)
  have hp : 0 < 2 ^ d := Nat.two_pow_pos d
  have hl := Nat.mod_lt n hp
  generalize hg : 2 ^ d = g at *
  generalize n / g = q at *
  generalize n % g = r at *
  split
  · rename_i hc
    rw [if_pos hc, Nat.add_mul, Nat.one_mul, Nat.mul_comm q g] at h
    rcases h with h | h <;> omega
  · rename_i hc
    rw [if_neg hc, Nat.add_zero, Nat.mul_comm q g] at h
    rcases h with h | h <;> omega

theorem rne_mono (a b d : Nat) (h : a ≤ b) : rne a d ≤ rne b d := by
  unfold rne
  have hda := Nat.div_add_mod a (2 ^ d)
  have hdb := Nat.div_add_mod b (2 ^ d)
  have hp : 0 < 2 ^ d := Nat.two_pow_pos d
  have hla := Nat.mod_lt a hp
  have hlb := Nat.mod_lt b hp
  have hq : a / 2 ^ d ≤ b / 2 ^ d := Nat.div_le_div_right h
  generalize hg : 2 ^ d = g at *
  generalize a / g = q at *
  generalize a % g = r at *
  generalize b / g = q' at *
  generalize b % g = r' at *
  by_cases e : q = q'
  · subst e
    have hr : r ≤ r' := by omega
    split <;> split <;> omega
  · split <;> split <;> omega


/-- The rung of n / 2^d units of 2^-1074. -/
def rung (n d : Nat) : Nat := min ((n.log2 - (d + 52)) * 2 ^ 52 + rne n (d + (n.log2 - (d + 52)))) 9218868437227405312

theorem log2_scale {n : Nat} (h : n ≠ 0) (k : Nat) : (n * 2 ^ k).log2 = n.log2 + k := by
  have h1 := Nat.log2_self_le h
  have h2 : n < 2 ^ (n.log2 + 1) := Nat.lt_log2_self
  have hk : 0 < 2 ^ k := Nat.two_pow_pos k
  have hne : n * 2 ^ k ≠ 0 := Nat.mul_ne_zero h (by omega)
  rw [Nat.log2_eq_iff hne]
  refine ⟨?_, ?_⟩
  · rw [Nat.pow_add]; exact Nat.mul_le_mul_right _ h1
  · rw [show n.log2 + k + 1 = (n.log2 + 1) + k by omega, Nat.pow_add]; exact Nat.mul_lt_mul_of_pos_right h2 hk

theorem rung_scale (n d k : Nat) : rung (n * 2 ^ k) (d + k) = rung n d := by
  by_cases h : n = 0
  · subst h; simp [rung, rne]
  · unfold rung
    rw [log2_scale h]
    have e : n.log2 + k - (d + k + 52) = n.log2 - (d + 52) := by omega
    rw [e, show d + k + (n.log2 - (d + 52)) = (d + (n.log2 - (d + 52))) + k by omega, rne_scale]

theorem rung_zero (d : Nat) : rung 0 d = 0 := by simp [rung, rne]

theorem nearest_eq (s : Bool) (m : Nat) (p : Int) :
    double.nearest s m p = double.word s (rung (m * 2 ^ (p + 1074).toNat) (-1074 - p).toNat) := by
  unfold Format.nearest
  by_cases h : m = 0
  · subst h; rw [if_pos rfl, Nat.zero_mul, rung_zero]
  · rw [if_neg h]
    have hl : double.leastPlace = -1074 := by decide
    have hf : (double.fractionBits : Int) = 52 := rfl
    have hb : double.binade = 2 ^ 52 := rfl
    have hi : double.infRung = 9218868437227405312 := by decide
    simp only [hl, hf, hb, hi, cut_eq, Nat.shiftLeft_eq]
    unfold rung
    rw [log2_scale h]
    generalize ha : (p + 1074).toNat = a
    generalize hd : (-1074 - p).toNat = d
    generalize hL : m.log2 + a - (d + 52) = L
    have e1 : (max (p + (m.log2 : Int) - 52) (-1074) - -1074).toNat = L := by omega
    have e2 : max (p + (m.log2 : Int) - 52) (-1074) = (L : Int) - 1074 := by omega
    rw [e1, e2]
    congr 3
    generalize hu : (p - ((L : Int) - 1074)).toNat = u
    generalize hv : ((L : Int) - 1074 - p).toNat = v
    by_cases hc : u ≤ a
    · obtain ⟨t, rfl⟩ : ∃ t, a = u + t := ⟨a - u, by omega⟩
      have : d + L = v + t := by omega
      rw [this, Nat.pow_add, ← Nat.mul_assoc, rne_scale]
    · obtain ⟨t, rfl⟩ : ∃ t, u = a + t := ⟨u - a, by omega⟩
      have : v = d + L + t := by omega
      rw [this, Nat.pow_add, ← Nat.mul_assoc, rne_scale]

/-- The magnitude of a finite rung, in units of 2^-1074. -/
def mag (r : Nat) : Nat := if r < 2 ^ 52 then r else (2 ^ 52 + r % 2 ^ 52) * 2 ^ (r / 2 ^ 52 - 1)

theorem log2_is {n k : Nat} (h1 : 2 ^ k ≤ n) (h2 : n < 2 ^ (k + 1)) : n.log2 = k := by
  have : n ≠ 0 := by have := Nat.two_pow_pos k; omega
  exact (Nat.log2_eq_iff this).2 ⟨h1, h2⟩

theorem rung_mag (r : Nat) (h : r < 9218868437227405312) : rung (mag r) 0 = r := by
  unfold mag
  split
  · rename_i hr
    unfold rung
    have : r.log2 - (0 + 52) = 0 := by
      by_cases h0 : r = 0
      · subst h0; rfl
      · have := (Nat.log2_lt h0).2 hr; omega
    rw [this, Nat.add_zero, rne_zero_drop]
    omega
  · rename_i hr
    have hq : 1 ≤ r / 2 ^ 52 := by omega
    have hd := Nat.div_add_mod r (2 ^ 52)
    have ht := Nat.mod_lt r (show 2 ^ 52 > 0 by decide)
    generalize r / 2 ^ 52 = q at *
    generalize r % 2 ^ 52 = t at *
    obtain ⟨j, rfl⟩ : ∃ j, q = j + 1 := ⟨q - 1, by omega⟩
    rw [Nat.add_sub_cancel]
    unfold rung
    have hl : (2 ^ 52 + t).log2 = 52 := log2_is (by omega) (by omega)
    rw [log2_scale (by omega), hl]
    have : 52 + j - (0 + 52) = j := by omega
    rw [this, Nat.zero_add, rne_exact]
    omega

theorem mag_mono {r r' : Nat} (h : r ≤ r') : mag r ≤ mag r' := by
  have key : ∀ r, mag r ≤ mag (r + 1) := by
    intro r
    unfold mag
    have hd := Nat.div_add_mod r (2 ^ 52)
    have ht := Nat.mod_lt r (show 2 ^ 52 > 0 by decide)
    by_cases hc : r % 2 ^ 52 = 2 ^ 52 - 1
    · have e1 : (r + 1) / 2 ^ 52 = r / 2 ^ 52 + 1 := by omega
      have e2 : (r + 1) % 2 ^ 52 = 0 := by omega
      rw [e1, e2]
      by_cases hr : r < 2 ^ 52
      · have : r / 2 ^ 52 = 0 := by omega
        rw [if_pos hr, if_neg (by omega), this]; simp; omega
      · rw [if_neg hr, if_neg (by omega)]
        obtain ⟨j, hj⟩ : ∃ j, r / 2 ^ 52 = j + 1 := ⟨r / 2 ^ 52 - 1, by omega⟩
        rw [hj, hc]
        rw [show j + 1 + 1 - 1 = j + 1 by omega, show j + 1 - 1 = j by omega, show 2 ^ (j + 1) = 2 * 2 ^ j from by rw [Nat.pow_succ, Nat.mul_comm], ← Nat.mul_assoc]
        exact Nat.mul_le_mul_right _ (by decide)
    · have e1 : (r + 1) / 2 ^ 52 = r / 2 ^ 52 := by omega
      have e2 : (r + 1) % 2 ^ 52 = r % 2 ^ 52 + 1 := by omega
      rw [e1, e2]
      by_cases hr : r < 2 ^ 52
      · rw [if_pos hr, if_pos (by omega)]; omega
      · rw [if_neg hr, if_neg (by omega)]
        exact Nat.mul_le_mul_right _ (by omega)
  induction h with
  | refl => exact Nat.le_refl _
  | step _ ih => exact Nat.le_trans ih (key _)


/-- Sign bit and rung of a word. -/
def neg (x : Nat) : Bool := x / 9223372036854775808 % 2 == 1
def rg (x : Nat) : Nat := x % 9223372036854775808

/-- The value in units of 2^-1074, with its sign. -/
def sval (x : Nat) : Int := if neg x then -(mag (rg x) : Int) else mag (rg x)

def fin (x : Nat) : Prop := rg x < 9218868437227405312

theorem read_fin {x : Nat} (h : fin x) : ∃ m e, double.read x = .number (neg x) m e ∧ -1074 ≤ e ∧ m * 2 ^ (e + 1074).toNat = mag (rg x) ∧ m < 2 ^ 53 := by
  unfold fin at h
  unfold Format.read
  have hs : double.signWeight = 9223372036854775808 := by decide
  have hb : double.binade = 2 ^ 52 := rfl
  have hi : double.infRung = 9218868437227405312 := by decide
  have hl : double.leastPlace = -1074 := by decide
  simp only [hs, hb, hi, hl]
  have e : x % 9223372036854775808 = rg x := rfl
  rw [e]
  have en : (x / 9223372036854775808 % 2 == 1) = neg x := rfl
  rw [en]
  by_cases hr : rg x < 2 ^ 52
  · rw [if_pos hr]
    refine ⟨_, _, rfl, by omega, ?_, by omega⟩
    unfold mag; rw [if_pos hr]; simp
  · rw [if_neg hr, if_pos h]
    refine ⟨_, _, rfl, by omega, ?_, by omega⟩
    unfold mag; rw [if_neg hr]
    congr 2
    omega

theorem read_inf {x : Nat} (h : rg x = 9218868437227405312) : double.read x = .infinity (neg x) := by
  unfold Format.read
  have hs : double.signWeight = 9223372036854775808 := by decide
  have hb : double.binade = 2 ^ 52 := rfl
  have hi : double.infRung = 9218868437227405312 := by decide
  simp only [hs, hb, hi]
  have e : x % 9223372036854775808 = rg x := rfl
  rw [e, if_neg (by omega), if_neg (by omega), if_pos h]
  rfl

theorem read_nan {x : Nat} (h : 9218868437227405312 < rg x) : ∃ t, double.read x = .nan (neg x) t := by
  unfold Format.read
  have hs : double.signWeight = 9223372036854775808 := by decide
  have hb : double.binade = 2 ^ 52 := rfl
  have hi : double.infRung = 9218868437227405312 := by decide
  simp only [hs, hb, hi]
  have e : x % 9223372036854775808 = rg x := rfl
  rw [e, if_neg (by omega), if_neg (by omega), if_neg (by omega)]
  exact ⟨_, rfl⟩

theorem word_eq (s : Bool) (r : Nat) : double.word s r = if s then 9223372036854775808 + r else r := rfl

theorem neg_word {s : Bool} {r : Nat} (h : r < 9223372036854775808) : neg (double.word s r) = s := by
  rw [word_eq]; unfold neg
  cases s
  · have : r / 9223372036854775808 = 0 := by omega
    simp [this]
  · have : (9223372036854775808 + r) / 9223372036854775808 = 1 := by omega
    simp [this]

theorem rg_word {s : Bool} {r : Nat} (h : r < 9223372036854775808) : rg (double.word s r) = r := by
  rw [word_eq]; unfold rg
  cases s
  · simp; omega
  · simp; omega

theorem rung_le (n d : Nat) : rung n d ≤ 9218868437227405312 := by unfold rung; omega

theorem word_of {x : Nat} (h : x < 2 ^ 64) : double.word (neg x) (rg x) = x := by
  rw [word_eq]
  unfold neg rg
  by_cases hc : x / 9223372036854775808 % 2 = 1
  · simp [hc]; omega
  · simp [hc]; omega

/-- What a number is written as. -/
def wr (s : Bool) (n d : Nat) : Nat := double.word s (rung n d)

theorem write_number (s : Bool) (m : Nat) (p : Int) : double.write (.number s m p) = wr s (m * 2 ^ (p + 1074).toNat) (-1074 - p).toNat := nearest_eq s m p

theorem wr_scale (s : Bool) (n d k : Nat) : wr s (n * 2 ^ k) (d + k) = wr s n d := by unfold wr; rw [rung_scale]

/-- signed, in units: of a datum of place at least -1074 - d, in units of 2^-(1074 + d). -/
theorem signed_eq (s : Bool) (m u : Nat) : signed s m u = if s then -((m * 2 ^ u : Nat) : Int) else ((m * 2 ^ u : Nat) : Int) := by
  unfold signed; simp only [Nat.shiftLeft_eq]

end Go.Fl
namespace Go.Fl
open Ieee

theorem signed_mul (s : Bool) (m u k : Nat) : signed s m u * (2 ^ k : Nat) = if s then -((m * 2 ^ (u + k) : Nat) : Int) else ((m * 2 ^ (u + k) : Nat) : Int) := by
  rw [signed_eq, Nat.pow_add, ← Nat.mul_assoc]
  cases s
  · simp
  · simp [Int.neg_mul]

theorem compare_scale (a b : Int) (k : Nat) : compare (a * (2 ^ k : Nat)) (b * (2 ^ k : Nat)) = compare a b := by
  have hk : (0 : Int) < (2 ^ k : Nat) := by have := Nat.two_pow_pos k; omega
  show compareOfLessAndEq _ _ = compareOfLessAndEq _ _
  unfold compareOfLessAndEq
  have e1 : (a * (2 ^ k : Nat) < b * (2 ^ k : Nat)) ↔ a < b := ⟨fun h => Int.lt_of_mul_lt_mul_right h (by omega), fun h => Int.mul_lt_mul_of_pos_right h hk⟩
  have e2 : (a * (2 ^ k : Nat) = b * (2 ^ k : Nat)) ↔ a = b := ⟨fun h => Int.eq_of_mul_eq_mul_right (by omega) h, fun h => by rw [h]⟩
  simp only [e1, e2]

theorem sval_of {x m : Nat} {e : Int} (h1 : -1074 ≤ e) (h2 : m * 2 ^ (e + 1074).toNat = mag (rg x)) (base : Int) (hb : base ≤ e) (hb' : -1074 ≤ base) :
    signed (neg x) m (e - base).toNat * (2 ^ (base + 1074).toNat : Nat) = sval x := by
  rw [signed_mul]
  have : (e - base).toNat + (base + 1074).toNat = (e + 1074).toNat := by omega
  rw [this, h2]
  rfl

def num (x : Nat) : Prop := rg x ≤ 9218868437227405312

theorem fin_num {x : Nat} (h : fin x) : num x := Nat.le_of_lt h

theorem mag_norm (q t : Nat) (h1 : 1 ≤ q) (h2 : t < 2 ^ 52) : mag (q * 2 ^ 52 + t) = (2 ^ 52 + t) * 2 ^ (q - 1) := by
  unfold mag
  have e1 : (q * 2 ^ 52 + t) / 2 ^ 52 = q := by omega
  have e2 : (q * 2 ^ 52 + t) % 2 ^ 52 = t := by omega
  rw [if_neg (by omega), e1, e2]

theorem mag_step (q : Nat) (h : 1 ≤ q) : mag (q * 2 ^ 52 + 4503599627370495) < mag ((q + 1) * 2 ^ 52 + 0) := by
  rw [mag_norm _ _ h (by decide), mag_norm _ _ (by omega) (by decide)]
  obtain ⟨j, rfl⟩ : ∃ j, q = j + 1 := ⟨q - 1, by omega⟩
  rw [show j + 1 + 1 - 1 = j + 1 by omega, show j + 1 - 1 = j by omega, show 2 ^ (j + 1) = 2 * 2 ^ j from by rw [Nat.pow_succ, Nat.mul_comm], ← Nat.mul_assoc]
  exact Nat.mul_lt_mul_of_pos_right (by decide) (Nat.two_pow_pos _)

theorem mag_top : mag 9218868437227405311 < mag 9218868437227405312 := mag_step 2046 (by decide)

theorem mag_fin_lt {r : Nat} (h : r < 9218868437227405312) : mag r < mag 9218868437227405312 :=
  Nat.lt_of_le_of_lt (mag_mono (by omega : r ≤ 9218868437227405311)) mag_top

theorem compare_lt {a b : Int} (h : a < b) : compare a b = .lt := by
  show compareOfLessAndEq _ _ = _
  unfold compareOfLessAndEq; rw [if_pos h]
theorem compare_gt {a b : Int} (h : b < a) : compare a b = .gt := by
  show compareOfLessAndEq _ _ = _
  unfold compareOfLessAndEq; rw [if_neg (by omega), if_neg (by omega)]
theorem compare_eq {a b : Int} (h : a = b) : compare a b = .eq := by
  show compareOfLessAndEq _ _ = _
  unfold compareOfLessAndEq; rw [if_neg (by omega), if_pos h]

theorem order_num {x y : Nat} (hx : num x) (hy : num y) : double.order x y = some (compare (sval x) (sval y)) := by
  unfold Format.order
  by_cases fx : fin x
  · obtain ⟨m, i, ex, hi, hm, _⟩ := read_fin fx
    by_cases fy : fin y
    · obtain ⟨n, j, ey, hj, hn, _⟩ := read_fin fy
      rw [ex, ey]
      show some (compare (signed (neg x) m (i - min i j).toNat) (signed (neg y) n (j - min i j).toNat)) = _
      rw [← compare_scale _ _ (min i j + 1074).toNat, sval_of hi hm _ (by omega) (by omega), sval_of hj hn _ (by omega) (by omega)]
    · have hy' : rg y = 9218868437227405312 := by unfold fin at fy; unfold num at hy; omega
      rw [ex, read_inf hy']
      show some (if neg y then Ordering.gt else .lt) = _
      have := mag_fin_lt fx
      unfold sval
      rw [hy']
      by_cases hn : neg y
      · rw [if_pos hn, if_pos hn, compare_gt (by split <;> omega)]
      · rw [if_neg hn, if_neg hn, compare_lt (by split <;> omega)]
  · have hx' : rg x = 9218868437227405312 := by unfold fin at fx; unfold num at hx; omega
    by_cases fy : fin y
    · obtain ⟨n, j, ey, hj, hn, _⟩ := read_fin fy
      rw [ey, read_inf hx']
      show some (if neg x then Ordering.lt else .gt) = _
      have := mag_fin_lt fy
      unfold sval
      rw [hx']
      by_cases hn : neg x
      · rw [if_pos hn, if_pos hn, compare_lt (by split <;> omega)]
      · rw [if_neg hn, if_neg hn, compare_gt (by split <;> omega)]
    · have hy' : rg y = 9218868437227405312 := by unfold fin at fy; unfold num at hy; omega
      rw [read_inf hx', read_inf hy']
      show some (compare (neg y).toNat (neg x).toNat) = _
      have hp : 0 < mag 9218868437227405312 := Nat.lt_of_le_of_lt (Nat.zero_le _) mag_top
      unfold sval
      rw [hx', hy']
      generalize mag 9218868437227405312 = B at *
      cases hsx : neg x <;> cases hsy : neg y
      · simp only [Bool.false_eq_true, if_false]; rw [compare_eq rfl]; decide
      · simp only [Bool.false_eq_true, if_false, if_true]; rw [compare_gt (by omega)]; decide
      · simp only [Bool.false_eq_true, if_false, if_true]; rw [compare_lt (by omega)]; decide
      · simp only [if_true]; rw [compare_eq rfl]; decide

theorem order_nan_left {x y : Nat} (h : ¬ num x) : double.order x y = none := by
  unfold Format.order
  obtain ⟨t, e⟩ := read_nan (x := x) (by unfold num at h; omega)
  rw [e]; rfl

theorem order_nan_right {x y : Nat} (h : ¬ num y) : double.order x y = none := by
  unfold Format.order
  obtain ⟨t, e⟩ := read_nan (x := y) (by unfold num at h; omega)
  rw [e]
  cases double.read x <;> rfl

/-- A number of whatever place, written. -/
theorem write_at (s : Bool) (m : Nat) (p : Int) (a d : Nat) (h : (a : Int) - d = p + 1074) : double.write (.number s m p) = wr s (m * 2 ^ a) d := by
  rw [write_number]
  obtain ⟨k, hk⟩ : ∃ k, a = (p + 1074).toNat + k ∧ d = (-1074 - p).toNat + k := ⟨a - (p + 1074).toNat, by omega, by omega⟩
  rw [hk.1, hk.2, Nat.pow_add, ← Nat.mul_assoc, wr_scale]

/-- 2^32 as a float64. -/
theorem read_32 : double.read 4751297606875873280 = .number false (2 ^ 52) (-20) := by decide

theorem mul_32 {x : Nat} (h : fin x) : double.mul x 4751297606875873280 = some (wr (neg x) (mag (rg x) * 2 ^ 32) 0) := by
  obtain ⟨m, e, ex, he, hm, _⟩ := read_fin h
  unfold Format.mul
  rw [ex, read_32]
  show some (double.write (.number (neg x ^^ false) (m * 2 ^ 52) (e + -20))) = _
  rw [write_at _ _ _ (e + 1074).toNat 20 (by omega), Bool.xor_false, Nat.mul_right_comm, hm,
    show mag (rg x) * 2 ^ 52 = mag (rg x) * 2 ^ 32 * 2 ^ 20 from by rw [Nat.mul_assoc, ← Nat.pow_add],
    show wr (neg x) (mag (rg x) * 2 ^ 32 * 2 ^ 20) 20 = wr (neg x) (mag (rg x) * 2 ^ 32 * 2 ^ 20) (0 + 20) from rfl, wr_scale]

theorem mul_32_inf {x : Nat} (h : rg x = 9218868437227405312) : double.mul x 4751297606875873280 = some (double.word (neg x) 9218868437227405312) := by
  unfold Format.mul
  rw [read_inf h, read_32]
  show some (double.write (.infinity (neg x ^^ false))) = _
  rw [Bool.xor_false]; rfl

theorem div_32 {x : Nat} (h : fin x) : double.div x 4751297606875873280 = some (wr (neg x) (mag (rg x)) 32) := by
  obtain ⟨m, e, ex, he, hm, h53⟩ := read_fin h
  unfold Format.div
  rw [ex, read_32]
  have hl : m.log2 ≤ 52 := by
    by_cases h0 : m = 0
    · subst h0; decide
    · have := (Nat.log2_lt h0).2 h53; omega
  have h52 : (2 ^ 52 : Nat).log2 = 52 := by decide
  show Option.map double.write (if (2 ^ 52 : Nat) = 0 then (if m = 0 then none else some (.infinity (neg x ^^ false))) else some (Datum.number (neg x ^^ false) (2 * ((m <<< (54 + (2 ^ 52 : Nat).log2 - m.log2)) / 2 ^ 52) + ((m <<< (54 + (2 ^ 52 : Nat).log2 - m.log2)) % 2 ^ 52 != 0).toNat) (e - -20 - (54 + (2 ^ 52 : Nat).log2 - m.log2 : Nat) - 1))) = _
  rw [if_neg (by decide), h52]
  obtain ⟨t, ht⟩ : ∃ t, 54 + 52 - m.log2 = t + 52 := ⟨54 - m.log2, by omega⟩
  rw [ht, Nat.shiftLeft_eq, Nat.pow_add, ← Nat.mul_assoc, Nat.mul_div_cancel _ (by decide), Nat.mul_mod_left]
  show some (double.write (.number (neg x ^^ false) (2 * (m * 2 ^ t) + 0) (e - -20 - ((t + 52 : Nat) : Int) - 1))) = _
  rw [write_at _ _ _ (e + 1074).toNat (t + 33) (by omega), Bool.xor_false,
    show (2 * (m * 2 ^ t) + 0) * 2 ^ (e + 1074).toNat = m * 2 ^ (e + 1074).toNat * 2 ^ (t + 1) from by
      rw [Nat.add_zero, Nat.pow_succ, Nat.mul_comm 2 (m * 2 ^ t), Nat.mul_assoc m (2 ^ t) 2, Nat.mul_right_comm], hm,
    show t + 33 = 32 + (t + 1) from by omega, wr_scale]

theorem nearest_int (n : Int) : FloatKind.f64.nearest n = wr (decide (n < 0)) (n.natAbs * 2 ^ 1074) 0 := by
  show double.write (.number (n < 0) n.natAbs 0) = _
  rw [write_at _ _ _ 1074 0 (by omega)]

theorem add_fin {x y : Nat} (hx : fin x) (hy : fin y) :
    double.add x y = some (wr (if sval x + sval y = 0 then neg x && neg y else decide (sval x + sval y < 0)) (sval x + sval y).natAbs 0) := by
  obtain ⟨m, i, ex, hi, hm, _⟩ := read_fin hx
  obtain ⟨n, j, ey, hj, hn, _⟩ := read_fin hy
  unfold Format.add
  rw [ex, ey]
  have e1 := sval_of hi hm (min i j) (by omega) (by omega)
  have e2 := sval_of hj hn (min i j) (by omega) (by omega)
  have e3 : (signed (neg x) m (i - min i j).toNat + signed (neg y) n (j - min i j).toNat) * (2 ^ (min i j + 1074).toNat : Nat) = sval x + sval y := by
    rw [Int.add_mul, e1, e2]
  show some (double.write (.number (if signed (neg x) m (i - min i j).toNat + signed (neg y) n (j - min i j).toNat = 0 then neg x && neg y else decide (signed (neg x) m (i - min i j).toNat + signed (neg y) n (j - min i j).toNat < 0)) (signed (neg x) m (i - min i j).toNat + signed (neg y) n (j - min i j).toNat).natAbs (min i j))) = _
  rw [write_at _ _ _ (min i j + 1074).toNat 0 (by omega), ← e3]
  generalize signed (neg x) m (i - min i j).toNat + signed (neg y) n (j - min i j).toNat = T
  generalize (min i j + 1074).toNat = k
  have hk : (0 : Int) < (2 ^ k : Nat) := by have := Nat.two_pow_pos k; omega
  have a1 : (T * (2 ^ k : Nat) = 0) ↔ T = 0 := ⟨fun h => by rcases Int.mul_eq_zero.1 h with h | h <;> omega, fun h => by rw [h, Int.zero_mul]⟩
  have a2 : (T * (2 ^ k : Nat) < 0) ↔ T < 0 := ⟨fun h => by
    rcases Int.lt_or_le T 0 with g | g
    · exact g
    · have := Int.mul_nonneg g (Int.le_of_lt hk); omega, fun h => Int.mul_neg_of_neg_of_pos h hk⟩
  simp only [a1, a2, Int.natAbs_mul, Int.natAbs_natCast]

theorem opposite_read {y : Nat} {n : Nat} {j : Int} (h : double.read y = .number (neg y) n j) : (double.read y).opposite = .number (!neg y) n j := by
  rw [h]; rfl

theorem sub_fin {x y : Nat} (hx : fin x) (hy : fin y) :
    double.sub x y = some (wr (if sval x - sval y = 0 then neg x && !neg y else decide (sval x - sval y < 0)) (sval x - sval y).natAbs 0) := by
  obtain ⟨m, i, ex, hi, hm, _⟩ := read_fin hx
  obtain ⟨n, j, ey, hj, hn, _⟩ := read_fin hy
  unfold Format.sub
  rw [ex, opposite_read ey]
  have e1 := sval_of hi hm (min i j) (by omega) (by omega)
  have e2 := sval_of hj hn (min i j) (by omega) (by omega)
  have e4 : signed (!neg y) n (j - min i j).toNat = - signed (neg y) n (j - min i j).toNat := by
    rw [signed_eq, signed_eq]; cases neg y <;> simp
  have e3 : (signed (neg x) m (i - min i j).toNat + signed (!neg y) n (j - min i j).toNat) * (2 ^ (min i j + 1074).toNat : Nat) = sval x - sval y := by
    rw [e4, Int.add_mul, Int.neg_mul, e1, e2]; omega
  show some (double.write (.number (if signed (neg x) m (i - min i j).toNat + signed (!neg y) n (j - min i j).toNat = 0 then neg x && !neg y else decide (signed (neg x) m (i - min i j).toNat + signed (!neg y) n (j - min i j).toNat < 0)) (signed (neg x) m (i - min i j).toNat + signed (!neg y) n (j - min i j).toNat).natAbs (min i j))) = _
  rw [write_at _ _ _ (min i j + 1074).toNat 0 (by omega), ← e3]
  generalize signed (neg x) m (i - min i j).toNat + signed (!neg y) n (j - min i j).toNat = T
  generalize (min i j + 1074).toNat = k
  have hk : (0 : Int) < (2 ^ k : Nat) := by have := Nat.two_pow_pos k; omega
  have a1 : (T * (2 ^ k : Nat) = 0) ↔ T = 0 := ⟨fun h => by rcases Int.mul_eq_zero.1 h with h | h <;> omega, fun h => by rw [h, Int.zero_mul]⟩
  have a2 : (T * (2 ^ k : Nat) < 0) ↔ T < 0 := ⟨fun h => by
    rcases Int.lt_or_le T 0 with g | g
    · exact g
    · have := Int.mul_nonneg g (Int.le_of_lt hk); omega, fun h => Int.mul_neg_of_neg_of_pos h hk⟩
  simp only [a1, a2, Int.natAbs_mul, Int.natAbs_natCast]

end Go.Fl
namespace Go.Fl
open Ieee

/-- Exponents, by name: nothing here is to count them out. -/
def U74 : Nat := 1074
def U42 : Nat := 1042
theorem U74_is : U74 = 1074 := rfl
theorem U42_is : U42 = 1042 := rfl
theorem U74_42 : U74 = U42 + 32 := rfl

theorem rung_small {n : Nat} (h : n < 2 ^ 53) : rung n 0 = n := by
  unfold rung
  have : n.log2 - (0 + 52) = 0 := by
    by_cases h0 : n = 0
    · subst h0; rfl
    · have := (Nat.log2_lt h0).2 h; omega
  rw [this, Nat.add_zero, rne_zero_drop]
  have : n < 9007199254740992 := h
  omega

theorem mag_small {n : Nat} (h : n < 2 ^ 53) : mag n = n := by
  by_cases h2 : n < 2 ^ 52
  · unfold mag; rw [if_pos h2]
  · have := mag_norm 1 (n - 2 ^ 52) (by omega) (by omega)
    rw [show 1 * 2 ^ 52 + (n - 2 ^ 52) = n by omega] at this
    rw [this]; rw [Nat.sub_self, Nat.pow_zero, Nat.mul_one]

/-- A number of at most 53 digits is written as it is. -/
theorem mag_exact {m k : Nat} (hm : m < 2 ^ 53) (h : rung (m * 2 ^ k) 0 < 9218868437227405312) : mag (rung (m * 2 ^ k) 0) = m * 2 ^ k := by
  generalize hn : m * 2 ^ k = n at *
  by_cases hs : n < 2 ^ 53
  · rw [rung_small hs, mag_small hs]
  · have hm0 : m ≠ 0 := by rintro rfl; rw [Nat.zero_mul] at hn; omega
    have hl : n.log2 = m.log2 + k := by rw [← hn, log2_scale hm0]
    have hml := (Nat.log2_lt hm0).2 hm
    have hn0 : n ≠ 0 := by omega
    have hnl : 53 ≤ n.log2 := by
      rcases Nat.lt_or_ge n.log2 53 with g | g
      · have := (Nat.log2_lt hn0).1 g; omega
      · exact g
    obtain ⟨L, hL⟩ : ∃ L, n.log2 = L + 52 := ⟨n.log2 - 52, by omega⟩
    have hr : rung n 0 = min (L * 2 ^ 52 + m * 2 ^ (k - L)) 9218868437227405312 := by
      unfold rung
      rw [hL, show L + 52 - (0 + 52) = L by omega, Nat.zero_add, ← hn]
      have : m * 2 ^ k = m * 2 ^ (k - L) * 2 ^ L := by rw [Nat.mul_assoc, ← Nat.pow_add]; congr 2; omega
      rw [this, rne_exact]
    rw [hr] at h ⊢
    have hM1 : 2 ^ 52 ≤ m * 2 ^ (k - L) := by
      have h1 := Nat.log2_self_le hm0
      have : 2 ^ 52 = 2 ^ m.log2 * 2 ^ (k - L) := by rw [← Nat.pow_add]; congr 1; omega
      rw [this]; exact Nat.mul_le_mul_right _ h1
    have hM2 : m * 2 ^ (k - L) < 2 ^ 53 := by
      have h1 : m < 2 ^ (m.log2 + 1) := Nat.lt_log2_self
      have : 2 ^ 53 = 2 ^ (m.log2 + 1) * 2 ^ (k - L) := by rw [← Nat.pow_add]; congr 1; omega
      rw [this]; exact Nat.mul_lt_mul_of_pos_right h1 (Nat.two_pow_pos _)
    have hM3 : n = m * 2 ^ (k - L) * 2 ^ L := by rw [← hn, Nat.mul_assoc, ← Nat.pow_add]; congr 2; omega
    generalize m * 2 ^ (k - L) = M at *
    rw [Nat.min_eq_left (by omega), show L * 2 ^ 52 + M = (L + 1) * 2 ^ 52 + (M - 2 ^ 52) by omega, mag_norm _ _ (by omega) (by omega), Nat.add_sub_cancel, hM3,
      show 2 ^ 52 + (M - 2 ^ 52) = M by omega]

/-- What is too great is great. -/
theorem rung_top {n E : Nat} (hE : E = 2097) (h : rung n 0 = 9218868437227405312) : 2 ^ E ≤ n := by
  rcases Nat.lt_or_ge n (2 ^ E) with g | g
  · exfalso
    unfold rung at h
    by_cases h0 : n = 0
    · subst h0; simp [rne] at h
    · have hl := (Nat.log2_lt h0).2 g
      have hb := rne_near n (n.log2 - (0 + 52))
      simp only [Nat.zero_add] at h hb
      by_cases hs : n.log2 ≤ 52
      · have e : n.log2 - 52 = 0 := by omega
        rw [e, rne_zero_drop] at h
        have := (Nat.log2_lt h0).1 (show n.log2 < 53 by omega)
        have : n < 9007199254740992 := this
        omega
      · obtain ⟨L, hL⟩ : ∃ L, n.log2 = L + 52 := ⟨n.log2 - 52, by omega⟩
        rw [hL, Nat.add_sub_cancel] at h hb
        have h1 : n < 2 ^ (L + 53) := by have : n < 2 ^ (n.log2 + 1) := Nat.lt_log2_self; rw [hL] at this; exact this
        have h2 : rne n L ≤ 2 ^ 53 := by
          have := rne_mono n (2 ^ 53 * 2 ^ L) L (by rw [← Nat.pow_add, Nat.add_comm]; exact Nat.le_of_lt h1)
          rwa [rne_exact] at this
        omega
  · exact g

theorem fin_wr {s : Bool} {n d : Nat} (h : rung n d < 9218868437227405312) : fin (wr s n d) := by
  unfold fin wr; rw [rg_word (by omega)]; exact h
theorem rg_wr (s : Bool) (n d : Nat) : rg (wr s n d) = rung n d := by
  unfold wr; rw [rg_word (by have := rung_le n d; omega)]
theorem neg_wr (s : Bool) (n d : Nat) : neg (wr s n d) = s := by
  unfold wr; rw [neg_word (by have := rung_le n d; omega)]
theorem num_wr (s : Bool) (n d : Nat) : num (wr s n d) := by
  unfold num; rw [rg_wr]; exact rung_le n d
theorem sval_wr (s : Bool) (n d : Nat) : sval (wr s n d) = if s then -(mag (rung n d) : Int) else mag (rung n d) := by
  unfold sval; rw [rg_wr, neg_wr]

theorem mag_form {r : Nat} (h : r < 9218868437227405312) : ∃ m k, m < 2 ^ 53 ∧ mag r = m * 2 ^ k := by
  by_cases hr : r < 2 ^ 52
  · exact ⟨r, 0, by omega, by rw [mag_small (by omega)]; simp⟩
  · have := mag_norm (r / 2 ^ 52) (r % 2 ^ 52) (by omega) (by omega)
    rw [show r / 2 ^ 52 * 2 ^ 52 + r % 2 ^ 52 = r by omega] at this
    exact ⟨_, _, by omega, this⟩

/-- math.RoundToEven of a number. -/
theorem integral_fin {x : Nat} (h : fin x) : double.write ((double.read x).integral .even) = wr (neg x) (rne (mag (rg x)) U74 * 2 ^ U74) 0 := by
  obtain ⟨m, e, ex, he, hm, _⟩ := read_fin h
  rw [ex]
  show double.write (.number (neg x) (Toward.even.cut (neg x) (m <<< e.toNat) (-e).toNat) 0) = _
  have hU := U74_is
  rw [write_at _ _ _ U74 0 (by omega), cut_eq, Nat.shiftLeft_eq, ← hm]
  generalize U74 = U at *
  congr 2
  by_cases h0 : 0 ≤ e
  · have e1 : (e + 1074).toNat = e.toNat + U := by omega
    have e2 : (-e).toNat = 0 := by omega
    rw [e1, e2, rne_zero_drop, Nat.pow_add, ← Nat.mul_assoc, rne_exact]
  · obtain ⟨t, ht, hv⟩ : ∃ t : Nat, (-e).toNat = t ∧ U = t + (e + 1074).toNat := ⟨(-e).toNat, rfl, by omega⟩
    have e1 : e.toNat = 0 := by omega
    generalize (e + 1074).toNat = v at *
    subst hv
    rw [e1, ht, Nat.pow_zero, Nat.mul_one, rne_scale]

theorem cut_zero_eq (s : Bool) (n d : Nat) : Toward.zero.cut s n d = n / 2 ^ d := by
  unfold Toward.cut
  simp only [Nat.shiftLeft_eq, Nat.one_mul, Bool.toNat_false, Nat.add_zero]
  by_cases h : d ≤ n.log2 + 2
  · rw [Nat.min_eq_left h]
  · rw [Nat.min_eq_right (by omega)]
    have hlt : n < 2 ^ (n.log2 + 1) := Nat.lt_log2_self
    have hm : 2 ^ (n.log2 + 2) ≤ 2 ^ d := Nat.pow_le_pow_right (by omega) (by omega)
    have hp : 2 ^ (n.log2 + 2) = 2 * 2 ^ (n.log2 + 1) := by rw [Nat.pow_succ]; omega
    rw [Nat.div_eq_of_lt (by omega), Nat.div_eq_of_lt (by omega)]

theorem toInt_fin {x K : Nat} (h : fin x) (hK : mag (rg x) = K * 2 ^ U74) : (double.read x).toInt .zero = some (if neg x then -(K : Int) else K) := by
  obtain ⟨m, e, ex, he, hm, _⟩ := read_fin h
  rw [ex]
  show some (signed (neg x) (Toward.zero.cut (neg x) (m <<< e.toNat) (-e).toNat) 0) = _
  rw [cut_zero_eq, Nat.shiftLeft_eq, signed_eq]
  have : m * 2 ^ e.toNat / 2 ^ (-e).toNat = K := by
    rw [hK] at hm
    have hU := U74_is
    generalize U74 = U at *
    by_cases h0 : 0 ≤ e
    · have e1 : (e + 1074).toNat = e.toNat + U := by omega
      have e2 : (-e).toNat = 0 := by omega
      rw [e1, Nat.pow_add, ← Nat.mul_assoc] at hm
      rw [e2, Nat.pow_zero, Nat.div_one]
      exact Nat.eq_of_mul_eq_mul_right (Nat.two_pow_pos _) hm
    · obtain ⟨t, ht, hv⟩ : ∃ t : Nat, (-e).toNat = t ∧ U = t + (e + 1074).toNat := ⟨(-e).toNat, rfl, by omega⟩
      have e1 : e.toNat = 0 := by omega
      generalize (e + 1074).toNat = v at *
      subst hv
      rw [Nat.pow_add, ← Nat.mul_assoc] at hm
      have hm' : m = K * 2 ^ t := Nat.eq_of_mul_eq_mul_right (Nat.two_pow_pos _) hm
      rw [e1, ht, Nat.pow_zero, Nat.mul_one, hm', Nat.mul_div_cancel _ (Nat.two_pow_pos _)]
  rw [this, Nat.pow_zero, Nat.mul_one]

/-- The whole number nearest to a float64 times 2^32. -/
def getK (x : Nat) : Nat := rne (mag (rg x)) U42
def getV (x : Nat) : Int := if neg x then -(getK x : Int) else getK x

/-- What math.RoundToEven(f * 2^32) is. -/
def getW (x : Nat) : Nat := wr (neg x) (rne (mag (rung (mag (rg x) * 2 ^ 32) 0)) U74 * 2 ^ U74) 0

theorem rne_fit {m k U : Nat} (hm : m < 2 ^ 53) : ∃ m' k', m' < 2 ^ 53 ∧ rne (m * 2 ^ k) U * 2 ^ U = m' * 2 ^ k' := by
  by_cases h : U ≤ k
  · refine ⟨m, k, hm, ?_⟩
    obtain ⟨t, rfl⟩ : ∃ t, k = t + U := ⟨k - U, by omega⟩
    rw [Nat.pow_add, ← Nat.mul_assoc, rne_exact]
  · obtain ⟨t, ht⟩ : ∃ t, U = t + k := ⟨U - k, by omega⟩
    have := rne_scale m t k
    rw [← ht] at this
    rw [this]
    refine ⟨rne m t, U, ?_, rfl⟩
    have h1 := (rne_near m t).1
    have h2 := Nat.div_add_mod m (2 ^ t)
    have h3 : 2 ≤ 2 ^ t := by
      obtain ⟨j, rfl⟩ : ∃ j, t = j + 1 := ⟨t - 1, by omega⟩
      have := Nat.two_pow_pos j
      rw [Nat.pow_succ]; omega
    have h4 : rne m t * 2 ≤ rne m t * 2 ^ t := Nat.mul_le_mul_left _ h3
    rcases Nat.lt_or_ge (rne m t) (2 ^ 53) with g | g
    · exact g
    · exfalso
      have h5 : 2 ^ t * 2 ^ 53 ≤ rne m t * 2 ^ t := by rw [Nat.mul_comm]; exact Nat.mul_le_mul_right _ g
      omega

/-- Where it is finite it is just that number; else that number is beyond all. -/
theorem getW_tells {x : Nat} (h : fin x) (hr : rung (mag (rg x) * 2 ^ 32) 0 < 9218868437227405312) :
    (fin (getW x) ∧ mag (rg (getW x)) = getK x * 2 ^ U74) ∨ (rg (getW x) = 9218868437227405312 ∧ 2 ^ 100 ≤ getK x) := by
  obtain ⟨m, k, hm, hmk⟩ := mag_form (show rg x < _ from h)
  have e1 : mag (rg x) * 2 ^ 32 = m * 2 ^ (k + 32) := by rw [hmk, Nat.pow_add, Nat.mul_assoc]
  have e2 : mag (rung (mag (rg x) * 2 ^ 32) 0) = mag (rg x) * 2 ^ 32 := by rw [e1] at hr ⊢; exact mag_exact hm hr
  have e3 : rne (mag (rg x) * 2 ^ 32) U74 = getK x := rne_scale (mag (rg x)) U42 32
  have e4 : getW x = wr (neg x) (getK x * 2 ^ U74) 0 := by unfold getW; rw [e2, e3]
  obtain ⟨m', k', hm', he'⟩ := rne_fit (m := m) (k := k + 32) hm
  rw [← e1, e3] at he'
  rw [e4, rg_wr]
  have hle := rung_le (getK x * 2 ^ U74) 0
  by_cases hf : rung (getK x * 2 ^ U74) 0 < 9218868437227405312
  · left
    refine ⟨fin_wr hf, ?_⟩
    rw [he'] at hf ⊢
    exact mag_exact hm' hf
  · right
    have hi : rung (getK x * 2 ^ U74) 0 = 9218868437227405312 := by omega
    refine ⟨hi, ?_⟩
    have := rung_top (E := 923 + 100 + U74) (by rw [U74_is]) hi
    rw [Nat.pow_add] at this
    exact Nat.le_trans (Nat.pow_le_pow_right (by omega) (by omega)) (Nat.le_of_mul_le_mul_right this (Nat.two_pow_pos _))

theorem getW_over {x : Nat} (hr : ¬ rung (mag (rg x) * 2 ^ 32) 0 < 9218868437227405312) : 2 ^ 100 ≤ getK x := by
  have hle := rung_le (mag (rg x) * 2 ^ 32) 0
  have hi : rung (mag (rg x) * 2 ^ 32) 0 = 9218868437227405312 := by omega
  have h0 := rung_top (E := 100 + 923 + U42 + 32) (by rw [U42_is]) hi
  rw [Nat.pow_add] at h0
  have h1 := Nat.le_of_mul_le_mul_right h0 (Nat.two_pow_pos _)
  have h3 : 2 ^ 100 * 2 ^ U42 ≤ 2 ^ (100 + 923 + U42) := by
    rw [← Nat.pow_add]
    have : 100 + U42 ≤ 100 + 923 + U42 := Nat.add_le_add_right (by decide) U42
    exact Nat.pow_le_pow_right (by decide) this
  have h2 := rne_mono _ _ U42 (Nat.le_trans h3 h1)
  rwa [rne_exact] at h2

end Go.Fl
namespace Go.Fl
open Ieee

theorem fin_of_rung {s : Bool} {n : Nat} (h : rung n 0 < 9218868437227405312) : fin (wr s n 0) := fin_wr h

/-- math.RoundToEven(f * 2^32), overflown or not. -/
def getN (x : Nat) : Nat := if rung (mag (rg x) * 2 ^ 32) 0 < 9218868437227405312 then getW x else double.word (neg x) 9218868437227405312

theorem round_get {x : Nat} : double.write ((double.read (wr (neg x) (mag (rg x) * 2 ^ 32) 0)).integral .even) = getN x := by
  unfold getN
  by_cases hr : rung (mag (rg x) * 2 ^ 32) 0 < 9218868437227405312
  · rw [if_pos hr, integral_fin (fin_wr hr), neg_wr, rg_wr]; rfl
  · rw [if_neg hr]
    have hi : rg (wr (neg x) (mag (rg x) * 2 ^ 32) 0) = 9218868437227405312 := by
      rw [rg_wr]; have := rung_le (mag (rg x) * 2 ^ 32) 0; omega
    rw [read_inf hi, neg_wr]; rfl

theorem neg_getN (x : Nat) : neg (getN x) = neg x := by
  unfold getN; split
  · unfold getW; rw [neg_wr]
  · rw [neg_word (by decide)]

theorem getN_num (x : Nat) : num (getN x) := by
  unfold getN; split
  · unfold getW; exact num_wr _ _ _
  · unfold num; rw [rg_word (by decide)]; exact Nat.le_refl _

theorem getN_tells {x : Nat} (h : fin x) :
    (fin (getN x) ∧ mag (rg (getN x)) = getK x * 2 ^ U74) ∨ (rg (getN x) = 9218868437227405312 ∧ 2 ^ 100 ≤ getK x) := by
  unfold getN
  by_cases hr : rung (mag (rg x) * 2 ^ 32) 0 < 9218868437227405312
  · rw [if_pos hr]; exact getW_tells h hr
  · rw [if_neg hr]; right
    exact ⟨rg_word (by decide), getW_over hr⟩

theorem sval_big {x : Nat} (h : rg x = 9218868437227405312) (s : Bool) (hs : neg x = s) : sval x = if s then -(mag 9218868437227405312 : Int) else mag 9218868437227405312 := by
  unfold sval; rw [h, hs]

theorem mag_pow (q : Nat) (h : 1 ≤ q) : mag (q * 2 ^ 52) = 2 ^ (52 + (q - 1)) := by
  have h := mag_norm q 0 h (by decide)
  rw [Nat.add_zero, Nat.add_zero, ← Nat.pow_add] at h
  exact h

theorem mag_inf : ∃ j, mag 9218868437227405312 = 2 ^ (j + 100) * 2 ^ U74 := by
  have h := mag_pow 2047 (by decide)
  rw [show 2047 * 2 ^ 52 = 9218868437227405312 by decide] at h
  have e : 52 + (2047 - 1) = (924 + 100) + U74 := rfl
  generalize U74 = u at *
  rw [e, Nat.pow_add _ (924 + 100) u] at h
  exact ⟨924, h⟩

theorem sval_63 : sval 4890909195324358656 = 9223372036854775808 * ((2 ^ U74 : Nat) : Int) := by
  have h := mag_pow 1086 (by decide)
  rw [show 1086 * 2 ^ 52 = 4890909195324358656 by decide] at h
  have e1 : rg 4890909195324358656 = 4890909195324358656 := by decide
  have e2 : neg 4890909195324358656 = false := by decide
  unfold sval
  rw [e1, e2, h]
  have h3 : (2 ^ (63 + U74) : Nat) = 9223372036854775808 * 2 ^ U74 := by rw [Nat.pow_add]
  rw [show 52 + (1086 - 1) = 63 + U74 from rfl, h3]
  simp only [Bool.false_eq_true, if_false, Int.natCast_mul]
  rfl

theorem sval_m63 : sval 14114281232179134464 = -(9223372036854775808 * ((2 ^ U74 : Nat) : Int)) := by
  have e1 : rg 14114281232179134464 = rg 4890909195324358656 := by decide
  have e2 : neg 14114281232179134464 = true := by decide
  have e3 : neg 4890909195324358656 = false := by decide
  have h := sval_63
  unfold sval at h ⊢
  rw [e3] at h
  rw [e1, e2]
  simp only [Bool.false_eq_true, if_false, if_true] at h ⊢
  omega

theorem num_63 : num 4890909195324358656 := by unfold num; decide
theorem num_m63 : num 14114281232179134464 := by unfold num; decide

theorem sval_getN {x : Nat} (h : fin x) :
    sval (getN x) = getV x * ((2 ^ U74 : Nat) : Int) ∨ (∃ j : Nat, sval (getN x) = (if neg x then -(2 ^ (j + 100) * 2 ^ U74 : Nat) else (2 ^ (j + 100) * 2 ^ U74 : Nat) : Int) ∧ 2 ^ 100 ≤ getK x) := by
  rcases getN_tells h with ⟨_, hm⟩ | ⟨hi, hk⟩
  · left
    unfold sval getV
    rw [neg_getN, hm]
    cases neg x
    · simp
    · simp [Int.neg_mul]
  · right
    obtain ⟨j, hj⟩ := mag_inf
    refine ⟨j, ?_, hk⟩
    rw [sval_big hi (neg x) (neg_getN x), hj]

theorem two100 (j : Nat) : (9223372036854775808 : Int) * ((2 ^ U74 : Nat) : Int) < ((2 ^ (j + 100) * 2 ^ U74 : Nat) : Int) := by
  have h1 : 2 ^ 100 ≤ 2 ^ (j + 100) := Nat.pow_le_pow_right (by decide) (Nat.le_add_left _ _)
  have h2 : (9223372036854775808 : Nat) < 2 ^ (j + 100) := Nat.lt_of_lt_of_le (by decide) h1
  have h3 := Nat.mul_lt_mul_of_pos_right h2 (Nat.two_pow_pos U74)
  have : (9223372036854775808 : Int) * ((2 ^ U74 : Nat) : Int) = ((9223372036854775808 * 2 ^ U74 : Nat) : Int) := by rw [Int.natCast_mul]; rfl
  rw [this]
  exact Int.ofNat_lt.2 h3

theorem scale_lt {a b : Int} : a * ((2 ^ U74 : Nat) : Int) < b * ((2 ^ U74 : Nat) : Int) ↔ a < b := by
  have hk : (0 : Int) < ((2 ^ U74 : Nat) : Int) := by have := Nat.two_pow_pos U74; exact Int.ofNat_lt.2 this
  exact ⟨fun h => Int.lt_of_mul_lt_mul_right h (Int.le_of_lt hk), fun h => Int.mul_lt_mul_of_pos_right h hk⟩

theorem lt_getN {x : Nat} (h : fin x) : sval (getN x) < 9223372036854775808 * ((2 ^ U74 : Nat) : Int) ↔ getV x < 9223372036854775808 := by
  rcases sval_getN h with e | ⟨j, e, hk⟩
  · rw [e]; exact scale_lt
  · have := two100 j
    have h0 : (0 : Int) ≤ 9223372036854775808 * ((2 ^ U74 : Nat) : Int) := Int.mul_nonneg (by decide) (Int.natCast_nonneg _)
    have hk' : (1267650600228229401496703205376 : Nat) ≤ getK x := hk
    rw [e]
    unfold getV
    generalize ((2 ^ (j + 100) * 2 ^ U74 : Nat) : Int) = A at *
    generalize 9223372036854775808 * ((2 ^ U74 : Nat) : Int) = B at *
    cases neg x
    · simp only [Bool.false_eq_true, if_false]; omega
    · simp only [if_true]; omega

theorem gt_getN {x : Nat} (h : fin x) : -(9223372036854775808 * ((2 ^ U74 : Nat) : Int)) ≤ sval (getN x) ↔ -9223372036854775808 ≤ getV x := by
  rcases sval_getN h with e | ⟨j, e, hk⟩
  · rw [e, ← Int.neg_mul]
    have := scale_lt (a := getV x) (b := -9223372036854775808)
    omega
  · have := two100 j
    have h0 : (0 : Int) ≤ 9223372036854775808 * ((2 ^ U74 : Nat) : Int) := Int.mul_nonneg (by decide) (Int.natCast_nonneg _)
    have hk' : (1267650600228229401496703205376 : Nat) ≤ getK x := hk
    rw [e]
    unfold getV
    generalize ((2 ^ (j + 100) * 2 ^ U74 : Nat) : Int) = A at *
    generalize 9223372036854775808 * ((2 ^ U74 : Nat) : Int) = B at *
    cases neg x
    · simp only [Bool.false_eq_true, if_false]; omega
    · simp only [if_true]; omega

/-- The answers of comparisons. -/
theorem cmp_lt {x y : Nat} (hx : num x) (hy : num y) : (double.order x y == some .lt) = decide (sval x < sval y) := by
  rw [order_num hx hy]
  rcases Int.lt_trichotomy (sval x) (sval y) with h | h | h
  · rw [compare_lt h]; simp [h]
  · rw [compare_eq h]; simp [h]
  · rw [compare_gt h]; simp; omega

theorem cmp_gt {x y : Nat} (hx : num x) (hy : num y) : (double.order x y == some .gt) = decide (sval y < sval x) := by
  rw [order_num hx hy]
  rcases Int.lt_trichotomy (sval x) (sval y) with h | h | h
  · rw [compare_lt h]; simp; omega
  · rw [compare_eq h]; simp [h]
  · rw [compare_gt h]; simp [h]

theorem cmp_eq {x y : Nat} (hx : num x) (hy : num y) : (double.order x y == some .eq) = decide (sval x = sval y) := by
  rw [order_num hx hy]
  rcases Int.lt_trichotomy (sval x) (sval y) with h | h | h
  · rw [compare_lt h]; simp; omega
  · rw [compare_eq h]; simp [h]
  · rw [compare_gt h]; simp; omega

theorem cmp_ge {x y : Nat} (hx : num x) (hy : num y) : (double.order x y == some .gt || double.order x y == some .eq) = decide (sval y ≤ sval x) := by
  rw [cmp_gt hx hy, cmp_eq hx hy, Bool.eq_iff_iff]; simp; omega
theorem cmp_le {x y : Nat} (hx : num x) (hy : num y) : (double.order x y == some .lt || double.order x y == some .eq) = decide (sval x ≤ sval y) := by
  rw [cmp_lt hx hy, cmp_eq hx hy, Bool.eq_iff_iff]; simp; omega

theorem cmp_nan {x y : Nat} (h : ¬ num x ∨ ¬ num y) : double.order x y = none := by
  rcases h with h | h
  · exact order_nan_left h
  · exact order_nan_right h

theorem get_ge {x : Nat} (h : fin x) : (double.order (getN x) 4890909195324358656 == some .gt || double.order (getN x) 4890909195324358656 == some .eq) = decide (9223372036854775808 ≤ getV x) := by
  rw [cmp_ge (getN_num x) num_63, sval_63]
  have := lt_getN h
  rw [Bool.eq_iff_iff]; simp only [decide_eq_true_eq]; omega

theorem get_lt {x : Nat} (h : fin x) : (double.order (getN x) 14114281232179134464 == some .lt) = decide (getV x < -9223372036854775808) := by
  rw [cmp_lt (getN_num x) num_m63, sval_m63]
  have := gt_getN h
  rw [Bool.eq_iff_iff]; simp only [decide_eq_true_eq]; omega

theorem get_int {x : Nat} (h : fin x) (h1 : getV x < 9223372036854775808) (h2 : -9223372036854775808 ≤ getV x) : (double.read (getN x)).toInt .zero = some (getV x) := by
  rcases getN_tells h with ⟨hf, hm⟩ | ⟨_, hk⟩
  · rw [toInt_fin hf hm, neg_getN]; rfl
  · exfalso
    have hk' : (1267650600228229401496703205376 : Nat) ≤ getK x := hk
    unfold getV at h1 h2
    cases hn : neg x <;> rw [hn] at h1 h2
    · simp only [Bool.false_eq_true, if_false] at h1 h2; omega
    · simp only [if_true] at h1 h2; omega

instance (x : Nat) : Decidable (num x) := inferInstanceAs (Decidable (_ ≤ _))
instance (x : Nat) : Decidable (fin x) := inferInstanceAs (Decidable (_ < _))

/-- What Get answers. -/
def getE (x : Nat) : Int := if ¬ num x then 1 else if ¬ fin x then 2 else if 9223372036854775808 ≤ getV x ∨ getV x < -9223372036854775808 then 3 else 0
def getA (x : Nat) : Int := if num x ∧ fin x ∧ getV x < 9223372036854775808 ∧ -9223372036854775808 ≤ getV x then getV x else 0

end Go.Fl
namespace Go.Fl
open Ieee

theorem rne_full {n L : Nat} (hL : n.log2 = L + 52) (h0 : n ≠ 0) : 2 ^ 52 ≤ rne n L ∧ rne n L ≤ 2 ^ 53 := by
  have h1 : n < 2 ^ (L + 53) := by have : n < 2 ^ (n.log2 + 1) := Nat.lt_log2_self; rw [hL] at this; exact this
  have h2 : 2 ^ (L + 52) ≤ n := by have := Nat.log2_self_le h0; rw [hL] at this; exact this
  constructor
  · have := rne_mono (2 ^ 52 * 2 ^ L) n L (by rw [← Nat.pow_add, Nat.add_comm]; exact h2)
    rwa [rne_exact] at this
  · have := rne_mono n (2 ^ 53 * 2 ^ L) L (by rw [← Nat.pow_add, Nat.add_comm]; exact Nat.le_of_lt h1)
    rwa [rne_exact] at this

theorem mag_rung {n L : Nat} (hL : n.log2 = L + 52) (h0 : n ≠ 0) (h : rung n 0 < 9218868437227405312) : mag (rung n 0) = rne n L * 2 ^ L := by
  have hr : rung n 0 = min (L * 2 ^ 52 + rne n L) 9218868437227405312 := by
    unfold rung; rw [hL, Nat.zero_add, Nat.add_sub_cancel, Nat.zero_add]
  obtain ⟨h1, h2⟩ := rne_full hL h0
  rw [hr] at h ⊢
  generalize rne n L = M at *
  rw [Nat.min_eq_left (by omega)]
  by_cases hM : M = 2 ^ 53
  · rw [show L * 2 ^ 52 + M = (L + 2) * 2 ^ 52 by omega, mag_pow _ (by omega), hM, ← Nat.pow_add]
    congr 1; omega
  · rw [show L * 2 ^ 52 + M = (L + 1) * 2 ^ 52 + (M - 2 ^ 52) by omega, mag_norm _ _ (by omega) (by omega), Nat.add_sub_cancel,
      show 2 ^ 52 + (M - 2 ^ 52) = M by omega]

/-- A whole number at 53 digits. -/
def rnd (n : Nat) : Nat := if n < 2 ^ 53 then n else rne n (n.log2 - 52) * 2 ^ (n.log2 - 52)

theorem log_ge {n : Nat} (h : ¬ n < 2 ^ 53) : 53 ≤ n.log2 := by
  have h0 : n ≠ 0 := by omega
  rcases Nat.lt_or_ge n.log2 53 with g | g
  · exact absurd ((Nat.log2_lt h0).1 g) h
  · exact g

theorem rung_whole {n k : Nat} (h : n < 2 ^ 90) (hk : k ≤ 1074) : rung (n * 2 ^ k) 0 < 9218868437227405312 := by
  have hle := rung_le (n * 2 ^ k) 0
  rcases Nat.lt_or_ge (rung (n * 2 ^ k) 0) 9218868437227405312 with g | g
  · exact g
  · exfalso
    obtain ⟨E, hE⟩ : ∃ E, E = 2097 := ⟨_, rfl⟩
    have := rung_top hE (Nat.le_antisymm hle g)
    have h2 : n * 2 ^ k < 2 ^ (90 + k) := by rw [Nat.pow_add]; exact Nat.mul_lt_mul_of_pos_right h (Nat.two_pow_pos _)
    have h3 : 2 ^ (90 + k) ≤ 2 ^ E := Nat.pow_le_pow_right (by decide) (by omega)
    exact absurd (Nat.lt_of_lt_of_le h2 h3) (Nat.not_lt.2 this)

theorem mag_whole {n : Nat} (h : n < 2 ^ 90) : mag (rung (n * 2 ^ U74) 0) = rnd n * 2 ^ U74 := by
  have hr := rung_whole h (k := U74) (by decide)
  unfold rnd
  by_cases hn : n < 2 ^ 53
  · rw [if_pos hn]; exact mag_exact hn hr
  · rw [if_neg hn]
    have hl := log_ge hn
    have h0 : n ≠ 0 := by omega
    obtain ⟨l, hl'⟩ : ∃ l, n.log2 = l + 52 := ⟨n.log2 - 52, by omega⟩
    generalize U74 = U at *
    rw [mag_rung (L := l + U) (by rw [log2_scale h0]; omega) (Nat.mul_ne_zero h0 (by have := Nat.two_pow_pos U; omega)) hr, rne_scale, hl',
      Nat.add_sub_cancel, Nat.pow_add, Nat.mul_assoc]

theorem rnd_small {n : Nat} (h : n < 2 ^ 53) : rnd n = n := if_pos h

theorem rnd_form (n : Nat) : ∃ m k, m < 2 ^ 53 ∧ rnd n = m * 2 ^ k := by
  unfold rnd
  by_cases hn : n < 2 ^ 53
  · exact ⟨n, 0, hn, by rw [if_pos hn]; simp⟩
  · rw [if_neg hn]
    have hl := log_ge hn
    obtain ⟨l, hl'⟩ : ∃ l, n.log2 = l + 52 := ⟨n.log2 - 52, by omega⟩
    obtain ⟨_, h2⟩ := rne_full hl' (by omega)
    rw [hl', Nat.add_sub_cancel]
    by_cases he : rne n l = 2 ^ 53
    · exact ⟨1, 53 + l, by decide, by rw [he, ← Nat.pow_add, Nat.one_mul]⟩
    · exact ⟨_, _, by omega, rfl⟩

theorem rnd_near {n : Nat} (h : n ≤ 9223372036854775808) : rnd n ≤ n + 512 ∧ n ≤ rnd n + 512 ∧ rnd n ≤ 9223372036854775808 := by
  unfold rnd
  by_cases hn : n < 2 ^ 53
  · rw [if_pos hn]; omega
  · rw [if_neg hn]
    have hl := log_ge hn
    obtain ⟨l, hl'⟩ : ∃ l, n.log2 = l + 52 := ⟨n.log2 - 52, by omega⟩
    obtain ⟨_, h2⟩ := rne_full hl' (by omega)
    rw [hl', Nat.add_sub_cancel]
    by_cases he : n = 9223372036854775808
    · have : l = 11 := by
        have e : n.log2 = 63 := by rw [he]; decide
        omega
      subst this
      rw [he]
      have := rne_exact (2 ^ 52) 11
      rw [show 2 ^ 52 * 2 ^ 11 = 9223372036854775808 by decide] at this
      rw [this]; decide
    · have hl10 : l ≤ 10 := by
        have := (Nat.log2_lt (show n ≠ 0 by omega)).2 (show n < 2 ^ 63 by omega)
        omega
      obtain ⟨a, b⟩ := rne_near n l
      have hp : 2 ^ l ≤ 2 ^ 10 := Nat.pow_le_pow_right (by decide) hl10
      have hm : rne n l * 2 ^ l ≤ 2 ^ 53 * 2 ^ 10 := Nat.mul_le_mul h2 hp
      generalize rne n l * 2 ^ l = A at *
      omega

theorem rnd_mono {a b : Nat} (h : a ≤ b) : rnd a ≤ rnd b := by
  unfold rnd
  by_cases ha : a < 2 ^ 53
  · rw [if_pos ha]
    by_cases hb : b < 2 ^ 53
    · rw [if_pos hb]; exact h
    · rw [if_neg hb]
      have hl := log_ge hb
      obtain ⟨l, hl'⟩ : ∃ l, b.log2 = (l + 1) + 52 := ⟨b.log2 - 53, by omega⟩
      obtain ⟨h1, _⟩ := rne_full hl' (by omega)
      rw [hl', Nat.add_sub_cancel]
      have hp : 2 ^ 1 ≤ 2 ^ (l + 1) := Nat.pow_le_pow_right (by decide) (by omega)
      have := Nat.mul_le_mul h1 hp
      omega
  · have hb : ¬ b < 2 ^ 53 := by omega
    rw [if_neg ha, if_neg hb]
    have hla := log_ge ha
    have hlb := log_ge hb
    obtain ⟨la, ea⟩ : ∃ l, a.log2 = l + 52 := ⟨a.log2 - 52, by omega⟩
    obtain ⟨lb, eb⟩ : ∃ l, b.log2 = l + 52 := ⟨b.log2 - 52, by omega⟩
    obtain ⟨_, a2⟩ := rne_full ea (by omega)
    obtain ⟨b1, _⟩ := rne_full eb (by omega)
    rw [ea, eb, Nat.add_sub_cancel, Nat.add_sub_cancel]
    rcases Nat.lt_trichotomy la lb with g | g | g
    · obtain ⟨t, rfl⟩ : ∃ t, lb = t + 1 + la := ⟨lb - la - 1, by omega⟩
      have h1 : rne a la * 2 ^ la ≤ 2 ^ 53 * 2 ^ la := Nat.mul_le_mul_right _ a2
      have h2 : 2 ^ 52 * 2 ^ (t + 1 + la) ≤ rne b (t + 1 + la) * 2 ^ (t + 1 + la) := Nat.mul_le_mul_right _ b1
      have h3 : 2 ^ 53 * 2 ^ la ≤ 2 ^ 52 * 2 ^ (t + 1 + la) := by
        rw [Nat.pow_add 2 (t + 1) la, ← Nat.mul_assoc]
        have : 2 ^ 1 ≤ 2 ^ (t + 1) := Nat.pow_le_pow_right (by decide) (by omega)
        exact Nat.mul_le_mul_right _ (by omega)
      exact Nat.le_trans h1 (Nat.le_trans h3 h2)
    · subst g; exact Nat.mul_le_mul_right _ (rne_mono _ _ _ h)
    · exfalso
      have h1 := (Nat.log2_lt (show b ≠ 0 by omega)).2 (show b < 2 ^ a.log2 by
        have := (Nat.log2_lt (show b ≠ 0 by omega)).1 (show b.log2 < a.log2 by omega); exact this)
      have h2 : 2 ^ a.log2 ≤ a := Nat.log2_self_le (by omega)
      have h3 : b < 2 ^ a.log2 := (Nat.log2_lt (show b ≠ 0 by omega)).1 (by omega)
      omega

theorem rnd_pos {n : Nat} (h : 0 < n) : 0 < rnd n := by
  have := rnd_mono (show 1 ≤ n from h)
  rw [rnd_small (by decide)] at this
  omega

/-- float64(a). -/
def ofInt (a : Int) : Nat := wr (decide (a < 0)) (a.natAbs * 2 ^ U74) 0
theorem nearest_of (a : Int) : FloatKind.f64.nearest a = ofInt a := by
  have h := nearest_int a
  rw [← U74_is] at h
  exact h

theorem ofInt_tells {a : Int} (h : a.natAbs < 2 ^ 90) : fin (ofInt a) ∧ neg (ofInt a) = decide (a < 0) ∧ mag (rg (ofInt a)) = rnd a.natAbs * 2 ^ U74 := by
  unfold ofInt
  have hr := rung_whole h (k := U74) (by decide)
  exact ⟨fin_wr hr, neg_wr _ _ _, by rw [rg_wr]; exact mag_whole h⟩

/-- float64(a) / 2^32. -/
def putW (a : Int) : Nat := wr (decide (a < 0)) (rnd a.natAbs * 2 ^ U42) 0

theorem put_is {a : Int} (h : a.natAbs < 2 ^ 90) : double.div (ofInt a) 4751297606875873280 = some (putW a) := by
  obtain ⟨h1, h2, h3⟩ := ofInt_tells h
  rw [div_32 h1, h2, h3, U74_42, Nat.pow_add, ← Nat.mul_assoc]
  unfold putW
  rw [show wr (decide (a < 0)) (rnd a.natAbs * 2 ^ U42 * 2 ^ 32) 32 = wr (decide (a < 0)) (rnd a.natAbs * 2 ^ U42 * 2 ^ 32) (0 + 32) from rfl, wr_scale]

theorem mag_put {R : Nat} (hf : ∃ m k, m < 2 ^ 53 ∧ R = m * 2 ^ k) (h : R < 2 ^ 90) : mag (rung (R * 2 ^ U42) 0) = R * 2 ^ U42 := by
  have hr := rung_whole h (k := U42) (by decide)
  obtain ⟨m, k, hm, he⟩ := hf
  rw [he, Nat.mul_assoc, ← Nat.pow_add] at hr ⊢
  exact mag_exact hm hr

theorem put_tells {a : Int} (h : a.natAbs ≤ 9223372036854775808) : fin (putW a) ∧ neg (putW a) = decide (a < 0) ∧ mag (rg (putW a)) = rnd a.natAbs * 2 ^ U42 := by
  obtain ⟨_, _, hb⟩ := rnd_near h
  unfold putW
  have h90 : rnd a.natAbs < 2 ^ 90 := by omega
  exact ⟨fin_wr (rung_whole h90 (k := U42) (by decide)), neg_wr _ _ _, by rw [rg_wr]; exact mag_put (rnd_form _) h90⟩

theorem put_back {a : Int} (h : a.natAbs ≤ 9223372036854775808) : getV (putW a) = if a < 0 then -(rnd a.natAbs : Int) else rnd a.natAbs := by
  obtain ⟨_, h2, h3⟩ := put_tells h
  unfold getV getK
  rw [h2, h3, rne_exact]
  by_cases hc : a < 0 <;> simp [hc]

theorem getV_mono {x y : Nat} (h : sval x ≤ sval y) : getV x ≤ getV y := by
  have h0 : rne 0 U42 = 0 := by unfold rne; simp
  unfold sval at h
  unfold getV getK
  cases hx : neg x <;> cases hy : neg y <;> rw [hx, hy] at h <;> simp only [Bool.false_eq_true, if_false, if_true] at h ⊢
  · have := rne_mono (mag (rg x)) (mag (rg y)) U42 (by omega); omega
  · have e1 : mag (rg x) = 0 := by omega
    have e2 : mag (rg y) = 0 := by omega
    rw [e1, e2, h0]; decide
  · omega
  · have := rne_mono (mag (rg y)) (mag (rg x)) U42 (by omega); omega

/-- The other sign. -/
theorem xor_sign {x : Nat} (h : x < 18446744073709551616) : x ^^^ 9223372036854775808 = if x < 9223372036854775808 then x + 9223372036854775808 else x - 9223372036854775808 := by
  have key : ∀ r, r < 2 ^ 63 → r ^^^ 2 ^ 63 = r + 2 ^ 63 := by
    intro r hr
    have h1 := Nat.two_pow_add_eq_or_of_lt hr 1
    rw [Nat.mul_one, Nat.add_comm] at h1
    rw [h1]
    apply Nat.eq_of_testBit_eq
    intro i
    rw [Nat.testBit_xor, Nat.testBit_or, Nat.testBit_two_pow]
    by_cases hi : 63 = i
    · subst hi; rw [Nat.testBit_lt_two_pow hr]; simp
    · simp [hi]
  by_cases hx : x < 9223372036854775808
  · rw [if_pos hx]; exact key x hx
  · rw [if_neg hx]
    have h1 := key (x - 9223372036854775808) (by omega)
    have h2 : x = (x - 9223372036854775808) ^^^ 2 ^ 63 := by rw [h1]; omega
    have h3 : (x - 9223372036854775808) ^^^ 2 ^ 63 ^^^ 9223372036854775808 = x - 9223372036854775808 := by
      rw [show (9223372036854775808 : Nat) = 2 ^ 63 from by decide, Nat.xor_assoc, Nat.xor_self, Nat.xor_zero]
    rw [← h2] at h3
    exact h3

theorem rg_xor {x : Nat} (h : x < 18446744073709551616) : rg (x ^^^ 9223372036854775808) = rg x := by
  rw [xor_sign h]; unfold rg; split <;> omega
theorem neg_xor {x : Nat} (h : x < 18446744073709551616) : neg (x ^^^ 9223372036854775808) = !neg x := by
  rw [xor_sign h]; unfold neg
  by_cases hx : x < 9223372036854775808
  · rw [if_pos hx]
    have e1 : (x + 9223372036854775808) / 9223372036854775808 % 2 = 1 := by omega
    have e2 : x / 9223372036854775808 % 2 = 0 := by omega
    rw [e1, e2]; decide
  · rw [if_neg hx]
    have e1 : (x - 9223372036854775808) / 9223372036854775808 % 2 = 0 := by omega
    have e2 : x / 9223372036854775808 % 2 = 1 := by omega
    rw [e1, e2]; decide

end Go.Fl
namespace Go.Fl
open Ieee

/-- Which kind a float64 is. -/
def cls (x : Nat) : Int :=
  if 9218868437227405312 < rg x then 1
  else if rg x = 9218868437227405312 then (if neg x then 3 else 2)
  else if rg x = 0 then (if neg x then 5 else 4)
  else if rg x < 4503599627370496 then 6 else 7

theorem sval_zero {x : Nat} : sval x = 0 ↔ rg x = 0 := by
  have h0 : mag 0 = 0 := by decide
  have h1 : mag 1 = 1 := by decide
  unfold sval
  constructor
  · intro h
    by_cases hr : rg x = 0
    · exact hr
    · have := mag_mono (show 1 ≤ rg x by omega)
      rw [h1] at this
      split at h <;> omega
  · intro h; rw [h, h0]; split <;> rfl

theorem sval_pos {x : Nat} (h : neg x = false) : sval x = mag (rg x) := by unfold sval; rw [h]; rfl
theorem sval_neg {x : Nat} (h : neg x = true) : sval x = -(mag (rg x) : Int) := by unfold sval; rw [h]; rfl

theorem diff_abs (a b : Nat) (s : Bool) : ((if s then -(a : Int) else (a : Int)) - (if s then -(b : Int) else (b : Int))).natAbs = ((a : Int) - (b : Int)).natAbs := by
  cases s
  · rfl
  · simp only [if_true]; omega

theorem near_abs (M A G : Nat) (n1 : 2 * A ≤ 2 * M + G) (n2 : 2 * M ≤ 2 * A + G) :
    2 * (((M * 2 ^ 32 : Nat) : Int) - ((A * 2 ^ 32 : Nat) : Int)).natAbs ≤ G * 2 ^ 32 ∧
    (2 * (((M * 2 ^ 32 : Nat) : Int) - ((A * 2 ^ 32 : Nat) : Int)).natAbs = G * 2 ^ 32 → 2 * A = 2 * M + G ∨ 2 * M = 2 * A + G) := by
  constructor
  · omega
  · omega

theorem amount_le {s : Bool} {m B : Nat} (hlo : (if s then -(m : Int) else (m : Int)) ≤ (B : Int)) (hhi : -(B : Int) ≤ (if s then -(m : Int) else (m : Int))) : m ≤ B := by
  cases s
  · simp only [Bool.false_eq_true, if_false] at hlo hhi; omega
  · simp only [if_true] at hlo hhi; omega

theorem rung_below {D U : Nat} (hU : U ≤ 1200) (h : 2 * D ≤ 2 ^ U) : rung D 0 < 9218868437227405312 := by
  have hle := rung_le D 0
  rcases Nat.lt_or_ge (rung D 0) 9218868437227405312 with g | g
  · exact g
  · exfalso
    obtain ⟨E, hE⟩ : ∃ E, E = 2097 := ⟨_, rfl⟩
    have h1 := rung_top hE (Nat.le_antisymm hle g)
    have h3 : 2 ^ U < 2 ^ E := Nat.pow_lt_pow_right (by decide) (by omega)
    omega

/-- sub of what is told. -/
theorem nearest_sub {x : Nat} (h : fin x) (hlo : sval x ≤ 1048576 * ((2 ^ U74 : Nat) : Int)) (hhi : -(1048576 * ((2 ^ U74 : Nat) : Int)) ≤ sval x) :
    ∃ r, double.sub (wr (neg x) (mag (rg x) * 2 ^ 32) 0) (ofInt (getV x)) = some r ∧ fin r ∧ 2 * mag (rg r) ≤ 2 ^ U74 ∧ (2 * mag (rg r) = 2 ^ U74 → getV x % 2 = 0) := by
  obtain ⟨m, k, hm, hmk⟩ := mag_form (show rg x < _ from h)
  -- the amount is small
  have hM : mag (rg x) ≤ 2 ^ 20 * 2 ^ U74 := by
    have e : (1048576 : Int) * ((2 ^ U74 : Nat) : Int) = ((2 ^ 20 * 2 ^ U74 : Nat) : Int) := by rw [Int.natCast_mul]; rfl
    rw [e] at hlo hhi
    exact amount_le hlo hhi
  have hK : getK x ≤ 2 ^ 52 := by
    unfold getK
    have := rne_mono (mag (rg x)) (2 ^ 52 * 2 ^ U42) U42 (by
      refine Nat.le_trans hM ?_
      rw [U74_42, Nat.pow_add, ← Nat.mul_assoc, Nat.mul_right_comm]
      exact Nat.mul_le_mul_right _ (by decide))
    rwa [rne_exact] at this
  have hr : rung (mag (rg x) * 2 ^ 32) 0 < 9218868437227405312 := by
    have h2 := Nat.mul_le_mul_right (2 ^ 32) hM
    have hU := U74_is
    generalize U74 = U at *
    refine rung_below (U := 20 + U + 33) (by omega) ?_
    rw [← Nat.pow_add, ← Nat.pow_add] at h2
    have e : 2 ^ (20 + U + 33) = 2 ^ (20 + U + 32) * 2 := by rw [← Nat.pow_succ]
    omega
  have e1 : mag (rung (mag (rg x) * 2 ^ 32) 0) = mag (rg x) * 2 ^ 32 := by
    rw [hmk, Nat.mul_assoc, ← Nat.pow_add] at hr ⊢; exact mag_exact hm hr
  have hVn : (getV x).natAbs = getK x := by unfold getV; cases neg x <;> simp
  obtain ⟨o1, o2, o3⟩ := ofInt_tells (a := getV x) (by rw [hVn]; omega)
  rw [hVn, rnd_small (by omega)] at o3
  have f1 : fin (wr (neg x) (mag (rg x) * 2 ^ 32) 0) := fin_wr hr
  rw [sub_fin f1 o1]
  refine ⟨_, rfl, ?_⟩
  -- the difference, with its sign
  have hD : (sval (wr (neg x) (mag (rg x) * 2 ^ 32) 0) - sval (ofInt (getV x))).natAbs = ((mag (rg x) * 2 ^ 32 : Nat) - (getK x * 2 ^ U74 : Nat) : Int).natAbs := by
    have s2 : sval (ofInt (getV x)) = if neg x then -((getK x * 2 ^ U74 : Nat) : Int) else ((getK x * 2 ^ U74 : Nat) : Int) := by
      by_cases hz : getK x = 0
      · have : rg (ofInt (getV x)) = 0 := by
          have := (sval_zero (x := ofInt (getV x))).1 (by unfold sval; rw [o3, hz]; simp)
          exact this
        rw [sval_zero.2 this, hz]; simp
      · have hn : neg (ofInt (getV x)) = neg x := by
          rw [o2]; unfold getV
          cases neg x <;> simp <;> omega
        unfold sval; rw [hn, o3]
    rw [s2, sval_wr, e1]
    exact diff_abs _ _ _
  rw [hD]
  have near := rne_near (mag (rg x)) U42
  have even := rne_even (mag (rg x)) U42
  -- its form
  have hform : ∃ m' k', m' < 2 ^ 53 ∧ ((mag (rg x) * 2 ^ 32 : Nat) - (getK x * 2 ^ U74 : Nat) : Int).natAbs = m' * 2 ^ k' := by
    have hk : getK x = rne (m * 2 ^ k) U42 := by unfold getK; rw [hmk]
    by_cases hc : U42 ≤ k
    · obtain ⟨t, rfl⟩ : ∃ t, k = t + U42 := ⟨k - U42, by omega⟩
      refine ⟨0, 0, by decide, ?_⟩
      rw [hk, hmk, Nat.pow_add, ← Nat.mul_assoc, rne_exact, U74_42, Nat.pow_add, ← Nat.mul_assoc]
      simp
    · obtain ⟨d, hd⟩ : ∃ d, U42 = (d + 1) + k := ⟨U42 - k - 1, by omega⟩
      have hk2 : getK x = rne m (d + 1) := by rw [hk, hd, rne_scale]
      obtain ⟨n1, n2⟩ := rne_near m (d + 1)
      refine ⟨(m - (getK x * 2 ^ (d + 1) : Nat) : Int).natAbs, k + 32, ?_, ?_⟩
      · rw [hk2]
        by_cases hz : rne m (d + 1) = 0
        · rw [hz]; simp; exact hm
        · have : 2 ^ (d + 1) ≤ rne m (d + 1) * 2 ^ (d + 1) := Nat.le_mul_of_pos_left _ (by omega)
          generalize rne m (d + 1) * 2 ^ (d + 1) = A at *
          omega
      · have e2 : getK x * 2 ^ U74 = getK x * 2 ^ (d + 1) * 2 ^ (k + 32) := by
          rw [U74_42, hd, Nat.add_assoc, Nat.pow_add, Nat.mul_assoc]
        have e3 : mag (rg x) * 2 ^ 32 = m * 2 ^ (k + 32) := by rw [hmk, Nat.pow_add, Nat.mul_assoc]
        rw [e2, e3]
        generalize getK x * 2 ^ (d + 1) = A
        generalize 2 ^ (k + 32) = B
        rw [Int.natCast_mul, Int.natCast_mul, ← Int.sub_mul, Int.natAbs_mul, Int.natAbs_natCast]
  -- it is small
  have hsmall : 2 * ((mag (rg x) * 2 ^ 32 : Nat) - (getK x * 2 ^ U74 : Nat) : Int).natAbs ≤ 2 ^ U74 ∧
      (2 * ((mag (rg x) * 2 ^ 32 : Nat) - (getK x * 2 ^ U74 : Nat) : Int).natAbs = 2 ^ U74 → getV x % 2 = 0) := by
    have e2 : getK x * 2 ^ U74 = getK x * 2 ^ U42 * 2 ^ 32 := by rw [U74_42, Nat.pow_add, Nat.mul_assoc]
    have e3 : (2 ^ U74 : Nat) = 2 ^ U42 * 2 ^ 32 := by rw [U74_42, Nat.pow_add]
    have hev : (getK x % 2 = 0) → getV x % 2 = 0 := by
      intro h; unfold getV; cases neg x <;> simp <;> omega
    have u0 : U42 ≠ 0 := by rw [U42_is]; decide
    unfold getK at hev
    unfold getK at e2
    rw [show getK x = rne (mag (rg x)) U42 from rfl, e2, e3]
    obtain ⟨q1, q2⟩ := near_abs (mag (rg x)) (rne (mag (rg x)) U42 * 2 ^ U42) (2 ^ U42) near.1 near.2
    refine ⟨q1, fun h => hev ?_⟩
    rcases even (q2 h) with g | g
    · exact g
    · exact absurd g u0
  have hfin : rung ((mag (rg x) * 2 ^ 32 : Nat) - (getK x * 2 ^ U74 : Nat) : Int).natAbs 0 < 9218868437227405312 := rung_below (by decide) hsmall.1
  obtain ⟨m', k', hm', hk'⟩ := hform
  have e4 : mag (rung ((mag (rg x) * 2 ^ 32 : Nat) - (getK x * 2 ^ U74 : Nat) : Int).natAbs 0) = ((mag (rg x) * 2 ^ 32 : Nat) - (getK x * 2 ^ U74 : Nat) : Int).natAbs := by
    rw [hk'] at hfin ⊢; exact mag_exact hm' hfin
  refine ⟨fin_wr hfin, ?_⟩
  rw [rg_wr, e4]
  exact hsmall

theorem mag_half : mag 4602678819172646912 * 2 = 2 ^ U74 := by
  have h := mag_pow 1022 (by decide)
  rw [show 1022 * 2 ^ 52 = 4602678819172646912 by decide] at h
  rw [h]
  have : 52 + (1022 - 1) + 1 = U74 := rfl
  rw [← this]
  generalize 52 + (1022 - 1) = a
  rw [Nat.pow_succ]

/-- What lies between two. -/
theorem ties_add {n : Int} (h1 : -1073741824 ≤ n) (h2 : n ≤ 1073741824) :
    ∃ r q, double.add (ofInt n) 4602678819172646912 = some r ∧ double.div r 4751297606875873280 = some q ∧ fin q ∧ getV q = (if n % 2 = 0 then n else n + 1) := by
  obtain ⟨o1, o2, o3⟩ := ofInt_tells (a := n) (by omega)
  rw [rnd_small (by omega)] at o3
  have c1 : fin 4602678819172646912 := by unfold fin; decide
  have c2 : neg 4602678819172646912 = false := by decide
  have c3 : rg 4602678819172646912 = 4602678819172646912 := by decide
  have hs : sval (ofInt n) = 2 * n * (mag 4602678819172646912 : Int) := by
    have := mag_half
    unfold sval
    rw [o2, o3, ← this]
    generalize mag 4602678819172646912 = B
    by_cases hn : n < 0
    · simp only [hn, decide_true, if_true]
      rw [Int.natCast_mul, show ((n.natAbs : Nat) : Int) = -n by omega, Int.natCast_mul, Int.neg_mul, Int.neg_neg, Int.mul_comm (B : Int) _, ← Int.mul_assoc, Int.mul_comm n]
      rfl
    · simp only [hn, decide_false, Bool.false_eq_true, if_false]
      rw [Int.natCast_mul, show ((n.natAbs : Nat) : Int) = n by omega, Int.natCast_mul, Int.mul_comm (B : Int) _, ← Int.mul_assoc, Int.mul_comm n]
      rfl
  have hc : sval 4602678819172646912 = 1 * (mag 4602678819172646912 : Int) := by rw [sval_pos c2, c3, Int.one_mul]
  rw [add_fin o1 c1]
  have hsum : sval (ofInt n) + sval 4602678819172646912 = (2 * n + 1) * (mag 4602678819172646912 : Int) := by rw [hs, hc, ← Int.add_mul]
  have hB : (0 : Int) < (mag 4602678819172646912 : Int) := by
    have h1 := mag_half
    have h2 := Nat.two_pow_pos U74
    generalize 2 ^ U74 = P at *
    generalize mag 4602678819172646912 = B at *
    omega
  have hne : ¬ sval (ofInt n) + sval 4602678819172646912 = 0 := by
    rw [hsum]; intro h
    rcases Int.mul_eq_zero.1 h with h | h <;> omega
  have hlt : (sval (ofInt n) + sval 4602678819172646912 < 0) ↔ n < 0 := by
    rw [hsum]
    constructor
    · intro h
      by_cases hn : n < 0
      · exact hn
      · have := Int.mul_nonneg (show 0 ≤ 2 * n + 1 by omega) (Int.le_of_lt hB); omega
    · intro h; exact Int.mul_neg_of_neg_of_pos (by omega) hB
  rw [if_neg hne]
  have hd : decide (sval (ofInt n) + sval 4602678819172646912 < 0) = decide (n < 0) := by simp only [hlt]
  rw [hd, hsum]
  have hpow : mag 4602678819172646912 = 2 ^ (U42 + 31) := by
    have h := mag_half
    have e : U74 = (U42 + 31) + 1 := rfl
    generalize U74 = a at *
    generalize U42 + 31 = c at *
    rw [e, Nat.pow_succ] at h
    exact Nat.eq_of_mul_eq_mul_right (by decide) h
  have hab : ((2 * n + 1) * (mag 4602678819172646912 : Int)).natAbs = (2 * n + 1).natAbs * 2 ^ (U42 + 31) := by
    rw [Int.natAbs_mul, Int.natAbs_natCast, hpow]
  rw [hab]
  have hu : U42 + 31 ≤ 1074 := by decide
  have hr := rung_whole (n := (2 * n + 1).natAbs) (k := U42 + 31) (by omega) hu
  have hm := mag_exact (m := (2 * n + 1).natAbs) (k := U42 + 31) (by omega) hr
  have f1 : fin (wr (decide (n < 0)) ((2 * n + 1).natAbs * 2 ^ (U42 + 31)) 0) := fin_wr hr
  refine ⟨_, wr (decide (n < 0)) ((2 * n + 1).natAbs * 2 ^ (U42 + 31)) (0 + 32), rfl, ?_, ?_⟩
  · rw [div_32 f1, neg_wr, rg_wr, hm]
  · obtain ⟨v, hv⟩ : ∃ v, U42 = v + 1 := ⟨1041, rfl⟩
    have hv' : v ≤ 1074 := by have : U42 = 1042 := rfl; omega
    have e1 : (2 * n + 1).natAbs * 2 ^ (U42 + 31) = (2 * n + 1).natAbs * 2 ^ v * 2 ^ 32 := by
      rw [hv, show v + 1 + 31 = v + 32 by omega, Nat.pow_add, Nat.mul_assoc]
    rw [e1, wr_scale]
    have hr2 := rung_whole (n := (2 * n + 1).natAbs) (k := v) (by omega) hv'
    have hm2 := mag_exact (m := (2 * n + 1).natAbs) (k := v) (by omega) hr2
    refine ⟨fin_wr hr2, ?_⟩
    unfold getV getK
    rw [neg_wr, rg_wr, hm2, hv, Nat.add_comm v 1, rne_scale]
    unfold rne
    rw [Nat.pow_one]
    by_cases hn : n < 0
    · simp only [hn, decide_true, if_true]
      by_cases he : n % 2 = 0
      · rw [if_pos he, if_pos (by omega)]; omega
      · rw [if_neg he, if_neg (by omega)]; omega
    · simp only [hn, decide_false, Bool.false_eq_true, if_false]
      by_cases he : n % 2 = 0
      · rw [if_pos he, if_neg (by omega)]; omega
      · rw [if_neg he, if_pos (by omega)]; omega

/-- Whole numbers from 2^31 on. -/
theorem getV_int {a : Int} (h : a.natAbs < 2 ^ 53) : getV (ofInt a) = a * 4294967296 := by
  obtain ⟨o1, o2, o3⟩ := ofInt_tells (a := a) (by omega)
  rw [rnd_small h] at o3
  unfold getV getK
  rw [o2, o3, U74_42, Nat.add_comm U42 32, Nat.pow_add, ← Nat.mul_assoc, rne_exact]
  by_cases hn : a < 0
  · simp only [hn, decide_true, if_true]; omega
  · simp only [hn, decide_false, Bool.false_eq_true, if_false]; omega

theorem sval_int {a : Int} (h : a.natAbs < 2 ^ 53) : sval (ofInt a) = a * ((2 ^ U74 : Nat) : Int) := by
  obtain ⟨o1, o2, o3⟩ := ofInt_tells (a := a) (by omega)
  rw [rnd_small h] at o3
  unfold sval
  rw [o2, o3]
  generalize 2 ^ U74 = B
  by_cases hn : a < 0
  · simp only [hn, decide_true, if_true]
    rw [Int.natCast_mul, show ((a.natAbs : Nat) : Int) = -a by omega, Int.neg_mul, Int.neg_neg]
  · simp only [hn, decide_false, Bool.false_eq_true, if_false]
    rw [Int.natCast_mul, show ((a.natAbs : Nat) : Int) = a by omega]

theorem add_int {a b : Int} (ha : a.natAbs < 2 ^ 53) (hb : b.natAbs < 2 ^ 53) (h0 : a + b ≠ 0) :
    double.add (ofInt a) (ofInt b) = some (ofInt (a + b)) := by
  have o1 := (ofInt_tells (a := a) (by omega)).1
  have o2 := (ofInt_tells (a := b) (by omega)).1
  rw [add_fin o1 o2, sval_int ha, sval_int hb, ← Int.add_mul]
  have hB : (0 : Int) < ((2 ^ U74 : Nat) : Int) := by have := Nat.two_pow_pos U74; exact Int.ofNat_lt.2 this
  rw [if_neg (by intro h; rcases Int.mul_eq_zero.1 h with h | h <;> omega), Int.natAbs_mul, Int.natAbs_natCast]
  unfold ofInt
  have : ((a + b) * ((2 ^ U74 : Nat) : Int) < 0) ↔ a + b < 0 := ⟨fun h => by
    by_cases hn : a + b < 0
    · exact hn
    · have := Int.mul_nonneg (show 0 ≤ a + b by omega) (Int.le_of_lt hB); omega, fun h => Int.mul_neg_of_neg_of_pos h hB⟩
  simp only [this]

theorem sub_int {a b : Int} (ha : a.natAbs < 2 ^ 53) (hb : b.natAbs < 2 ^ 53) (h0 : a - b ≠ 0) :
    double.sub (ofInt a) (ofInt b) = some (ofInt (a - b)) := by
  have o1 := (ofInt_tells (a := a) (by omega)).1
  have o2 := (ofInt_tells (a := b) (by omega)).1
  rw [sub_fin o1 o2, sval_int ha, sval_int hb, ← Int.sub_mul]
  have hB : (0 : Int) < ((2 ^ U74 : Nat) : Int) := by have := Nat.two_pow_pos U74; exact Int.ofNat_lt.2 this
  rw [if_neg (by intro h; rcases Int.mul_eq_zero.1 h with h | h <;> omega), Int.natAbs_mul, Int.natAbs_natCast]
  unfold ofInt
  have : ((a - b) * ((2 ^ U74 : Nat) : Int) < 0) ↔ a - b < 0 := ⟨fun h => by
    by_cases hn : a - b < 0
    · exact hn
    · have := Int.mul_nonneg (show 0 ≤ a - b by omega) (Int.le_of_lt hB); omega, fun h => Int.mul_neg_of_neg_of_pos h hB⟩
  simp only [this]

end Go.Fl
