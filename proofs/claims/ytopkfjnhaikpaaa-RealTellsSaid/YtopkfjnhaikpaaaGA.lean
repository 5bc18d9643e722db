/- The document's Get: what it computes. -/
import Derived.Test.YtopkfjnhaikpaaaG
namespace Go.Proofs.Ytopkfjnhaikpaaa
open Go.Fl
open Go.RowKit (wrap64 Hid Below)
open Go.RowKit
set_option linter.unusedVariables false
set_option linter.unusedSimpArgs false

theorem mag_ex {x : Nat} (h : 1 ≤ ex x) : mag (rg x) = (4503599627370496 + fr x) * 2 ^ (ex x - 1) := by
  rw [rg_ex]
  exact mag_norm (ex x) (fr x) h (by unfold fr; exact Nat.mod_lt _ (by decide))

theorem getK_up {x k : Nat} (h : ex x = 1043 + k) : getK x = (4503599627370496 + fr x) * 2 ^ k := by
  unfold getK
  rw [mag_ex (by omega), show ex x - 1 = k + U42 by rw [U42_is]; omega, Nat.pow_add, ← Nat.mul_assoc, rne_exact]
theorem getK_down {x d : Nat} (h : ex x + d = 1043) (h1 : 1 ≤ ex x) : getK x = rne (4503599627370496 + fr x) d := by
  unfold getK
  rw [mag_ex h1]
  have := rne_scale (4503599627370496 + fr x) d (ex x - 1)
  rw [show d + (ex x - 1) = U42 by rw [U42_is]; omega] at this
  exact this
theorem rne_small {n d : Nat} (h : 2 * n < 2 ^ d) : rne n d = 0 := by
  unfold rne
  rw [Nat.div_eq_of_lt (by omega), Nat.mod_eq_of_lt (by omega), if_neg (by omega)]
theorem pow_big {d : Nat} (h : 60 < d) : 2305843009213693952 ≤ 2 ^ d := Nat.pow_le_pow_right (n := 2) (by decide) (show 61 ≤ d from h)
theorem fr_lt (x : Nat) : fr x < 4503599627370496 := by unfold fr; exact Nat.mod_lt _ (by decide)
theorem getK_sub {x : Nat} (h : ex x = 0) : getK x = 0 := by
  unfold getK
  have e := @rg_ex x
  rw [h] at e
  have hm : mag (rg x) = fr x := by
    have := fr_lt x
    rw [e, Nat.zero_mul, Nat.zero_add]
    unfold mag; rw [if_pos (by exact this)]
  rw [hm]
  have := fr_lt x
  have := pow_big (d := U42) (by rw [U42_is]; decide)
  exact rne_small (by omega)
theorem getK_none {x d : Nat} (h : ex x + d = 1043) (h1 : 1 ≤ ex x) (hd : 60 < d) : getK x = 0 := by
  rw [getK_down h h1]
  have := fr_lt x
  have := pow_big hd
  exact rne_small (by omega)
theorem rne_down (n d : Nat) (h : 1 ≤ d) : rne n d = n / 2 ^ d + (if 2 ^ (d - 1) < n % 2 ^ d ∨ (n % 2 ^ d = 2 ^ (d - 1) ∧ n / 2 ^ d % 2 = 1) then 1 else 0) := by
  unfold rne
  obtain ⟨j, rfl⟩ : ∃ j, d = j + 1 := ⟨d - 1, by omega⟩
  rw [Nat.add_sub_cancel]
  have : 2 ^ (j + 1) = 2 * 2 ^ j := by rw [Nat.pow_succ, Nat.mul_comm]
  have e1 : (2 ^ (j + 1) < 2 * (n % 2 ^ (j + 1))) ↔ 2 ^ j < n % 2 ^ (j + 1) := by omega
  have e2 : (2 ^ (j + 1) = 2 * (n % 2 ^ (j + 1))) ↔ n % 2 ^ (j + 1) = 2 ^ j := by omega
  simp only [e1, e2]

/-- the error and the number, by the sign and the amount -/
def ovr (n : Bool) (q : Nat) : Prop := (n = true → 9223372036854775808 < q) ∧ (n = false → 9223372036854775808 ≤ q)
instance (n q) : Decidable (ovr n q) := by unfold ovr; infer_instance
theorem get_ovr {x : Nat} (hn : num x) (hf : fin x) : getA x = (if ovr (neg x) (getK x) then 0 else if neg x then -(getK x : Int) else getK x) ∧ getE x = if ovr (neg x) (getK x) then 3 else 0 := by
  have key : (9223372036854775808 ≤ getV x ∨ getV x < -9223372036854775808) ↔ ovr (neg x) (getK x) := by
    unfold getV ovr
    cases neg x
    · simp; omega
    · simp; omega
  rcases get_of_fin hf with ⟨h1, h2, h3⟩ | ⟨h1, h2, h3⟩
  · rw [if_pos (key.1 h1), if_pos (key.1 h1)]; exact ⟨h3, h2⟩
  · have h : ¬ ovr (neg x) (getK x) := fun g => by have := key.2 g; omega
    rw [if_neg h, if_neg h]; exact ⟨h3, h2⟩

theorem signed_any (a : Addr) (n : Bool) (q : Nat) (w : World) (hc : w.cell? a = some (.int .i64 0)) (hz : w.frozen? a = false) :
    Calls Try.prog 36 #[.pointer (some a), .bool n, .int .u64 q] w fun e' w' => e' = .returned (.int .i64 (if ovr n q then 0 else if n then -(q : Int) else q)) ∧ w'.cell? a = some (.int .i64 (if ovr n q then 3 else 0)) ∧ Below a.block w w' := by
  by_cases h : ovr n q
  · rw [if_pos h, if_pos h]
    refine (signed_over a n q w hc hz (fun g => by have := h.1 g; omega) (fun g => by have := h.2 g; omega)).mono ?_
    rintro e w' ⟨rfl, rfl⟩
    refine ⟨rfl, ?_, (Below.refl _ _).setCell (Nat.le_refl _) _⟩
    exact World.cell?_setCell_same' _ _ _ (by rw [hc]; rfl)
  · rw [if_neg h, if_neg h]
    have g : (n = true → ¬ 9223372036854775808 < (q : Int)) ∧ (n = false → ¬ 9223372036854775807 < (q : Int)) := by
      unfold ovr at h
      cases n
      · simp at h; simp; omega
      · simp at h; simp; omega
    refine (signed_ok a n q w g.1 g.2 (by omega)).mono ?_
    rintro e w' ⟨rfl, rfl⟩
    exact ⟨rfl, hc, Below.refl _ _⟩

theorem or_52 {m : Nat} (h : m < 4503599627370496) : bits .or .u64 (m : Int) 4503599627370496 = ((4503599627370496 + m : Nat) : Int) := by
  unfold bits
  show IntKind.u64.wrap ((BitVec.ofInt 64 m ||| BitVec.ofInt 64 4503599627370496).toNat : Int) = _
  rw [BitVec.toNat_or, show (BitVec.ofInt 64 4503599627370496).toNat = 2 ^ 52 * 1 by decide, BitVec.toNat_ofInt]
  have e : ((m : Int) % ((2 ^ 64 : Nat) : Int)).toNat = m := by omega
  rw [e, Nat.or_comm, ← Nat.two_pow_add_eq_or_of_lt (show m < 2 ^ 52 from h), u64_wrap]
  omega



theorem wrapk {e : Nat} {k : Int} (h : e < 2048) (hk : k = (e : Int) - 1043) : wrap64 (wrap64 (wrap64 (e : Int) - 1075) + 32) = k := by unfold wrap64; omega
theorem not_ovr0 (b : Bool) : ¬ ovr b 0 := by unfold ovr; cases b <;> simp

/-- the case of amounts that are whole, or too great -/
theorem rget_c1 (x : Nat) (k q : Nat) (n : Bool) (e m s : Int) (w : World) (HC : Hid (∀ w, Calls Try.prog 30 #[.float .f64 x] w fun e' w' => e' = .returned (.int .i64 7) ∧ w = w'))
    (h1 : bits .and .u64 ((x : Int) / 4503599627370496) 2047 = e) (h2 : bits .or .u64 (bits .and .u64 (x : Int) 4503599627370495) 4503599627370496 = m) (h3 : (x : Int) / 9223372036854775808 = s)
    (h4 : wrap64 (wrap64 (wrap64 e - 1075) + 32) = (k : Int)) (hk : k ≤ 11) (hq : IntKind.u64.wrap (m * 2 ^ k) = (q : Int)) (hs : (s == 1) = n) :
    Calls Try.prog 29 #[.float .f64 x] w fun e' w' => e' = .returned (.tuple #[.int .i64 (if ovr n q then 0 else if n then -(q : Int) else q), .int .i64 (if ovr n q then 3 else 0)]) ∧ Below w.heap.size w w' :=
  rget_up x e k m s q w HC h1 h2 h3 h4 (Int.natCast_nonneg _) (by omega) (by rw [Int.toNat_natCast]; exact hq) _ _ (Lib.hid (by rw [hs]; exact fun a w hc hz => signed_any a n q w hc hz))

theorem c0 (d : Nat) : (2 : Int) ^ d = ((2 ^ d : Nat) : Int) := by simp
theorem rget_c2 (x : Nat) (d M q : Nat) (n : Bool) (e s : Int) (w : World) (HC : Hid (∀ w, Calls Try.prog 30 #[.float .f64 x] w fun e' w' => e' = .returned (.int .i64 7) ∧ w = w'))
    (h1 : bits .and .u64 ((x : Int) / 4503599627370496) 2047 = e) (h2 : bits .or .u64 (bits .and .u64 (x : Int) 4503599627370495) 4503599627370496 = (M : Int)) (h3 : (x : Int) / 9223372036854775808 = s)
    (h4 : wrap64 (wrap64 (wrap64 e - 1075) + 32) = -(d : Int)) (hd0 : 1 ≤ d) (hd : d ≤ 60) (hM : M < 9007199254740992) (hq : q = rne M d) (hs : (s == 1) = n) :
    Calls Try.prog 29 #[.float .f64 x] w fun e' w' => e' = .returned (.tuple #[.int .i64 (if ovr n q then 0 else if n then -(q : Int) else q), .int .i64 (if ovr n q then 3 else 0)]) ∧ Below w.heap.size w w' := by
  have hK := hq
  rw [rne_down _ d hd0] at hK
  clear hq
  have hp : 2 ^ d ≤ 1152921504606846976 := Nat.pow_le_pow_right (n := 2) (j := 60) (by decide) hd
  have hp0 := Nat.two_pow_pos d
  have hp1 : 2 ^ (d - 1) ≤ 1152921504606846976 := Nat.pow_le_pow_right (n := 2) (j := 60) (by decide) (by omega)
  have w0 : IntKind.u64.wrap ((2 : Int) ^ d) = 2 ^ d := by clear h1 h2 h3 h4 HC; rw [u64_wrap, c0]; omega
  have w1 : IntKind.u64.wrap ((2 : Int) ^ d - 1) = 2 ^ d - 1 := by clear h1 h2 h3 h4 HC w0; rw [u64_wrap, c0]; omega
  have et : (-(-(d : Int))).toNat = d := by omega
  have h7 : bits .and .u64 (M : Int) (IntKind.u64.wrap (IntKind.u64.wrap (2 ^ (-(-(d : Int))).toNat) - 1)) = ((M % 2 ^ d : Nat) : Int) := by
    rw [et, w0, w1]; exact and_mask' _ d (by omega) (by omega)
  have h8 : IntKind.u64.wrap ((2 : Int) ^ ((-(-(d : Int))).toNat - 1)) = ((2 ^ (d - 1) : Nat) : Int) := by clear h1 h2 h3 h4 HC w0 w1 h7; rw [et, u64_wrap, c0]; generalize 2 ^ (d - 1) = g at *; omega
  have h9 : (M : Int) / 2 ^ (-(-(d : Int))).toNat = ((M / 2 ^ d : Nat) : Int) := by rw [et, Int.natCast_ediv, c0]
  have hQ : M / 2 ^ d < 9223372036854775808 := Nat.lt_of_le_of_lt (Nat.div_le_self _ _) (by omega)
  clear w0 w1 hp hp0 hp1 et
  have hk1 : -(d : Int) < 0 := by omega
  have hk2 : -60 ≤ -(d : Int) := by omega
  generalize M / 2 ^ d = Q at *
  generalize M % 2 ^ d = rest at *
  generalize 2 ^ (d - 1) = half at *
  have hq1 : bits .and .u64 (Q : Int) 1 = ((Q % 2 : Nat) : Int) := and_mask' Q 1 (by decide) (by omega)
  refine rget_down x e _ _ s _ _ _ (q : Int) w HC h1 h2 h3 h4 hk1 hk2 h7 h8 h9 (Lib.hid ?_) (Lib.hid ?_) (Lib.hid ?_) (Lib.hid ?_) _ _ (Lib.hid (by rw [hs]; exact fun a w hc hz => signed_any a n q w hc hz))
  all_goals clear h1 h2 h3 h4 HC h7 h8 h9
  · intro g; rw [if_pos (by omega)] at hK; rw [u64_wrap]; omega
  · intro g1 g2; rw [hq1, beq_iff_eq] at g2; rw [if_pos (by omega)] at hK; rw [u64_wrap]; omega
  · intro g1 g2; rw [hq1] at g2; have := ne_of_beq_false g2; rw [if_neg (by omega)] at hK; omega
  · intro g1 g2; rw [if_neg (by omega)] at hK; omega

theorem rget_fin (x E F S : Nat) (n : Bool) (q : Nat) (w : World) (HC : Hid (∀ w, Calls Try.prog 30 #[.float .f64 x] w fun e' w' => e' = .returned (.int .i64 7) ∧ w = w'))
    (h1 : bits .and .u64 ((x : Int) / 4503599627370496) 2047 = (E : Int)) (h2 : bits .or .u64 (bits .and .u64 (x : Int) 4503599627370495) 4503599627370496 = ((4503599627370496 + F : Nat) : Int)) (h3 : (x : Int) / 9223372036854775808 = (S : Int))
    (hE : E < 2047) (hF : F < 4503599627370496) (hs : ((S : Int) == 1) = n)
    (q1 : ∀ k, E = 1043 + k → q = (4503599627370496 + F) * 2 ^ k) (q2 : ∀ d, E + d = 1043 → q = rne (4503599627370496 + F) d) (q3 : ∀ d, E + d = 1043 → 60 < d → q = 0) :
    Calls Try.prog 29 #[.float .f64 x] w fun e' w' => e' = .returned (.tuple #[.int .i64 (if ovr n q then 0 else if n then -(q : Int) else q), .int .i64 (if ovr n q then 3 else 0)]) ∧ Below w.heap.size w w' := by
  rcases Nat.lt_or_ge E 1043 with g | g
  · obtain ⟨d, hd⟩ : ∃ d, E + d = 1043 := ⟨1043 - E, by omega⟩
    have h4 := wrapk (e := E) (k := -(d : Int)) (by omega) (by omega)
    by_cases k2 : 60 < d
    · have := q3 d hd k2
      subst this
      rw [if_neg (not_ovr0 n), if_neg (not_ovr0 n)]
      have e0 : (if n then -((0 : Nat) : Int) else ((0 : Nat) : Int)) = 0 := by cases n <;> rfl
      rw [e0]
      exact rget_under x _ _ _ _ w HC h1 h2 h3 h4 (by omega)
    · exact rget_c2 x d _ q n _ _ w HC h1 h2 h3 h4 (by omega) (by omega) (by omega) (q2 d hd) hs
  · obtain ⟨k, hk⟩ : ∃ k, E = 1043 + k := ⟨E - 1043, by omega⟩
    have h4 := wrapk (e := E) (k := (k : Int)) (by omega) (by omega)
    have hK := q1 k hk
    by_cases k1 : 11 < k
    · have hp : 4096 ≤ 2 ^ k := Nat.pow_le_pow_right (n := 2) (i := 12) (by decide) k1
      have hb : 4503599627370496 * 4096 ≤ q := by rw [hK]; exact Nat.mul_le_mul (by omega) hp
      have ho : ovr n q := ⟨fun _ => by omega, fun _ => by omega⟩
      rw [if_pos ho, if_pos ho]
      exact rget_over x _ _ _ _ w HC h1 h2 h3 h4 (by omega)
    · have hp : 2 ^ k ≤ 2048 := Nat.pow_le_pow_right (n := 2) (j := 11) (by decide) (by omega)
      have hb : q ≤ 9007199254740991 * 2048 := by rw [hK]; exact Nat.mul_le_mul (by omega) hp
      have h7 : IntKind.u64.wrap (((4503599627370496 + F : Nat) : Int) * 2 ^ k) = (q : Int) := by
        have e : ((4503599627370496 + F : Nat) : Int) * 2 ^ k = (q : Int) := by rw [hK, Int.natCast_mul, Int.natCast_pow]; rfl
        rw [e, u64_wrap]
        clear h1 h2 h3 h4 HC e hK
        omega
      exact rget_c1 x k q n _ _ _ w HC h1 h2 h3 h4 (by omega) h7 hs

theorem rget_any (x : Nat) (hx : x < 18446744073709551616) (w : World) :
    Calls Try.prog 29 #[.float .f64 x] w fun e' w' => e' = .returned (.tuple #[.int .i64 (getA x), .int .i64 (getE x)]) ∧ Below w.heap.size w w' := by
  have HC := fun w => rclass_any x hx w
  by_cases hn : num x
  · by_cases hf : fin x
    · obtain ⟨ga, ge⟩ := get_ovr hn hf
      by_cases h0 : ex x = 0
      · have hk := getK_sub h0
        have hv : getA x = 0 ∧ getE x = 0 := by
          rw [hk] at ga ge
          rw [if_neg (not_ovr0 _)] at ga ge
          refine ⟨?_, ge⟩
          rw [ga]; cases neg x <;> rfl
        rw [hv.1, hv.2]
        have c7 : cls x = 4 ∨ cls x = 5 ∨ cls x = 6 := by
          rw [clsB_is hx, h0]; unfold clsB
          rw [if_neg (by decide), if_pos rfl]
          split
          · split
            · exact .inl rfl
            · exact .inr (.inl rfl)
          · exact .inr (.inr rfl)
        exact (rget_456 x (cls x) w (Lib.hid HC) c7).mono fun _ _ ⟨a, b⟩ => ⟨a, b ▸ Below.refl _ _⟩
      · have hx7 : ex x < 2047 := by unfold fin at hf; unfold rg at hf; unfold ex; omega
        have c7 : cls x = 7 := by
          rw [clsB_is hx]; unfold clsB
          rw [if_neg (by omega), if_neg h0]
        rw [c7] at HC
        rw [ga, ge]
        exact rget_fin x (ex x) (fr x) (sg x) (neg x) (getK x) w (Lib.hid HC) (ex_is hx) (by rw [fr_is hx, or_52 (fr_lt x)]) (sg_is x) hx7 (fr_lt x)
          (by rw [neg_sg hx, Bool.eq_iff_iff, beq_iff_eq, beq_iff_eq]; omega) (fun k h => getK_up h) (fun d h => getK_down h (by omega)) (fun d h g => getK_none h (by omega) g)
    · have hc := cls_23 hn hf
      have ea : getA x = 0 := by unfold getA; rw [if_neg (by intro h; exact hf h.2.1)]
      have ee : getE x = 2 := by unfold getE; rw [if_neg (by simp [hn]), if_pos hf]
      rw [ea, ee]
      exact (rget_23 x (cls x) w (Lib.hid HC) (by rw [hc]; cases neg x <;> simp)).mono fun _ _ ⟨a, b⟩ => ⟨a, b ▸ Below.refl _ _⟩
  · have hc := cls_1 hn
    have ea : getA x = 0 := by unfold getA; rw [if_neg (by intro h; exact hn h.1)]
    have ee : getE x = 1 := by unfold getE; rw [if_pos hn]
    rw [ea, ee]
    rw [hc] at HC
    exact (rget_1 x w (Lib.hid HC)).mono fun _ _ ⟨a, b⟩ => ⟨a, b ▸ Below.refl _ _⟩
end Go.Proofs.Ytopkfjnhaikpaaa
