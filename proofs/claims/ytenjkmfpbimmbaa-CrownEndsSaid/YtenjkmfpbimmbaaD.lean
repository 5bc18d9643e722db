/- Which of two crowns counts; the document's answers: plain. -/
import Derived.Test.YtenjkmfpbimmbaaC
import Derived.Test.YtenjkmfpbimmbaaPAllx4
import Derived.Test.YtenjkmfpbimmbaaPAllx7
namespace Go.Proofs.Ytenjkmfpbimmbaa.Pure
open Go.RowKit Go.Proofs.Ytenjkmfpbimmbaa.PAll Go.Proofs.YtenjkmfpbimmbaaW.PrintWords Go.Proofs.YtenjkmfpbimmbaaW.PrintLast Go.Proofs.YtenjkmfpbimmbaaW.PrintMore
set_option linter.unusedSimpArgs false
set_option linter.unusedVariables false

theorem put_k {k : Nat} (hk : 20 ≤ k) (g r p : Int) : crown_Put.f k g r p = some (putA g r p, okC g r p) := by
  obtain ⟨m, rfl⟩ : ∃ m, k = m + 11 := ⟨k - 11, by omega⟩
  exact put_f m g r p
theorem get_k {k : Nat} (hk : 20 ≤ k) (b : ByteArray) : crown_Get.f k b = some (getA b) := by
  obtain ⟨m, rfl⟩ : ∃ m, k = m + 11 := ⟨k - 11, by omega⟩
  exact get_f m b

def pickA (a b : ByteArray) : Int × Int × Int × Int × Bool :=
  if isC a = true ∧ (isC b = true → gG b ≤ gG a) then (gG a, gR a, gP a, 0, true)
  else if isC b = true then (gG b, gR b, gP b, 1, true) else (0, 0, 0, 0, false)

theorem pick_k {k : Nat} (hk : 20 ≤ k) (a b : ByteArray) : crown_Pick.f k a b = some (pickA a b) := by
  obtain ⟨m, rfl⟩ : ∃ m, k = m + 1 := ⟨k - 1, by omega⟩
  unfold crown_Pick.f
  rw [get_k hk, get_k hk]
  simp only [Option.bind_some, crown_Pick.j0]
  unfold getA pickA
  cases ha : isC a <;> cases hb : isC b
  · rfl
  · rfl
  · rfl
  · simp only [if_true, true_and, forall_const, decide_eq_true_eq, ge_iff_le]
    by_cases h : gG b ≤ gG a
    · rw [if_pos h, if_pos h]
    · rw [if_neg h, if_neg h]

/-! ### The document's -/
theorem and255 (x : Int) : Go.bits .and .i64 x 255 % 256 = x % 256 := by
  unfold Go.bits
  show IntKind.i64.wrap ((BitVec.ofInt 64 x &&& BitVec.ofInt 64 255).toNat : Int) % 256 = _
  rw [BitVec.toNat_and, show (BitVec.ofInt 64 255).toNat = 2 ^ 8 - 1 by decide, Nat.and_two_pow_sub_one_eq_mod, BitVec.toNat_ofInt, IntKind.wrap_i64]
  omega

theorem big_step (k : Nat) (v : Int) (l : List Int) (i : Nat) (hi : i < l.length) (hl : l.length ≤ 100) :
    maquetteref13_Big.l0 (k + 1) v l (i : Int) = maquetteref13_Big.l0 k (v / 256) (l.set i (v % 256)) ((i : Int) - 1) := by
  simp only [maquetteref13_Big.l0]
  rw [if_pos (by omega), if_pos (by omega), if_pos (by omega), and255, show wrap64 ((i : Int) - 1) = (i : Int) - 1 from by unfold wrap64; omega, Int.toNat_natCast]
theorem big_end (k : Nat) (v : Int) (l : List Int) : maquetteref13_Big.l0 (k + 1) v l (-1) = some (strOfNums l) := by
  simp only [maquetteref13_Big.l0]; rw [if_neg (by omega)]

theorem big2 (v : Int) (m : Nat) : maquetteref13_Big.f (m + 10) v 2 = some ⟨(be2 v).toArray⟩ := by
  unfold maquetteref13_Big.f
  rw [if_pos (by decide), if_pos (by decide), show wrap64 (2 - 1) = ((1 : Nat) : Int) from by unfold wrap64; decide, show List.replicate ((2 : Int).toNat) (0 : Int) = [0, 0] from rfl]
  rw [big_step _ _ _ _ (by simp) (by simp), show ((1 : Nat) : Int) - 1 = ((0 : Nat) : Int) from rfl, big_step _ _ _ _ (by simp) (by simp),
    show ((0 : Nat) : Int) - 1 = -1 from rfl, big_end]
  have e0 : v / 2 ^ 0 = v := by omega
  have e1 : v / 256 = v / 2 ^ 8 := rfl
  unfold be2
  rw [e0, e1]
  rfl

theorem big8 (v : Int) (m : Nat) : maquetteref13_Big.f (m + 10) v 8 = some ⟨(be8 v).toArray⟩ := by
  unfold maquetteref13_Big.f
  rw [if_pos (by decide), if_pos (by decide), show wrap64 (8 - 1) = ((7 : Nat) : Int) from by unfold wrap64; decide, show List.replicate ((8 : Int).toNat) (0 : Int) = [0, 0, 0, 0, 0, 0, 0, 0] from rfl]
  rw [big_step _ _ _ _ (by simp) (by simp), show ((7 : Nat) : Int) - 1 = ((6 : Nat) : Int) from rfl,
    big_step _ _ _ _ (by simp) (by simp), show ((6 : Nat) : Int) - 1 = ((5 : Nat) : Int) from rfl,
    big_step _ _ _ _ (by simp) (by simp), show ((5 : Nat) : Int) - 1 = ((4 : Nat) : Int) from rfl,
    big_step _ _ _ _ (by simp) (by simp), show ((4 : Nat) : Int) - 1 = ((3 : Nat) : Int) from rfl,
    big_step _ _ _ _ (by simp) (by simp), show ((3 : Nat) : Int) - 1 = ((2 : Nat) : Int) from rfl,
    big_step _ _ _ _ (by simp) (by simp), show ((2 : Nat) : Int) - 1 = ((1 : Nat) : Int) from rfl,
    big_step _ _ _ _ (by simp) (by simp), show ((1 : Nat) : Int) - 1 = ((0 : Nat) : Int) from rfl,
    big_step _ _ _ _ (by simp) (by simp), show ((0 : Nat) : Int) - 1 = -1 from rfl, big_end]
  have e0 : v / 2 ^ 0 = v := by omega
  have e1 : v / 2 ^ 8 = v / 256 := rfl
  have e2 : v / 2 ^ 16 = v / 256 / 256 := by omega
  have e3 : v / 2 ^ 24 = v / 256 / 256 / 256 := by omega
  have e4 : v / 2 ^ 32 = v / 256 / 256 / 256 / 256 := by omega
  have e5 : v / 2 ^ 40 = v / 256 / 256 / 256 / 256 / 256 := by omega
  have e6 : v / 2 ^ 48 = v / 256 / 256 / 256 / 256 / 256 / 256 := by omega
  have e7 : v / 2 ^ 56 = v / 256 / 256 / 256 / 256 / 256 / 256 / 256 := by omega
  unfold be8
  rw [e0, e1, e2, e3, e4, e5, e6, e7]
  rfl

theorem zeros_f (n : Nat) (h : n ≤ 1000) : maquetteref13_Zeros.f (n : Int) = some ⟨(List.replicate n (0 : UInt8)).toArray⟩ := by
  have e : mx (n : Int) 0 = n := by unfold mx; rw [if_neg (by omega)]
  unfold maquetteref13_Zeros.f
  rw [e, if_pos (by omega), Int.toNat_natCast, if_pos (by omega)]
  congr 1
  unfold strOfNums
  rw [List.map_replicate]
  rfl

theorem rput_j (m : Nat) (b : Bool) (g r p : Int) : maquetteref13_CrownPut.j0 (m + 11) b g r p = if b = true then some ((⟨#[]⟩ : ByteArray), false) else some (encB g r p, true) := by
  simp only [maquetteref13_CrownPut.j0]
  cases b
  · simp only [Bool.false_eq_true, if_false, big8, big2, Option.bind_some, mk_append, mk_size, List.length_append, List.length_replicate, be8_len, be2_len]
    rw [if_pos (by decide), if_pos (by decide), show wrap64 (120 - ((8 + 2 + 2 : Nat) : Int)) = ((108 : Nat) : Int) from by unfold wrap64; decide, zeros_f _ (by decide)]
    simp only [Option.bind_some, mk_append, mk_size, List.length_append, List.length_replicate, be8_len, be2_len]
    rw [if_pos (by decide), if_pos (by decide)]
    simp only [List.append_assoc]
    rfl
  · rfl

theorem rput_k {k : Nat} (hk : 20 ≤ k) (g r p : Int) : maquetteref13_CrownPut.f k g r p = some (putA g r p, okC g r p) := by
  obtain ⟨m, rfl⟩ : ∃ m, k = m + 11 := ⟨k - 11, by omega⟩
  have h := @okC_iff g r p
  unfold maquetteref13_CrownPut.f putA
  simp only [rput_j]
  cases hk : okC g r p
  · have hn : ¬ (1 ≤ g ∧ g ≤ 4611686018427387904 ∧ 8 ≤ p ∧ p ≤ 200 ∧ 2 ≤ r ∧ r < p) := fun hh => by rw [h.2 hh] at hk; cases hk
    simp only [if_true, Bool.false_eq_true, if_false]
    by_cases c1 : g < 1
    · rw [if_pos c1]
    · rw [if_neg c1]
      by_cases c2 : g > 4611686018427387904
      · rw [if_pos c2]
      · rw [if_neg c2]
        by_cases c3 : p < 8
        · rw [if_pos c3]
        · rw [if_neg c3]
          by_cases c4 : p > 200
          · rw [if_pos c4]
          · rw [if_neg c4]
            by_cases c5 : r < 2
            · rw [if_pos c5]
            · rw [if_neg c5, decide_eq_true (by omega)]; rfl
  · obtain ⟨h1, h2, h3, h4, h5, h6⟩ := h.1 hk
    rw [if_neg (by omega), if_neg (by omega), if_neg (by omega), if_neg (by omega), if_neg (by omega), decide_eq_false (by omega)]
    rfl

theorem of_loop (b : ByteArray) (hb : b.size ≤ 1000) (d : Nat) : ∀ (k i : Nat) (v : Int), b.size - i = d → i ≤ b.size → d < k →
    maquetteref13_Of.l0 k b v (i : Int) = some ((b.data.toList.drop i).foldl vstep v) := by
  induction d with
  | zero =>
    intro k i v hd hi hk
    obtain ⟨k, rfl⟩ : ∃ m, k = m + 1 := ⟨k - 1, by omega⟩
    simp only [maquetteref13_Of.l0]
    rw [if_neg (by omega), List.drop_of_length_le (by simp; omega)]
    rfl
  | succ d ih =>
    intro k i v hd hi hk
    obtain ⟨k, rfl⟩ : ∃ m, k = m + 1 := ⟨k - 1, by omega⟩
    have hlt : i < b.size := by omega
    simp only [maquetteref13_Of.l0]
    rw [if_pos (by omega), if_pos (by omega), show wrap64 ((i : Int) + 1) = ((i + 1 : Nat) : Int) from by unfold wrap64; omega,
      ih k (i + 1) _ (by omega) (by omega) (by omega), bt_get b i hlt]
    have hl : i < b.data.toList.length := by simpa using hlt
    rw [List.drop_eq_getElem_cons hl, List.foldl_cons]
    rfl

theorem of_f (b : ByteArray) (hb : b.size ≤ 1000) (k : Nat) (hk : b.size < k) : maquetteref13_Of.f k b = some (val b.data.toList) := by
  unfold maquetteref13_Of.f
  have := of_loop b hb b.size k 0 0 (by omega) (by omega) hk
  rw [List.drop_zero] at this
  exact this

theorem rget_k {k : Nat} (hk : 20 ≤ k) (b : ByteArray) : maquetteref13_CrownGet.f k b = some (getA b) := by
  unfold maquetteref13_CrownGet.f getA
  by_cases h : (b.size : Int) = 128
  · have hs : b.size = 128 := by omega
    have s1 : (b.extract 0 8).size = 8 := by rw [ByteArray.size_extract]; omega
    have s2 : (b.extract 8 10).size = 2 := by rw [ByteArray.size_extract]; omega
    have s3 : (b.extract 10 12).size = 2 := by rw [ByteArray.size_extract]; omega
    rw [if_pos h, if_pos (by decide), if_pos (by omega), of_f _ (by omega) _ (by omega)]
    simp only [Option.bind_some]
    rw [if_pos (by decide), if_pos (by omega), of_f _ (by omega) _ (by omega)]
    simp only [Option.bind_some]
    rw [if_pos (by decide), if_pos (by omega), of_f _ (by omega) _ (by omega)]
    simp only [Option.bind_some, rput_k hk, extract_list]
    rw [show b.data.toList.drop 0 = b.data.toList from rfl]
    show (if okC (gG b) (gR b) (gP b) = true then (if (putA (gG b) (gR b) (gP b)).toList = b.toList then some (gG b, gR b, gP b, true) else some (0, 0, 0, false)) else some (0, 0, 0, false)) = some (if isC b = true then (gG b, gR b, gP b, true) else (0, 0, 0, false))
    unfold isC
    cases hk : okC (gG b) (gR b) (gP b)
    · simp
    · rw [if_pos rfl, ByteArray.toList_eq, ByteArray.toList_eq, putA_data hk]
      by_cases he : b.data.toList = enc (gG b) (gR b) (gP b)
      · rw [if_pos he.symm, decide_eq_true he]; rfl
      · rw [if_neg (fun hh => he hh.symm), decide_eq_false he]; rfl
  · rw [if_neg h]
    have : isC b = false := by
      unfold isC
      rw [Bool.and_eq_false_iff]; right
      refine decide_eq_false (fun he => h ?_)
      have := congrArg List.length he
      rw [enc_length] at this
      have e : b.data.toList.length = b.size := by simp
      omega
    rw [this]; rfl

theorem rpick_k {k : Nat} (hk : 20 ≤ k) (a b : ByteArray) : maquetteref13_Pick.f k a b = some (pickA a b) := by
  obtain ⟨m, rfl⟩ : ∃ m, k = m + 1 := ⟨k - 1, by omega⟩
  unfold maquetteref13_Pick.f
  rw [rget_k hk, rget_k hk]
  simp only [Option.bind_some, maquetteref13_Pick.j0]
  unfold getA pickA
  cases ha : isC a <;> cases hb : isC b
  · rfl
  · rfl
  · rfl
  · simp only [if_true, true_and, forall_const, Bool.false_eq_true, if_false]
    by_cases h : gG b ≤ gG a
    · rw [if_pos h, if_neg (by omega)]
    · rw [if_neg h, if_pos (by omega)]

/-! ### The first calls -/
theorem and1 (n : Int) : Go.bits .and .i64 n 1 = n % 2 := by
  unfold Go.bits
  show IntKind.i64.wrap ((BitVec.ofInt 64 n &&& BitVec.ofInt 64 1).toNat : Int) = _
  rw [BitVec.toNat_and, show (BitVec.ofInt 64 1).toNat = 2 ^ 1 - 1 by decide, Nat.and_two_pow_sub_one_eq_mod, BitVec.toNat_ofInt, IntKind.wrap_i64]
  omega
theorem slot_f (n : Int) : crown_Slot.f n = some (n % 2) := by unfold crown_Slot.f; rw [and1]

theorem isC_encB {g r p : Int} (h : okC g r p = true) : isC (encB g r p) = true := by
  have := getA_enc h
  unfold getA at this
  cases hc : isC (encB g r p)
  · rw [hc] at this; simp at this
  · rfl

theorem pick_enc {g r p g' r' p' : Int} (h : okC g r p = true) (h' : okC g' r' p' = true) :
    pickA (encB g r p) (encB g' r' p') = if g' ≤ g then (g, r, p, 0, true) else (g', r', p', 1, true) := by
  unfold pickA
  rw [isC_encB h, isC_encB h', gG_enc h, gR_enc h, gP_enc h, gG_enc h', gR_enc h', gP_enc h']
  simp only [true_and, forall_const, if_true]

theorem putA_ok {g r p : Int} (h : okC g r p = true) : putA g r p = encB g r p := by unfold putA; rw [if_pos h]

theorem alive_k {k : Nat} (hk : 20 ≤ k) : maquettelaw14_alive.f k = some true := by
  have h1 : okC 3 2 8 = true := by decide
  have h2 : okC 4 5 8 = true := by decide
  unfold maquettelaw14_alive.f
  rw [put_k hk, put_k hk]
  simp only [Option.bind_some]
  rw [pick_k hk, putA_ok h1, putA_ok h2, pick_enc h1 h2, h1, h2, encB_size, slot_f]
  rfl
end Go.Proofs.Ytenjkmfpbimmbaa.Pure
