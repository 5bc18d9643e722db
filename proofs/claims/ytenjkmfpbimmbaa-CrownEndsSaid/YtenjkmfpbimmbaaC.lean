/- What crowns are as bytes: plain. -/
import Derived.Test.YtenjkmfpbimmbaaPAllx3
namespace Go.Proofs.Ytenjkmfpbimmbaa.Pure
open Go.RowKit Go.Proofs.Ytenjkmfpbimmbaa.PAll Go.Proofs.YtenjkmfpbimmbaaW.PrintWords Go.Proofs.YtenjkmfpbimmbaaW.PrintLast Go.Proofs.YtenjkmfpbimmbaaW.PrintMore
set_option linter.unusedSimpArgs false
set_option linter.unusedVariables false

def by8 (x : Int) : UInt8 := UInt8.ofNat (x % 256).toNat
def be8 (v : Int) : List UInt8 := [by8 (v / 2 ^ 56), by8 (v / 2 ^ 48), by8 (v / 2 ^ 40), by8 (v / 2 ^ 32), by8 (v / 2 ^ 24), by8 (v / 2 ^ 16), by8 (v / 2 ^ 8), by8 (v / 2 ^ 0)]
def be2 (v : Int) : List UInt8 := [by8 (v / 2 ^ 8), by8 (v / 2 ^ 0)]

theorem num_step (k : Nat) (v : Int) (i : Nat) (l : List Int) (hi : i ≤ 7) (hl : l.length ≤ 100) :
    crown_number.l0 (k + 1) v (i : Int) l = crown_number.l0 k v ((i : Int) - 1) (l ++ [(v / 2 ^ (8 * i)) % 256]) := by
  have e1 : wrap64 (8 * (i : Int)) = ((8 * i : Nat) : Int) := by unfold wrap64; omega
  have e2 : wrap64 ((i : Int) - 1) = (i : Int) - 1 := by unfold wrap64; omega
  have e3 : shr .i64 v ((8 * i : Nat) : Int) = v / 2 ^ (8 * i) := by
    unfold shr
    show v / 2 ^ min (((8 * i : Nat) : Int).toNat) 64 = _
    rw [Int.toNat_natCast, Nat.min_eq_left (by omega)]
  simp only [crown_number.l0]
  rw [if_pos (by omega), e1, if_pos (by omega), if_pos (by omega), e2, e3]

theorem num_end (k : Nat) (v : Int) (l : List Int) : crown_number.l0 (k + 1) v (-1) l = some (strOfNums l) := by
  simp only [crown_number.l0]; rw [if_neg (by omega)]

theorem number8 (v : Int) (m : Nat) : crown_number.f (m + 10) v 8 = some ⟨(be8 v).toArray⟩ := by
  unfold crown_number.f
  rw [show wrap64 (8 - 1) = ((7 : Nat) : Int) from by unfold wrap64; decide]
  rw [num_step _ _ _ _ (by decide) (by simp), show ((7 : Nat) : Int) - 1 = ((6 : Nat) : Int) from rfl,
    num_step _ _ _ _ (by decide) (by simp), show ((6 : Nat) : Int) - 1 = ((5 : Nat) : Int) from rfl,
    num_step _ _ _ _ (by decide) (by simp), show ((5 : Nat) : Int) - 1 = ((4 : Nat) : Int) from rfl,
    num_step _ _ _ _ (by decide) (by simp), show ((4 : Nat) : Int) - 1 = ((3 : Nat) : Int) from rfl,
    num_step _ _ _ _ (by decide) (by simp), show ((3 : Nat) : Int) - 1 = ((2 : Nat) : Int) from rfl,
    num_step _ _ _ _ (by decide) (by simp), show ((2 : Nat) : Int) - 1 = ((1 : Nat) : Int) from rfl,
    num_step _ _ _ _ (by decide) (by simp), show ((1 : Nat) : Int) - 1 = ((0 : Nat) : Int) from rfl,
    num_step _ _ _ _ (by decide) (by simp), show ((0 : Nat) : Int) - 1 = -1 from rfl, num_end]
  rfl

theorem number2 (v : Int) (m : Nat) : crown_number.f (m + 10) v 2 = some ⟨(be2 v).toArray⟩ := by
  unfold crown_number.f
  rw [show wrap64 (2 - 1) = ((1 : Nat) : Int) from by unfold wrap64; decide]
  rw [num_step _ _ _ _ (by decide) (by simp), show ((1 : Nat) : Int) - 1 = ((0 : Nat) : Int) from rfl,
    num_step _ _ _ _ (by decide) (by simp), show ((0 : Nat) : Int) - 1 = -1 from rfl, num_end]
  rfl

/-- the numbers that a crown may have -/
def okC (g r p : Int) : Bool := decide (1 ≤ g) && decide (g ≤ 4611686018427387904) && decide (8 ≤ p) && decide (p ≤ 200) && decide (2 ≤ r) && decide (r < p)
theorem okC_iff {g r p : Int} : okC g r p = true ↔ 1 ≤ g ∧ g ≤ 4611686018427387904 ∧ 8 ≤ p ∧ p ≤ 200 ∧ 2 ≤ r ∧ r < p := by
  unfold okC; simp [and_assoc]

def enc (g r p : Int) : List UInt8 := be8 g ++ (be2 r ++ (be2 p ++ (List.replicate 108 0 ++ be8 g)))
def encB (g r p : Int) : ByteArray := ⟨(enc g r p).toArray⟩
theorem enc_length (g r p : Int) : (enc g r p).length = 128 := by
  unfold enc; simp only [List.length_append, List.length_replicate]; rfl
theorem encB_size (g r p : Int) : (encB g r p).size = 128 := by
  show (enc g r p).toArray.size = 128
  rw [List.size_toArray, enc_length]

def putA (g r p : Int) : ByteArray := if okC g r p = true then encB g r p else ⟨#[]⟩

theorem mk_append (a b : List UInt8) : (⟨a.toArray⟩ : ByteArray) ++ ⟨b.toArray⟩ = ⟨(a ++ b).toArray⟩ := by
  apply ByteArray.ext
  simp
theorem mk_size (a : List UInt8) : (⟨a.toArray⟩ : ByteArray).size = a.length := by
  show a.toArray.size = _; simp

theorem repeat108 : strings_Repeat.f (⟨#[0]⟩ : ByteArray) 108 = some ⟨(List.replicate 108 (0 : UInt8)).toArray⟩ := by decide +kernel

theorem be8_len (v : Int) : (be8 v).length = 8 := rfl
theorem be2_len (v : Int) : (be2 v).length = 2 := rfl

theorem put_j (m : Nat) (b : Bool) (g r p : Int) : crown_Put.j0 (m + 11) b g r p = if b = true then some ((⟨#[]⟩ : ByteArray), false) else some (encB g r p, true) := by
  simp only [crown_Put.j0]
  cases b
  · simp only [Bool.false_eq_true, if_false, number8, number2, repeat108, Option.bind_some, mk_append, mk_size, List.length_append, List.length_replicate, be8_len, be2_len]
    rw [if_pos (by decide), if_pos (by decide), if_pos (by decide), if_pos (by decide)]
    simp only [List.append_assoc]
    rfl
  · rfl

theorem put_f (m : Nat) (g r p : Int) : crown_Put.f (m + 11) g r p = some (putA g r p, okC g r p) := by
  have h := @okC_iff g r p
  unfold crown_Put.f putA
  simp only [put_j]
  cases hk : okC g r p
  · have hn : ¬ (1 ≤ g ∧ g ≤ 4611686018427387904 ∧ 8 ≤ p ∧ p ≤ 200 ∧ 2 ≤ r ∧ r < p) := fun hh => by rw [h.2 hh] at hk; cases hk
    simp only [if_true, Bool.false_eq_true, if_false]
    by_cases c1 : g < 1
    · rw [if_pos c1]
    · rw [if_neg c1]
      by_cases c2 : g > 4611686018427387904
      · rw [if_pos c2]
      · rw [if_neg c2]
        by_cases c3 : p < 8
        · rw [if_pos c3]
        · rw [if_neg c3]
          by_cases c4 : p > 200
          · rw [if_pos c4]
          · rw [if_neg c4]
            by_cases c5 : r < 2
            · rw [if_pos c5]
            · rw [if_neg c5, decide_eq_true (by omega)]; rfl
  · obtain ⟨h1, h2, h3, h4, h5, h6⟩ := h.1 hk
    rw [if_neg (by omega), if_neg (by omega), if_neg (by omega), if_neg (by omega), if_neg (by omega), decide_eq_false (by omega)]
    rfl

/-! ### The number of bytes -/
def vstep (v : Int) (c : UInt8) : Int := Go.bits .or .i64 (wrap64 (v * 256)) (wrap64 (c.toNat : Int))
def val (l : List UInt8) : Int := l.foldl vstep 0

theorem bt_get (b : ByteArray) (i : Nat) (h : i < b.size) : bt b (i : Int) = (b[i].toNat : Int) := by
  unfold bt; simp [h]

theorem value_loop (b : ByteArray) (hb : b.size ≤ 1000) (d : Nat) : ∀ (k i : Nat) (v : Int), b.size - i = d → i ≤ b.size → d < k →
    crown_value.l0 k b v (b.size : Int) (i : Int) = some ((b.data.toList.drop i).foldl vstep v) := by
  induction d with
  | zero =>
    intro k i v hd hi hk
    obtain ⟨k, rfl⟩ : ∃ m, k = m + 1 := ⟨k - 1, by omega⟩
    simp only [crown_value.l0]
    rw [if_neg (by omega), List.drop_of_length_le (by simp; omega)]
    rfl
  | succ d ih =>
    intro k i v hd hi hk
    obtain ⟨k, rfl⟩ : ∃ m, k = m + 1 := ⟨k - 1, by omega⟩
    have hlt : i < b.size := by omega
    simp only [crown_value.l0]
    rw [if_pos (by omega), if_pos (by omega), if_pos (by omega), show wrap64 ((i : Int) + 1) = ((i + 1 : Nat) : Int) from by unfold wrap64; omega,
      ih k (i + 1) _ (by omega) (by omega) (by omega), bt_get b i hlt]
    have hl : i < b.data.toList.length := by simpa using hlt
    rw [List.drop_eq_getElem_cons hl, List.foldl_cons]
    rfl

theorem value_f (b : ByteArray) (hb : b.size ≤ 1000) (k : Nat) (hk : b.size < k) : crown_value.f k b = some (val b.data.toList) := by
  unfold crown_value.f
  have := value_loop b hb b.size k 0 0 (by omega) (by omega) hk
  rw [List.drop_zero] at this
  exact this

theorem vstep_plain {v : Int} {c : UInt8} (h0 : 0 ≤ v) (h1 : v < 36028797018963968) : vstep v c = v * 256 + c.toNat := by
  have hc := c.toNat_lt
  unfold vstep
  have e1 : wrap64 (v * 256) = v * 256 := by unfold wrap64; omega
  have e2 : wrap64 (c.toNat : Int) = c.toNat := by unfold wrap64; omega
  rw [e1, e2]
  have hw : ∀ n : Int, 0 ≤ n → n < 2 ^ 63 → IntKind.i64.wrap n = n := fun n a b => by
    have b' : n < 9223372036854775808 := b
    rw [IntKind.wrap_i64]; omega
  have h64 : v * 256 < 2 ^ 63 := by show v * 256 < 9223372036854775808; omega
  have c64 : (c.toNat : Int) < 2 ^ 63 := by show (c.toNat : Int) < 9223372036854775808; omega
  exact bits_join .i64 63 (by decide) hw 8 _ _ (by omega) (by omega) h64 (by omega) (by omega) c64

theorem by8_nat {x : Int} : ((by8 x).toNat : Int) = x % 256 := by
  unfold by8
  rw [UInt8.toNat_ofNat']
  omega

theorem vstep_div {x y : Int} (h0 : 0 ≤ x) (h1 : x ≤ 4611686018427387904) (e : y = x / 256) : vstep y (by8 x) = x := by
  subst e
  rw [vstep_plain (by omega) (by omega), by8_nat]
  omega

theorem fold_step {y z : Int} {c : UInt8} {l : List UInt8} {r : Int} (h : vstep y c = z) (k : l.foldl vstep z = r) : (c :: l).foldl vstep y = r := by
  rw [List.foldl_cons, h]; exact k

theorem val2 {v : Int} (h0 : 0 ≤ v) (h1 : v < 65536) : val (be2 v) = v := by
  have s1 : vstep 0 (by8 (v / 2 ^ 8)) = v / 2 ^ 8 := vstep_div (by omega) (by omega) (by omega)
  have s2 : vstep (v / 2 ^ 8) (by8 (v / 2 ^ 0)) = v / 2 ^ 0 := vstep_div (by omega) (by omega) (by omega)
  have e : v / 2 ^ 0 = v := by omega
  unfold val be2
  exact fold_step s1 (fold_step s2 e)

theorem val8 {v : Int} (h0 : 0 ≤ v) (h1 : v ≤ 4611686018427387904) : val (be8 v) = v := by
  have s1 : vstep 0 (by8 (v / 2 ^ 56)) = v / 2 ^ 56 := vstep_div (by omega) (by omega) (by omega)
  have s2 : vstep (v / 2 ^ 56) (by8 (v / 2 ^ 48)) = v / 2 ^ 48 := vstep_div (by omega) (by omega) (by omega)
  have s3 : vstep (v / 2 ^ 48) (by8 (v / 2 ^ 40)) = v / 2 ^ 40 := vstep_div (by omega) (by omega) (by omega)
  have s4 : vstep (v / 2 ^ 40) (by8 (v / 2 ^ 32)) = v / 2 ^ 32 := vstep_div (by omega) (by omega) (by omega)
  have s5 : vstep (v / 2 ^ 32) (by8 (v / 2 ^ 24)) = v / 2 ^ 24 := vstep_div (by omega) (by omega) (by omega)
  have s6 : vstep (v / 2 ^ 24) (by8 (v / 2 ^ 16)) = v / 2 ^ 16 := vstep_div (by omega) (by omega) (by omega)
  have s7 : vstep (v / 2 ^ 16) (by8 (v / 2 ^ 8)) = v / 2 ^ 8 := vstep_div (by omega) (by omega) (by omega)
  have s8 : vstep (v / 2 ^ 8) (by8 (v / 2 ^ 0)) = v / 2 ^ 0 := vstep_div (by omega) (by omega) (by omega)
  have e : v / 2 ^ 0 = v := by omega
  unfold val be8
  exact fold_step s1 (fold_step s2 (fold_step s3 (fold_step s4 (fold_step s5 (fold_step s6 (fold_step s7 (fold_step s8 e)))))))

/-! ### Get -/
def gG (b : ByteArray) : Int := val (b.data.toList.take 8)
def gR (b : ByteArray) : Int := val ((b.data.toList.drop 8).take 2)
def gP (b : ByteArray) : Int := val ((b.data.toList.drop 10).take 2)
/-- is it a crown? -/
def isC (b : ByteArray) : Bool := okC (gG b) (gR b) (gP b) && decide (b.data.toList = enc (gG b) (gR b) (gP b))
def getA (b : ByteArray) : Int × Int × Int × Bool := if isC b = true then (gG b, gR b, gP b, true) else (0, 0, 0, false)

theorem extract_list (b : ByteArray) (i j : Nat) : (b.extract i j).data.toList = (b.data.toList.drop i).take (j - i) := by
  rw [ByteArray.data_extract, Array.toList_extract, List.extract_eq_take_drop]

theorem putA_data {g r p : Int} (h : okC g r p = true) : (putA g r p).data.toList = enc g r p := by
  unfold putA; rw [if_pos h]; rfl

theorem get_f (m : Nat) (b : ByteArray) : crown_Get.f (m + 11) b = some (getA b) := by
  unfold crown_Get.f getA
  by_cases h : (b.size : Int) = 128
  · have hs : b.size = 128 := by omega
    have s1 : (b.extract 0 8).size = 8 := by rw [ByteArray.size_extract]; omega
    have s2 : (b.extract 8 10).size = 2 := by rw [ByteArray.size_extract]; omega
    have s3 : (b.extract 10 12).size = 2 := by rw [ByteArray.size_extract]; omega
    rw [if_pos h, if_pos (by decide), if_pos (by omega), value_f _ (by omega) _ (by omega)]
    simp only [Option.bind_some]
    rw [if_pos (by decide), if_pos (by omega), value_f _ (by omega) _ (by omega)]
    simp only [Option.bind_some]
    rw [if_pos (by decide), if_pos (by omega), value_f _ (by omega) _ (by omega)]
    simp only [Option.bind_some, put_f, extract_list]
    rw [show b.data.toList.drop 0 = b.data.toList from rfl]
    show (if okC (gG b) (gR b) (gP b) = true then (if (putA (gG b) (gR b) (gP b)).toList = b.toList then some (gG b, gR b, gP b, true) else some (0, 0, 0, false)) else some (0, 0, 0, false)) = some (if isC b = true then (gG b, gR b, gP b, true) else (0, 0, 0, false))
    unfold isC
    cases hk : okC (gG b) (gR b) (gP b)
    · simp
    · rw [if_pos rfl, ByteArray.toList_eq, ByteArray.toList_eq, putA_data hk]
      by_cases he : b.data.toList = enc (gG b) (gR b) (gP b)
      · rw [if_pos he.symm, decide_eq_true he]; rfl
      · rw [if_neg (fun hh => he hh.symm), decide_eq_false he]; rfl
  · rw [if_neg h]
    have : isC b = false := by
      unfold isC
      rw [Bool.and_eq_false_iff]; right
      refine decide_eq_false (fun he => h ?_)
      have := congrArg List.length he
      rw [enc_length] at this
      have e : b.data.toList.length = b.size := by simp
      omega
    rw [this]; rfl

theorem gG_enc {g r p : Int} (h : okC g r p = true) : gG (encB g r p) = g := by
  obtain ⟨h1, h2, _⟩ := okC_iff.1 h
  unfold gG
  have : (encB g r p).data.toList.take 8 = be8 g := rfl
  rw [this, val8 (by omega) (by omega)]
theorem gR_enc {g r p : Int} (h : okC g r p = true) : gR (encB g r p) = r := by
  obtain ⟨h1, h2, _⟩ := okC_iff.1 h
  unfold gR
  have : ((encB g r p).data.toList.drop 8).take 2 = be2 r := rfl
  rw [this, val2 (by omega) (by omega)]
theorem gP_enc {g r p : Int} (h : okC g r p = true) : gP (encB g r p) = p := by
  obtain ⟨h1, h2, _⟩ := okC_iff.1 h
  unfold gP
  have : ((encB g r p).data.toList.drop 10).take 2 = be2 p := rfl
  rw [this, val2 (by omega) (by omega)]

theorem getA_enc {g r p : Int} (h : okC g r p = true) : getA (encB g r p) = (g, r, p, true) := by
  have : isC (encB g r p) = true := by
    unfold isC
    rw [gG_enc h, gR_enc h, gP_enc h, h]
    exact decide_eq_true rfl
  unfold getA
  rw [if_pos this, gG_enc h, gR_enc h, gP_enc h]

theorem isC_enc {b : ByteArray} (h : isC b = true) : okC (gG b) (gR b) (gP b) = true ∧ b.data.toList = enc (gG b) (gR b) (gP b) := by
  unfold isC at h
  rw [Bool.and_eq_true] at h
  exact ⟨h.1, of_decide_eq_true h.2⟩

end Go.Proofs.Ytenjkmfpbimmbaa.Pure
