/- Of the texts that the row stands on, what it needs (part 20), put together by a program of this session. -/
import Derived.Test.YtpeeojbhfebcdaaZtT15
import Derived.Test.YtpeeojbhfebcdaaZtT17
import Derived.Test.YtpeeojbhfebcdaaZtT19
namespace Go.Proofs.Ytpeeojbhfebcdaa.PRf
open Go.RowKit Go.Proofs.YtpeeojbhfebcdaaW.PrintWords Go.Proofs.YtpeeojbhfebcdaaW.PrintLast Go.Proofs.YtpeeojbhfebcdaaW.PrintMore
open Go.Proofs.Ytpeeojbhfebcdaa.V (byI byL byL_length byL_snoc byI_plain strOf_bytesOf strOf_append okK okP okR ahK idxV idxB idxB_snoc idxB_length idxA lfT lfV lfB lfB_snoc lfA lfT_length okR_size all_at fullA fullA_k zer pad pad_length bytesOf_len chL chL_length chOk chA R2 C4 S2 kR kC kS atR atC atS zR zC zS leafE indexE C_iso C_iso_mk R_iso R_iso_mk)
set_option linter.unusedSimpArgs false
set_option linter.unusedVariables false
theorem okK_range {k a : Int} (h : okK k a = true) : a < k ∧ k ≤ 2147483647 := by unfold okK at h; simp at h; exact h
theorem keys_pos {Ky : Int → Int} {n : Nat} (h : ∀ j : Nat, j < n → okK (Ky j) (ahK Ky j) = true) (j : Nat) (hj : j < n) : 0 ≤ Ky j ∧ Ky j ≤ 2147483647 := by
 induction j with
 | zero =>
  have h0 := okK_range (h 0 hj)
  unfold ahK at h0
  rw [if_pos (by decide)] at h0
  exact ⟨by omega, h0.2⟩
 | succ j ih =>
  have h1 := ih (by omega)
  have h0 := okK_range (h (j + 1) hj)
  unfold ahK at h0
  rw [if_neg (by omega), show ((j + 1 : Nat) : Int) - 1 = (j : Int) by omega] at h0
  omega
theorem wrap64_id {x : Int} (h0 : 0 ≤ x) (h1 : x < 1000000000) : wrap64 x = x := by unfold wrap64; omega
theorem and255 (x : Int) : Go.bits .and .i64 x 255 % 256 = x % 256 := by
  unfold Go.bits
  show IntKind.i64.wrap ((BitVec.ofInt 64 x &&& BitVec.ofInt 64 255).toNat : Int) % 256 = _
  rw [BitVec.toNat_and, show (BitVec.ofInt 64 255).toNat = 2 ^ 8 - 1 by decide, Nat.and_two_pow_sub_one_eq_mod, BitVec.toNat_ofInt, IntKind.wrap_i64]
  omega
theorem byL_drop (x : Int) (n i : Nat) (hi : i < n) : (byL x n n).drop i = byI x ((n - 1 - i : Nat) : Int) :: (byL x n n).drop (i + 1) := by
  rw [List.drop_eq_getElem_cons (by rw [byL_length]; exact hi)]
  congr 1
  unfold byL
  rw [List.getElem_map, List.getElem_range]
  congr 1; omega
theorem big_loop (x : Int) (n : Nat) (hn : n ≤ 7) (i : Nat) : ∀ (k : Nat), i ≤ n → i < k → maquetteref13_Big.l0 k (x / 256 ^ (n - i)) (List.replicate i 0 ++ (byL x n n).drop i) ((i : Int) - 1) = some (strOfNums (byL x n n)) := by
 induction i with
 | zero =>
  intro k _ hk
  obtain ⟨k, rfl⟩ : ∃ m, k = m + 1 := ⟨k - 1, by omega⟩
  simp only [maquetteref13_Big.l0]
  rw [if_neg (by omega)]; rfl
 | succ i ih =>
  intro k hi hk
  obtain ⟨k, rfl⟩ : ∃ m, k = m + 1 := ⟨k - 1, by omega⟩
  simp only [maquetteref13_Big.l0]
  have hlen : (List.replicate (i + 1) (0 : Int) ++ (byL x n n).drop (i + 1)).length = n := by
   rw [List.length_append, List.length_replicate, List.length_drop, byL_length]; omega
  rw [if_pos (by omega), if_pos (by omega), if_pos (by rw [hlen]; omega), and255]
  have e1 : x / 256 ^ (n - (i + 1)) / 256 = x / 256 ^ (n - i) := by
   rw [Int.ediv_ediv_of_nonneg (by exact Int.pow_nonneg (by decide)), ← Int.pow_succ]
   congr 2; omega
  have e2 : (x / 256 ^ (n - (i + 1))) % 256 = byI x ((n - 1 - i : Nat) : Int) := by
   rw [byI_plain x (n - 1 - i) (by omega)]; congr 3
   omega
  have e3 : ((((i + 1 : Nat) : Int) - 1)).toNat = i := by omega
  have e4 : wrap64 (((i + 1 : Nat) : Int) - 1 - 1) = (i : Int) - 1 := by unfold wrap64; omega
  have e5 : (List.replicate (i + 1) (0 : Int) ++ (byL x n n).drop (i + 1)).set i (byI x ((n - 1 - i : Nat) : Int)) = List.replicate i 0 ++ (byL x n n).drop i := by
   rw [byL_drop x n i (by omega), List.replicate_succ', List.append_assoc, List.set_append, if_neg (by rw [List.length_replicate]; omega), List.length_replicate, Nat.sub_self]
   rfl
  rw [e1, e2, e3, e4, e5]
  exact ih k (by omega) (by omega)
theorem big_k (x : Int) (n : Nat) (hn : n ≤ 7) (m : Int) (hm : m = n) (k : Nat) (hk : n < k) : maquetteref13_Big.f k x m = some (strOfNums (byL x m n)) := by
  subst hm
  unfold maquetteref13_Big.f
  have h := big_loop x n hn n k (Nat.le_refl _) hk
  rw [Nat.sub_self, Int.pow_zero, Int.ediv_one, List.drop_of_length_le (by rw [byL_length]; omega), List.append_nil] at h
  rw [if_pos (by omega), Int.toNat_natCast, if_pos (by omega), show wrap64 ((n : Int) - 1) = (n : Int) - 1 from by unfold wrap64; omega]
  exact h
def okQ (k : Int) : Bool := decide (0 ≤ k) && decide (k ≤ 2147483647)
theorem rkey_f (a : Int) : maquetteref13_key.f a = some (okQ a) := by
  unfold maquetteref13_key.f okQ
  by_cases h : a ≥ 0
  · rw [if_pos h, decide_eq_true (show 0 ≤ a from h)]; rfl
  · rw [if_neg h, decide_eq_false (show ¬ 0 ≤ a from h)]; rfl
theorem rpage_f (a : Int) : maquetteref13_page.f a = some (okP a) := by
  unfold maquetteref13_page.f okP
  by_cases h : a ≥ 2
  · rw [if_pos h, decide_eq_true (show 2 ≤ a from h)]; rfl
  · rw [if_neg h, decide_eq_false (show ¬ 2 ≤ a from h)]; rfl
theorem fill_k (L : List Int) (h : L.length ≤ 128) : maquetteref13_fill.f (strOfNums L) = some (strOfNums (pad L)) := by
 unfold maquetteref13_fill.f maquetteref13_Zeros.f
 have e : mx (wrap64 (128 - ((strOfNums L).size : Int))) 0 = ((128 - L.length : Nat) : Int) := by
  rw [strOfNums_size]; unfold mx wrap64; split <;> omega
 rw [e, if_pos (by omega), Int.toNat_natCast, if_pos (by omega), Option.bind_some, strOfNums_size, strOfNums_size, List.length_replicate, if_pos (by omega), strOf_append]
 rfl
theorem lit73 : (⟨#[73]⟩ : ByteArray) = strOfNums [73] := by decide +kernel
theorem lit76 : (⟨#[76]⟩ : ByteArray) = strOfNums [76] := by decide +kernel
theorem lit67 : (⟨#[67]⟩ : ByteArray) = strOfNums [67] := by decide +kernel
theorem byL1 (x : Int) : byL x 1 1 = [x % 256] := by
  unfold byL
  simp only [List.range_one, List.map_cons, List.map_nil]
  rw [show (1 : Int) - 1 - ((0 : Nat) : Int) = ((0 : Nat) : Int) from rfl, byI_plain _ 0 (by decide), Int.pow_zero, Int.ediv_one]
theorem key_ahead (Ky : Int → Int) (i : Nat) (hp : ∀ j : Nat, j < i → okK (Ky j) (ahK Ky j) = true) : okK (Ky i) (ahK Ky i) = (okQ (Ky i) && !(decide ((i : Int) > 0) && decide (Ky ((i : Int) - 1) ≥ Ky i))) := by
 unfold okK okQ ahK
 cases i with
 | zero =>
  rw [if_pos (show ((0 : Nat) : Int) = 0 from rfl), decide_eq_false (show ¬ ((0 : Nat) : Int) > 0 by decide), Bool.false_and, Bool.not_false, Bool.and_true, Bool.eq_iff_iff]
  simp only [Bool.and_eq_true, decide_eq_true_eq]
  omega
 | succ i =>
  have h0 := (keys_pos hp i (by omega)).1
  have e : ((i + 1 : Nat) : Int) - 1 = (i : Int) := by omega
  rw [if_neg (by omega), e, decide_eq_true (show ((i + 1 : Nat) : Int) > 0 by omega), Bool.true_and, Bool.eq_iff_iff]
  simp only [Bool.and_eq_true, decide_eq_true_eq, Bool.not_eq_true', decide_eq_false_iff_not]
  omega
def toRec (r : R2) : S84 := ⟨r.1, r.2⟩
def toWr (r : R2) : S91 := ⟨r.1, r.2⟩
def toCe (c : C4) : S85 := ⟨c.1, c.2.1, c.2.2.1, c.2.2.2⟩
def toSl (c : S2) : S89 := ⟨c.1, c.2⟩
theorem rd84_map (l : List R2) (i : Int) : rd_T84 (l.map toRec) i = toRec (atR l i.toNat) := by
  unfold rd_T84 atR
  simp only [List.getD, List.getElem?_map]
  cases l[i.toNat]? <;> rfl
theorem rd91_map (l : List R2) (i : Int) : rd_T91 (l.map toWr) i = toWr (atR l i.toNat) := by
  unfold rd_T91 atR
  simp only [List.getD, List.getElem?_map]
  cases l[i.toNat]? <;> rfl
theorem rd85_map (l : List C4) (i : Int) : rd_T85 (l.map toCe) i = toCe (atC l i.toNat) := by
  unfold rd_T85 atC
  simp only [List.getD, List.getElem?_map]
  cases l[i.toNat]? <;> rfl
theorem rd89_map (l : List S2) (i : Int) : rd_T89 (l.map toSl) i = toSl (atS l i.toNat) := by
  unfold rd_T89 atS
  simp only [List.getD, List.getElem?_map]
  cases l[i.toNat]? <;> rfl
theorem toList_nil_iff {a : ByteArray} : a.toList = [] ↔ a.size = 0 := by
 rw [Go.Proofs.Ytpeeojbhfebcdaa.V.toList_nil_iff]
 constructor
 ·rintro rfl; rfl
 ·intro h; cases a with
  | mk d => congr 1; exact Array.size_eq_zero_iff.1 h
theorem rchain_no (nx : Int) (b : ByteArray) (k : Nat) : maquetteref13_Chain.j0 (k + 1) nx b true = some (⟨#[]⟩, false) := by
  simp only [maquetteref13_Chain.j0]; rw [if_pos trivial]
theorem rchain_yes (nx : Int) (b : ByteArray) (k : Nat) (hk : 10 ≤ k) (hb : b.size ≤ 120) : maquetteref13_Chain.j0 (k + 1) nx b false = some (strOfNums (pad (chL nx b)), true) := by
 have c1 : 1 + (strOfNums (byL nx 2 2)).size ≤ 9223372036854775807 := by rw [strOfNums_size, byL_length]; decide
 have e : (strOfNums [67] ++ strOfNums (byL nx 2 2)) ++ strOfNums (byL (b.size : Int) 1 1) ++ b = strOfNums (chL nx b) := by
  conv => lhs; rw [← strOf_bytesOf b]
  rw [strOf_append, strOf_append, strOf_append, byL1, strOf_bytesOf]
  unfold chL
  rw [List.append_assoc, List.append_assoc]
 have c2 : ((⟨#[67]⟩ : ByteArray) ++ strOfNums (byL nx 2 2)).size + (strOfNums (byL (b.size : Int) 1 1)).size ≤ 9223372036854775807 := by
  rw [lit67, ByteArray.size_append, strOfNums_size, strOfNums_size, strOfNums_size, byL_length, byL_length]; decide
 have c3 : (((⟨#[67]⟩ : ByteArray) ++ strOfNums (byL nx 2 2)) ++ strOfNums (byL (b.size : Int) 1 1)).size + b.size ≤ 9223372036854775807 := by
  rw [lit67, ByteArray.size_append, ByteArray.size_append, strOfNums_size, strOfNums_size, strOfNums_size, byL_length, byL_length]
  have : ([67] : List Int).length = 1 := rfl
  omega
 simp only [maquetteref13_Chain.j0]
 rw [if_neg (by decide), big_k _ 2 (by decide) 2 rfl k (by omega), Option.bind_some, if_pos c1, big_k _ 1 (by decide) 1 rfl k (by omega), Option.bind_some, if_pos c2, if_pos c3, lit67, e,
  fill_k _ (by rw [chL_length]; omega), Option.bind_some]
theorem rchain_k (nx : Int) (b : ByteArray) (k : Nat) (hk : 12 ≤ k) : maquetteref13_Chain.f k nx b = some (chA nx b) := by
 obtain ⟨k, rfl⟩ : ∃ m, k = m + 1 := ⟨k - 1, by omega⟩
 have hm : (decide (nx = 0) || okP nx) = true → (if (b.size : Int) < 1 then (maquetteref13_Chain.j0 (k + 1) nx b true) else (maquetteref13_Chain.j0 (k + 1) nx b (decide ((b.size : Int) > 120)))) = some (chA nx b) := by
  intro h
  unfold chA chOk
  rw [h, Bool.true_and]
  by_cases h1 : (b.size : Int) < 1
  ·rw [if_pos h1, rchain_no, decide_eq_false (show ¬ 1 ≤ b.size by omega)]; rfl
  ·rw [if_neg h1, decide_eq_true (show 1 ≤ b.size by omega), Bool.true_and]
   by_cases h2 : (b.size : Int) > 120
   ·rw [decide_eq_true h2, rchain_no, decide_eq_false (show ¬ b.size ≤ 120 by omega)]; rfl
   ·rw [decide_eq_false h2, rchain_yes nx b k (by omega) (by omega), decide_eq_true (show b.size ≤ 120 by omega)]; rfl
 unfold maquetteref13_Chain.f
 by_cases h0 : nx = 0
 ·rw [if_pos h0]
  exact hm (by rw [decide_eq_true h0]; rfl)
 ·rw [if_neg h0, rpage_f, Option.bind_some]
  cases hp : okP nx with
  | true => rw [if_pos rfl]; exact hm (by rw [hp, Bool.or_true])
  | false =>
   rw [if_neg (by decide), rchain_no]
   unfold chA chOk
   rw [decide_eq_false h0, hp]; rfl
end Go.Proofs.Ytpeeojbhfebcdaa.PRf

