/- Numbers as bytes, and back: plain facts about the reader's and the writer's numbers. -/
import Derived.Test.YtlgmabibcpkdmaaPAllx6
namespace Go.Proofs.Ytlgmabibcpkdmaa.PAll
open Go.RowKit Go.Proofs.YtlgmabibcpkdmaaW.PrintWords Go.Proofs.YtlgmabibcpkdmaaW.PrintLast Go.Proofs.YtlgmabibcpkdmaaW.PrintMore
open Go.Proofs.Ytlgmabibcpkdmaa.V (byI byL byL_length byL_snoc strOf_bytesOf strOf_append)
set_option linter.unusedSimpArgs false
set_option linter.unusedVariables false

/-- one byte more behind a number -/
def vst (v b : Int) : Int := Go.bits .or .i64 (wrap64 (v * 256)) (wrap64 b)
/-- the number of bytes -/
def rdV (l : List Int) : Int := l.foldl vst 0
/-- bytes are bytes -/
def okB (l : List Int) : Prop := ∀ x ∈ l, 0 ≤ x ∧ x < 256

theorem vst_plain {v b : Int} (h0 : 0 ≤ v) (h1 : v < 281474976710656) (b0 : 0 ≤ b) (b1 : b < 256) : vst v b = v * 256 + b := by
  unfold vst
  have hw : ∀ n : Int, 0 ≤ n → n < 2 ^ 63 → IntKind.i64.wrap n = n := fun n a b => by
    have b' : n < 9223372036854775808 := b
    rw [IntKind.wrap_i64]; omega
  have e1 : wrap64 (v * 256) = v * 256 := by unfold wrap64; omega
  have e2 : wrap64 b = b := by unfold wrap64; omega
  rw [e1, e2]
  exact bits_join .i64 63 (by decide) hw 8 _ _ (by omega) (by omega) (by show v * 256 < 9223372036854775808; omega) (by omega) (by omega) (by show b < 9223372036854775808; omega)

/-- the first j bytes of n, as a number -/
theorem mod_step (z M : Int) (hM : 0 < M) : ((z / 256) % M) * 256 + z % 256 = z % (M * 256) := by
  have h1 := Int.mul_ediv_add_emod z 256
  have h2 := Int.mul_ediv_add_emod (z / 256) M
  have h3 := Int.emod_nonneg (z / 256) (b := M) (by omega)
  have h4 := Int.emod_lt_of_pos (z / 256) hM
  have h5 := Int.emod_nonneg z (b := 256) (by omega)
  have h6 := Int.emod_lt_of_pos z (b := 256) (by omega)
  have e : z = (((z / 256) % M) * 256 + z % 256) + M * 256 * (z / 256 / M) := by
    have : M * 256 * (z / 256 / M) = 256 * (M * (z / 256 / M)) := by rw [Int.mul_comm M 256, Int.mul_assoc]
    rw [this]; omega
  have b1 : ((z / 256) % M) * 256 + z % 256 < M * 256 := by omega
  have b0 : 0 ≤ ((z / 256) % M) * 256 + z % 256 := by omega
  conv => rhs; rw [e]
  rw [Int.add_mul_emod_self_left, Int.emod_eq_of_lt b0 b1]

theorem pow256 (i : Nat) : (256 : Int) ^ i = 2 ^ (8 * i) := by
  rw [Int.pow_mul]; rfl
theorem byI_plain (x : Int) (i : Nat) (hi : i ≤ 7) : byI x i = (x / 256 ^ i) % 256 := by
  unfold byI
  have e : wrap64 (8 * (i : Int)) = ((8 * i : Nat) : Int) := by unfold wrap64; omega
  rw [e, pow256]
  have hs : shr .i64 x ((8 * i : Nat) : Int) = x / 2 ^ (8 * i) := (shr_small (k := .i64) (x := x) (y := ((8 * i : Nat) : Int)) rfl (by show ((8 * i : Nat) : Int) ≤ ((64 : Nat) : Int); omega)).symm
  rw [hs]
theorem byI_range (x : Int) (i : Int) : 0 ≤ byI x i ∧ byI x i < 256 := by unfold byI; omega
theorem okB_byL (x n : Int) (j : Nat) : okB (byL x n j) := by
  intro y hy
  unfold byL at hy
  obtain ⟨i, _, rfl⟩ := List.mem_map.1 hy
  exact byI_range _ _
theorem okB_append {a b : List Int} : okB (a ++ b) ↔ okB a ∧ okB b := by
  unfold okB
  constructor
  · intro h; exact ⟨fun x hx => h x (List.mem_append_left _ hx), fun x hx => h x (List.mem_append_right _ hx)⟩
  · rintro ⟨h1, h2⟩ x hx
    rcases List.mem_append.1 hx with h | h
    · exact h1 x h
    · exact h2 x h

/-- what the first j bytes of n of x are as a number -/
theorem fold_byL (x : Int) (n : Nat) (hn : n ≤ 7) (j : Nat) (hj : j ≤ n) : (byL x n j).foldl vst 0 = (x / 256 ^ (n - j)) % 256 ^ j := by
  induction j with
  | zero => show (0 : Int) = _ % 1; omega
  | succ j ih =>
    have ih := ih (by omega)
    have e : ((n : Int) - 1 - (j : Int)) = ((n - 1 - j : Nat) : Int) := by omega
    rw [byL_snoc, List.foldl_append, ih, List.foldl_cons, List.foldl_nil, e, byI_plain x (n - 1 - j) (by omega)]
    have hp : (0 : Int) < 256 ^ j := Int.pow_pos (by decide)
    have hp7 : (256 : Int) ^ j ≤ 281474976710656 := by
      have h := Int.ofNat_le.2 (Nat.pow_le_pow_right (n := 256) (by decide) (show j ≤ 6 by omega))
      rw [Int.natCast_pow] at h
      exact h
    have h3 := Int.emod_nonneg (x / 256 ^ (n - j)) (b := 256 ^ j) (by omega)
    have h4 := Int.emod_lt_of_pos (x / 256 ^ (n - j)) hp
    rw [vst_plain h3 (by omega) (by omega) (by omega)]
    have ez : x / 256 ^ (n - j) = (x / 256 ^ (n - 1 - j)) / 256 := by
      rw [Int.ediv_ediv_of_nonneg (by exact Int.pow_nonneg (by decide)), ← Int.pow_succ]
      congr 2
      omega
    rw [ez, mod_step _ _ hp, ← Int.pow_succ, show n - 1 - j = n - (j + 1) by omega]

theorem rdV_byL {x : Int} (n : Nat) (hn : n ≤ 7) : rdV (byL x n n) = x % 256 ^ n := by
  unfold rdV
  rw [fold_byL x n hn n (Nat.le_refl _), Nat.sub_self, Int.pow_zero, Int.ediv_one]
theorem rdV1 {x : Int} (h0 : 0 ≤ x) (h1 : x < 256) : rdV (byL x 1 1) = x := by
  have := rdV_byL (x := x) 1 (by decide); rw [show ((1 : Nat) : Int) = 1 from rfl] at this; rw [this]
  omega
theorem rdV2 {x : Int} (h0 : 0 ≤ x) (h1 : x < 65536) : rdV (byL x 2 2) = x := by
  have := rdV_byL (x := x) 2 (by decide); rw [show ((2 : Nat) : Int) = 2 from rfl] at this; rw [this]
  omega
theorem rdV4 {x : Int} (h0 : 0 ≤ x) (h1 : x < 4294967296) : rdV (byL x 4 4) = x := by
  have := rdV_byL (x := x) 4 (by decide); rw [show ((4 : Nat) : Int) = 4 from rfl] at this; rw [this]
  omega
/-! ### strings and their bytes -/
theorem bytesOf_strOf {l : List Int} (h : okB l) : bytesOf (strOfNums l) = l := by
  unfold bytesOf
  rw [strOfNums_data, List.map_map]
  conv => rhs; rw [← List.map_id l]
  apply List.map_congr_left
  intro x hx
  obtain ⟨h0, h1⟩ := h x hx
  show ((UInt8.ofNat x.toNat).toNat : Int) = x
  rw [UInt8.toNat_ofNat']
  omega
theorem okB_bytesOf (s : ByteArray) : okB (bytesOf s) := by
  intro x hx
  unfold bytesOf at hx
  obtain ⟨b, _, rfl⟩ := List.mem_map.1 hx
  have := b.toNat_lt
  omega
theorem strOf_inj {a b : List Int} (ha : okB a) (hb : okB b) (h : strOfNums a = strOfNums b) : a = b := by
  rw [← bytesOf_strOf ha, h, bytesOf_strOf hb]
theorem bt_strOf {l : List Int} (h : okB l) (i : Int) : bt (strOfNums l) i = rd l i := by
  rw [← rd_bytesOf, bytesOf_strOf h]
theorem extract_strOf (l : List Int) (i j : Nat) : (strOfNums l).extract i j = strOfNums ((l.drop i).take (j - i)) := by
  have : ((strOfNums l).extract i j).data.toList = (strOfNums ((l.drop i).take (j - i))).data.toList := by
    rw [strOfNums_data, List.map_take, List.map_drop, ← strOfNums_data]
    simp [ByteArray.data_extract]
  cases h : (strOfNums l).extract i j with
  | mk d => rw [h] at this; cases h2 : strOfNums ((l.drop i).take (j - i)) with
    | mk e => rw [h2] at this; congr 1; exact Array.toList_inj.1 this

/-! ### the reader -/
/-- what the reader answers: the number, what is left, whether it was too short -/
def rn (L : List Int) (bad : Bool) (n : Nat) : Int × List Int × Bool :=
  if bad = true then (0, L, true) else if L.length < n then (0, L, true) else (rdV (L.take n), L.drop n, false)

theorem take_k {L : List Int} (bad : Bool) (n : Nat) :
    sheet_reader_take.f (strOfNums L) bad (n : Int) = some (if bad = true then ((strOfNums []), strOfNums L, true) else if L.length < n then (strOfNums [], strOfNums L, true) else (strOfNums (L.take n), strOfNums (L.drop n), false)) := by
  unfold sheet_reader_take.f
  cases bad with
  | true => rfl
  | false =>
    simp only [Bool.false_eq_true, if_false, strOfNums_size]
    by_cases h : L.length < n
    · rw [if_pos (by omega), if_pos h, decide_eq_true (by omega)]; rfl
    · rw [if_neg (by omega), if_pos (by omega), if_pos (by omega), if_neg h, decide_eq_false (by omega), extract_strOf, extract_strOf]
      simp only [Int.toNat_natCast, List.drop_zero, Nat.sub_zero]
      rw [List.take_of_length_le (l := L.drop n) (by rw [List.length_drop]; omega)]

theorem num_loop {L : List Int} (hL : okB L) (hl : L.length ≤ 100000) (s : ByteArray) (b : Bool) (d : Nat) : ∀ (k i : Nat) (v : Int), L.length - i = d → i ≤ L.length → d < k →
    sheet_reader_num.l0 k v (strOfNums L) (L.length : Int) (i : Int) s b = some ((L.drop i).foldl vst v, s, b) := by
  induction d with
  | zero =>
    intro k i v hd hi hk
    obtain ⟨k, rfl⟩ : ∃ m, k = m + 1 := ⟨k - 1, by omega⟩
    simp only [sheet_reader_num.l0]
    rw [if_neg (by omega), List.drop_of_length_le (by omega)]
    rfl
  | succ d ih =>
    intro k i v hd hi hk
    obtain ⟨k, rfl⟩ : ∃ m, k = m + 1 := ⟨k - 1, by omega⟩
    have hlt : i < L.length := by omega
    simp only [sheet_reader_num.l0, strOfNums_size]
    rw [if_pos (by omega), if_pos (by omega), if_pos (by omega), show wrap64 ((i : Int) + 1) = ((i + 1 : Nat) : Int) from by unfold wrap64; omega,
      ih k (i + 1) _ (by omega) (by omega) (by omega), bt_strOf hL]
    rw [List.drop_eq_getElem_cons hlt, List.foldl_cons]
    have : rd L (i : Int) = L[i] := by simp [rd, List.getD, List.getElem?_eq_getElem hlt]
    rw [this]
    rfl

theorem okB_take {L : List Int} (h : okB L) (n : Nat) : okB (L.take n) := fun x hx => h x (List.mem_of_mem_take hx)
theorem okB_drop {L : List Int} (h : okB L) (n : Nat) : okB (L.drop n) := fun x hx => h x (List.mem_of_mem_drop hx)

theorem num_k {L : List Int} (hL : okB L) (bad : Bool) (n : Nat) (hn : n ≤ 100000) (k : Nat) (hk : n < k) :
    sheet_reader_num.f k (strOfNums L) bad (n : Int) = some ((rn L bad n).1, strOfNums (rn L bad n).2.1, (rn L bad n).2.2) := by
  unfold sheet_reader_num.f
  rw [take_k]
  unfold rn
  cases bad with
  | true => 
    have := num_loop (L := []) (by intro x hx; cases hx) (by simp) (strOfNums L) true 0 k 0 0 rfl (by simp) (by omega)
    simpa [strOfNums_size] using this
  | false =>
    simp only [Bool.false_eq_true, if_false]
    by_cases h : L.length < n
    · rw [if_pos h, if_pos h]
      have := num_loop (L := []) (by intro x hx; cases hx) (by simp) (strOfNums L) true 0 k 0 0 rfl (by simp) (by omega)
      simpa [strOfNums_size] using this
    · rw [if_neg h, if_neg h]
      have hln : (L.take n).length = n := by rw [List.length_take]; omega
      have := num_loop (okB_take hL n) (by omega) (strOfNums (L.drop n)) false n k 0 0 (by omega) (by omega) (by omega)
      rw [List.drop_zero] at this
      simpa [strOfNums_size, hln, rdV] using this

theorem rn_ok {L : List Int} (h : okB L) (b : Bool) (n : Nat) : okB (rn L b n).2.1 := by
  unfold rn; split
  · exact h
  · split
    · exact h
    · exact okB_drop h n
theorem rn_good {A B : List Int} (n : Nat) (h : A.length = n) : rn (A ++ B) false n = (rdV A, B, false) := by
  unfold rn
  rw [if_neg (by simp), if_neg (by rw [List.length_append]; omega), List.take_left' h, List.drop_left' h]
end Go.Proofs.Ytlgmabibcpkdmaa.PAll
