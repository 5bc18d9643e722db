/- Of the texts that the row stands on, what it needs (part 15), put together by a program of this session. -/
import Derived.Test.YtdhaoaehboonpaaGreatZeT13
import Derived.Test.YtdhaoaehboonpaaGreatZeT14
namespace Go.Proofs.YtdhaoaehboonpaaGreat.V
open Go.RowKit Go.Proofs.YtdhaoaehboonpaaGreatW.PrintWords Go.Proofs.YtdhaoaehboonpaaGreatW.PrintLast Go.Proofs.YtdhaoaehboonpaaGreatW.PrintMore
set_option linter.unusedVariables false
set_option linter.unusedSimpArgs false
set_option linter.unusedVariables false
def vst (v b : Int) : Int := Go.bits .or .i64 (wrap64 (v * 256)) (wrap64 b)
def rdV (l : List Int) : Int := l.foldl vst 0
def okB (l : List Int) : Prop := ∀ x ∈ l, 0 ≤ x ∧ x < 256
theorem vst_plain {v b : Int} (h0 : 0 ≤ v) (h1 : v < 281474976710656) (b0 : 0 ≤ b) (b1 : b < 256) : vst v b = v * 256 + b := by
  unfold vst
  have hw : ∀ n : Int, 0 ≤ n → n < 2 ^ 63 → IntKind.i64.wrap n = n := fun n a b => by
    have b' : n < 9223372036854775808 := b
    rw [IntKind.wrap_i64]; omega
  have e1 : wrap64 (v * 256) = v * 256 := by unfold wrap64; omega
  have e2 : wrap64 b = b := by unfold wrap64; omega
  rw [e1, e2]
  exact bits_join .i64 63 (by decide) hw 8 _ _ (by omega) (by omega) (by show v * 256 < 9223372036854775808; omega) (by omega) (by omega) (by show b < 9223372036854775808; omega)
theorem mod_step (z M : Int) (hM : 0 < M) : ((z / 256) % M) * 256 + z % 256 = z % (M * 256) := by
  have h1 := Int.mul_ediv_add_emod z 256
  have h2 := Int.mul_ediv_add_emod (z / 256) M
  have h3 := Int.emod_nonneg (z / 256) (b := M) (by omega)
  have h4 := Int.emod_lt_of_pos (z / 256) hM
  have h5 := Int.emod_nonneg z (b := 256) (by omega)
  have h6 := Int.emod_lt_of_pos z (b := 256) (by omega)
  have e : z = (((z / 256) % M) * 256 + z % 256) + M * 256 * (z / 256 / M) := by
    have : M * 256 * (z / 256 / M) = 256 * (M * (z / 256 / M)) := by rw [Int.mul_comm M 256, Int.mul_assoc]
    rw [this]; omega
  have b1 : ((z / 256) % M) * 256 + z % 256 < M * 256 := by omega
  have b0 : 0 ≤ ((z / 256) % M) * 256 + z % 256 := by omega
  conv => rhs; rw [e]
  rw [Int.add_mul_emod_self_left, Int.emod_eq_of_lt b0 b1]
theorem pow256 (i : Nat) : (256 : Int) ^ i = 2 ^ (8 * i) := by
  rw [Int.pow_mul]; rfl
theorem byI_plain (x : Int) (i : Nat) (hi : i ≤ 7) : byI x i = (x / 256 ^ i) % 256 := by
  unfold byI
  have e : wrap64 (8 * (i : Int)) = ((8 * i : Nat) : Int) := by unfold wrap64; omega
  rw [e, pow256]
  have hs : shr .i64 x ((8 * i : Nat) : Int) = x / 2 ^ (8 * i) := (shr_small (k := .i64) (x := x) (y := ((8 * i : Nat) : Int)) rfl (by show ((8 * i : Nat) : Int) ≤ ((64 : Nat) : Int); omega)).symm
  rw [hs]
theorem byI_range (x : Int) (i : Int) : 0 ≤ byI x i ∧ byI x i < 256 := by unfold byI; omega
theorem okB_byL (x n : Int) (j : Nat) : okB (byL x n j) := by
  intro y hy
  unfold byL at hy
  obtain ⟨i, _, rfl⟩ := List.mem_map.1 hy
  exact byI_range _ _
theorem okB_append {a b : List Int} : okB (a ++ b) ↔ okB a ∧ okB b := by
  unfold okB
  constructor
  · intro h; exact ⟨fun x hx => h x (List.mem_append_left _ hx), fun x hx => h x (List.mem_append_right _ hx)⟩
  · rintro ⟨h1, h2⟩ x hx
    rcases List.mem_append.1 hx with h | h
    · exact h1 x h
    · exact h2 x h
theorem fold_byL (x : Int) (n : Nat) (hn : n ≤ 7) (j : Nat) (hj : j ≤ n) : (byL x n j).foldl vst 0 = (x / 256 ^ (n - j)) % 256 ^ j := by
  induction j with
  | zero => show (0 : Int) = _ % 1; omega
  | succ j ih =>
    have ih := ih (by omega)
    have e : ((n : Int) - 1 - (j : Int)) = ((n - 1 - j : Nat) : Int) := by omega
    rw [byL_snoc, List.foldl_append, ih, List.foldl_cons, List.foldl_nil, e, byI_plain x (n - 1 - j) (by omega)]
    have hp : (0 : Int) < 256 ^ j := Int.pow_pos (by decide)
    have hp7 : (256 : Int) ^ j ≤ 281474976710656 := by
      have h := Int.ofNat_le.2 (Nat.pow_le_pow_right (n := 256) (by decide) (show j ≤ 6 by omega))
      rw [Int.natCast_pow] at h
      exact h
    have h3 := Int.emod_nonneg (x / 256 ^ (n - j)) (b := 256 ^ j) (by omega)
    have h4 := Int.emod_lt_of_pos (x / 256 ^ (n - j)) hp
    rw [vst_plain h3 (by omega) (by omega) (by omega)]
    have ez : x / 256 ^ (n - j) = (x / 256 ^ (n - 1 - j)) / 256 := by
      rw [Int.ediv_ediv_of_nonneg (by exact Int.pow_nonneg (by decide)), ← Int.pow_succ]
      congr 2
      omega
    rw [ez, mod_step _ _ hp, ← Int.pow_succ, show n - 1 - j = n - (j + 1) by omega]
theorem rdV_byL {x : Int} (n : Nat) (hn : n ≤ 7) : rdV (byL x n n) = x % 256 ^ n := by
  unfold rdV
  rw [fold_byL x n hn n (Nat.le_refl _), Nat.sub_self, Int.pow_zero, Int.ediv_one]
theorem rdV2 {x : Int} (h0 : 0 ≤ x) (h1 : x < 65536) : rdV (byL x 2 2) = x := by
  have := rdV_byL (x := x) 2 (by decide); rw [show ((2 : Nat) : Int) = 2 from rfl] at this; rw [this]
  omega
theorem rdV4 {x : Int} (h0 : 0 ≤ x) (h1 : x < 4294967296) : rdV (byL x 4 4) = x := by
  have := rdV_byL (x := x) 4 (by decide); rw [show ((4 : Nat) : Int) = 4 from rfl] at this; rw [this]
  omega
theorem bytesOf_strOf {l : List Int} (h : okB l) : bytesOf (strOfNums l) = l := by
  unfold bytesOf
  rw [strOfNums_data, List.map_map]
  conv => rhs; rw [← List.map_id l]
  apply List.map_congr_left
  intro x hx
  obtain ⟨h0, h1⟩ := h x hx
  show ((UInt8.ofNat x.toNat).toNat : Int) = x
  rw [UInt8.toNat_ofNat']
  omega
theorem okB_bytesOf (s : ByteArray) : okB (bytesOf s) := by
  intro x hx
  unfold bytesOf at hx
  obtain ⟨b, _, rfl⟩ := List.mem_map.1 hx
  have := b.toNat_lt
  omega
theorem bt_strOf {l : List Int} (h : okB l) (i : Int) : bt (strOfNums l) i = rd l i := by
  rw [← rd_bytesOf, bytesOf_strOf h]
theorem extract_strOf (l : List Int) (i j : Nat) : (strOfNums l).extract i j = strOfNums ((l.drop i).take (j - i)) := by
  have : ((strOfNums l).extract i j).data.toList = (strOfNums ((l.drop i).take (j - i))).data.toList := by
    rw [strOfNums_data, List.map_take, List.map_drop, ← strOfNums_data]
    simp [ByteArray.data_extract]
  cases h : (strOfNums l).extract i j with
  | mk d => rw [h] at this; cases h2 : strOfNums ((l.drop i).take (j - i)) with
    | mk e => rw [h2] at this; congr 1; exact Array.toList_inj.1 this
def pad (l : List Int) : List Int := l ++ List.replicate (128 - l.length) 0
theorem pad_length {l : List Int} (h : l.length ≤ 128) : (pad l).length = 128 := by unfold pad; simp; omega
theorem okB_rep (n : Nat) : okB (List.replicate n 0) := fun x hx => by
  obtain ⟨_, rfl⟩ := List.mem_replicate.1 hx; decide
theorem zer_is (n : Nat) : zer n = strOfNums (List.replicate n 0) := by
  unfold zer
  cases h : strOfNums (List.replicate n 0) with
  | mk d =>
    congr 1
    have := strOfNums_data (List.replicate n 0)
    rw [h, List.map_replicate] at this
    exact Array.toList_inj.1 (by rw [this]; first | rfl | simp)
theorem fullA_k (l : List Int) : fullA (strOfNums l) = if l.length ≤ 128 then (strOfNums (pad l), true) else (⟨#[]⟩, false) := by
  unfold fullA
  rw [strOfNums_size]
  split
  · rw [zer_is, strOf_append]; rfl
  · rfl
theorem toList_ne {a b : ByteArray} : (a.toList != b.toList) = !decide (a = b) := by
  rw [ByteArray.toList_eq, ByteArray.toList_eq]
  by_cases h : a = b
  · subst h; simp
  · rw [decide_eq_false h, Bool.not_false, bne_iff_ne]
    intro h2; apply h
    cases a; cases b; congr 1; exact Array.toList_inj.1 h2
theorem toList_nil_size {a : ByteArray} : a.toList = [] ↔ a.size = 0 := by
  rw [ByteArray.toList_eq]
  constructor
  · intro h
    have := congrArg List.length h
    rw [Array.length_toList] at this
    exact this
  · intro h
    apply List.length_eq_zero_iff.1
    rw [Array.length_toList]
    exact h
def chL (nx : Int) (b : ByteArray) : List Int := [67] ++ (byL nx 2 2 ++ ([(b.size : Int) % 256] ++ bytesOf b))
def chOk (nx : Int) (b : ByteArray) : Bool := (decide (nx = 0) || okP nx) && (decide (1 ≤ b.size) && decide (b.size ≤ 120))
theorem bytesOf_len (b : ByteArray) : (bytesOf b).length = b.size := by unfold bytesOf; rw [List.length_map, Array.length_toList]; rfl
theorem chL_length (nx : Int) (b : ByteArray) : (chL nx b).length = 4 + b.size := by
  unfold chL; simp only [List.length_append, List.length_singleton, byL_length, bytesOf_len]; omega
theorem chain_j0 (nx : Int) (b : ByteArray) (bad : Bool) (hs : b.size ≤ 100000000) (k : Nat) (hk : 11 ≤ k) : PBase.sheet_Chain.j0 k nx b bad = some (if bad = true then (⟨#[]⟩, false) else if b.size ≤ 124 then (strOfNums (pad (chL nx b)), true) else (⟨#[]⟩, false)) := by
  obtain ⟨k, rfl⟩ : ∃ m, k = m + 1 := ⟨k - 1, by omega⟩
  simp only [PBase.sheet_Chain.j0]
  cases bad with
  | true => rfl
  | false =>
    rw [if_neg (by decide), if_neg (by decide), Option.bind_some, show (2 : Int) = ((2 : Nat) : Int) from rfl, number_f _ 2 (by decide) _ (by omega), Option.bind_some]
    have l2 := byL_length nx ((2 : Nat) : Int) 2
    rw [if_pos (by rw [strOfNums_size, strOfNums_size, l2, List.length_singleton]; omega), Option.bind_some,
      if_pos (by rw [ByteArray.size_append, strOfNums_size, strOfNums_size, strOfNums_size, l2, List.length_singleton, List.length_singleton]; omega),
      if_pos (by rw [ByteArray.size_append, ByteArray.size_append, strOfNums_size, strOfNums_size, strOfNums_size, l2, List.length_singleton, List.length_singleton]; omega)]
    have e : ((strOfNums [67] ++ strOfNums (byL nx ((2 : Nat) : Int) 2)) ++ strOfNums [(b.size : Int) % 256]) ++ b = strOfNums (chL nx b) := by
      conv => lhs; rw [← strOf_bytesOf b]
      simp only [strOf_append]
      unfold chL
      rw [strOf_bytesOf]
      simp only [List.append_assoc]
      rfl
    rw [e]
    rw [full_f]
    rw [fullA_k, chL_length, Option.bind_some]
    by_cases h : b.size ≤ 124
    · rw [if_pos (by omega), if_pos h]
    · rw [if_neg (by omega), if_neg h]
def chA (nx : Int) (b : ByteArray) : ByteArray × Bool := if chOk nx b = true then (strOfNums (pad (chL nx b)), true) else (⟨#[]⟩, false)
theorem chain_k (nx : Int) (b : ByteArray) (hs : b.size ≤ 100000000) (k : Nat) (hk : 11 ≤ k) : PBase.sheet_Chain.f k nx b = some (chA nx b) := by
  have hj := fun bad => chain_j0 nx b bad hs k hk
  have hmid : (decide (nx = 0) || okP nx) = true → (if b.toList = ([] : List UInt8) then (PBase.sheet_Chain.j0 k nx b true) else (PBase.sheet_Chain.j0 k nx b (decide ((b.size : Int) > 120)))) = some (chA nx b) := by
    intro hp
    unfold chA chOk
    rw [hp, Bool.true_and]
    by_cases h : b.toList = []
    · rw [if_pos h, hj, if_pos rfl, decide_eq_false (show ¬ 1 ≤ b.size by rw [toList_nil_size.1 h]; decide)]; rfl
    · have h1 : 1 ≤ b.size := by
        rcases Nat.eq_zero_or_pos b.size with h0 | h0
        · exact absurd (toList_nil_size.2 h0) h
        · exact h0
      rw [if_neg h, hj, decide_eq_true h1, Bool.true_and]
      by_cases h2 : b.size ≤ 120
      · rw [decide_eq_false (by omega), if_neg (by decide), if_pos (by omega), decide_eq_true h2]; rfl
      · rw [decide_eq_true (by omega), if_pos rfl, decide_eq_false h2]; rfl
  unfold PBase.sheet_Chain.f
  by_cases h0 : nx = 0
  · rw [if_pos h0]; exact hmid (by rw [decide_eq_true h0]; rfl)
  · rw [if_neg h0, page_f, Option.bind_some]
    cases hp : okP nx with
    | true => rw [if_pos rfl]; exact hmid (by rw [hp, Bool.or_true])
    | false =>
      rw [if_neg (by decide), hj, if_pos rfl]
      unfold chA chOk
      rw [decide_eq_false h0, hp]; rfl
end Go.Proofs.YtdhaoaehboonpaaGreat.V
