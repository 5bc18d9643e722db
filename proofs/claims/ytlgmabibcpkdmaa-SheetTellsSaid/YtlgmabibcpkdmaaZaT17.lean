/- Of the texts that the row stands on, what it needs (part 17), put together by a program of this session. -/
import Derived.Test.YtlgmabibcpkdmaaZaT15
import Derived.Test.YtlgmabibcpkdmaaZaT16
section
namespace Go.Proofs.Ytlgmabibcpkdmaa.PAll
open Go.RowKit Go.Proofs.YtlgmabibcpkdmaaW.PrintWords Go.Proofs.YtlgmabibcpkdmaaW.PrintLast Go.Proofs.YtlgmabibcpkdmaaW.PrintMore
open Go.Proofs.Ytlgmabibcpkdmaa.V (byI byL byL_length byL_snoc strOf_bytesOf strOf_append)
set_option linter.unusedSimpArgs false
set_option linter.unusedVariables false
def vst (v b : Int) : Int := Go.bits .or .i64 (wrap64 (v * 256)) (wrap64 b)
def rdV (l : List Int) : Int := l.foldl vst 0
def okB (l : List Int) : Prop := ∀ x ∈ l, 0 ≤ x ∧ x < 256
theorem vst_plain {v b : Int} (h0 : 0 ≤ v) (h1 : v < 281474976710656) (b0 : 0 ≤ b) (b1 : b < 256) : vst v b = v * 256 + b := by
  unfold vst
  have hw : ∀ n : Int, 0 ≤ n → n < 2 ^ 63 → IntKind.i64.wrap n = n := fun n a b => by
    have b' : n < 9223372036854775808 := b
    rw [IntKind.wrap_i64]; omega
  have e1 : wrap64 (v * 256) = v * 256 := by unfold wrap64; omega
  have e2 : wrap64 b = b := by unfold wrap64; omega
  rw [e1, e2]
  exact bits_join .i64 63 (by decide) hw 8 _ _ (by omega) (by omega) (by show v * 256 < 9223372036854775808; omega) (by omega) (by omega) (by show b < 9223372036854775808; omega)
theorem mod_step (z M : Int) (hM : 0 < M) : ((z / 256) % M) * 256 + z % 256 = z % (M * 256) := by
  have h1 := Int.mul_ediv_add_emod z 256
  have h2 := Int.mul_ediv_add_emod (z / 256) M
  have h3 := Int.emod_nonneg (z / 256) (b := M) (by omega)
  have h4 := Int.emod_lt_of_pos (z / 256) hM
  have h5 := Int.emod_nonneg z (b := 256) (by omega)
  have h6 := Int.emod_lt_of_pos z (b := 256) (by omega)
  have e : z = (((z / 256) % M) * 256 + z % 256) + M * 256 * (z / 256 / M) := by
    have : M * 256 * (z / 256 / M) = 256 * (M * (z / 256 / M)) := by rw [Int.mul_comm M 256, Int.mul_assoc]
    rw [this]; omega
  have b1 : ((z / 256) % M) * 256 + z % 256 < M * 256 := by omega
  have b0 : 0 ≤ ((z / 256) % M) * 256 + z % 256 := by omega
  conv => rhs; rw [e]
  rw [Int.add_mul_emod_self_left, Int.emod_eq_of_lt b0 b1]
theorem pow256 (i : Nat) : (256 : Int) ^ i = 2 ^ (8 * i) := by
  rw [Int.pow_mul]; rfl
theorem byI_plain (x : Int) (i : Nat) (hi : i ≤ 7) : byI x i = (x / 256 ^ i) % 256 := by
  unfold byI
  have e : wrap64 (8 * (i : Int)) = ((8 * i : Nat) : Int) := by unfold wrap64; omega
  rw [e, pow256]
  have hs : shr .i64 x ((8 * i : Nat) : Int) = x / 2 ^ (8 * i) := (shr_small (k := .i64) (x := x) (y := ((8 * i : Nat) : Int)) rfl (by show ((8 * i : Nat) : Int) ≤ ((64 : Nat) : Int); omega)).symm
  rw [hs]
theorem byI_range (x : Int) (i : Int) : 0 ≤ byI x i ∧ byI x i < 256 := by unfold byI; omega
theorem okB_byL (x n : Int) (j : Nat) : okB (byL x n j) := by
  intro y hy
  unfold byL at hy
  obtain ⟨i, _, rfl⟩ := List.mem_map.1 hy
  exact byI_range _ _
theorem okB_append {a b : List Int} : okB (a ++ b) ↔ okB a ∧ okB b := by
  unfold okB
  constructor
  · intro h; exact ⟨fun x hx => h x (List.mem_append_left _ hx), fun x hx => h x (List.mem_append_right _ hx)⟩
  · rintro ⟨h1, h2⟩ x hx
    rcases List.mem_append.1 hx with h | h
    · exact h1 x h
    · exact h2 x h
theorem fold_byL (x : Int) (n : Nat) (hn : n ≤ 7) (j : Nat) (hj : j ≤ n) : (byL x n j).foldl vst 0 = (x / 256 ^ (n - j)) % 256 ^ j := by
  induction j with
  | zero => show (0 : Int) = _ % 1; omega
  | succ j ih =>
    have ih := ih (by omega)
    have e : ((n : Int) - 1 - (j : Int)) = ((n - 1 - j : Nat) : Int) := by omega
    rw [byL_snoc, List.foldl_append, ih, List.foldl_cons, List.foldl_nil, e, byI_plain x (n - 1 - j) (by omega)]
    have hp : (0 : Int) < 256 ^ j := Int.pow_pos (by decide)
    have hp7 : (256 : Int) ^ j ≤ 281474976710656 := by
      have h := Int.ofNat_le.2 (Nat.pow_le_pow_right (n := 256) (by decide) (show j ≤ 6 by omega))
      rw [Int.natCast_pow] at h
      exact h
    have h3 := Int.emod_nonneg (x / 256 ^ (n - j)) (b := 256 ^ j) (by omega)
    have h4 := Int.emod_lt_of_pos (x / 256 ^ (n - j)) hp
    rw [vst_plain h3 (by omega) (by omega) (by omega)]
    have ez : x / 256 ^ (n - j) = (x / 256 ^ (n - 1 - j)) / 256 := by
      rw [Int.ediv_ediv_of_nonneg (by exact Int.pow_nonneg (by decide)), ← Int.pow_succ]
      congr 2
      omega
    rw [ez, mod_step _ _ hp, ← Int.pow_succ, show n - 1 - j = n - (j + 1) by omega]
theorem rdV_byL {x : Int} (n : Nat) (hn : n ≤ 7) : rdV (byL x n n) = x % 256 ^ n := by
  unfold rdV
  rw [fold_byL x n hn n (Nat.le_refl _), Nat.sub_self, Int.pow_zero, Int.ediv_one]
theorem rdV2 {x : Int} (h0 : 0 ≤ x) (h1 : x < 65536) : rdV (byL x 2 2) = x := by
  have := rdV_byL (x := x) 2 (by decide); rw [show ((2 : Nat) : Int) = 2 from rfl] at this; rw [this]
  omega
theorem rdV4 {x : Int} (h0 : 0 ≤ x) (h1 : x < 4294967296) : rdV (byL x 4 4) = x := by
  have := rdV_byL (x := x) 4 (by decide); rw [show ((4 : Nat) : Int) = 4 from rfl] at this; rw [this]
  omega
theorem bytesOf_strOf {l : List Int} (h : okB l) : bytesOf (strOfNums l) = l := by
  unfold bytesOf
  rw [strOfNums_data, List.map_map]
  conv => rhs; rw [← List.map_id l]
  apply List.map_congr_left
  intro x hx
  obtain ⟨h0, h1⟩ := h x hx
  show ((UInt8.ofNat x.toNat).toNat : Int) = x
  rw [UInt8.toNat_ofNat']
  omega
theorem okB_bytesOf (s : ByteArray) : okB (bytesOf s) := by
  intro x hx
  unfold bytesOf at hx
  obtain ⟨b, _, rfl⟩ := List.mem_map.1 hx
  have := b.toNat_lt
  omega
theorem bt_strOf {l : List Int} (h : okB l) (i : Int) : bt (strOfNums l) i = rd l i := by
  rw [← rd_bytesOf, bytesOf_strOf h]
theorem extract_strOf (l : List Int) (i j : Nat) : (strOfNums l).extract i j = strOfNums ((l.drop i).take (j - i)) := by
  have : ((strOfNums l).extract i j).data.toList = (strOfNums ((l.drop i).take (j - i))).data.toList := by
    rw [strOfNums_data, List.map_take, List.map_drop, ← strOfNums_data]
    simp [ByteArray.data_extract]
  cases h : (strOfNums l).extract i j with
  | mk d => rw [h] at this; cases h2 : strOfNums ((l.drop i).take (j - i)) with
    | mk e => rw [h2] at this; congr 1; exact Array.toList_inj.1 this
def rn (L : List Int) (bad : Bool) (n : Nat) : Int × List Int × Bool :=
  if bad = true then (0, L, true) else if L.length < n then (0, L, true) else (rdV (L.take n), L.drop n, false)
theorem take_k {L : List Int} (bad : Bool) (n : Nat) :
    sheet_reader_take.f (strOfNums L) bad (n : Int) = some (if bad = true then ((strOfNums []), strOfNums L, true) else if L.length < n then (strOfNums [], strOfNums L, true) else (strOfNums (L.take n), strOfNums (L.drop n), false)) := by
  unfold sheet_reader_take.f
  cases bad with
  | true => rfl
  | false =>
    simp only [Bool.false_eq_true, if_false, strOfNums_size]
    by_cases h : L.length < n
    · rw [if_pos (by omega), if_pos h, decide_eq_true (by omega)]; rfl
    · rw [if_neg (by omega), if_pos (by omega), if_pos (by omega), if_neg h, decide_eq_false (by omega), extract_strOf, extract_strOf]
      simp only [Int.toNat_natCast, List.drop_zero, Nat.sub_zero]
      rw [List.take_of_length_le (l := L.drop n) (by rw [List.length_drop]; omega)]
theorem num_loop {L : List Int} (hL : okB L) (hl : L.length ≤ 100000) (s : ByteArray) (b : Bool) (d : Nat) : ∀ (k i : Nat) (v : Int), L.length - i = d → i ≤ L.length → d < k →
    sheet_reader_num.l0 k v (strOfNums L) (L.length : Int) (i : Int) s b = some ((L.drop i).foldl vst v, s, b) := by
  induction d with
  | zero =>
    intro k i v hd hi hk
    obtain ⟨k, rfl⟩ : ∃ m, k = m + 1 := ⟨k - 1, by omega⟩
    simp only [sheet_reader_num.l0]
    rw [if_neg (by omega), List.drop_of_length_le (by omega)]
    rfl
  | succ d ih =>
    intro k i v hd hi hk
    obtain ⟨k, rfl⟩ : ∃ m, k = m + 1 := ⟨k - 1, by omega⟩
    have hlt : i < L.length := by omega
    simp only [sheet_reader_num.l0, strOfNums_size]
    rw [if_pos (by omega), if_pos (by omega), if_pos (by omega), show wrap64 ((i : Int) + 1) = ((i + 1 : Nat) : Int) from by unfold wrap64; omega,
      ih k (i + 1) _ (by omega) (by omega) (by omega), bt_strOf hL]
    rw [List.drop_eq_getElem_cons hlt, List.foldl_cons]
    have : rd L (i : Int) = L[i] := by simp [rd, List.getD, List.getElem?_eq_getElem hlt]
    rw [this]
    rfl
theorem okB_take {L : List Int} (h : okB L) (n : Nat) : okB (L.take n) := fun x hx => h x (List.mem_of_mem_take hx)
theorem okB_drop {L : List Int} (h : okB L) (n : Nat) : okB (L.drop n) := fun x hx => h x (List.mem_of_mem_drop hx)
theorem num_k {L : List Int} (hL : okB L) (bad : Bool) (n : Nat) (hn : n ≤ 100000) (k : Nat) (hk : n < k) :
    sheet_reader_num.f k (strOfNums L) bad (n : Int) = some ((rn L bad n).1, strOfNums (rn L bad n).2.1, (rn L bad n).2.2) := by
  unfold sheet_reader_num.f
  rw [take_k]
  unfold rn
  cases bad with
  | true =>
    have := num_loop (L := []) (by intro x hx; cases hx) (by simp) (strOfNums L) true 0 k 0 0 rfl (by simp) (by omega)
    simpa [strOfNums_size] using this
  | false =>
    simp only [Bool.false_eq_true, if_false]
    by_cases h : L.length < n
    · rw [if_pos h, if_pos h]
      have := num_loop (L := []) (by intro x hx; cases hx) (by simp) (strOfNums L) true 0 k 0 0 rfl (by simp) (by omega)
      simpa [strOfNums_size] using this
    · rw [if_neg h, if_neg h]
      have hln : (L.take n).length = n := by rw [List.length_take]; omega
      have := num_loop (okB_take hL n) (by omega) (strOfNums (L.drop n)) false n k 0 0 (by omega) (by omega) (by omega)
      rw [List.drop_zero] at this
      simpa [strOfNums_size, hln, rdV] using this
theorem rn_ok {L : List Int} (h : okB L) (b : Bool) (n : Nat) : okB (rn L b n).2.1 := by
  unfold rn; split
  · exact h
  · split
    · exact h
    · exact okB_drop h n
theorem rn_good {A B : List Int} (n : Nat) (h : A.length = n) : rn (A ++ B) false n = (rdV A, B, false) := by
  unfold rn
  rw [if_neg (by simp), if_neg (by rw [List.length_append]; omega), List.take_left' h, List.drop_left' h]
end Go.Proofs.Ytlgmabibcpkdmaa.PAll
end
section
namespace Go.Proofs.Ytlgmabibcpkdmaa.PAll
open Go.RowKit Go.Proofs.YtlgmabibcpkdmaaW.PrintWords Go.Proofs.YtlgmabibcpkdmaaW.PrintLast Go.Proofs.YtlgmabibcpkdmaaW.PrintMore
open Go.Proofs.Ytlgmabibcpkdmaa.V (byI byL byL_length byL_snoc strOf_bytesOf strOf_append okK okP okR ahK idxV idxB idxA lfT lfV lfB lfA lfT_length okR_size all_at fullA zer)
set_option linter.unusedSimpArgs false
set_option linter.unusedVariables false
theorem fold_range (L : List Int) : ∀ (v : Int) (m : Nat), okB L → 0 ≤ v → v < 256 ^ m → m + L.length ≤ 6 → 0 ≤ L.foldl vst v ∧ L.foldl vst v < 256 ^ (m + L.length) := by
  induction L with
  | nil => intro v m _ h0 h1 _; exact ⟨h0, h1⟩
  | cons b t ih =>
    intro v m h h0 h1 hl
    rw [List.length_cons] at hl
    have hb := h b (List.mem_cons_self ..)
    have hp : (256 : Int) ^ m ≤ 281474976710656 := by
      have h := Int.ofNat_le.2 (Nat.pow_le_pow_right (n := 256) (by decide) (show m ≤ 6 by omega))
      rw [Int.natCast_pow] at h
      exact h
    rw [List.foldl_cons, vst_plain h0 (by omega) hb.1 hb.2]
    have := ih (v * 256 + b) (m + 1) (fun x hx => h x (List.mem_cons_of_mem _ hx)) (by omega) (by rw [Int.pow_succ]; omega) (by omega)
    rw [List.length_cons, show m + (t.length + 1) = m + 1 + t.length by omega]
    exact this
theorem rdV_range {L : List Int} (h : okB L) (hl : L.length ≤ 6) : 0 ≤ rdV L ∧ rdV L < 256 ^ L.length := by
  have := fold_range L 0 0 h (by decide) (by decide) (by omega)
  rwa [Nat.zero_add] at this
theorem num_ex {L : List Int} (hL : okB L) (bad : Bool) (n : Nat) (m : Int) (hm : m = n) (hn : n ≤ 6) : ∃ v L' b', okB L' ∧ 0 ≤ v ∧ v < 256 ^ n ∧ ∀ k, n < k → sheet_reader_num.f k (strOfNums L) bad m = some (v, strOfNums L', b') := by
  subst hm
  have hp : (0 : Int) < 256 ^ n := Int.pow_pos (by decide)
  refine ⟨_, _, _, rn_ok hL bad n, ?_, ?_, fun k hk => num_k hL bad n (by omega) k hk⟩
  · unfold rn
    split
    · exact Int.le_refl _
    · split
      · exact Int.le_refl _
      · exact (rdV_range (okB_take hL n) (by rw [List.length_take]; omega)).1
  · unfold rn
    split
    · exact hp
    · split
      · exact hp
      · rename_i h1 h2
        have := (rdV_range (okB_take hL n) (by rw [List.length_take]; omega)).2
        rwa [show (L.take n).length = n by rw [List.length_take]; omega] at this
theorem take_ex {L : List Int} (hL : okB L) (bad : Bool) (m : Int) (hm : 0 ≤ m) : ∃ P L' b', okB L' ∧ sheet_reader_take.f (strOfNums L) bad m = some (P, strOfNums L', b') := by
  obtain ⟨n, rfl⟩ : ∃ n : Nat, m = n := ⟨m.toNat, by omega⟩
  rw [take_k]
  split
  · exact ⟨_, _, _, hL, rfl⟩
  · split
    · exact ⟨_, _, _, hL, rfl⟩
    · exact ⟨_, _, _, okB_drop hL n, rfl⟩
theorem num_good {A B : List Int} (hA : okB A) (hB : okB B) (n : Nat) (h : A.length = n) (m : Int) (hm : m = n) (hn : n ≤ 100) (k : Nat) (hk : n < k) : sheet_reader_num.f k (strOfNums (A ++ B)) false m = some (rdV A, strOfNums B, false) := by
  subst hm
  rw [num_k (okB_append.2 ⟨hA, hB⟩) false n (by omega) k hk, rn_good n h]
theorem take_good {A B : List Int} (n : Nat) (h : A.length = n) (m : Int) (hm : m = n) : sheet_reader_take.f (strOfNums (A ++ B)) false m = some (strOfNums A, strOfNums B, false) := by
  subst hm
  rw [take_k, if_neg (by decide), if_neg (by rw [List.length_append]; omega), List.take_left' h, List.drop_left' h]
def pad (l : List Int) : List Int := l ++ List.replicate (128 - l.length) 0
theorem pad_length {l : List Int} (h : l.length ≤ 128) : (pad l).length = 128 := by unfold pad; simp; omega
theorem okB_rep (n : Nat) : okB (List.replicate n 0) := fun x hx => by
  obtain ⟨_, rfl⟩ := List.mem_replicate.1 hx; decide
theorem okB_pad {l : List Int} (h : okB l) : okB (pad l) := okB_append.2 ⟨h, okB_rep _⟩
theorem zer_is (n : Nat) : zer n = strOfNums (List.replicate n 0) := by
  unfold zer
  cases h : strOfNums (List.replicate n 0) with
  | mk d =>
    congr 1
    have := strOfNums_data (List.replicate n 0)
    rw [h, List.map_replicate] at this
    exact Array.toList_inj.1 (by rw [this]; first | rfl | simp)
theorem fullA_k (l : List Int) : fullA (strOfNums l) = if l.length ≤ 128 then (strOfNums (pad l), true) else (⟨#[]⟩, false) := by
  unfold fullA
  rw [strOfNums_size]
  split
  · rw [zer_is, strOf_append]; rfl
  · rfl
def fb (a : ByteArray) : Option Int := (bytesOf a).head?
theorem fb_pad {x : Int} {t : List Int} (h : okB (x :: t)) : fb (strOfNums (pad (x :: t))) = some x := by
  unfold fb
  rw [bytesOf_strOf (okB_pad h)]; rfl
theorem toList_ne {a b : ByteArray} : (a.toList != b.toList) = !decide (a = b) := by
  rw [ByteArray.toList_eq, ByteArray.toList_eq]
  by_cases h : a = b
  · subst h; simp
  · rw [decide_eq_false h, Bool.not_false, bne_iff_ne]
    intro h2; apply h
    cases a; cases b; congr 1; exact Array.toList_inj.1 h2
theorem toList_nil_iff {a : ByteArray} : a.toList = [] ↔ a.size = 0 := by
  rw [ByteArray.toList_eq]
  constructor
  · intro h
    have := congrArg List.length h
    rw [Array.length_toList] at this
    exact this
  · intro h
    apply List.length_eq_zero_iff.1
    rw [Array.length_toList]
    exact h
theorem number_loop (x : Int) (n : Nat) (hn : n ≤ 8) (d : Nat) : ∀ (k j : Nat), n - j = d → j ≤ n → d < k → sheet_number.l0 k x ((n : Int) - 1 - (j : Int)) (byL x n j) = some (strOfNums (byL x n n)) := by
  induction d with
  | zero =>
    intro k j hd hj hk
    obtain ⟨k, rfl⟩ : ∃ m, k = m + 1 := ⟨k - 1, by omega⟩
    have : j = n := by omega
    subst this
    simp only [sheet_number.l0]
    rw [if_neg (by omega)]
  | succ d ih =>
    intro k j hd hj hk
    obtain ⟨k, rfl⟩ : ∃ m, k = m + 1 := ⟨k - 1, by omega⟩
    simp only [sheet_number.l0]
    rw [if_pos (by omega), if_pos (by unfold wrap64; omega), if_pos (by rw [byL_length]; omega), show wrap64 ((n : Int) - 1 - (j : Int) - 1) = (n : Int) - 1 - ((j + 1 : Nat) : Int) from by unfold wrap64; omega]
    have h := ih k (j + 1) (by omega) (by omega) (by omega)
    rw [byL_snoc] at h
    exact h
theorem number_f (x : Int) (n : Nat) (hn : n ≤ 8) (k : Nat) (hk : 10 ≤ k) : sheet_number.f k x (n : Int) = some (strOfNums (byL x n n)) := by
  unfold sheet_number.f
  have h := number_loop x n hn n k 0 (by omega) (by omega) (by omega)
  rw [show wrap64 ((n : Int) - 1) = (n : Int) - 1 - ((0 : Nat) : Int) from by unfold wrap64; omega]
  exact h
theorem page_f (p : Int) : sheet_page.f p = some (okP p) := by
  unfold sheet_page.f okP
  by_cases h : p ≥ 2
  · rw [if_pos h, decide_eq_true (show 2 ≤ p from h)]; rfl
  · rw [if_neg h, decide_eq_false (show ¬ 2 ≤ p from h)]; rfl
def chL (nx : Int) (b : ByteArray) : List Int := [67] ++ (byL nx 2 2 ++ ([(b.size : Int) % 256] ++ bytesOf b))
def chOk (nx : Int) (b : ByteArray) : Bool := (decide (nx = 0) || okP nx) && (decide (1 ≤ b.size) && decide (b.size ≤ 120))
theorem bytesOf_len (b : ByteArray) : (bytesOf b).length = b.size := by unfold bytesOf; rw [List.length_map, Array.length_toList]; rfl
theorem chL_length (nx : Int) (b : ByteArray) : (chL nx b).length = 4 + b.size := by
  unfold chL; simp only [List.length_append, List.length_singleton, byL_length, bytesOf_len]; omega
theorem okB_chL (nx : Int) (b : ByteArray) : okB (chL nx b) := by
  unfold chL
  refine okB_append.2 ⟨by intro x hx; simp at hx; omega, okB_append.2 ⟨okB_byL _ _ _, okB_append.2 ⟨by intro x hx; simp at hx; omega, okB_bytesOf b⟩⟩⟩
theorem chain_j0 (nx : Int) (b : ByteArray) (bad : Bool) (hs : b.size ≤ 100000000) (k : Nat) (hk : 11 ≤ k) : sheet_Chain.j0 k nx b bad = some (if bad = true then (⟨#[]⟩, false) else if b.size ≤ 124 then (strOfNums (pad (chL nx b)), true) else (⟨#[]⟩, false)) := by
  obtain ⟨k, rfl⟩ : ∃ m, k = m + 1 := ⟨k - 1, by omega⟩
  simp only [sheet_Chain.j0]
  cases bad with
  | true => rfl
  | false =>
    rw [if_neg (by decide), if_neg (by decide), Option.bind_some, show (2 : Int) = ((2 : Nat) : Int) from rfl, number_f _ 2 (by decide) _ (by omega), Option.bind_some]
    have l2 := byL_length nx ((2 : Nat) : Int) 2
    rw [if_pos (by rw [strOfNums_size, strOfNums_size, l2, List.length_singleton]; omega), Option.bind_some,
      if_pos (by rw [ByteArray.size_append, strOfNums_size, strOfNums_size, strOfNums_size, l2, List.length_singleton, List.length_singleton]; omega),
      if_pos (by rw [ByteArray.size_append, ByteArray.size_append, strOfNums_size, strOfNums_size, strOfNums_size, l2, List.length_singleton, List.length_singleton]; omega)]
    have e : ((strOfNums [67] ++ strOfNums (byL nx ((2 : Nat) : Int) 2)) ++ strOfNums [(b.size : Int) % 256]) ++ b = strOfNums (chL nx b) := by
      conv => lhs; rw [← strOf_bytesOf b]
      simp only [strOf_append]
      unfold chL
      rw [strOf_bytesOf]
      simp only [List.append_assoc]
      rfl
    rw [e]
    unfold sheet_full.f
    rw [fullA_k, chL_length, Option.bind_some]
    by_cases h : b.size ≤ 124
    · rw [if_pos (by omega), if_pos h]
    · rw [if_neg (by omega), if_neg h]
def chA (nx : Int) (b : ByteArray) : ByteArray × Bool := if chOk nx b = true then (strOfNums (pad (chL nx b)), true) else (⟨#[]⟩, false)
theorem chain_k (nx : Int) (b : ByteArray) (hs : b.size ≤ 100000000) (k : Nat) (hk : 11 ≤ k) : sheet_Chain.f k nx b = some (chA nx b) := by
  have hj := fun bad => chain_j0 nx b bad hs k hk
  have hmid : (decide (nx = 0) || okP nx) = true → (if b.toList = ([] : List UInt8) then (sheet_Chain.j0 k nx b true) else (sheet_Chain.j0 k nx b (decide ((b.size : Int) > 120)))) = some (chA nx b) := by
    intro hp
    unfold chA chOk
    rw [hp, Bool.true_and]
    by_cases h : b.toList = []
    · rw [if_pos h, hj, if_pos rfl, decide_eq_false (show ¬ 1 ≤ b.size by rw [toList_nil_iff.1 h]; decide)]; rfl
    · have h1 : 1 ≤ b.size := by
        rcases Nat.eq_zero_or_pos b.size with h0 | h0
        · exact absurd (toList_nil_iff.2 h0) h
        · exact h0
      rw [if_neg h, hj, decide_eq_true h1, Bool.true_and]
      by_cases h2 : b.size ≤ 120
      · rw [decide_eq_false (by omega), if_neg (by decide), if_pos (by omega), decide_eq_true h2]; rfl
      · rw [decide_eq_true (by omega), if_pos rfl, decide_eq_false h2]; rfl
  unfold sheet_Chain.f
  by_cases h0 : nx = 0
  · rw [if_pos h0]; exact hmid (by rw [decide_eq_true h0]; rfl)
  · rw [if_neg h0, page_f, Option.bind_some]
    cases hp : okP nx with
    | true => rw [if_pos rfl]; exact hmid (by rw [hp, Bool.or_true])
    | false =>
      rw [if_neg (by decide), hj, if_pos rfl]
      unfold chA chOk
      rw [decide_eq_false h0, hp]; rfl
def linkFin (a : ByteArray) (bad : Bool) (nx : Int) (pc : ByteArray) : Int × ByteArray × Bool := if (!bad && (chOk nx pc && decide (strOfNums (pad (chL nx pc)) = a))) = true then (nx, pc, true) else (0, ⟨#[]⟩, false)
theorem link_j0 (nx : Int) (pc : ByteArray) (b : Bool) (k : Nat) : sheet_Link.j0 (k + 1) nx pc b = some (if b = true then (0, ⟨#[]⟩, false) else (nx, pc, true)) := by
  simp only [sheet_Link.j0]; split <;> rfl
theorem link_end (a : ByteArray) (bad : Bool) (nx : Int) (pc : ByteArray) (hs : pc.size ≤ 100000000) (k : Nat) (hk : 12 ≤ k) :
    ((sheet_Chain.f k nx pc).bind fun bt160 => (if bad = true then (sheet_Link.j0 k nx pc true) else (if bt160.2 = true then (sheet_Link.j0 k nx pc (bt160.1.toList != a.toList)) else (sheet_Link.j0 k nx pc true)))) = some (linkFin a bad nx pc) := by
  obtain ⟨k, rfl⟩ : ∃ m, k = m + 1 := ⟨k - 1, by omega⟩
  rw [chain_k nx pc hs _ (by omega), Option.bind_some]
  unfold linkFin chA
  cases bad with
  | true => rw [if_pos rfl, link_j0]; rfl
  | false =>
    rw [if_neg (by decide)]
    cases h : chOk nx pc with
    | false => rw [if_neg (show ¬ (false = true) by decide), if_neg (show ¬ (false = true) by decide), link_j0]; rfl
    | true =>
      rw [if_pos rfl, if_pos rfl, link_j0, toList_ne]
      by_cases h2 : strOfNums (pad (chL nx pc)) = a
      · rw [decide_eq_true h2]; rfl
      · rw [decide_eq_false h2]; rfl
theorem link_ex (a : ByteArray) (ha : a.size ≤ 1000000) : ∃ bad nx pc, ∀ k, 12 ≤ k → sheet_Link.f k a = some (linkFin a bad nx pc) := by
  obtain ⟨P0, L0, b0, h0, e0⟩ := take_ex (okB_bytesOf a) false 1 (by decide)
  obtain ⟨v1, L1, b1, h1, _, _, e1⟩ := num_ex h0 b0 2 2 rfl (by decide)
  obtain ⟨v2, L2, b2, h2, p2, q2, e2⟩ := num_ex h1 b1 1 1 rfl (by decide)
  have q2' : v2 < 256 := q2
  obtain ⟨P3, L3, b3, h3, e3⟩ := take_ex h2 b2 v2 p2
  have hs : P3.size ≤ 100000000 := by
    obtain ⟨n, rfl⟩ : ∃ n : Nat, v2 = n := ⟨v2.toNat, by omega⟩
    rw [take_k] at e3
    split at e3
    · injection e3 with e3; injection e3 with e3 _; rw [← e3]; decide
    · split at e3
      · injection e3 with e3; injection e3 with e3 _; rw [← e3]; decide
      · injection e3 with e3; injection e3 with e3 _; rw [← e3, strOfNums_size, List.length_take]; omega
  rw [strOf_bytesOf] at e0
  refine ⟨b3, v1, P3, fun k hk => ?_⟩
  unfold sheet_Link.f
  rw [e0, Option.bind_some]
  simp only []
  rw [e1 k (by omega), Option.bind_some]
  simp only []
  rw [e2 k (by omega), Option.bind_some]
  simp only []
  rw [e3, Option.bind_some]
  exact link_end a b3 v1 P3 hs k hk
theorem okP_range {p : Int} (h : okP p = true) : 2 ≤ p ∧ p < 200 := by unfold okP at h; simp at h; exact h
theorem link_back {nx : Int} {b : ByteArray} (h : chOk nx b = true) (k : Nat) (hk : 12 ≤ k) : sheet_Link.f k (strOfNums (pad (chL nx b))) = some (nx, b, true) := by
  have h' := h
  unfold chOk at h'
  simp only [Bool.and_eq_true, Bool.or_eq_true, decide_eq_true_eq] at h'
  have hn : 0 ≤ nx ∧ nx < 65536 := by
    rcases h'.1 with h | h
    · omega
    · have := okP_range h; omega
  have hsz : ((b.size : Int) % 256) = b.size := by omega
  obtain ⟨Z, okZ, e⟩ : ∃ Z, okB Z ∧ pad (chL nx b) = [67] ++ (byL nx 2 2 ++ ([(b.size : Int) % 256] ++ (bytesOf b ++ Z))) :=
    ⟨_, okB_rep (128 - (chL nx b).length), by
      unfold pad
      generalize List.replicate (128 - (chL nx b).length) (0 : Int) = z
      unfold chL
      simp only [List.append_assoc]⟩
  have okS : okB [(b.size : Int) % 256] := by intro x hx; simp at hx; omega
  have ok2 : okB (bytesOf b ++ Z) := okB_append.2 ⟨okB_bytesOf b, okZ⟩
  have hr1 : rdV [(b.size : Int) % 256] = b.size := by
    unfold rdV
    rw [List.foldl_cons, List.foldl_nil, vst_plain (by decide) (by decide) (by omega) (by omega)]; omega
  unfold sheet_Link.f
  have e1 : sheet_reader_take.f (strOfNums (pad (chL nx b))) false 1 = some (strOfNums [67], strOfNums (byL nx 2 2 ++ ([(b.size : Int) % 256] ++ (bytesOf b ++ Z))), false) := by rw [e]; exact take_good 1 rfl 1 rfl
  rw [e1, Option.bind_some]
  simp only []
  rw [num_good (okB_byL _ _ _) (okB_append.2 ⟨okS, ok2⟩) 2 (byL_length _ _ _) 2 rfl (by decide) k (by omega), Option.bind_some]
  simp only []
  rw [num_good okS ok2 1 rfl 1 rfl (by decide) k (by omega), Option.bind_some]
  simp only []
  rw [take_good b.size (bytesOf_len b) _ hr1, Option.bind_some]
  simp only []
  rw [strOf_bytesOf, rdV2 hn.1 hn.2]
  rw [link_end _ false nx b (by omega) k hk]
  unfold linkFin
  rw [h, decide_eq_true rfl]; rfl
theorem link_fb {a : ByteArray} {bad : Bool} {nx : Int} {pc : ByteArray} (h : (linkFin a bad nx pc).2.2 = true) : fb a = some 67 := by
  unfold linkFin at h
  split at h
  · rename_i h1
    simp only [Bool.and_eq_true, decide_eq_true_eq] at h1
    rw [← h1.2.2]
    exact fb_pad (okB_chL nx pc)
  · cases h
end Go.Proofs.Ytlgmabibcpkdmaa.PAll
end
section
namespace Go.Proofs.Ytlgmabibcpkdmaa.PAll
open Go.RowKit Go.Proofs.YtlgmabibcpkdmaaW.PrintWords Go.Proofs.YtlgmabibcpkdmaaW.PrintLast Go.Proofs.YtlgmabibcpkdmaaW.PrintMore
open Go.Proofs.Ytlgmabibcpkdmaa.V (byI byL byL_length byL_snoc strOf_bytesOf strOf_append okK okP okR ahK idxV idxB idxA idxB_length lfT lfV lfB lfA lfT_length okR_size all_at fullA zer)
set_option linter.unusedSimpArgs false
set_option linter.unusedVariables false
theorem range_map {α β : Type} (l : List α) (z : α) (g : α → β) : (List.range l.length).map (fun i => g (l.getD i z)) = l.map g := by
  apply List.ext_getElem
  · simp
  · intro i h1 h2
    simp only [List.length_map, List.length_range] at h1
    simp [List.getD, List.getElem?_eq_getElem h1]
theorem okB_flat {α : Type} (l : List α) (g : α → List Int) (h : ∀ x ∈ l, okB (g x)) : okB (l.map g).flatten := by
  intro y hy
  obtain ⟨m, hm, hy⟩ := List.mem_flatten.1 hy
  obtain ⟨x, hx, rfl⟩ := List.mem_map.1 hm
  exact h x hx y hy
theorem okB_one (x : Int) : okB [x % 256] := by intro y hy; rw [List.mem_singleton] at hy; omega
theorem rdV_one (n : Nat) (h : n < 256) : rdV [(n : Int) % 256] = n := by
  unfold rdV
  rw [List.foldl_cons, List.foldl_nil, vst_plain (by decide) (by decide) (by omega) (by omega)]; omega
def encS (x : S41) : List Int := byL x.f0 4 4 ++ byL x.f1 2 2
def idxL (l : List S41) : List Int := [73, (l.length : Int) % 256] ++ (l.map encS).flatten
def idxOk (l : List S41) : Bool := decide (l.length ≤ 21) && idxV (fun i => (rd_T41 l i).f0) (fun i => (rd_T41 l i).f1) l.length
theorem idxL_is (l : List S41) : idxB (fun i => (rd_T41 l i).f0) (fun i => (rd_T41 l i).f1) l.length l.length = idxL l := by
  unfold idxB idxL
  rw [← range_map l z41 encS]; rfl
theorem idxL_length (l : List S41) : (idxL l).length = 2 + 6 * l.length := by rw [← idxL_is, idxB_length]
theorem okB_encS (x : S41) : okB (encS x) := okB_append.2 ⟨okB_byL _ _ _, okB_byL _ _ _⟩
theorem okB_idxL (l : List S41) : okB (idxL l) := by
  refine okB_append.2 ⟨?_, okB_flat _ _ fun x _ => okB_encS x⟩
  intro y hy
  rcases List.mem_cons.1 hy with h | h
  · rw [h]; decide
  · rw [List.mem_singleton] at h; omega
def idxR (l : List S41) : ByteArray × Bool := if idxOk l = true then (strOfNums (pad (idxL l)), true) else (⟨#[]⟩, false)
theorem index_k (l : List S41) : sheet_Index.f l = some (idxR l) := by
  unfold sheet_Index.f idxR idxOk idxA
  by_cases h : l.length ≤ 21
  · rw [if_pos h, decide_eq_true h, Bool.true_and]
    by_cases h2 : idxV (fun i => (rd_T41 l i).f0) (fun i => (rd_T41 l i).f1) l.length = true
    · rw [if_pos h2, if_pos h2, fullA_k, idxL_is, idxL_length, if_pos (by omega)]
    · rw [if_neg h2, if_neg h2]
  · rw [if_neg h, decide_eq_false h]; rfl
def slotsFin (a : ByteArray) (bad : Bool) (l : List S41) : List S41 × Bool := if (!bad && (idxOk l && decide (strOfNums (pad (idxL l)) = a))) = true then (l, true) else ([], false)
theorem slots_j1 (l : List S41) (b : Bool) (k : Nat) : sheet_Slots.j1 (k + 1) l b = some (if b = true then ([], false) else (l, true)) := by
  simp only [sheet_Slots.j1]; split <;> rfl
theorem slots_end (a s : ByteArray) (bad : Bool) (l : List S41) (k : Nat) (hk : 2 ≤ k) (n : Int) (hn : n ≤ 0) : sheet_Slots.l0 k a l n s bad = some (slotsFin a bad l) := by
  obtain ⟨k, rfl⟩ : ∃ m, k = m + 2 := ⟨k - 2, by omega⟩
  simp only [sheet_Slots.l0]
  rw [if_neg (by omega), index_k, Option.bind_some]
  unfold slotsFin idxR
  cases bad with
  | true => rw [if_pos rfl, slots_j1]; rfl
  | false =>
    rw [if_neg (by decide)]
    cases h : idxOk l with
    | false => rw [if_neg (show ¬ (false = true) by decide), if_neg (show ¬ (false = true) by decide), slots_j1]; rfl
    | true =>
      rw [if_pos rfl, if_pos rfl, slots_j1, toList_ne]
      by_cases h2 : strOfNums (pad (idxL l)) = a
      · rw [decide_eq_true h2]; rfl
      · rw [decide_eq_false h2]; rfl
theorem slots_loop (a : ByteArray) (n : Nat) : ∀ (L : List Int) (bad : Bool) (l : List S41), okB L → l.length + n ≤ 256 → ∃ bad' l', ∀ k, 10 + n ≤ k → sheet_Slots.l0 k a l (n : Int) (strOfNums L) bad = some (slotsFin a bad' l') := by
  induction n with
  | zero =>
    intro L bad l hL hl
    exact ⟨bad, l, fun k hk => slots_end _ _ _ _ k (by omega) _ (by omega)⟩
  | succ n ih =>
    intro L bad l hL hl
    obtain ⟨v1, L1, b1, h1, _, _, e1⟩ := num_ex hL bad 4 4 rfl (by decide)
    obtain ⟨v2, L2, b2, h2, _, _, e2⟩ := num_ex h1 b1 2 2 rfl (by decide)
    obtain ⟨bad', l', e⟩ := ih L2 b2 (l ++ [⟨v1, v2⟩]) h2 (by rw [List.length_append, List.length_singleton]; omega)
    refine ⟨bad', l', fun k hk => ?_⟩
    obtain ⟨k, rfl⟩ : ∃ m, k = m + 1 := ⟨k - 1, by omega⟩
    simp only [sheet_Slots.l0]
    rw [if_pos (by omega), e1 k (by omega), Option.bind_some]
    simp only []
    rw [e2 k (by omega), Option.bind_some]
    simp only []
    rw [if_pos (by omega), show wrap64 (((n + 1 : Nat) : Int) - 1) = (n : Int) from by unfold wrap64; omega]
    exact e k (by omega)
theorem slots_ex (a : ByteArray) : ∃ bad l, ∀ k, 300 ≤ k → sheet_Slots.f k a = some (slotsFin a bad l) := by
  obtain ⟨P0, L0, b0, h0, e0⟩ := take_ex (okB_bytesOf a) false 1 (by decide)
  obtain ⟨v1, L1, b1, h1, p1, q1, e1⟩ := num_ex h0 b0 1 1 rfl (by decide)
  have q1' : v1 < 256 := q1
  obtain ⟨n, rfl⟩ : ∃ n : Nat, v1 = n := ⟨v1.toNat, by omega⟩
  obtain ⟨bad, l, e⟩ := slots_loop a n L1 b1 [] h1 (by simp; omega)
  rw [strOf_bytesOf] at e0
  refine ⟨bad, l, fun k hk => ?_⟩
  unfold sheet_Slots.f
  rw [e0, Option.bind_some]
  simp only []
  rw [e1 k (by omega), Option.bind_some]
  exact e k (by omega)
theorem slots_rest (a : ByteArray) (Z : List Int) (hZ : okB Z) (rest : List S41) : ∀ (l : List S41) (k : Nat), (∀ x ∈ rest, (0 ≤ x.f0 ∧ x.f0 < 4294967296) ∧ 0 ≤ x.f1 ∧ x.f1 < 65536) → l.length + rest.length ≤ 256 → 10 + rest.length ≤ k →
    sheet_Slots.l0 k a l (rest.length : Int) (strOfNums ((rest.map encS).flatten ++ Z)) false = some (slotsFin a false (l ++ rest)) := by
  induction rest with
  | nil =>
    intro l k _ hl hk
    rw [List.append_nil]
    exact slots_end _ _ _ _ k (by omega) _ (by simp)
  | cons x t ih =>
    intro l k hx hl hk
    rw [List.length_cons] at hl hk ⊢
    obtain ⟨k, rfl⟩ : ∃ m, k = m + 1 := ⟨k - 1, by omega⟩
    have hx0 := hx x (List.mem_cons_self ..)
    have okT : okB ((t.map encS).flatten ++ Z) := okB_append.2 ⟨okB_flat _ _ fun y _ => okB_encS y, hZ⟩
    simp only [sheet_Slots.l0]
    rw [if_pos (by omega)]
    have e : ((x :: t).map encS).flatten ++ Z = byL x.f0 4 4 ++ (byL x.f1 2 2 ++ ((t.map encS).flatten ++ Z)) := by
      rw [List.map_cons, List.flatten_cons, encS]; simp only [List.append_assoc]
    rw [e, num_good (okB_byL _ _ _) (okB_append.2 ⟨okB_byL _ _ _, okT⟩) 4 (byL_length _ _ _) 4 rfl (by decide) k (by omega), Option.bind_some]
    simp only []
    rw [num_good (okB_byL _ _ _) okT 2 (byL_length _ _ _) 2 rfl (by decide) k (by omega), Option.bind_some]
    simp only []
    rw [if_pos (by omega), show wrap64 (((t.length + 1 : Nat) : Int) - 1) = (t.length : Int) from by unfold wrap64; omega, rdV4 hx0.1.1 hx0.1.2, rdV2 hx0.2.1 hx0.2.2]
    have := ih (l ++ [x]) k (fun y hy => hx y (List.mem_cons_of_mem _ hy)) (by rw [List.length_append, List.length_singleton]; omega) (by omega)
    rw [List.append_assoc, List.singleton_append] at this
    exact this
theorem okK_range {k a : Int} (h : okK k a = true) : a < k ∧ k ≤ 2147483647 := by unfold okK at h; simp at h; exact h
theorem keys_pos {Ky : Int → Int} {n : Nat} (h : ∀ j : Nat, j < n → okK (Ky j) (ahK Ky j) = true) (j : Nat) (hj : j < n) : 0 ≤ Ky j ∧ Ky j ≤ 2147483647 := by
  induction j with
  | zero =>
    have h0 := okK_range (h 0 hj)
    unfold ahK at h0
    rw [if_pos (by decide)] at h0
    exact ⟨by omega, h0.2⟩
  | succ j ih =>
    have h1 := ih (by omega)
    have h0 := okK_range (h (j + 1) hj)
    unfold ahK at h0
    rw [if_neg (by omega), show ((j + 1 : Nat) : Int) - 1 = (j : Int) by omega] at h0
    omega
theorem mem_rd41 {l : List S41} {x : S41} (h : x ∈ l) : ∃ j : Nat, j < l.length ∧ rd_T41 l (j : Int) = x := by
  obtain ⟨j, hj, rfl⟩ := List.getElem_of_mem h
  refine ⟨j, hj, ?_⟩
  unfold rd_T41
  rw [Int.toNat_natCast, List.getD, List.getElem?_eq_getElem hj]; rfl
theorem slots_back {l : List S41} (h : idxOk l = true) (k : Nat) (hk : 300 ≤ k) : sheet_Slots.f k (strOfNums (pad (idxL l))) = some (l, true) := by
  have h' := h
  unfold idxOk at h'
  rw [Bool.and_eq_true, decide_eq_true_eq] at h'
  obtain ⟨hl, hv⟩ := h'
  unfold idxV at hv
  rw [all_at] at hv
  have hks : ∀ j : Nat, j < l.length → okK ((fun i => (rd_T41 l i).f0) j) (ahK (fun i => (rd_T41 l i).f0) j) = true := fun j hj => by
    have := hv j hj; rw [Bool.and_eq_true] at this; exact this.1
  have hr : ∀ x ∈ l, (0 ≤ x.f0 ∧ x.f0 < 4294967296) ∧ 0 ≤ x.f1 ∧ x.f1 < 65536 := by
    intro x hx
    obtain ⟨j, hj, rfl⟩ := mem_rd41 hx
    have h1 := keys_pos hks j hj
    have h2 := hv j hj
    rw [Bool.and_eq_true] at h2
    have h3 := okP_range h2.2
    simp only [] at h1 h3
    omega
  obtain ⟨Z, okZ, e⟩ : ∃ Z, okB Z ∧ pad (idxL l) = [73] ++ ([(l.length : Int) % 256] ++ ((l.map encS).flatten ++ Z)) :=
    ⟨_, okB_rep (128 - (idxL l).length), by
      unfold pad
      generalize List.replicate (128 - (idxL l).length) (0 : Int) = z
      unfold idxL
      rfl⟩
  have ok2 : okB ((l.map encS).flatten ++ Z) := okB_append.2 ⟨okB_flat _ _ fun y _ => okB_encS y, okZ⟩
  have e1 : sheet_reader_take.f (strOfNums (pad (idxL l))) false 1 = some (strOfNums [73], strOfNums ([(l.length : Int) % 256] ++ ((l.map encS).flatten ++ Z)), false) := by rw [e]; exact take_good 1 rfl 1 rfl
  unfold sheet_Slots.f
  rw [e1, Option.bind_some]
  simp only []
  rw [num_good (okB_one _) ok2 1 rfl 1 rfl (by decide) k (by omega), Option.bind_some]
  simp only []
  rw [rdV_one _ (by omega), slots_rest _ Z okZ l [] k hr (by simp; omega) (by omega), List.nil_append]
  unfold slotsFin
  rw [h, decide_eq_true rfl]; rfl
theorem slots_fb {a : ByteArray} {bad : Bool} {l : List S41} (h : (slotsFin a bad l).2 = true) : fb a = some 73 := by
  unfold slotsFin at h
  split at h
  · rename_i h1
    simp only [Bool.and_eq_true, decide_eq_true_eq] at h1
    rw [← h1.2.2]
    exact fb_pad (okB_idxL l)
  · cases h
def encC (x : S52) : List Int := byL x.f0 4 4 ++ (byL x.f1 2 2 ++ (bytesOf x.f3 ++ lfT x.f1 x.f2))
def leafL (l : List S52) : List Int := [76, (l.length : Int) % 256] ++ (l.map encC).flatten
def leafV (l : List S52) : Bool := lfV (fun i => (rd_T52 l i).f0) (fun i => (rd_T52 l i).f1) (fun i => (rd_T52 l i).f2) (fun i => (rd_T52 l i).f3) l.length
def leafOk (l : List S52) : Bool := decide (l.length ≤ 128) && (leafV l && decide ((leafL l).length ≤ 128))
theorem leafL_is (l : List S52) : lfB (fun i => (rd_T52 l i).f0) (fun i => (rd_T52 l i).f1) (fun i => (rd_T52 l i).f2) (fun i => (rd_T52 l i).f3) l.length l.length = leafL l := by
  unfold lfB leafL
  rw [← range_map l z52 encC]; rfl
theorem okB_lfT (a b : Int) : okB (lfT a b) := by
  unfold lfT; split
  · exact okB_byL _ _ _
  · intro x hx; cases hx
theorem okB_encC (x : S52) : okB (encC x) := okB_append.2 ⟨okB_byL _ _ _, okB_append.2 ⟨okB_byL _ _ _, okB_append.2 ⟨okB_bytesOf _, okB_lfT _ _⟩⟩⟩
theorem okB_leafL (l : List S52) : okB (leafL l) := by
  refine okB_append.2 ⟨?_, okB_flat _ _ fun x _ => okB_encC x⟩
  intro y hy
  rcases List.mem_cons.1 hy with h | h
  · rw [h]; decide
  · rw [List.mem_singleton] at h; omega
def leafR (l : List S52) : ByteArray × Bool := if leafOk l = true then (strOfNums (pad (leafL l)), true) else (⟨#[]⟩, false)
theorem leaf_k (l : List S52) : sheet_Leaf.f l = some (leafR l) := by
  unfold sheet_Leaf.f leafR leafOk lfA
  by_cases h : l.length ≤ 128
  · rw [if_pos h, decide_eq_true h, Bool.true_and]
    cases h2 : leafV l with
    | true =>
      have h2' := h2
      unfold leafV at h2'
      rw [if_pos h2', fullA_k, leafL_is, Bool.true_and]
      by_cases h3 : (leafL l).length ≤ 128
      · rw [if_pos h3, decide_eq_true h3]; rfl
      · rw [if_neg h3, decide_eq_false h3]; rfl
    | false =>
      have h2' := h2
      unfold leafV at h2'
      rw [h2']; rfl
  · rw [if_neg h, decide_eq_false h]; rfl
def cellsFin (a : ByteArray) (bad : Bool) (l : List S52) : List S52 × Bool := if (!bad && (leafOk l && decide (strOfNums (pad (leafL l)) = a))) = true then (l, true) else ([], false)
theorem cells_j2 (l : List S52) (b : Bool) (k : Nat) : sheet_Cells.j2 (k + 1) l b = some (if b = true then ([], false) else (l, true)) := by
  simp only [sheet_Cells.j2]; split <;> rfl
theorem cells_end (a s : ByteArray) (bad : Bool) (l : List S52) (k : Nat) (hk : 2 ≤ k) (n : Int) (hn : n ≤ 0) : sheet_Cells.l0 k a l n s bad = some (cellsFin a bad l) := by
  obtain ⟨k, rfl⟩ : ∃ m, k = m + 2 := ⟨k - 2, by omega⟩
  simp only [sheet_Cells.l0]
  rw [if_neg (by omega), leaf_k, Option.bind_some]
  unfold cellsFin leafR
  cases bad with
  | true => rw [if_pos rfl, cells_j2]; rfl
  | false =>
    rw [if_neg (by decide)]
    cases h : leafOk l with
    | false => rw [if_neg (show ¬ (false = true) by decide), if_neg (show ¬ (false = true) by decide), cells_j2]; rfl
    | true =>
      rw [if_pos rfl, if_pos rfl, cells_j2, toList_ne]
      by_cases h2 : strOfNums (pad (leafL l)) = a
      · rw [decide_eq_true h2]; rfl
      · rw [decide_eq_false h2]; rfl
theorem cells_j1 (a s : ByteArray) (bad : Bool) (l : List S52) (n : Nat) (hl : l.length ≤ 1000) (v0 v1 v2 : Int) (v3 : ByteArray) (k : Nat) : n ≤ 1000 → sheet_Cells.j1 (k + 1) a l ((n + 1 : Nat) : Int) s bad v0 v1 v2 v3 = sheet_Cells.l0 k a (l ++ [⟨v0, v1, v2, v3⟩]) (n : Int) s bad := by
  intro hn
  simp only [sheet_Cells.j1]
  rw [if_pos (by omega), show wrap64 (((n + 1 : Nat) : Int) - 1) = (n : Int) from by unfold wrap64; omega]
theorem cells_loop (a : ByteArray) (n : Nat) : ∀ (L : List Int) (bad : Bool) (l : List S52), okB L → l.length + n ≤ 256 → ∃ bad' l', ∀ k, 10 + 2 * n ≤ k → sheet_Cells.l0 k a l (n : Int) (strOfNums L) bad = some (cellsFin a bad' l') := by
  induction n with
  | zero =>
    intro L bad l hL hl
    exact ⟨bad, l, fun k hk => cells_end _ _ _ _ k (by omega) _ (by omega)⟩
  | succ n ih =>
    intro L bad l hL hl
    obtain ⟨v1, L1, b1, h1, _, _, e1⟩ := num_ex hL bad 4 4 rfl (by decide)
    obtain ⟨v2, L2, b2, h2, p2, _, e2⟩ := num_ex h1 b1 2 2 rfl (by decide)
    by_cases hs : v2 ≤ 24
    · obtain ⟨P3, L3, b3, h3, e3⟩ := take_ex h2 b2 v2 p2
      obtain ⟨bad', l', e⟩ := ih L3 b3 (l ++ [⟨v1, v2, 0, P3⟩]) h3 (by rw [List.length_append, List.length_singleton]; omega)
      refine ⟨bad', l', fun k hk => ?_⟩
      obtain ⟨k, rfl⟩ : ∃ m, k = m + 2 := ⟨k - 2, by omega⟩
      simp only [sheet_Cells.l0]
      rw [if_pos (by omega), e1 (k + 1) (by omega), Option.bind_some]
      simp only []
      rw [e2 (k + 1) (by omega), Option.bind_some]
      simp only []
      rw [if_pos hs, e3, Option.bind_some]
      simp only []
      rw [cells_j1 _ _ _ _ n (by omega) _ _ _ _ k (by omega)]
      exact e k (by omega)
    · obtain ⟨v3, L3, b3, h3, _, _, e3⟩ := num_ex h2 b2 2 2 rfl (by decide)
      obtain ⟨bad', l', e⟩ := ih L3 b3 (l ++ [⟨v1, v2, v3, ⟨#[]⟩⟩]) h3 (by rw [List.length_append, List.length_singleton]; omega)
      refine ⟨bad', l', fun k hk => ?_⟩
      obtain ⟨k, rfl⟩ : ∃ m, k = m + 2 := ⟨k - 2, by omega⟩
      simp only [sheet_Cells.l0]
      rw [if_pos (by omega), e1 (k + 1) (by omega), Option.bind_some]
      simp only []
      rw [e2 (k + 1) (by omega), Option.bind_some]
      simp only []
      rw [if_neg hs, e3 (k + 1) (by omega), Option.bind_some]
      simp only []
      rw [cells_j1 _ _ _ _ n (by omega) _ _ _ _ k (by omega)]
      exact e k (by omega)
theorem cells_ex (a : ByteArray) : ∃ bad l, ∀ k, 600 ≤ k → sheet_Cells.f k a = some (cellsFin a bad l) := by
  obtain ⟨P0, L0, b0, h0, e0⟩ := take_ex (okB_bytesOf a) false 1 (by decide)
  obtain ⟨v1, L1, b1, h1, p1, q1, e1⟩ := num_ex h0 b0 1 1 rfl (by decide)
  have q1' : v1 < 256 := q1
  obtain ⟨n, rfl⟩ : ∃ n : Nat, v1 = n := ⟨v1.toNat, by omega⟩
  obtain ⟨bad, l, e⟩ := cells_loop a n L1 b1 [] h1 (by simp; omega)
  rw [strOf_bytesOf] at e0
  refine ⟨bad, l, fun k hk => ?_⟩
  unfold sheet_Cells.f
  rw [e0, Option.bind_some]
  simp only []
  rw [e1 k (by omega), Option.bind_some]
  exact e k (by omega)
def goodC (x : S52) : Prop := (0 ≤ x.f0 ∧ x.f0 < 4294967296) ∧ okR x.f1 x.f2 x.f3 = true
theorem cells_rest (a : ByteArray) (Z : List Int) (hZ : okB Z) (rest : List S52) : ∀ (l : List S52) (k : Nat), (∀ x ∈ rest, goodC x) → l.length + rest.length ≤ 256 → 10 + 2 * rest.length ≤ k →
    sheet_Cells.l0 k a l (rest.length : Int) (strOfNums ((rest.map encC).flatten ++ Z)) false = some (cellsFin a false (l ++ rest)) := by
  induction rest with
  | nil =>
    intro l k _ hl hk
    rw [List.append_nil]
    exact cells_end _ _ _ _ k (by omega) _ (by simp)
  | cons x t ih =>
    intro l k hx hl hk
    rw [List.length_cons] at hl hk ⊢
    obtain ⟨k, rfl⟩ : ∃ m, k = m + 2 := ⟨k - 2, by omega⟩
    obtain ⟨hx0, hx1⟩ := hx x (List.mem_cons_self ..)
    have okT : okB ((t.map encC).flatten ++ Z) := okB_append.2 ⟨okB_flat _ _ fun y _ => okB_encC y, hZ⟩
    have hr := ih (l ++ [x]) k (fun y hy => hx y (List.mem_cons_of_mem _ hy)) (by rw [List.length_append, List.length_singleton]; omega) (by omega)
    rw [List.append_assoc, List.singleton_append] at hr
    obtain ⟨f0, f1, f2, f3⟩ := x
    simp only [] at hx0 hx1
    have e : ((⟨f0, f1, f2, f3⟩ :: t : List S52).map encC).flatten ++ Z = byL f0 4 4 ++ (byL f1 2 2 ++ (bytesOf f3 ++ (lfT f1 f2 ++ ((t.map encC).flatten ++ Z)))) := by
      rw [List.map_cons, List.flatten_cons, encC]; simp only [List.append_assoc]
    have okU : okB (lfT f1 f2 ++ ((t.map encC).flatten ++ Z)) := okB_append.2 ⟨okB_lfT _ _, okT⟩
    have okW : okB (bytesOf f3 ++ (lfT f1 f2 ++ ((t.map encC).flatten ++ Z))) := okB_append.2 ⟨okB_bytesOf _, okU⟩
    simp only [sheet_Cells.l0]
    rw [if_pos (by omega)]
    rw [e, num_good (okB_byL _ _ _) (okB_append.2 ⟨okB_byL _ _ _, okW⟩) 4 (byL_length _ _ _) 4 rfl (by decide) (k + 1) (by omega), Option.bind_some]
    simp only []
    rw [num_good (okB_byL _ _ _) okW 2 (byL_length _ _ _) 2 rfl (by decide) (k + 1) (by omega), Option.bind_some]
    simp only []
    unfold okR at hx1
    by_cases hs : f1 ≤ 24
    · rw [if_pos hs] at hx1
      simp only [Bool.and_eq_true, decide_eq_true_eq, beq_iff_eq] at hx1
      obtain ⟨h3, rfl⟩ := hx1
      rw [rdV4 hx0.1 hx0.2, rdV2 (by omega) (by omega), if_pos hs]
      rw [take_good f3.size (bytesOf_len f3) f1 h3.symm, Option.bind_some]
      simp only []
      rw [cells_j1 _ _ _ _ t.length (by omega) _ _ _ _ k (by omega), strOf_bytesOf]
      have : lfT f1 0 = [] := by unfold lfT; rw [if_neg (by omega)]
      rw [this, List.nil_append]
      exact hr
    · rw [if_neg hs] at hx1
      simp only [Bool.and_eq_true, decide_eq_true_eq] at hx1
      obtain ⟨h9, rfl, hp⟩ := hx1
      have hp := okP_range hp
      rw [rdV4 hx0.1 hx0.2, rdV2 (by omega) (by omega), if_neg hs]
      have e2 : bytesOf (⟨#[]⟩ : ByteArray) ++ (lfT f1 f2 ++ ((t.map encC).flatten ++ Z)) = byL f2 2 2 ++ ((t.map encC).flatten ++ Z) := by
        unfold lfT; rw [if_pos (by omega)]; rfl
      rw [e2, num_good (okB_byL _ _ _) okT 2 (byL_length _ _ _) 2 rfl (by decide) (k + 1) (by omega), Option.bind_some]
      simp only []
      rw [cells_j1 _ _ _ _ t.length (by omega) _ _ _ _ k (by omega), rdV2 (by omega) (by omega)]
      exact hr
theorem mem_rd52 {l : List S52} {x : S52} (h : x ∈ l) : ∃ j : Nat, j < l.length ∧ rd_T52 l (j : Int) = x := by
  obtain ⟨j, hj, rfl⟩ := List.getElem_of_mem h
  refine ⟨j, hj, ?_⟩
  unfold rd_T52
  rw [Int.toNat_natCast, List.getD, List.getElem?_eq_getElem hj]; rfl
theorem cells_back {l : List S52} (h : leafOk l = true) (k : Nat) (hk : 600 ≤ k) : sheet_Cells.f k (strOfNums (pad (leafL l))) = some (l, true) := by
  have h' := h
  unfold leafOk at h'
  rw [Bool.and_eq_true, Bool.and_eq_true, decide_eq_true_eq] at h'
  obtain ⟨hl, hv, _⟩ := h'
  unfold leafV lfV at hv
  rw [all_at] at hv
  have hks : ∀ j : Nat, j < l.length → okK ((fun i => (rd_T52 l i).f0) j) (ahK (fun i => (rd_T52 l i).f0) j) = true := fun j hj => by
    have := hv j hj; rw [Bool.and_eq_true] at this; exact this.1
  have hr : ∀ x ∈ l, goodC x := by
    intro x hx
    obtain ⟨j, hj, rfl⟩ := mem_rd52 hx
    have h1 := keys_pos hks j hj
    have h2 := hv j hj
    rw [Bool.and_eq_true] at h2
    try simp only [] at h1
    exact ⟨by omega, h2.2⟩
  obtain ⟨Z, okZ, e⟩ : ∃ Z, okB Z ∧ pad (leafL l) = [76] ++ ([(l.length : Int) % 256] ++ ((l.map encC).flatten ++ Z)) :=
    ⟨_, okB_rep (128 - (leafL l).length), by
      unfold pad
      generalize List.replicate (128 - (leafL l).length) (0 : Int) = z
      unfold leafL
      rfl⟩
  have ok2 : okB ((l.map encC).flatten ++ Z) := okB_append.2 ⟨okB_flat _ _ fun y _ => okB_encC y, okZ⟩
  have e1 : sheet_reader_take.f (strOfNums (pad (leafL l))) false 1 = some (strOfNums [76], strOfNums ([(l.length : Int) % 256] ++ ((l.map encC).flatten ++ Z)), false) := by rw [e]; exact take_good 1 rfl 1 rfl
  unfold sheet_Cells.f
  rw [e1, Option.bind_some]
  simp only []
  rw [num_good (okB_one _) ok2 1 rfl 1 rfl (by decide) k (by omega), Option.bind_some]
  simp only []
  rw [rdV_one _ (by omega), cells_rest _ Z okZ l [] k hr (by simp; omega) (by omega), List.nil_append]
  unfold cellsFin
  rw [h, decide_eq_true rfl]; rfl
theorem cells_fb {a : ByteArray} {bad : Bool} {l : List S52} (h : (cellsFin a bad l).2 = true) : fb a = some 76 := by
  unfold cellsFin at h
  split at h
  · rename_i h1
    simp only [Bool.and_eq_true, decide_eq_true_eq] at h1
    rw [← h1.2.2]
    exact fb_pad (okB_leafL l)
  · cases h
theorem page_ex (a : ByteArray) (ha : a.size ≤ 1000000) : ∃ (s : List S41 × Bool) (c : List S52 × Bool) (l : Int × ByteArray × Bool),
    (∀ k, 600 ≤ k → sheet_Slots.f k a = some s) ∧ (∀ k, 600 ≤ k → sheet_Cells.f k a = some c) ∧ (∀ k, 600 ≤ k → sheet_Link.f k a = some l) ∧
    (∀ k, 600 ≤ k → sheet_Kind.f k a = some (if s.2 = true then 73 else if c.2 = true then 76 else if l.2.2 = true then 67 else 0)) ∧
    (s.2 = true → fb a = some 73) ∧ (c.2 = true → fb a = some 76) ∧ (l.2.2 = true → fb a = some 67) := by
  obtain ⟨b1, l1, e1⟩ := slots_ex a
  obtain ⟨b2, l2, e2⟩ := cells_ex a
  obtain ⟨b3, nx, pc, e3⟩ := link_ex a ha
  refine ⟨slotsFin a b1 l1, cellsFin a b2 l2, linkFin a b3 nx pc, fun k hk => e1 k (by omega), fun k hk => e2 k (by omega), fun k hk => e3 k (by omega), fun k hk => ?_, slots_fb, cells_fb, link_fb⟩
  unfold sheet_Kind.f
  rw [e1 k (by omega), e2 k (by omega), e3 k (by omega), Option.bind_some, Option.bind_some, Option.bind_some]
  split
  · rfl
  · split
    · rfl
    · split <;> rfl
set_option maxRecDepth 100000 in
theorem alive_60 : maquettelaw15_alive.f 60 = some true := by decide +kernel
theorem alive_k (k : Nat) (hk : 60 ≤ k) : maquettelaw15_alive.f k = some true := by
  induction k with
  | zero => omega
  | succ k ih =>
    by_cases h : k + 1 = 60
    · rw [h]; exact alive_60
    · exact maquettelaw15_alive.mono k _ (ih (by omega))
end Go.Proofs.Ytlgmabibcpkdmaa.PAll
end
section
namespace Go.Proofs.Ytlgmabibcpkdmaa.PAll
open Go.RowKit Go.Proofs.YtlgmabibcpkdmaaW.PrintWords Go.Proofs.YtlgmabibcpkdmaaW.PrintLast Go.Proofs.YtlgmabibcpkdmaaW.PrintMore
set_option linter.unusedSimpArgs false
set_option linter.unusedVariables false
theorem toList_inj_iff {a b : ByteArray} : a.toList = b.toList ↔ a = b := by
  constructor
  · intro h
    rw [ByteArray.toList_eq, ByteArray.toList_eq] at h
    cases a; cases b; congr 1; exact Array.toList_inj.1 h
  · rintro rfl; rfl
def cvC (x : S52) : S79 := ⟨x.f0, x.f1, x.f2, x.f3⟩
theorem rd52_at {l : List S52} {i : Nat} (h : i < l.length) : rd_T52 l (i : Int) = l[i] := by
  unfold rd_T52
  rw [Int.toNat_natCast, List.getD, List.getElem?_eq_getElem h]; rfl
theorem rd79_at {l : List S79} {i : Nat} (h : i < l.length) : rd_T79 l (i : Int) = l[i] := by
  unfold rd_T79
  rw [Int.toNat_natCast, List.getD, List.getElem?_eq_getElem h]; rfl
theorem cells_lp (l : List S52) (hl : l.length ≤ 1000000) (d : Nat) : ∀ (k i : Nat), l.length - i = d → i ≤ l.length → d < k → maquettelaw15_cells.l0 k ((l.take i).map cvC) l (l.length : Int) (i : Int) = some (l.map cvC) := by
  induction d with
  | zero =>
    intro k i hd hi hk
    obtain ⟨k, rfl⟩ : ∃ m, k = m + 1 := ⟨k - 1, by omega⟩
    simp only [maquettelaw15_cells.l0]
    rw [if_neg (by omega), List.take_of_length_le (by omega)]
  | succ d ih =>
    intro k i hd hi hk
    obtain ⟨k, rfl⟩ : ∃ m, k = m + 1 := ⟨k - 1, by omega⟩
    have hlt : i < l.length := by omega
    have h := ih k (i + 1) (by omega) (by omega) (by omega)
    simp only [maquettelaw15_cells.l0]
    rw [if_pos (by omega), if_pos (by omega), if_pos (by omega), if_pos (by rw [List.length_map, List.length_take]; omega), show wrap64 ((i : Int) + 1) = ((i + 1 : Nat) : Int) from by unfold wrap64; omega, rd52_at hlt]
    rw [List.take_succ_eq_append_getElem hlt, List.map_append] at h
    exact h
theorem cells_k (l : List S52) (hl : l.length ≤ 1000000) (k : Nat) (hk : l.length < k) : maquettelaw15_cells.f k l = some (l.map cvC) := by
  unfold maquettelaw15_cells.f
  exact cells_lp l hl l.length k 0 (by omega) (by omega) hk
theorem cond79 (x y : S79) : (!((x.f0) == (y.f0)) || (!((x.f1) == (y.f1)) || (!((x.f2) == (y.f2)) || (!(((x.f3).toList) == ((y.f3).toList)))))) = true ↔ x ≠ y := by
  obtain ⟨x0, x1, x2, x3⟩ := x
  obtain ⟨y0, y1, y2, y3⟩ := y
  simp only [ne_eq, S79.mk.injEq, Bool.or_eq_true, Bool.not_eq_true', beq_eq_false_iff_ne, toList_inj_iff]
  by_cases h0 : x0 = y0
  · by_cases h1 : x1 = y1
    · by_cases h2 : x2 = y2
      · simp [h0, h1, h2]
      · simp [h2]
    · simp [h1]
  · simp [h0]
theorem sameCells_loop (m t : List S79) (ht : t.length ≤ 1000000) (d : Nat) : ∀ (k i : Nat), t.length - i = d → i ≤ t.length → i ≤ m.length → d < k → ∃ b, maquettelaw15_sameCells.l0 k m t (t.length : Int) (i : Int) = some b ∧ (b = true ↔ t.drop i = m.drop i) := by
  induction d with
  | zero =>
    intro k i hd hi hm hk
    obtain ⟨k, rfl⟩ : ∃ m, k = m + 1 := ⟨k - 1, by omega⟩
    simp only [maquettelaw15_sameCells.l0]
    rw [if_neg (by omega)]
    refine ⟨_, rfl, ?_⟩
    rw [beq_iff_eq, List.drop_of_length_le (show t.length ≤ i by omega)]
    constructor
    · intro h; rw [List.drop_of_length_le (by omega)]
    · intro h
      have := congrArg List.length h
      rw [List.length_drop, List.length_nil] at this
      omega
  | succ d ih =>
    intro k i hd hi hm hk
    obtain ⟨k, rfl⟩ : ∃ m, k = m + 1 := ⟨k - 1, by omega⟩
    have hlt : i < t.length := by omega
    simp only [maquettelaw15_sameCells.l0]
    rw [if_pos (by omega)]
    by_cases h1 : m.length ≤ i
    · rw [if_pos (by omega)]
      refine ⟨false, rfl, ?_⟩
      constructor
      · intro h; cases h
      · intro h
        have := congrArg List.length h
        rw [List.length_drop, List.length_drop] at this
        omega
    · have hlm : i < m.length := by omega
      rw [if_neg (by omega), if_pos (by omega), if_pos (by omega), if_pos (by omega)]
      by_cases hc : t[i] = m[i]
      · rw [if_neg (by rw [cond79, rd79_at hlt, rd79_at hlm]; exact fun h => h hc), show wrap64 ((i : Int) + 1) = ((i + 1 : Nat) : Int) from by unfold wrap64; omega]
        obtain ⟨b, e, hb⟩ := ih k (i + 1) (by omega) (by omega) (by omega) (by omega)
        refine ⟨b, e, ?_⟩
        rw [hb, List.drop_eq_getElem_cons hlt, List.drop_eq_getElem_cons hlm, hc]
        constructor
        · intro h; rw [h]
        · intro h; injection h
      · rw [if_pos (by rw [cond79, rd79_at hlt, rd79_at hlm]; exact hc)]
        refine ⟨false, rfl, ?_⟩
        constructor
        · intro h; cases h
        · intro h
          rw [List.drop_eq_getElem_cons hlt, List.drop_eq_getElem_cons hlm] at h
          injection h with h _
          exact absurd h hc
theorem sameCells_k (l : List S52) (m : List S79) (hl : l.length ≤ 1000000) (k : Nat) (hk : l.length < k) : ∃ b, maquettelaw15_sameCells.f k l m = some b ∧ (b = true ↔ l.map cvC = m) := by
  unfold maquettelaw15_sameCells.f
  rw [cells_k l hl k hk, Option.bind_some]
  have := sameCells_loop m (l.map cvC) (by rw [List.length_map]; exact hl) l.length k 0 (by rw [List.length_map]; rfl) (by omega) (by omega) hk
  simpa using this
end Go.Proofs.Ytlgmabibcpkdmaa.PAll
end
