/- The sheet's pages, plain: what is written is read as it was; what is read was written so. -/
import Derived.Test.YtlgmabibcpkdmaaPAllx6
import Derived.Test.YtlgmabibcpkdmaaC1
namespace Go.Proofs.Ytlgmabibcpkdmaa.PAll
open Go.RowKit Go.Proofs.YtlgmabibcpkdmaaW.PrintWords Go.Proofs.YtlgmabibcpkdmaaW.PrintLast Go.Proofs.YtlgmabibcpkdmaaW.PrintMore
open Go.Proofs.Ytlgmabibcpkdmaa.V (byI byL byL_length byL_snoc strOf_bytesOf strOf_append okK okP okR ahK idxV idxB idxA lfT lfV lfB lfA lfT_length okR_size all_at fullA zer)
set_option linter.unusedSimpArgs false
set_option linter.unusedVariables false

/-! ### numbers that are read -/
theorem fold_range (L : List Int) : ∀ (v : Int) (m : Nat), okB L → 0 ≤ v → v < 256 ^ m → m + L.length ≤ 6 → 0 ≤ L.foldl vst v ∧ L.foldl vst v < 256 ^ (m + L.length) := by
  induction L with
  | nil => intro v m _ h0 h1 _; exact ⟨h0, h1⟩
  | cons b t ih =>
    intro v m h h0 h1 hl
    rw [List.length_cons] at hl
    have hb := h b (List.mem_cons_self ..)
    have hp : (256 : Int) ^ m ≤ 281474976710656 := by
      have h := Int.ofNat_le.2 (Nat.pow_le_pow_right (n := 256) (by decide) (show m ≤ 6 by omega))
      rw [Int.natCast_pow] at h
      exact h
    rw [List.foldl_cons, vst_plain h0 (by omega) hb.1 hb.2]
    have := ih (v * 256 + b) (m + 1) (fun x hx => h x (List.mem_cons_of_mem _ hx)) (by omega) (by rw [Int.pow_succ]; omega) (by omega)
    rw [List.length_cons, show m + (t.length + 1) = m + 1 + t.length by omega]
    exact this
theorem rdV_range {L : List Int} (h : okB L) (hl : L.length ≤ 6) : 0 ≤ rdV L ∧ rdV L < 256 ^ L.length := by
  have := fold_range L 0 0 h (by decide) (by decide) (by omega)
  rwa [Nat.zero_add] at this
theorem num_ex {L : List Int} (hL : okB L) (bad : Bool) (n : Nat) (m : Int) (hm : m = n) (hn : n ≤ 6) : ∃ v L' b', okB L' ∧ 0 ≤ v ∧ v < 256 ^ n ∧ ∀ k, n < k → sheet_reader_num.f k (strOfNums L) bad m = some (v, strOfNums L', b') := by
  subst hm
  have hp : (0 : Int) < 256 ^ n := Int.pow_pos (by decide)
  refine ⟨_, _, _, rn_ok hL bad n, ?_, ?_, fun k hk => num_k hL bad n (by omega) k hk⟩
  · unfold rn
    split
    · exact Int.le_refl _
    · split
      · exact Int.le_refl _
      · exact (rdV_range (okB_take hL n) (by rw [List.length_take]; omega)).1
  · unfold rn
    split
    · exact hp
    · split
      · exact hp
      · rename_i h1 h2
        have := (rdV_range (okB_take hL n) (by rw [List.length_take]; omega)).2
        rwa [show (L.take n).length = n by rw [List.length_take]; omega] at this
theorem take_ex {L : List Int} (hL : okB L) (bad : Bool) (m : Int) (hm : 0 ≤ m) : ∃ P L' b', okB L' ∧ sheet_reader_take.f (strOfNums L) bad m = some (P, strOfNums L', b') := by
  obtain ⟨n, rfl⟩ : ∃ n : Nat, m = n := ⟨m.toNat, by omega⟩
  rw [take_k]
  split
  · exact ⟨_, _, _, hL, rfl⟩
  · split
    · exact ⟨_, _, _, hL, rfl⟩
    · exact ⟨_, _, _, okB_drop hL n, rfl⟩
theorem num_good {A B : List Int} (hA : okB A) (hB : okB B) (n : Nat) (h : A.length = n) (m : Int) (hm : m = n) (hn : n ≤ 100) (k : Nat) (hk : n < k) : sheet_reader_num.f k (strOfNums (A ++ B)) false m = some (rdV A, strOfNums B, false) := by
  subst hm
  rw [num_k (okB_append.2 ⟨hA, hB⟩) false n (by omega) k hk, rn_good n h]
theorem take_good {A B : List Int} (n : Nat) (h : A.length = n) (m : Int) (hm : m = n) : sheet_reader_take.f (strOfNums (A ++ B)) false m = some (strOfNums A, strOfNums B, false) := by
  subst hm
  rw [take_k, if_neg (by decide), if_neg (by rw [List.length_append]; omega), List.take_left' h, List.drop_left' h]

/-! ### pages -/
def pad (l : List Int) : List Int := l ++ List.replicate (128 - l.length) 0
theorem pad_length {l : List Int} (h : l.length ≤ 128) : (pad l).length = 128 := by unfold pad; simp; omega
theorem okB_rep (n : Nat) : okB (List.replicate n 0) := fun x hx => by
  obtain ⟨_, rfl⟩ := List.mem_replicate.1 hx; decide
theorem okB_pad {l : List Int} (h : okB l) : okB (pad l) := okB_append.2 ⟨h, okB_rep _⟩
theorem zer_is (n : Nat) : zer n = strOfNums (List.replicate n 0) := by
  unfold zer
  cases h : strOfNums (List.replicate n 0) with
  | mk d =>
    congr 1
    have := strOfNums_data (List.replicate n 0)
    rw [h, List.map_replicate] at this
    exact Array.toList_inj.1 (by rw [this]; first | rfl | simp)
theorem fullA_k (l : List Int) : fullA (strOfNums l) = if l.length ≤ 128 then (strOfNums (pad l), true) else (⟨#[]⟩, false) := by
  unfold fullA
  rw [strOfNums_size]
  split
  · rw [zer_is, strOf_append]; rfl
  · rfl
theorem pad_cons (x : Int) (t : List Int) : pad (x :: t) = x :: (t ++ List.replicate (128 - (t.length + 1)) 0) := rfl
/-- the first byte -/
def fb (a : ByteArray) : Option Int := (bytesOf a).head?
theorem fb_pad {x : Int} {t : List Int} (h : okB (x :: t)) : fb (strOfNums (pad (x :: t))) = some x := by
  unfold fb
  rw [bytesOf_strOf (okB_pad h)]; rfl
theorem toList_ne {a b : ByteArray} : (a.toList != b.toList) = !decide (a = b) := by
  rw [ByteArray.toList_eq, ByteArray.toList_eq]
  by_cases h : a = b
  · subst h; simp
  · rw [decide_eq_false h, Bool.not_false, bne_iff_ne]
    intro h2; apply h
    cases a; cases b; congr 1; exact Array.toList_inj.1 h2
theorem toList_nil_iff {a : ByteArray} : a.toList = [] ↔ a.size = 0 := by
  rw [ByteArray.toList_eq]
  constructor
  · intro h
    have := congrArg List.length h
    rw [Array.length_toList] at this
    exact this
  · intro h
    apply List.length_eq_zero_iff.1
    rw [Array.length_toList]
    exact h

/-! ### numbers that are written -/
theorem number_loop (x : Int) (n : Nat) (hn : n ≤ 8) (d : Nat) : ∀ (k j : Nat), n - j = d → j ≤ n → d < k → sheet_number.l0 k x ((n : Int) - 1 - (j : Int)) (byL x n j) = some (strOfNums (byL x n n)) := by
  induction d with
  | zero =>
    intro k j hd hj hk
    obtain ⟨k, rfl⟩ : ∃ m, k = m + 1 := ⟨k - 1, by omega⟩
    have : j = n := by omega
    subst this
    simp only [sheet_number.l0]
    rw [if_neg (by omega)]
  | succ d ih =>
    intro k j hd hj hk
    obtain ⟨k, rfl⟩ : ∃ m, k = m + 1 := ⟨k - 1, by omega⟩
    simp only [sheet_number.l0]
    rw [if_pos (by omega), if_pos (by unfold wrap64; omega), if_pos (by rw [byL_length]; omega), show wrap64 ((n : Int) - 1 - (j : Int) - 1) = (n : Int) - 1 - ((j + 1 : Nat) : Int) from by unfold wrap64; omega]
    have h := ih k (j + 1) (by omega) (by omega) (by omega)
    rw [byL_snoc] at h
    exact h
theorem number_f (x : Int) (n : Nat) (hn : n ≤ 8) (k : Nat) (hk : 10 ≤ k) : sheet_number.f k x (n : Int) = some (strOfNums (byL x n n)) := by
  unfold sheet_number.f
  have h := number_loop x n hn n k 0 (by omega) (by omega) (by omega)
  rw [show wrap64 ((n : Int) - 1) = (n : Int) - 1 - ((0 : Nat) : Int) from by unfold wrap64; omega]
  exact h
theorem page_f (p : Int) : sheet_page.f p = some (okP p) := by
  unfold sheet_page.f okP
  by_cases h : p ≥ 2
  · rw [if_pos h, decide_eq_true (show 2 ≤ p from h)]; rfl
  · rw [if_neg h, decide_eq_false (show ¬ 2 ≤ p from h)]; rfl

/-! ### chains -/
def chL (nx : Int) (b : ByteArray) : List Int := [67] ++ (byL nx 2 2 ++ ([(b.size : Int) % 256] ++ bytesOf b))
def chOk (nx : Int) (b : ByteArray) : Bool := (decide (nx = 0) || okP nx) && (decide (1 ≤ b.size) && decide (b.size ≤ 120))
theorem bytesOf_len (b : ByteArray) : (bytesOf b).length = b.size := by unfold bytesOf; rw [List.length_map, Array.length_toList]; rfl
theorem chL_length (nx : Int) (b : ByteArray) : (chL nx b).length = 4 + b.size := by
  unfold chL; simp only [List.length_append, List.length_singleton, byL_length, bytesOf_len]; omega
theorem okB_chL (nx : Int) (b : ByteArray) : okB (chL nx b) := by
  unfold chL
  refine okB_append.2 ⟨by intro x hx; simp at hx; omega, okB_append.2 ⟨okB_byL _ _ _, okB_append.2 ⟨by intro x hx; simp at hx; omega, okB_bytesOf b⟩⟩⟩
theorem chain_j0 (nx : Int) (b : ByteArray) (bad : Bool) (hs : b.size ≤ 100000000) (k : Nat) (hk : 11 ≤ k) : sheet_Chain.j0 k nx b bad = some (if bad = true then (⟨#[]⟩, false) else if b.size ≤ 124 then (strOfNums (pad (chL nx b)), true) else (⟨#[]⟩, false)) := by
  obtain ⟨k, rfl⟩ : ∃ m, k = m + 1 := ⟨k - 1, by omega⟩
  simp only [sheet_Chain.j0]
  cases bad with
  | true => rfl
  | false =>
    rw [if_neg (by decide), if_neg (by decide), Option.bind_some, show (2 : Int) = ((2 : Nat) : Int) from rfl, number_f _ 2 (by decide) _ (by omega), Option.bind_some]
    have l2 := byL_length nx ((2 : Nat) : Int) 2
    rw [if_pos (by rw [strOfNums_size, strOfNums_size, l2, List.length_singleton]; omega), Option.bind_some,
      if_pos (by rw [ByteArray.size_append, strOfNums_size, strOfNums_size, strOfNums_size, l2, List.length_singleton, List.length_singleton]; omega),
      if_pos (by rw [ByteArray.size_append, ByteArray.size_append, strOfNums_size, strOfNums_size, strOfNums_size, l2, List.length_singleton, List.length_singleton]; omega)]
    have e : ((strOfNums [67] ++ strOfNums (byL nx ((2 : Nat) : Int) 2)) ++ strOfNums [(b.size : Int) % 256]) ++ b = strOfNums (chL nx b) := by
      conv => lhs; rw [← strOf_bytesOf b]
      simp only [strOf_append]
      unfold chL
      rw [strOf_bytesOf]
      simp only [List.append_assoc]
      rfl
    rw [e]
    unfold sheet_full.f
    rw [fullA_k, chL_length, Option.bind_some]
    by_cases h : b.size ≤ 124
    · rw [if_pos (by omega), if_pos h]
    · rw [if_neg (by omega), if_neg h]
def chA (nx : Int) (b : ByteArray) : ByteArray × Bool := if chOk nx b = true then (strOfNums (pad (chL nx b)), true) else (⟨#[]⟩, false)
theorem chain_k (nx : Int) (b : ByteArray) (hs : b.size ≤ 100000000) (k : Nat) (hk : 11 ≤ k) : sheet_Chain.f k nx b = some (chA nx b) := by
  have hj := fun bad => chain_j0 nx b bad hs k hk
  have hmid : (decide (nx = 0) || okP nx) = true → (if b.toList = ([] : List UInt8) then (sheet_Chain.j0 k nx b true) else (sheet_Chain.j0 k nx b (decide ((b.size : Int) > 120)))) = some (chA nx b) := by
    intro hp
    unfold chA chOk
    rw [hp, Bool.true_and]
    by_cases h : b.toList = []
    · rw [if_pos h, hj, if_pos rfl, decide_eq_false (show ¬ 1 ≤ b.size by rw [toList_nil_iff.1 h]; decide)]; rfl
    · have h1 : 1 ≤ b.size := by
        rcases Nat.eq_zero_or_pos b.size with h0 | h0
        · exact absurd (toList_nil_iff.2 h0) h
        · exact h0
      rw [if_neg h, hj, decide_eq_true h1, Bool.true_and]
      by_cases h2 : b.size ≤ 120
      · rw [decide_eq_false (by omega), if_neg (by decide), if_pos (by omega), decide_eq_true h2]; rfl
      · rw [decide_eq_true (by omega), if_pos rfl, decide_eq_false h2]; rfl
  unfold sheet_Chain.f
  by_cases h0 : nx = 0
  · rw [if_pos h0]; exact hmid (by rw [decide_eq_true h0]; rfl)
  · rw [if_neg h0, page_f, Option.bind_some]
    cases hp : okP nx with
    | true => rw [if_pos rfl]; exact hmid (by rw [hp, Bool.or_true])
    | false =>
      rw [if_neg (by decide), hj, if_pos rfl]
      unfold chA chOk
      rw [decide_eq_false h0, hp]; rfl

def linkFin (a : ByteArray) (bad : Bool) (nx : Int) (pc : ByteArray) : Int × ByteArray × Bool := if (!bad && (chOk nx pc && decide (strOfNums (pad (chL nx pc)) = a))) = true then (nx, pc, true) else (0, ⟨#[]⟩, false)
theorem link_j0 (nx : Int) (pc : ByteArray) (b : Bool) (k : Nat) : sheet_Link.j0 (k + 1) nx pc b = some (if b = true then (0, ⟨#[]⟩, false) else (nx, pc, true)) := by
  simp only [sheet_Link.j0]; split <;> rfl
theorem link_end (a : ByteArray) (bad : Bool) (nx : Int) (pc : ByteArray) (hs : pc.size ≤ 100000000) (k : Nat) (hk : 12 ≤ k) :
    ((sheet_Chain.f k nx pc).bind fun bt160 => (if bad = true then (sheet_Link.j0 k nx pc true) else (if bt160.2 = true then (sheet_Link.j0 k nx pc (bt160.1.toList != a.toList)) else (sheet_Link.j0 k nx pc true)))) = some (linkFin a bad nx pc) := by
  obtain ⟨k, rfl⟩ : ∃ m, k = m + 1 := ⟨k - 1, by omega⟩
  rw [chain_k nx pc hs _ (by omega), Option.bind_some]
  unfold linkFin chA
  cases bad with
  | true => rw [if_pos rfl, link_j0]; rfl
  | false =>
    rw [if_neg (by decide)]
    cases h : chOk nx pc with
    | false => rw [if_neg (show ¬ (false = true) by decide), if_neg (show ¬ (false = true) by decide), link_j0]; rfl
    | true =>
      rw [if_pos rfl, if_pos rfl, link_j0, toList_ne]
      by_cases h2 : strOfNums (pad (chL nx pc)) = a
      · rw [decide_eq_true h2]; rfl
      · rw [decide_eq_false h2]; rfl
theorem link_ex (a : ByteArray) (ha : a.size ≤ 1000000) : ∃ bad nx pc, ∀ k, 12 ≤ k → sheet_Link.f k a = some (linkFin a bad nx pc) := by
  obtain ⟨P0, L0, b0, h0, e0⟩ := take_ex (okB_bytesOf a) false 1 (by decide)
  obtain ⟨v1, L1, b1, h1, _, _, e1⟩ := num_ex h0 b0 2 2 rfl (by decide)
  obtain ⟨v2, L2, b2, h2, p2, q2, e2⟩ := num_ex h1 b1 1 1 rfl (by decide)
  have q2' : v2 < 256 := q2
  obtain ⟨P3, L3, b3, h3, e3⟩ := take_ex h2 b2 v2 p2
  have hs : P3.size ≤ 100000000 := by
    obtain ⟨n, rfl⟩ : ∃ n : Nat, v2 = n := ⟨v2.toNat, by omega⟩
    rw [take_k] at e3
    split at e3
    · injection e3 with e3; injection e3 with e3 _; rw [← e3]; decide
    · split at e3
      · injection e3 with e3; injection e3 with e3 _; rw [← e3]; decide
      · injection e3 with e3; injection e3 with e3 _; rw [← e3, strOfNums_size, List.length_take]; omega
  rw [strOf_bytesOf] at e0
  refine ⟨b3, v1, P3, fun k hk => ?_⟩
  unfold sheet_Link.f
  rw [e0, Option.bind_some]
  simp only []
  rw [e1 k (by omega), Option.bind_some]
  simp only []
  rw [e2 k (by omega), Option.bind_some]
  simp only []
  rw [e3, Option.bind_some]
  exact link_end a b3 v1 P3 hs k hk
theorem okP_range {p : Int} (h : okP p = true) : 2 ≤ p ∧ p < 200 := by unfold okP at h; simp at h; exact h
theorem link_back {nx : Int} {b : ByteArray} (h : chOk nx b = true) (k : Nat) (hk : 12 ≤ k) : sheet_Link.f k (strOfNums (pad (chL nx b))) = some (nx, b, true) := by
  have h' := h
  unfold chOk at h'
  simp only [Bool.and_eq_true, Bool.or_eq_true, decide_eq_true_eq] at h'
  have hn : 0 ≤ nx ∧ nx < 65536 := by
    rcases h'.1 with h | h
    · omega
    · have := okP_range h; omega
  have hsz : ((b.size : Int) % 256) = b.size := by omega
  obtain ⟨Z, okZ, e⟩ : ∃ Z, okB Z ∧ pad (chL nx b) = [67] ++ (byL nx 2 2 ++ ([(b.size : Int) % 256] ++ (bytesOf b ++ Z))) :=
    ⟨_, okB_rep (128 - (chL nx b).length), by
      unfold pad
      generalize List.replicate (128 - (chL nx b).length) (0 : Int) = z
      unfold chL
      simp only [List.append_assoc]⟩
  have okS : okB [(b.size : Int) % 256] := by intro x hx; simp at hx; omega
  have ok2 : okB (bytesOf b ++ Z) := okB_append.2 ⟨okB_bytesOf b, okZ⟩
  have hr1 : rdV [(b.size : Int) % 256] = b.size := by
    unfold rdV
    rw [List.foldl_cons, List.foldl_nil, vst_plain (by decide) (by decide) (by omega) (by omega)]; omega
  unfold sheet_Link.f
  have e1 : sheet_reader_take.f (strOfNums (pad (chL nx b))) false 1 = some (strOfNums [67], strOfNums (byL nx 2 2 ++ ([(b.size : Int) % 256] ++ (bytesOf b ++ Z))), false) := by rw [e]; exact take_good 1 rfl 1 rfl
  rw [e1, Option.bind_some]
  simp only []
  rw [num_good (okB_byL _ _ _) (okB_append.2 ⟨okS, ok2⟩) 2 (byL_length _ _ _) 2 rfl (by decide) k (by omega), Option.bind_some]
  simp only []
  rw [num_good okS ok2 1 rfl 1 rfl (by decide) k (by omega), Option.bind_some]
  simp only []
  rw [take_good b.size (bytesOf_len b) _ hr1, Option.bind_some]
  simp only []
  rw [strOf_bytesOf, rdV2 hn.1 hn.2]
  rw [link_end _ false nx b (by omega) k hk]
  unfold linkFin
  rw [h, decide_eq_true rfl]; rfl
theorem link_fb {a : ByteArray} {bad : Bool} {nx : Int} {pc : ByteArray} (h : (linkFin a bad nx pc).2.2 = true) : fb a = some 67 := by
  unfold linkFin at h
  split at h
  · rename_i h1
    simp only [Bool.and_eq_true, decide_eq_true_eq] at h1
    rw [← h1.2.2]
    exact fb_pad (okB_chL nx pc)
  · cases h
end Go.Proofs.Ytlgmabibcpkdmaa.PAll
