/- clay.Put and clay.Get, plain: what may be is written, and read as it was. -/
import Derived.Test.YtbjknbfagadhfaaQPAllx9
import Derived.Test.YtbjknbfagadhfaaQC1
import Derived.Test.YtbjknbfagadhfaaQC2
namespace Go.Proofs.Ytbjknbfagadhfaa.PAll
open Go.RowKit Go.Proofs.YtbjknbfagadhfaaW.PrintWords Go.Proofs.YtbjknbfagadhfaaW.PrintLast Go.Proofs.YtbjknbfagadhfaaW.PrintMore
open Go.Proofs.Ytbjknbfagadhfaa.V (byI byL byL_length byL_snoc inL inL_length)
set_option linter.unusedSimpArgs false
set_option linter.unusedVariables false

/-- a thing's bytes -/
def putL (a0 a1 a2 a3 a4 a5 a6 a7 a8 a9 a10 a11 a12 : Int) (l : List Int) : List Int :=
  if a1 = 1 then byL 1 1 1 ++ (byL a0 4 4 ++ (byL a2 1 1 ++ (byL a3 8 8 ++ (byL a4 8 8 ++ (byL a5 8 8 ++ (byL a6 8 8 ++ (byL a7 8 8 ++ (byL a8 8 8 ++ (byL a9 8 8 ++ [])))))))))
  else if a1 = 2 then byL 2 1 1 ++ (byL a0 4 4 ++ (byL a10 4 4 ++ (byL a11 4 4 ++ (byL a12 8 8 ++ []))))
  else byL 3 1 1 ++ (byL a0 4 4 ++ (byL l.length 1 1 ++ inL l))

theorem okT_kind {a0 a1 a2 a3 a4 a5 a6 a7 a8 a9 a10 a11 a12 : Int} {l : List Int} (h : okT a0 a1 a2 a3 a4 a5 a6 a7 a8 a9 a10 a11 a12 l) : a1 = 1 ∨ a1 = 2 ∨ a1 = 3 := by
  rcases h.2 with h | h | h
  · exact .inl h.1
  · exact .inr (.inl h.1)
  · exact .inr (.inr h.1)
theorem okT_len {a0 a1 a2 a3 a4 a5 a6 a7 a8 a9 a10 a11 a12 : Int} {l : List Int} (h : okT a0 a1 a2 a3 a4 a5 a6 a7 a8 a9 a10 a11 a12 l) : l.length ≤ 8 := by
  rcases h.2 with h | h | h
  · rw [h.2.2.1]; decide
  · rw [h.2.2.1]; decide
  · exact h.2.2.2.2.2

theorem put_k (a0 a1 a2 a3 a4 a5 a6 a7 a8 a9 a10 a11 a12 : Int) (l : List Int) (hl : l.length ≤ 1000000000) (k : Nat) (hk : l.length + 10 ≤ k) :
    clay_Put.f k a0 a1 a2 a3 a4 a5 a6 a7 a8 a9 a10 a11 a12 l = some (if okT a0 a1 a2 a3 a4 a5 a6 a7 a8 a9 a10 a11 a12 l then (strOfNums (putL a0 a1 a2 a3 a4 a5 a6 a7 a8 a9 a10 a11 a12 l), true) else ((⟨#[]⟩ : ByteArray), false)) := by
  unfold clay_Put.f
  rw [right_k _ _ _ _ _ _ _ _ _ _ _ _ _ l hl k hk, Option.bind_some]
  by_cases h : okT a0 a1 a2 a3 a4 a5 a6 a7 a8 a9 a10 a11 a12 l
  · rw [if_pos (decide_eq_true h), if_pos h]
    unfold putL
    rcases okT_kind h with h1 | h1 | h1
    · rw [if_pos h1, if_pos h1]; simp only [List.nil_append, List.append_nil, List.append_assoc]
    · rw [if_neg (by omega), if_pos h1, if_neg (by omega), if_pos h1]; simp only [List.nil_append, List.append_nil, List.append_assoc]
    · rw [if_neg (by omega), if_neg (by omega), if_pos h1, if_pos (okT_len h), if_neg (by omega), if_neg (by omega)]; simp only [List.nil_append, List.append_assoc]
  · rw [if_neg (by simpa using h), if_neg h]

/-- what Get answers, of what was read -/
def fin (x0 : ByteArray) (bad : Bool) (a0 a1 a2 a3 a4 a5 a6 a7 a8 a9 a10 a11 a12 : Int) (l : List Int) : (Int × Int × Int × Int × Int × Int × Int × Int × Int × Int × Int × Int × Int × List Int × Bool) :=
  if (!bad && (decide (okT a0 a1 a2 a3 a4 a5 a6 a7 a8 a9 a10 a11 a12 l) && decide (strOfNums (putL a0 a1 a2 a3 a4 a5 a6 a7 a8 a9 a10 a11 a12 l) = x0))) = true then (a0, a1, a2, a3, a4, a5, a6, a7, a8, a9, a10, a11, a12, l, true) else (0, 0, 0, 0, 0, 0, 0, 0, 0, 0, 0, 0, 0, ([] : List Int), false)

theorem toList_ne {a b : ByteArray} : (a.toList != b.toList) = !decide (a = b) := by
  rw [ByteArray.toList_eq, ByteArray.toList_eq]
  by_cases h : a = b
  · subst h; simp
  · rw [decide_eq_false h, Bool.not_false, bne_iff_ne]
    intro h2; apply h
    cases a; cases b; congr 1; exact Array.toList_inj.1 h2

theorem j4_k (k : Nat) (b : Bool) (a0 a1 a2 a3 a4 a5 a6 a7 a8 a9 a10 a11 a12 : Int) (l : List Int) : clay_Get.j4 (k + 1) b a0 a1 a2 a3 a4 a5 a6 a7 a8 a9 a10 a11 a12 l = some (if b = true then (0, 0, 0, 0, 0, 0, 0, 0, 0, 0, 0, 0, 0, ([] : List Int), false) else (a0, a1, a2, a3, a4, a5, a6, a7, a8, a9, a10, a11, a12, l, true)) := by
  simp only [clay_Get.j4]; split <;> rfl
theorem j3_k (x0 s : ByteArray) (bad : Bool) (a0 a1 a2 a3 a4 a5 a6 a7 a8 a9 a10 a11 a12 : Int) (l : List Int) (hl : l.length ≤ 1000000000) (k : Nat) (hk : l.length + 20 ≤ k) :
    clay_Get.j3 k x0 s bad a0 a1 a2 a3 a4 a5 a6 a7 a8 a9 a10 a11 a12 l = some (fin x0 bad a0 a1 a2 a3 a4 a5 a6 a7 a8 a9 a10 a11 a12 l) := by
  obtain ⟨k, rfl⟩ : ∃ m, k = m + 2 := ⟨k - 2, by omega⟩
  simp only [clay_Get.j3]
  rw [put_k _ _ _ _ _ _ _ _ _ _ _ _ _ l hl (k + 1) (by omega), Option.bind_some]
  unfold fin
  cases bad with
  | true => simp [j4_k]
  | false =>
    by_cases h : okT a0 a1 a2 a3 a4 a5 a6 a7 a8 a9 a10 a11 a12 l
    · simp only [if_pos h, Bool.false_eq_true, if_false, if_true, j4_k, toList_ne, decide_eq_true h, Bool.not_false, Bool.true_and]
      by_cases h2 : strOfNums (putL a0 a1 a2 a3 a4 a5 a6 a7 a8 a9 a10 a11 a12 l) = x0
      · simp [h2]
      · simp [h2]
    · simp [h, j4_k]
theorem j1_k (x0 s : ByteArray) (bad : Bool) (a0 a1 a2 a3 a4 a5 a6 a7 a8 a9 a10 a11 a12 : Int) (l : List Int) (hl : l.length ≤ 1000000000) (k : Nat) (hk : l.length + 30 ≤ k) :
    clay_Get.j1 k x0 s bad a0 a1 a2 a3 a4 a5 a6 a7 a8 a9 a10 a11 a12 l = some (fin x0 bad a0 a1 a2 a3 a4 a5 a6 a7 a8 a9 a10 a11 a12 l) := by
  obtain ⟨k, rfl⟩ : ∃ m, k = m + 2 := ⟨k - 2, by omega⟩
  simp only [clay_Get.j1, clay_Get.j2]
  exact j3_k _ _ _ _ _ _ _ _ _ _ _ _ _ _ _ _ l hl _ (by omega)
theorem j2_k (x0 s : ByteArray) (bad : Bool) (a0 a1 a2 a3 a4 a5 a6 a7 a8 a9 a10 a11 a12 : Int) (l : List Int) (hl : l.length ≤ 1000000000) (k : Nat) (hk : l.length + 30 ≤ k) :
    clay_Get.j2 k x0 s bad a0 a1 a2 a3 a4 a5 a6 a7 a8 a9 a10 a11 a12 l = some (fin x0 bad a0 a1 a2 a3 a4 a5 a6 a7 a8 a9 a10 a11 a12 l) := by
  obtain ⟨k, rfl⟩ : ∃ m, k = m + 1 := ⟨k - 1, by omega⟩
  simp only [clay_Get.j2]
  exact j3_k _ _ _ _ _ _ _ _ _ _ _ _ _ _ _ _ l hl _ (by omega)

/-! ### every bytes are read as something -/
theorem num_ex {L : List Int} (hL : okB L) (bad : Bool) (n : Nat) (m : Int) (hm : m = n) (hn : n ≤ 100) : ∃ v L' b', okB L' ∧ (n = 1 → 0 ≤ v ∧ v ≤ 255) ∧ ∀ k, n < k → clay_reader_num.f k (strOfNums L) bad m = some (v, strOfNums L', b') := by
  subst hm
  refine ⟨_, _, _, rn_ok hL bad n, ?_, fun k hk => num_k hL bad n (by omega) k hk⟩
  rintro rfl
  unfold rn
  split
  · exact ⟨Int.le_refl _, by show (0 : Int) ≤ 255; decide⟩
  · split
    · exact ⟨Int.le_refl _, by show (0 : Int) ≤ 255; decide⟩
    · rename_i h1 h2
      match L, h2, hL with
      | x :: t, _, hL =>
        have hx := hL x (List.mem_cons_self ..)
        show 0 ≤ rdV [x] ∧ rdV [x] ≤ 255
        have : rdV [x] = x := by
          unfold rdV
          rw [List.foldl_cons, List.foldl_nil, vst_plain (by decide) (by decide) hx.1 hx.2]
          unfold wrap64; omega
        rw [this]; omega
      | [], h2, _ => exact absurd (by simp) h2
theorem vec_ex {L : List Int} (hL : okB L) (bad : Bool) : ∃ v u L' b', okB L' ∧ ∀ k, 8 < k → clay_reader_vec.f k (strOfNums L) bad = some (v, u, strOfNums L', b') := by
  obtain ⟨v, L1, b1, h1, _, e1⟩ := num_ex hL bad 8 8 rfl (by decide)
  obtain ⟨u, L2, b2, h2, _, e2⟩ := num_ex h1 b1 8 8 rfl (by decide)
  refine ⟨v, u, L2, b2, h2, fun k hk => ?_⟩
  unfold clay_reader_vec.f
  rw [e1 k hk, Option.bind_some, e2 k hk, Option.bind_some]

theorem loop_ex (x0 : ByteArray) (a0 a1 a2 a3 a4 a5 a6 a7 a8 a9 a10 a11 a12 : Int) (n : Nat) : ∀ (L : List Int) (bad : Bool) (l : List Int), okB L → l.length + n ≤ 255 → ∃ bad' l', l'.length ≤ 255 ∧ ∀ k, 500 + n ≤ k → clay_Get.l0 k x0 (n : Int) (strOfNums L) bad a0 a1 a2 a3 a4 a5 a6 a7 a8 a9 a10 a11 a12 l = some (fin x0 bad' a0 a1 a2 a3 a4 a5 a6 a7 a8 a9 a10 a11 a12 l') := by
  induction n with
  | zero =>
    intro L bad l hL hl
    refine ⟨bad, l, by omega, fun k hk => ?_⟩
    obtain ⟨k, rfl⟩ : ∃ m, k = m + 1 := ⟨k - 1, by omega⟩
    simp only [clay_Get.l0]
    rw [if_neg (by omega)]
    exact j1_k _ _ _ _ _ _ _ _ _ _ _ _ _ _ _ _ l (by omega) _ (by omega)
  | succ n ih =>
    intro L bad l hL hl
    obtain ⟨v, L1, b1, h1, _, e1⟩ := num_ex hL bad 4 4 rfl (by decide)
    obtain ⟨bad', l', hl', e⟩ := ih L1 b1 (l ++ [v]) h1 (by rw [List.length_append, List.length_singleton]; omega)
    refine ⟨bad', l', hl', fun k hk => ?_⟩
    obtain ⟨k, rfl⟩ : ∃ m, k = m + 1 := ⟨k - 1, by omega⟩
    simp only [clay_Get.l0]
    rw [if_pos (by omega), e1 k (by omega), Option.bind_some]
    simp only []
    rw [if_pos (by omega), show wrap64 (((n + 1 : Nat) : Int) - 1) = (n : Int) from by unfold wrap64; omega]
    exact e k (by omega)

theorem get_ex {L : List Int} (hL : okB L) : ∃ bad a0 a1 a2 a3 a4 a5 a6 a7 a8 a9 a10 a11 a12 l, l.length ≤ 255 ∧ ∀ k, 1000 ≤ k → clay_Get.f k (strOfNums L) = some (fin (strOfNums L) bad a0 a1 a2 a3 a4 a5 a6 a7 a8 a9 a10 a11 a12 l) := by
  obtain ⟨v0, L0, b0, h0, _, e0⟩ := num_ex hL false 1 1 rfl (by decide)
  obtain ⟨v1, L1, b1, h1, _, e1⟩ := num_ex h0 b0 4 4 rfl (by decide)
  by_cases c1 : v0 = 1
  · obtain ⟨v2, L2, b2, h2, _, e2⟩ := num_ex h1 b1 1 1 rfl (by decide)
    obtain ⟨v3, v4, L3, b3, h3, e3⟩ := vec_ex h2 b2
    obtain ⟨v5, L5, b5, h5, _, e5⟩ := num_ex h3 b3 8 8 rfl (by decide)
    obtain ⟨v6, v7, L6, b6, h6, e6⟩ := vec_ex h5 b5
    obtain ⟨v8, v9, L8, b8, h8, e8⟩ := vec_ex h6 b6
    refine ⟨b8, v1, v0, v2, v3, v4, v5, v6, v7, v8, v9, 0, 0, 0, [], by simp, fun k hk => ?_⟩
    unfold clay_Get.f
    rw [e0 k (by omega), Option.bind_some]
    simp only [e1 k (by omega), Option.bind_some]
    rw [if_pos c1]
    simp only [e2 k (by omega), e3 k (by omega), e5 k (by omega), e6 k (by omega), e8 k (by omega), Option.bind_some]
    exact j3_k _ _ _ _ _ _ _ _ _ _ _ _ _ _ _ _ [] (by simp) _ (by simp; omega)
  · by_cases c2 : v0 = 2
    · obtain ⟨v2, L2, b2, h2, _, e2⟩ := num_ex h1 b1 4 4 rfl (by decide)
      obtain ⟨v3, L3, b3, h3, _, e3⟩ := num_ex h2 b2 4 4 rfl (by decide)
      obtain ⟨v4, L4, b4, h4, _, e4⟩ := num_ex h3 b3 8 8 rfl (by decide)
      refine ⟨b4, v1, v0, 0, 0, 0, 0, 0, 0, 0, 0, v2, v3, v4, [], by simp, fun k hk => ?_⟩
      unfold clay_Get.f
      rw [e0 k (by omega), Option.bind_some]
      simp only [e1 k (by omega), Option.bind_some]
      rw [if_neg (by exact c1), if_pos c2]
      simp only [e2 k (by omega), e3 k (by omega), e4 k (by omega), Option.bind_some]
      exact j2_k _ _ _ _ _ _ _ _ _ _ _ _ _ _ _ _ [] (by simp) _ (by simp; omega)
    · by_cases c3 : v0 = 3
      · obtain ⟨v2, L2, b2, h2, hv2, e2⟩ := num_ex h1 b1 1 1 rfl (by decide)
        have hv := hv2 rfl
        obtain ⟨bad', l', hl', e⟩ := loop_ex (strOfNums L) v1 v0 0 0 0 0 0 0 0 0 0 0 0 v2.toNat L2 b2 [] h2 (by simp; omega)
        refine ⟨bad', v1, v0, 0, 0, 0, 0, 0, 0, 0, 0, 0, 0, 0, l', hl', fun k hk => ?_⟩
        unfold clay_Get.f
        rw [e0 k (by omega), Option.bind_some]
        simp only [e1 k (by omega), Option.bind_some]
        rw [if_neg (by exact c1), if_neg c2, if_pos c3]
        simp only [e2 k (by omega), Option.bind_some]
        have := e k (by omega)
        rw [show ((v2.toNat : Nat) : Int) = v2 from by omega] at this
        exact this
      · refine ⟨b1, v1, v0, 0, 0, 0, 0, 0, 0, 0, 0, 0, 0, 0, [], by simp, fun k hk => ?_⟩
        unfold clay_Get.f
        rw [e0 k (by omega), Option.bind_some]
        simp only [e1 k (by omega), Option.bind_some]
        rw [if_neg (by exact c1), if_neg c2, if_neg c3]
        exact j1_k _ _ _ _ _ _ _ _ _ _ _ _ _ _ _ _ [] (by simp) _ (by simp; omega)

/-! ### what was written is read as it was -/
theorem num_good {A B : List Int} (hA : okB A) (hB : okB B) (n : Nat) (hl : A.length = n) (hn : n ≤ 8) (k : Nat) (hk : 8 < k) : clay_reader_num.f k (strOfNums (A ++ B)) false (n : Int) = some (rdV A, strOfNums B, false) := by
  rw [num_k (okB_append.2 ⟨hA, hB⟩) false n (by omega) k (by omega), rn_good n hl]
theorem num1 {x : Int} {B : List Int} (hB : okB B) (h0 : 0 ≤ x) (h1 : x < 256) (k : Nat) (hk : 8 < k) : clay_reader_num.f k (strOfNums (byL x 1 1 ++ B)) false 1 = some (x, strOfNums B, false) := by
  have := num_good (okB_byL x 1 1) hB 1 (byL_length _ _ _) (by decide) k hk
  rwa [rdV1 h0 h1] at this
theorem num4 {x : Int} {B : List Int} (hB : okB B) (h0 : 0 ≤ x) (h1 : x < 4294967296) (k : Nat) (hk : 8 < k) : clay_reader_num.f k (strOfNums (byL x 4 4 ++ B)) false 4 = some (x, strOfNums B, false) := by
  have := num_good (okB_byL x 4 4) hB 4 (byL_length _ _ _) (by decide) k hk
  rwa [rdV4 h0 h1] at this
theorem num8 {x : Int} {B : List Int} (hB : okB B) (h : wrap64 x = x) (k : Nat) (hk : 8 < k) : clay_reader_num.f k (strOfNums (byL x 8 8 ++ B)) false 8 = some (x, strOfNums B, false) := by
  have := num_good (okB_byL x 8 8) hB 8 (byL_length _ _ _) (by decide) k hk
  rwa [rdV8 h] at this
theorem vec8 {x y : Int} {B : List Int} (hB : okB B) (h : wrap64 x = x) (h2 : wrap64 y = y) (k : Nat) (hk : 8 < k) : clay_reader_vec.f k (strOfNums (byL x 8 8 ++ (byL y 8 8 ++ B))) false = some (x, y, strOfNums B, false) := by
  unfold clay_reader_vec.f
  rw [num8 (okB_append.2 ⟨okB_byL _ _ _, hB⟩) h k hk, Option.bind_some]
  simp only []
  rw [num8 hB h2 k hk, Option.bind_some]
theorem okB_nil : okB [] := by intro x hx; cases hx
theorem inL_cons (n : Int) (l : List Int) : inL (n :: l) = byL n 4 4 ++ inL l := by unfold inL; rw [List.map_cons, List.flatten_cons]
theorem okB_inL (l : List Int) : okB (inL l) := by
  induction l with
  | nil => exact okB_nil
  | cons n l ih => rw [inL_cons]; exact okB_append.2 ⟨okB_byL _ _ _, ih⟩
theorem okM_mem {me : Int} {l : List Int} : ∀ {a : Int}, okM me a l = true → ∀ n ∈ l, 1 ≤ n ∧ n ≤ 1000000 := by
  induction l with
  | nil => intro a _ n hn; cases hn
  | cons x l ih =>
    intro a h n hn
    simp only [okM, Bool.and_eq_true, decide_eq_true_eq] at h
    rcases List.mem_cons.1 hn with rfl | hn
    · exact ⟨h.2.2.1, h.2.1⟩
    · exact ih h.2.2.2.2 n hn
theorem loop_good (x0 : ByteArray) (a0 a1 a2 a3 a4 a5 a6 a7 a8 a9 a10 a11 a12 : Int) (l2 : List Int) : ∀ l1 : List Int, (∀ n ∈ l2, 1 ≤ n ∧ n ≤ 1000000) → l1.length + l2.length ≤ 255 → ∀ k, 500 + l2.length ≤ k → clay_Get.l0 k x0 (l2.length : Int) (strOfNums (inL l2)) false a0 a1 a2 a3 a4 a5 a6 a7 a8 a9 a10 a11 a12 l1 = some (fin x0 false a0 a1 a2 a3 a4 a5 a6 a7 a8 a9 a10 a11 a12 (l1 ++ l2)) := by
  induction l2 with
  | nil =>
    intro l1 hm hl k hk
    obtain ⟨k, rfl⟩ : ∃ m, k = m + 1 := ⟨k - 1, by omega⟩
    simp only [clay_Get.l0]
    rw [if_neg (by simp), List.append_nil]
    exact j1_k _ _ _ _ _ _ _ _ _ _ _ _ _ _ _ _ l1 (by omega) _ (by simp at hk hl; omega)
  | cons n l ih =>
    intro l1 hm hl k hk
    obtain ⟨k, rfl⟩ : ∃ m, k = m + 1 := ⟨k - 1, by simp at hk; omega⟩
    have hn := hm n (List.mem_cons_self ..)
    rw [List.length_cons] at hl hk ⊢
    simp only [clay_Get.l0]
    rw [if_pos (by omega), inL_cons, num4 (okB_inL l) (by omega) (by omega) k (by omega), Option.bind_some]
    simp only []
    rw [if_pos (by omega), show wrap64 (((l.length + 1 : Nat) : Int) - 1) = (l.length : Int) from by unfold wrap64; omega,
      ih (l1 ++ [n]) (fun m hm2 => hm m (List.mem_cons_of_mem _ hm2)) (by rw [List.length_append, List.length_singleton]; omega) k (by omega), List.append_assoc]
    rfl

theorem wrap_small {x : Int} (h0 : -4611686018427387904 ≤ x) (h1 : x ≤ 4611686018427387904) : wrap64 x = x := by unfold wrap64; omega

theorem get_put {a0 a1 a2 a3 a4 a5 a6 a7 a8 a9 a10 a11 a12 : Int} {l : List Int} (h : okT a0 a1 a2 a3 a4 a5 a6 a7 a8 a9 a10 a11 a12 l) (k : Nat) (hk : 1000 ≤ k) : clay_Get.f k (strOfNums (putL a0 a1 a2 a3 a4 a5 a6 a7 a8 a9 a10 a11 a12 l)) = some (a0, a1, a2, a3, a4, a5, a6, a7, a8, a9, a10, a11, a12, l, true) := by
  have hf : fin (strOfNums (putL a0 a1 a2 a3 a4 a5 a6 a7 a8 a9 a10 a11 a12 l)) false a0 a1 a2 a3 a4 a5 a6 a7 a8 a9 a10 a11 a12 l = (a0, a1, a2, a3, a4, a5, a6, a7, a8, a9, a10, a11, a12, l, true) := by
    unfold fin; rw [if_pos (by simp [h])]
  obtain ⟨hi0, hi1⟩ := h.1
  generalize hx : strOfNums (putL a0 a1 a2 a3 a4 a5 a6 a7 a8 a9 a10 a11 a12 l) = x0 at hf
  conv => lhs; rw [← hx]
  unfold clay_Get.f
  have hx' := hx
  rcases h.2 with h | h | h
  · obtain ⟨h1, ⟨rfl, rfl, rfl⟩, rfl, hb⟩ := h
    subst h1
    have hb := hb
    unfold okBody at hb
    have e2 : 0 ≤ a2 ∧ a2 < 256 := by omega
    have e3 : wrap64 a3 = a3 := wrap_small (by omega) (by omega)
    have e4 : wrap64 a4 = a4 := wrap_small (by omega) (by omega)
    have e5 : wrap64 a5 = a5 := wrap_small (by omega) (by omega)
    have e6 : wrap64 a6 = a6 := wrap_small (by omega) (by omega)
    have e7 : wrap64 a7 = a7 := wrap_small (by omega) (by omega)
    have e8 : wrap64 a8 = a8 := wrap_small (by omega) (by omega)
    have e9 : wrap64 a9 = a9 := wrap_small (by omega) (by omega)
    rw [hx]
    rw [← hx]
    unfold putL
    rw [if_pos rfl]
    have O9 : okB (byL a9 8 8 ++ []) := okB_append.2 ⟨okB_byL _ _ _, okB_nil⟩
    have O8 := okB_append.2 ⟨okB_byL a8 8 8, O9⟩
    have O7 := okB_append.2 ⟨okB_byL a7 8 8, O8⟩
    have O6 := okB_append.2 ⟨okB_byL a6 8 8, O7⟩
    have O5 := okB_append.2 ⟨okB_byL a5 8 8, O6⟩
    have O4 := okB_append.2 ⟨okB_byL a4 8 8, O5⟩
    have O3 := okB_append.2 ⟨okB_byL a3 8 8, O4⟩
    have O2 := okB_append.2 ⟨okB_byL a2 1 1, O3⟩
    have O0 := okB_append.2 ⟨okB_byL a0 4 4, O2⟩
    rw [num1 O0 (by decide) (by decide) k (by omega), Option.bind_some]
    simp only []
    rw [num4 O2 (by omega) (by omega) k (by omega), Option.bind_some]
    simp only []
    rw [if_pos trivial, num1 O3 e2.1 e2.2 k (by omega), Option.bind_some]
    simp only []
    rw [vec8 O5 e3 e4 k (by omega), Option.bind_some]
    simp only []
    rw [num8 O6 e5 k (by omega), Option.bind_some]
    simp only []
    rw [vec8 O8 e6 e7 k (by omega), Option.bind_some]
    simp only []
    rw [vec8 okB_nil e8 e9 k (by omega), Option.bind_some]
    simp only []
    rw [j3_k _ _ _ _ _ _ _ _ _ _ _ _ _ _ _ _ [] (by simp) _ (by simp; omega)]
    unfold putL at hx
    rw [if_pos rfl] at hx
    rw [hx, hf]
  · obtain ⟨h1, ⟨rfl, rfl, rfl, rfl, rfl, rfl, rfl, rfl⟩, rfl, ⟨hj1, hj2, hj3, hj4, hj5⟩⟩ := h
    subst h1
    unfold okI at hj1 hj2
    have e12 : wrap64 a12 = a12 := wrap_small (by omega) (by omega)
    rw [hx]
    rw [← hx]
    unfold putL
    rw [if_neg (by decide), if_pos rfl]
    have O12 : okB (byL a12 8 8 ++ []) := okB_append.2 ⟨okB_byL _ _ _, okB_nil⟩
    have O11 := okB_append.2 ⟨okB_byL a11 4 4, O12⟩
    have O10 := okB_append.2 ⟨okB_byL a10 4 4, O11⟩
    have O0 := okB_append.2 ⟨okB_byL a0 4 4, O10⟩
    rw [num1 O0 (by decide) (by decide) k (by omega), Option.bind_some]
    simp only []
    rw [num4 O10 (by omega) (by omega) k (by omega), Option.bind_some]
    simp only []
    rw [if_neg (by decide), if_pos trivial, num4 O11 (by omega) (by omega) k (by omega), Option.bind_some]
    simp only []
    rw [num4 O12 (by omega) (by omega) k (by omega), Option.bind_some]
    simp only []
    rw [num8 okB_nil e12 k (by omega), Option.bind_some]
    simp only []
    rw [j2_k _ _ _ _ _ _ _ _ _ _ _ _ _ _ _ _ [] (by simp) _ (by simp; omega)]
    unfold putL at hx
    rw [if_neg (by decide), if_pos rfl] at hx
    rw [hx, hf]
  · obtain ⟨h1, ⟨rfl, rfl, rfl, rfl, rfl, rfl, rfl, rfl⟩, ⟨rfl, rfl, rfl⟩, ⟨hm, hl1, hl8⟩⟩ := h
    subst h1
    rw [hx]
    rw [← hx]
    unfold putL
    rw [if_neg (by decide), if_neg (by decide)]
    have O1 := okB_append.2 ⟨okB_byL l.length 1 1, okB_inL l⟩
    have O0 := okB_append.2 ⟨okB_byL a0 4 4, O1⟩
    rw [num1 O0 (by decide) (by decide) k (by omega), Option.bind_some]
    simp only []
    rw [num4 O1 (by omega) (by omega) k (by omega), Option.bind_some]
    simp only []
    rw [if_neg (by decide), if_neg (by decide), if_pos trivial, num1 (okB_inL l) (by omega) (by omega) k (by omega), Option.bind_some]
    simp only []
    rw [loop_good _ _ _ _ _ _ _ _ _ _ _ _ _ _ l [] (okM_mem hm) (by simp; omega) k (by omega), List.nil_append]
    unfold putL at hx
    rw [if_neg (by decide), if_neg (by decide)] at hx
    rw [hx, hf]
end Go.Proofs.Ytbjknbfagadhfaa.PAll
