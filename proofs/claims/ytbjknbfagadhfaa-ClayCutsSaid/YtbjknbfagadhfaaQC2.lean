/- What a thing may be: clay.Right as one condition. -/
import Derived.Test.YtbjknbfagadhfaaQPAllx7
namespace Go.Proofs.Ytbjknbfagadhfaa.PAll
open Go.RowKit Go.Proofs.YtbjknbfagadhfaaW.PrintWords Go.Proofs.YtbjknbfagadhfaaW.PrintLast Go.Proofs.YtbjknbfagadhfaaW.PrintMore
set_option linter.unusedSimpArgs false
set_option linter.unusedVariables false

def okI (n : Int) : Prop := 1 ≤ n ∧ n ≤ 1000000
def okBody (s x y m px py mx my : Int) : Prop := (s = 1 ∨ s = 2) ∧ (67108864 ≤ x ∧ x ≤ 4294967296000) ∧ (s = 1 → y = 0) ∧ (s = 2 → 67108864 ≤ y ∧ y ≤ 4294967296000) ∧ (m = 0 → mx = 0 ∧ my = 0) ∧ (m ≠ 0 → 67108864 ≤ m ∧ m ≤ 42949672960000) ∧ (-42949672960000 ≤ px ∧ px ≤ 42949672960000) ∧ (-42949672960000 ≤ py ∧ py ≤ 42949672960000) ∧ (-4294967296000000 ≤ mx ∧ mx ≤ 4294967296000000) ∧ (-4294967296000000 ≤ my ∧ my ≤ 4294967296000000)
instance (s x y m px py mx my : Int) : Decidable (okBody s x y m px py mx my) := by unfold okBody; infer_instance
instance (n : Int) : Decidable (okI n) := by unfold okI; infer_instance
/-- the members rise, from above a number -/
def okM (me : Int) : Int → List Int → Bool
  | _, [] => true
  | a, n :: l => decide (a < n) && (decide (n ≤ 1000000) && (decide (1 ≤ n) && (decide (n ≠ me) && okM me n l)))
def okG (me : Int) (l : List Int) : Prop := okM me 0 l = true ∧ 1 ≤ l.length ∧ l.length ≤ 8
instance (me : Int) (l : List Int) : Decidable (okG me l) := by unfold okG; infer_instance
def zB (a2 a3 a4 a5 a6 a7 a8 a9 : Int) : Prop := a2 = 0 ∧ a3 = 0 ∧ a4 = 0 ∧ a5 = 0 ∧ a6 = 0 ∧ a7 = 0 ∧ a8 = 0 ∧ a9 = 0
def zJ (a10 a11 a12 : Int) : Prop := a10 = 0 ∧ a11 = 0 ∧ a12 = 0
def okJ (a10 a11 a12 : Int) : Prop := okI a10 ∧ okI a11 ∧ a10 ≠ a11 ∧ 0 ≤ a12 ∧ a12 ≤ 4294967296000
instance (a2 a3 a4 a5 a6 a7 a8 a9 : Int) : Decidable (zB a2 a3 a4 a5 a6 a7 a8 a9) := by unfold zB; infer_instance
instance (a b c : Int) : Decidable (zJ a b c) := by unfold zJ; infer_instance
instance (a b c : Int) : Decidable (okJ a b c) := by unfold okJ; infer_instance
def okT (a0 : Int) (a1 : Int) (a2 : Int) (a3 : Int) (a4 : Int) (a5 : Int) (a6 : Int) (a7 : Int) (a8 : Int) (a9 : Int) (a10 : Int) (a11 : Int) (a12 : Int) (l : List Int) : Prop := okI a0 ∧ ((a1 = 1 ∧ zJ a10 a11 a12 ∧ l = [] ∧ okBody a2 a3 a4 a5 a6 a7 a8 a9) ∨ (a1 = 2 ∧ zB a2 a3 a4 a5 a6 a7 a8 a9 ∧ l = [] ∧ okJ a10 a11 a12) ∨ (a1 = 3 ∧ zB a2 a3 a4 a5 a6 a7 a8 a9 ∧ zJ a10 a11 a12 ∧ okG a0 l))
instance (a0 : Int) (a1 : Int) (a2 : Int) (a3 : Int) (a4 : Int) (a5 : Int) (a6 : Int) (a7 : Int) (a8 : Int) (a9 : Int) (a10 : Int) (a11 : Int) (a12 : Int) (l : List Int) : Decidable (okT a0 a1 a2 a3 a4 a5 a6 a7 a8 a9 a10 a11 a12 l) := by unfold okT; infer_instance

theorem id_f (n : Int) : clay_id.f n = some (decide (okI n)) := by
  unfold clay_id.f okI
  by_cases h : n ≥ 1
  · rw [if_pos h]; simp [show (1 ≤ n) from h]
  · rw [if_neg h]; simp [show ¬ (1 ≤ n) from h]
theorem in_f (a b c : Int) : shape_in.f a b c = some (decide (b ≤ a ∧ a ≤ c)) := by
  unfold shape_in.f
  by_cases h : a ≥ b
  · rw [if_pos h]; simp [show b ≤ a from h]
  · rw [if_neg h]; simp [show ¬ b ≤ a from h]
theorem near_f (x y m : Int) (h0 : 0 ≤ m) (h1 : m ≤ 4611686018427387904) : shape_near.f x y m = some (decide ((-m ≤ x ∧ x ≤ m) ∧ (-m ≤ y ∧ y ≤ m))) := by
  unfold shape_near.f
  have e : wrap64 (-m) = -m := by unfold wrap64; omega
  rw [e, in_f, in_f, Option.bind_some, Option.bind_some]
  by_cases h : -m ≤ x ∧ x ≤ m
  · rw [if_pos (decide_eq_true h)]; simp [h]
  · rw [if_neg (by simpa using h)]; simp [h]
theorem name_f (s : Int) : ∃ b, shape_Name.f s = some b ∧ (b.toList = [] ↔ ¬ (s = 1 ∨ s = 2)) := by
  unfold shape_Name.f
  by_cases h1 : s = 1
  · rw [if_pos h1]; exact ⟨_, rfl, ⟨fun h => absurd h (by decide +kernel), fun h => absurd (.inl h1) h⟩⟩
  · rw [if_neg h1]
    by_cases h2 : s = 2
    · rw [if_pos h2]; exact ⟨_, rfl, ⟨fun h => absurd h (by decide +kernel), fun h => absurd (.inr h2) h⟩⟩
    · rw [if_neg h2]; exact ⟨_, rfl, ⟨fun _ h => by omega, fun _ => by decide +kernel⟩⟩

theorem shape_j2 (k : Nat) (b : Bool) (s x y m px py mx my : Int) : shape_Right.j2 (k + 1) b s x y m px py mx my = some (if b = true then false else decide (((-42949672960000 ≤ px ∧ px ≤ 42949672960000) ∧ (-42949672960000 ≤ py ∧ py ≤ 42949672960000)) ∧ (-4294967296000000 ≤ mx ∧ mx ≤ 4294967296000000) ∧ (-4294967296000000 ≤ my ∧ my ≤ 4294967296000000))) := by
  simp only [shape_Right.j2]
  cases b with
  | true => rfl
  | false =>
    simp only [Bool.false_eq_true, if_false]
    rw [near_f _ _ _ (by decide) (by decide), near_f _ _ _ (by decide) (by decide), Option.bind_some, Option.bind_some]
    by_cases h : (-42949672960000 ≤ px ∧ px ≤ 42949672960000) ∧ (-42949672960000 ≤ py ∧ py ≤ 42949672960000)
    · rw [if_pos (decide_eq_true h), decide_eq_decide.2]; simp [h]
    · rw [if_neg (by simpa using h), decide_eq_false]; exact fun h2 => h h2.1
theorem shape_j1 (k : Nat) (b : Bool) (s x y m px py mx my : Int) : shape_Right.j1 (k + 2) b s x y m px py mx my = some (if b = true then false else decide ((m = 0 → mx = 0 ∧ my = 0) ∧ (m ≠ 0 → 67108864 ≤ m ∧ m ≤ 42949672960000) ∧ ((-42949672960000 ≤ px ∧ px ≤ 42949672960000) ∧ (-42949672960000 ≤ py ∧ py ≤ 42949672960000)) ∧ (-4294967296000000 ≤ mx ∧ mx ≤ 4294967296000000) ∧ (-4294967296000000 ≤ my ∧ my ≤ 4294967296000000))) := by
  simp only [shape_Right.j1]
  cases b with
  | true => rfl
  | false =>
    simp only [Bool.false_eq_true, if_false]
    by_cases hm : m = 0
    · rw [if_pos hm]
      by_cases hz : mx = 0 ∧ my = 0
      · rw [if_neg (by simp [hz.1, hz.2]), shape_j2]; simp [hm, hz]
      · rw [if_pos (by simp only [Bool.or_eq_true, Bool.not_eq_true', beq_eq_false_iff_ne]; omega), shape_j2]
        simp only [if_true]
        rw [decide_eq_false]; intro h; exact hz (h.1 hm)
    · rw [if_neg hm, in_f, Option.bind_some, shape_j2]
      by_cases h : 67108864 ≤ m ∧ m ≤ 42949672960000
      · simp [h, hm]
      · rw [decide_eq_false h]
        simp only [Bool.not_false, if_true]
        rw [decide_eq_false]; intro h2; exact h (h2.2.1 hm)
theorem shape_j0 (k : Nat) (b : Bool) (s x y m px py mx my : Int) (hs : s = 1 ∨ s = 2) : shape_Right.j0 (k + 3) b s x y m px py mx my = some (if b = true then false else decide ((s = 1 → y = 0) ∧ (s = 2 → 67108864 ≤ y ∧ y ≤ 4294967296000) ∧ (m = 0 → mx = 0 ∧ my = 0) ∧ (m ≠ 0 → 67108864 ≤ m ∧ m ≤ 42949672960000) ∧ ((-42949672960000 ≤ px ∧ px ≤ 42949672960000) ∧ (-42949672960000 ≤ py ∧ py ≤ 42949672960000)) ∧ (-4294967296000000 ≤ mx ∧ mx ≤ 4294967296000000) ∧ (-4294967296000000 ≤ my ∧ my ≤ 4294967296000000))) := by
  simp only [shape_Right.j0]
  cases b with
  | true => rfl
  | false =>
    simp only [Bool.false_eq_true, if_false]
    rcases hs with rfl | rfl
    · rw [if_pos rfl]
      by_cases hy : y = 0
      · rw [if_pos hy, if_neg (by decide), shape_j1]; simp [hy]
      · rw [if_neg hy, shape_j1]
        simp only [if_true]
        rw [decide_eq_false]; intro h; exact hy (h.1 (by simp))
    · rw [if_neg (by decide), if_pos rfl, in_f, Option.bind_some, shape_j1]
      by_cases h : 67108864 ≤ y ∧ y ≤ 4294967296000
      · simp [h]
      · rw [decide_eq_false h]
        simp only [Bool.not_false, if_true]
        rw [decide_eq_false]; intro h2; exact h (h2.2.1 (by simp))
theorem shape_f (k : Nat) (s x y m px py mx my : Int) : shape_Right.f (k + 3) s x y m px py mx my = some (decide (okBody s x y m px py mx my)) := by
  unfold shape_Right.f
  obtain ⟨b, hb, hn⟩ := name_f s
  rw [hb, Option.bind_some]
  by_cases hs : s = 1 ∨ s = 2
  · rw [if_neg (fun h => (hn.1 h) hs), in_f, Option.bind_some, shape_j0 _ _ _ _ _ _ _ _ _ _ hs]
    by_cases hx : 67108864 ≤ x ∧ x ≤ 4294967296000
    · rw [decide_eq_true hx]
      simp only [Bool.not_true, Bool.false_eq_true, if_false, Option.some.injEq]
      rw [decide_eq_decide]
      unfold okBody
      simp [hs, hx, and_assoc]
    · rw [decide_eq_false hx]
      simp only [Bool.not_false, if_true, Option.some.injEq]
      rw [eq_comm, decide_eq_false]; intro h; exact hx h.2.1
  · rw [if_pos (hn.2 hs)]
    have : shape_Right.j0 (k + 3) true s x y m px py mx my = some false := by simp [shape_Right.j0]
    rw [this, eq_comm, decide_eq_false]; intro h; exact hs h.1

theorem rd_at (l : List Int) (i : Nat) (h : i < l.length) : rd l (i : Int) = l[i] := by simp [rd, List.getD, List.getElem?_eq_getElem h]

theorem members_loop (a0 : Int) (a1 : Int) (a2 : Int) (a3 : Int) (a4 : Int) (a5 : Int) (a6 : Int) (a7 : Int) (a8 : Int) (a9 : Int) (a10 : Int) (a11 : Int) (a12 : Int) (l : List Int) (hl : l.length ≤ 1000000000) (d : Nat) : ∀ (k i : Nat) (v : Int), l.length - i = d → i ≤ l.length → d < k →
    clay_members.l0 k v l (l.length : Int) (i : Int) a0 a1 a2 a3 a4 a5 a6 a7 a8 a9 a10 a11 a12 l = some (okM a0 v (l.drop i) && (decide (1 ≤ l.length) && decide (l.length ≤ 8))) := by
  induction d with
  | zero =>
    intro k i v hd hi hk
    obtain ⟨k, rfl⟩ : ∃ m, k = m + 1 := ⟨k - 1, by omega⟩
    simp only [clay_members.l0]
    rw [if_neg (by omega), List.drop_of_length_le (by omega)]
    by_cases h : 1 ≤ l.length
    · rw [if_pos (by omega), decide_eq_true h]
      simp only [okM, Bool.true_and, Option.some.injEq]
      rw [decide_eq_decide]; omega
    · rw [if_neg (by omega), decide_eq_false h]; simp [okM]
  | succ d ih =>
    intro k i v hd hi hk
    obtain ⟨k, rfl⟩ : ∃ m, k = m + 1 := ⟨k - 1, by omega⟩
    have hlt : i < l.length := by omega
    simp only [clay_members.l0]
    rw [if_pos (by omega), if_pos (by omega), if_pos (by omega), show wrap64 ((i : Int) + 1) = ((i + 1 : Nat) : Int) from by unfold wrap64; omega, rd_at l i hlt, id_f, Option.bind_some,
      List.drop_eq_getElem_cons hlt]
    simp only [okM]
    by_cases h1 : l[i] ≤ v
    · rw [if_pos h1, decide_eq_false (by omega)]; simp
    · rw [if_neg h1, decide_eq_true (show v < l[i] by omega)]
      by_cases h2 : okI l[i]
      · rw [if_pos (decide_eq_true h2), decide_eq_true h2.1, decide_eq_true h2.2]
        by_cases h3 : l[i] = a0
        · rw [if_pos h3]; simp [h3]
        · rw [if_neg h3, ih k (i + 1) _ (by omega) (by omega) (by omega), decide_eq_true (show l[i] ≠ a0 from h3)]; simp
      · rw [if_neg (by simpa using h2)]
        unfold okI at h2
        by_cases h4 : 1 ≤ l[i]
        · rw [decide_eq_false (show ¬ l[i] ≤ 1000000 by omega)]; simp
        · rw [decide_eq_false h4]; simp
theorem members_f (a0 : Int) (a1 : Int) (a2 : Int) (a3 : Int) (a4 : Int) (a5 : Int) (a6 : Int) (a7 : Int) (a8 : Int) (a9 : Int) (a10 : Int) (a11 : Int) (a12 : Int) (l : List Int) (hl : l.length ≤ 1000000000) (k : Nat) (hk : l.length < k) : clay_members.f k a0 a1 a2 a3 a4 a5 a6 a7 a8 a9 a10 a11 a12 l = some (decide (okG a0 l)) := by
  unfold clay_members.f
  have := members_loop a0 a1 a2 a3 a4 a5 a6 a7 a8 a9 a10 a11 a12 l hl l.length k 0 0 (by omega) (by omega) hk
  rw [show ((0 : Nat) : Int) = 0 from rfl, List.drop_zero] at this
  rw [this]
  rw [Option.some.injEq, Bool.eq_iff_iff, decide_eq_true_eq]
  unfold okG
  simp only [Bool.and_eq_true, decide_eq_true_eq]

theorem zB_iff (a2 a3 a4 a5 a6 a7 a8 a9 : Int) : ((a2 == 0 && ((a3 == 0 && (a4 == 0)) && (a5 == 0 && ((a6 == 0 && (a7 == 0)) && ((a8 == 0 && (a9 == 0))))))) = true) ↔ zB a2 a3 a4 a5 a6 a7 a8 a9 := by
  unfold zB; simp [and_assoc]
theorem zJ_iff (a b c : Int) : ((a == 0 && (b == 0 && (c == 0))) = true) ↔ zJ a b c := by unfold zJ; simp
theorem only_f (a0 : Int) (a1 : Int) (a2 : Int) (a3 : Int) (a4 : Int) (a5 : Int) (a6 : Int) (a7 : Int) (a8 : Int) (a9 : Int) (a10 : Int) (a11 : Int) (a12 : Int) (l : List Int) : clay_only.f a0 a1 a2 a3 a4 a5 a6 a7 a8 a9 a10 a11 a12 l = some (if a1 = 1 then decide (zJ a10 a11 a12 ∧ l = []) else if a1 = 2 then decide (zB a2 a3 a4 a5 a6 a7 a8 a9 ∧ l = []) else decide (zB a2 a3 a4 a5 a6 a7 a8 a9 ∧ zJ a10 a11 a12)) := by
  unfold clay_only.f
  have hl : ((l.length : Int) == 0) = decide (l = []) := by cases l <;> simp; omega
  by_cases h1 : a1 = 1
  · rw [if_pos h1, if_pos h1]
    by_cases hj : zJ a10 a11 a12
    · rw [if_pos ((zJ_iff _ _ _).2 hj), hl]; simp [hj]
    · rw [if_neg (fun h => hj ((zJ_iff _ _ _).1 h))]; simp [hj]
  · rw [if_neg h1, if_neg h1]
    by_cases h2 : a1 = 2
    · rw [if_pos h2, if_pos h2]
      by_cases hb : zB a2 a3 a4 a5 a6 a7 a8 a9
      · rw [if_pos ((zB_iff _ _ _ _ _ _ _ _).2 hb), hl]; simp [hb]
      · rw [if_neg (fun h => hb ((zB_iff _ _ _ _ _ _ _ _).1 h))]; simp [hb]
    · rw [if_neg h2, if_neg h2]
      by_cases hb : zB a2 a3 a4 a5 a6 a7 a8 a9
      · rw [if_pos ((zB_iff _ _ _ _ _ _ _ _).2 hb)]
        by_cases hj : zJ a10 a11 a12
        · rw [(zJ_iff _ _ _).2 hj]; simp [hb, hj]
        · rw [show (a10 == 0 && (a11 == 0 && (a12 == 0))) = false from by
            cases h : (a10 == 0 && (a11 == 0 && (a12 == 0)))
            · rfl
            · exact absurd ((zJ_iff _ _ _).1 h) hj]
          simp [hb, hj]
      · rw [if_neg (fun h => hb ((zB_iff _ _ _ _ _ _ _ _).1 h))]; simp [hb]

theorem right_k (a0 : Int) (a1 : Int) (a2 : Int) (a3 : Int) (a4 : Int) (a5 : Int) (a6 : Int) (a7 : Int) (a8 : Int) (a9 : Int) (a10 : Int) (a11 : Int) (a12 : Int) (l : List Int) (hl : l.length ≤ 1000000000) (k : Nat) (hk : l.length + 10 ≤ k) : clay_Right.f k a0 a1 a2 a3 a4 a5 a6 a7 a8 a9 a10 a11 a12 l = some (decide (okT a0 a1 a2 a3 a4 a5 a6 a7 a8 a9 a10 a11 a12 l)) := by
  unfold clay_Right.f
  obtain ⟨k, rfl⟩ : ∃ m, k = m + 4 := ⟨k - 4, by omega⟩
  rw [id_f, Option.bind_some, only_f, Option.bind_some]
  have jt : ∀ b, b = true → clay_Right.j0 (k + 4) b a0 a1 a2 a3 a4 a5 a6 a7 a8 a9 a10 a11 a12 l = some false := by rintro b rfl; simp [clay_Right.j0]
  by_cases h0 : okI a0
  · rw [if_pos (decide_eq_true h0)]
    by_cases h1 : a1 = 1
    · rw [if_pos h1]
      by_cases h2 : zJ a10 a11 a12 ∧ l = []
      · rw [decide_eq_true h2]
        simp only [clay_Right.j0, Bool.not_true, Bool.false_eq_true, if_false]
        rw [if_pos h1, shape_f, Option.bind_some, Option.some.injEq, decide_eq_decide]
        unfold okT
        simp [h0, h1, h2.1, h2.2]
      · rw [decide_eq_false h2, jt (!false) rfl, Option.some.injEq, eq_comm, decide_eq_false]
        rintro ⟨_, h | h | h⟩
        · exact h2 ⟨h.2.1, h.2.2.1⟩
        · omega
        · omega
    · rw [if_neg h1]
      by_cases h2 : a1 = 2
      · rw [if_pos h2]
        by_cases h3 : zB a2 a3 a4 a5 a6 a7 a8 a9 ∧ l = []
        · rw [decide_eq_true h3]
          simp only [clay_Right.j0, Bool.not_true, Bool.false_eq_true, if_false]
          rw [if_neg h1, if_pos h2, id_f, id_f, Option.bind_some, Option.bind_some]
          have : okT a0 a1 a2 a3 a4 a5 a6 a7 a8 a9 a10 a11 a12 l ↔ okJ a10 a11 a12 := by
            unfold okT
            simp [h0, h2, h3.1, h3.2]
          rw [show decide (okT a0 a1 a2 a3 a4 a5 a6 a7 a8 a9 a10 a11 a12 l) = decide (okJ a10 a11 a12) from decide_eq_decide.2 this]
          unfold okJ
          by_cases p : okI a10
          · rw [if_pos (decide_eq_true p)]
            by_cases q : okI a11
            · rw [if_pos (decide_eq_true q)]
              by_cases r : a10 = a11
              · rw [if_pos r]; simp [r]
              · rw [if_neg r]
                by_cases s : a12 ≥ 0
                · rw [if_pos s]; simp [p, q, r, show 0 ≤ a12 from s]
                · rw [if_neg s]; simp [show ¬ 0 ≤ a12 from s]
            · rw [if_neg (by simpa using q)]; simp [q]
          · rw [if_neg (by simpa using p)]; simp [p]
        · rw [decide_eq_false h3, jt (!false) rfl, Option.some.injEq, eq_comm, decide_eq_false]
          rintro ⟨_, h | h | h⟩
          · omega
          · exact h3 ⟨h.2.1, h.2.2.1⟩
          · omega
      · rw [if_neg h2]
        by_cases h3 : zB a2 a3 a4 a5 a6 a7 a8 a9 ∧ zJ a10 a11 a12
        · rw [decide_eq_true h3]
          simp only [clay_Right.j0, Bool.not_true, Bool.false_eq_true, if_false]
          rw [if_neg h1, if_neg h2]
          by_cases h4 : a1 = 3
          · rw [if_pos h4, members_f _ _ _ _ _ _ _ _ _ _ _ _ _ l hl _ (by omega), Option.bind_some, Option.some.injEq, decide_eq_decide]
            unfold okT
            simp [h0, h4, h3.1, h3.2]
          · rw [if_neg h4, Option.some.injEq, eq_comm, decide_eq_false]
            rintro ⟨_, h | h | h⟩
            · exact h1 h.1
            · exact h2 h.1
            · exact h4 h.1
        · rw [decide_eq_false h3, jt (!false) rfl, Option.some.injEq, eq_comm, decide_eq_false]
          rintro ⟨_, h | h | h⟩
          · exact h1 h.1
          · exact h2 h.1
          · exact h3 ⟨h.2.1, h.2.2.1⟩
  · rw [if_neg (by simpa using h0), jt _ rfl, Option.some.injEq, eq_comm, decide_eq_false]
    exact fun h => h0 h.1
end Go.Proofs.Ytbjknbfagadhfaa.PAll
