/- Entries, plain: what RightEntry, PutEntry, GetEntry answer. -/
import Derived.Test.YtbjknbfagadhfaaQPAllx12
import Derived.Test.YtbjknbfagadhfaaQC5
namespace Go.Proofs.Ytbjknbfagadhfaa.PAll
open Go.RowKit Go.Proofs.YtbjknbfagadhfaaW.PrintWords Go.Proofs.YtbjknbfagadhfaaW.PrintLast Go.Proofs.YtbjknbfagadhfaaW.PrintMore
open Go.Proofs.Ytbjknbfagadhfaa.V (byI byL byL_length byL_snoc inL inL_length stepsL stepsL_snoc stepsL_length)
set_option linter.unusedSimpArgs false
set_option linter.unusedVariables false

theorem toList_iff {a b : ByteArray} : a.toList = b.toList ↔ a = b := by
  rw [ByteArray.toList_eq, ByteArray.toList_eq]
  constructor
  · intro h; cases a; cases b; congr 1; exact Array.toList_inj.1 h
  · rintro rfl; rfl
theorem toList_nil {a : ByteArray} (h : a.toList = []) : a.size = 0 := by
  rw [ByteArray.toList_eq] at h
  rw [← data_length, h]; rfl

theorem side_ex (n : Int) (x y b : ByteArray) : ∃ r, (∀ k, 1000 ≤ k → clay_side.f k n x y b = some r) ∧ (r = true → b.size ≤ 62) := by
  obtain ⟨a0, a1, a2, a3, a4, a5, a6, a7, a8, a9, a10, a11, a12, l, is, e, _, h1, _⟩ := get_any b
  by_cases hb : b.toList = []
  · refine ⟨true, fun k hk => ?_, fun _ => by have := toList_nil hb; omega⟩
    unfold clay_side.f
    rw [e k hk, Option.bind_some, if_pos hb]
  · cases is with
    | true =>
      refine ⟨a0 == n, fun k hk => ?_, fun _ => ?_⟩
      · unfold clay_side.f
        rw [e k hk, Option.bind_some, if_neg hb]; rfl
      · obtain ⟨hT, hs⟩ := h1 rfl
        obtain ⟨t, ht, hsz⟩ := putL_shape hT
        rw [hs, strOfNums_size, ht, List.length_cons]
        rcases hsz with h | h | h <;> omega
    | false =>
      refine ⟨false, fun k hk => ?_, fun h => by cases h⟩
      unfold clay_side.f
      rw [e k hk, Option.bind_some, if_neg hb]; rfl

theorem wnear_f (a : Int) : world_near.f a = some (decide (-4294967296000 ≤ a ∧ a ≤ 4294967296000)) := by
  unfold world_near.f
  by_cases h : a ≥ -4294967296000
  · rw [if_pos h]; simp [show -4294967296000 ≤ a from h]
  · rw [if_neg h]; simp [show ¬ -4294967296000 ≤ a from h]
theorem wright_ex (a b : Int) : ∃ r, ∀ k, 5 ≤ k → world_Right.f k a b [] [] = some r := by
  refine ⟨if (-4294967296000 ≤ a ∧ a ≤ 4294967296000) then decide (-4294967296000 ≤ b ∧ b ≤ 4294967296000) else false, fun k hk => ?_⟩
  obtain ⟨k, rfl⟩ : ∃ m, k = m + 2 := ⟨k - 2, by omega⟩
  unfold world_Right.f
  simp only [world_Right.l0, world_Right.l1, List.length_nil]
  rw [if_neg (by decide), if_neg (by decide), wnear_f, wnear_f, Option.bind_some]
  by_cases h : -4294967296000 ≤ a ∧ a ≤ 4294967296000
  · rw [if_pos (decide_eq_true h), if_pos h]; rfl
  · rw [if_neg (by simpa using h), if_neg h]

theorem j4_k2 (k : Nat) (b : Bool) (hk : 1 ≤ k) : clay_RightEntry.j4 k b = some b := by
  obtain ⟨k, rfl⟩ : ∃ m, k = m + 1 := ⟨k - 1, by omega⟩
  rfl
theorem j3_ex (b : Bool) (l : List S73) (t : Bool) (a2 a3 a4 a5 a6 a7 : Int) : ∃ r, ∀ k, 10 ≤ k → clay_RightEntry.j3 k b l t a2 a3 a4 a5 a6 a7 = some r := by
  obtain ⟨r1, e1⟩ := wright_ex a2 a3
  obtain ⟨r2, e2⟩ := wright_ex a4 a5
  refine ⟨if b = true then false else if (mn a6 a7) < 1 then false else if (mx a6 a7) > 1000001 then false else if r1 = true then (if r2 = true then (if (l.length : Int) > 0 then true else if t = true then true else a6 != a7) else false) else false, fun k hk => ?_⟩
  obtain ⟨k, rfl⟩ : ∃ m, k = m + 1 := ⟨k - 1, by omega⟩
  simp only [clay_RightEntry.j3]
  rw [e1 k (by omega), e2 k (by omega), Option.bind_some, Option.bind_some, j4_k2 k _ (by omega), j4_k2 k _ (by omega), j4_k2 k _ (by omega)]
  repeat' split
  all_goals first | rfl | contradiction
theorem j2_ex (b : Bool) (l : List S73) (t : Bool) (a2 a3 a4 a5 a6 a7 : Int) : ∃ r, ∀ k, 20 ≤ k → clay_RightEntry.j2 k b l t a2 a3 a4 a5 a6 a7 = some r := by
  obtain ⟨r1, e1⟩ := j3_ex false l t a2 a3 a4 a5 a6 a7
  obtain ⟨r2, e2⟩ := j3_ex (!(a2 == 0) || (!(a3 == 0))) l t a2 a3 a4 a5 a6 a7
  refine ⟨if b = true then false else if t = true then r1 else r2, fun k hk => ?_⟩
  obtain ⟨k, rfl⟩ : ∃ m, k = m + 1 := ⟨k - 1, by omega⟩
  simp only [clay_RightEntry.j2]
  rw [e1 k (by omega), e2 k (by omega)]
  repeat' split
  all_goals first | rfl | contradiction

/-- what is needed of the steps -/
def small (l : List S73) (i : Nat) : Prop := ∀ j : Nat, i ≤ j → j < l.length → (rd_T73 l j).f1.size ≤ 62 ∧ (rd_T73 l j).f2.size ≤ 62

theorem re_loop (l : List S73) (t : Bool) (a2 a3 a4 a5 a6 a7 : Int) (hl : l.length ≤ 300) (d : Nat) : ∀ (i : Nat) (v : Int), l.length - i = d → i ≤ l.length → ∃ r, (∀ k, 1200 + 2 * d ≤ k → clay_RightEntry.l0 k v l (l.length : Int) (i : Int) l t a2 a3 a4 a5 a6 a7 = some r) ∧ (r = true → l.length ≤ 40 ∧ small l i) := by
  induction d with
  | zero =>
    intro i v hd hi
    by_cases h : (l.length : Int) > 40
    · refine ⟨false, fun k hk => ?_, fun h => by cases h⟩
      obtain ⟨k, rfl⟩ : ∃ m, k = m + 2 := ⟨k - 2, by omega⟩
      simp only [clay_RightEntry.l0]
      rw [if_neg (by omega), if_pos h]
      simp [clay_RightEntry.j2]
    · obtain ⟨r, e⟩ := j2_ex (t != (!(a2 == a4) || (!(a3 == a5)))) l t a2 a3 a4 a5 a6 a7
      refine ⟨r, fun k hk => ?_, fun _ => ⟨by omega, fun j h1 h2 => by omega⟩⟩
      obtain ⟨k, rfl⟩ : ∃ m, k = m + 1 := ⟨k - 1, by omega⟩
      simp only [clay_RightEntry.l0]
      rw [if_neg (by omega), if_neg h]
      exact e k (by omega)
  | succ d ih =>
    intro i v hd hi
    have hlt : i < l.length := by omega
    have jt : ∀ (k : Nat) (x : Int) (y z : ByteArray), 1 ≤ k → clay_RightEntry.j1 k l (l.length : Int) (i : Int) true l t a2 a3 a4 a5 a6 a7 x y z = some false := by
      intro k x y z hk
      obtain ⟨k, rfl⟩ : ∃ m, k = m + 1 := ⟨k - 1, by omega⟩
      simp [clay_RightEntry.j1]
    have dead : ∀ (P : Prop), (∀ k, 1200 + 2 * (d + 1) ≤ k → clay_RightEntry.l0 k v l (l.length : Int) (i : Int) l t a2 a3 a4 a5 a6 a7 = some false) → ∃ r, (∀ k, 1200 + 2 * (d + 1) ≤ k → clay_RightEntry.l0 k v l (l.length : Int) (i : Int) l t a2 a3 a4 a5 a6 a7 = some r) ∧ (r = true → P) := fun P h => ⟨false, h, fun h => by cases h⟩
    have open_ : ∀ k, 1200 + 2 * (d + 1) ≤ k → ∃ m, k = m + 1 ∧ 1200 + 2 * d + 1 ≤ m := fun k hk => ⟨k - 1, by omega, by omega⟩
    by_cases c1 : (rd_T73 l i).f0 ≤ v
    · refine dead _ fun k hk => ?_
      obtain ⟨k, rfl, hk⟩ := open_ k hk
      simp only [clay_RightEntry.l0]
      rw [if_pos (by omega), if_pos (by omega), if_pos (by omega), if_pos c1]
      exact jt k _ _ _ (by omega)
    · by_cases c2 : okI (rd_T73 l i).f0
      · by_cases c3 : (rd_T73 l i).f1.toList = (rd_T73 l i).f2.toList
        · refine dead _ fun k hk => ?_
          obtain ⟨k, rfl, hk⟩ := open_ k hk
          simp only [clay_RightEntry.l0]
          rw [if_pos (by omega), if_pos (by omega), if_pos (by omega), if_neg c1, id_f, Option.bind_some, if_pos (decide_eq_true c2), if_pos c3]
          exact jt k _ _ _ (by omega)
        · obtain ⟨r1, e1, s1⟩ := side_ex (rd_T73 l i).f0 (rd_T73 l i).f1 (rd_T73 l i).f2 (rd_T73 l i).f1
          obtain ⟨r2, e2, s2⟩ := side_ex (rd_T73 l i).f0 (rd_T73 l i).f1 (rd_T73 l i).f2 (rd_T73 l i).f2
          cases r1 with
          | false =>
            refine dead _ fun k hk => ?_
            obtain ⟨k, rfl, hk⟩ := open_ k hk
            simp only [clay_RightEntry.l0]
            rw [if_pos (by omega), if_pos (by omega), if_pos (by omega), if_neg c1, id_f, Option.bind_some, if_pos (decide_eq_true c2), if_neg c3, e1 k (by omega), Option.bind_some, if_neg (by decide)]
            exact jt k _ _ _ (by omega)
          | true =>
            cases r2 with
            | false =>
              refine dead _ fun k hk => ?_
              obtain ⟨k, rfl, hk⟩ := open_ k hk
              simp only [clay_RightEntry.l0]
              rw [if_pos (by omega), if_pos (by omega), if_pos (by omega), if_neg c1, id_f, Option.bind_some, if_pos (decide_eq_true c2), if_neg c3, e1 k (by omega), Option.bind_some, if_pos rfl, e2 k (by omega), Option.bind_some]
              exact jt k _ _ _ (by omega)
            | true =>
              obtain ⟨r, e, hr⟩ := ih (i + 1) (rd_T73 l i).f0 (by omega) (by omega)
              refine ⟨r, fun k hk => ?_, fun h => ⟨(hr h).1, fun j h1 h2 => ?_⟩⟩
              · obtain ⟨k, rfl, hk⟩ := open_ k hk
                obtain ⟨k, rfl⟩ : ∃ m, k = m + 1 := ⟨k - 1, by omega⟩
                simp only [clay_RightEntry.l0]
                rw [if_pos (by omega), if_pos (by omega), if_pos (by omega), if_neg c1, id_f, Option.bind_some, if_pos (decide_eq_true c2), if_neg c3, e1 (k + 1) (by omega), Option.bind_some, if_pos rfl, e2 (k + 1) (by omega), Option.bind_some]
                simp only [clay_RightEntry.j1, Bool.not_true, Bool.false_eq_true, if_false]
                rw [show wrap64 ((i : Int) + 1) = ((i + 1 : Nat) : Int) from by unfold wrap64; omega]
                exact e k (by omega)
              · by_cases hj : j = i
                · subst hj; exact ⟨s1 rfl, s2 rfl⟩
                · exact (hr h).2 j (by omega) h2
      · refine dead _ fun k hk => ?_
        obtain ⟨k, rfl, hk⟩ := open_ k hk
        simp only [clay_RightEntry.l0]
        rw [if_pos (by omega), if_pos (by omega), if_pos (by omega), if_neg c1, id_f, Option.bind_some, if_neg (by simpa using c2)]
        exact jt k _ _ _ (by omega)

theorem re_ex (l : List S73) (t : Bool) (a2 a3 a4 a5 a6 a7 : Int) (hl : l.length ≤ 300) : ∃ r, (∀ k, 2000 ≤ k → clay_RightEntry.f k l t a2 a3 a4 a5 a6 a7 = some r) ∧ (r = true → l.length ≤ 40 ∧ small l 0) := by
  obtain ⟨r, e, h⟩ := re_loop l t a2 a3 a4 a5 a6 a7 hl l.length 0 0 (by omega) (by omega)
  exact ⟨r, fun k hk => e k (by omega), h⟩

/-- an entry's bytes -/
def putE (l : List S73) (t : Bool) (a2 a3 a4 a5 a6 a7 : Int) : List Int := byL l.length 1 1 ++ (stepsL (fun i => (rd_T73 l i).f0) (fun i => (rd_T73 l i).f1) (fun i => (rd_T73 l i).f2) l.length ++ (byL (if t = true then 1 else 0) 1 1 ++ ((if t = true then byL a2 8 8 ++ (byL a3 8 8 ++ (byL a4 8 8 ++ byL a5 8 8)) else []) ++ (byL a6 4 4 ++ byL a7 4 4))))

theorem small_light {l : List S73} (h : small l 0) : clay_PutEntry.light l = true := by
  unfold clay_PutEntry.light
  rw [List.all_eq_true]
  intro d hd
  obtain ⟨j, hj, rfl⟩ := List.getElem_of_mem hd
  have := h j (by omega) hj
  have e : rd_T73 l (j : Int) = l[j] := by simp [rd_T73, List.getD, List.getElem?_eq_getElem hj]
  rw [e] at this
  simp; omega

theorem pe_ex (l : List S73) (t : Bool) (a2 a3 a4 a5 a6 a7 : Int) (hl : l.length ≤ 300) : ∃ b r, (∀ k, 2000 ≤ k → clay_PutEntry.f k l t a2 a3 a4 a5 a6 a7 = some (b, r)) ∧ (r = true → l.length ≤ 40 ∧ small l 0 ∧ b = strOfNums (putE l t a2 a3 a4 a5 a6 a7)) ∧ (r = false → b = ⟨#[]⟩) := by
  obtain ⟨r, e, h⟩ := re_ex l t a2 a3 a4 a5 a6 a7 hl
  cases r with
  | false =>
    refine ⟨⟨#[]⟩, false, fun k hk => ?_, fun h => (by cases h), fun _ => rfl⟩
    unfold clay_PutEntry.f
    rw [e k hk, Option.bind_some, if_neg (by decide)]
  | true =>
    obtain ⟨h40, hs⟩ := h rfl
    refine ⟨strOfNums (putE l t a2 a3 a4 a5 a6 a7), true, fun k hk => ?_, fun _ => ⟨h40, hs, rfl⟩, fun h => (by cases h)⟩
    unfold clay_PutEntry.f
    rw [e k hk, Option.bind_some, if_pos rfl, if_pos h40, if_pos (small_light hs)]
    unfold putE
    cases t with
    | true => simp only [if_true, List.nil_append, List.append_assoc]
    | false => simp only [Bool.false_eq_true, if_false, List.nil_append, List.append_assoc]

/-! ### every bytes are read as an entry, or as none -/
theorem num2_ex {L : List Int} (hL : okB L) (bad : Bool) : ∃ v L' b', okB L' ∧ (0 ≤ v ∧ v ≤ 65535) ∧ ∀ k, 2 < k → clay_reader_num.f k (strOfNums L) bad 2 = some (v, strOfNums L', b') := by
  refine ⟨_, _, _, rn_ok hL bad 2, ?_, fun k hk => num_k hL bad 2 (by decide) k hk⟩
  unfold rn
  split
  · exact ⟨Int.le_refl _, by show (0 : Int) ≤ 65535; decide⟩
  · split
    · exact ⟨Int.le_refl _, by show (0 : Int) ≤ 65535; decide⟩
    · rename_i h1 h2
      match L, h2, hL with
      | x :: y :: t, _, hL =>
        have hx := hL x (List.mem_cons_self ..)
        have hy := hL y (List.mem_cons_of_mem _ (List.mem_cons_self ..))
        show 0 ≤ rdV [x, y] ∧ rdV [x, y] ≤ 65535
        have : rdV [x, y] = x * 256 + y := by
          unfold rdV
          rw [List.foldl_cons, List.foldl_cons, List.foldl_nil, vst_plain (v := 0) (by decide) (by decide) hx.1 hx.2, vst_plain (by omega) (by omega) hy.1 hy.2]
          unfold wrap64; omega
        rw [this]; omega
      | [x], h2, _ => exact absurd (by simp) h2
      | [], h2, _ => exact absurd (by simp) h2
theorem take_ex {L : List Int} (hL : okB L) (bad : Bool) (n : Int) (hn : 0 ≤ n) : ∃ s L' b', okB L' ∧ clay_reader_take.f (strOfNums L) bad n = some (s, strOfNums L', b') := by
  obtain ⟨m, rfl⟩ := Int.eq_ofNat_of_zero_le hn
  have h := take_k (L := L) bad m
  by_cases c1 : bad = true
  · rw [if_pos c1] at h; exact ⟨_, _, _, hL, h⟩
  · rw [if_neg c1] at h
    by_cases c2 : L.length < m
    · rw [if_pos c2] at h; exact ⟨_, _, _, hL, h⟩
    · rw [if_neg c2] at h; exact ⟨_, _, _, okB_drop hL m, h⟩

/-- the answer of GetEntry, and what it tells -/
def Ans (x0 : ByteArray) (g : Nat → Option (List S73 × Bool × Int × Int × Int × Int × Int × Int × Bool)) (K : Nat) : Prop :=
  ∃ (l : List S73) (t : Bool) (a2 a3 a4 a5 a6 a7 : Int) (is : Bool), (∀ k, K ≤ k → g k = some (l, t, a2, a3, a4, a5, a6, a7, is)) ∧ (is = true → l.length ≤ 40 ∧ small l 0 ∧ x0 = strOfNums (putE l t a2 a3 a4 a5 a6 a7))

theorem gj_ex (x0 : ByteArray) {L : List Int} (hL : okB L) (bad : Bool) (l : List S73) (t : Bool) (a2 a3 a4 a5 a6 a7 : Int) (hl : l.length ≤ 300) : Ans x0 (fun k => clay_GetEntry.j1 k x0 (strOfNums L) bad l t a2 a3 a4 a5 a6 a7) 2100 := by
  obtain ⟨v1, L1, b1, h1, _, e1⟩ := num_ex hL bad 4 4 rfl (by decide)
  obtain ⟨v2, L2, b2, h2, _, e2⟩ := num_ex h1 b1 4 4 rfl (by decide)
  obtain ⟨b, r, ep, hp, hq⟩ := pe_ex l t a2 a3 a4 a5 v1 v2 hl
  have none_ : (∀ k, 2000 ≤ k → clay_GetEntry.j1 (k + 1) x0 (strOfNums L) bad l t a2 a3 a4 a5 a6 a7 = some (([] : List S73), false, 0, 0, 0, 0, 0, 0, false)) → Ans x0 (fun k => clay_GetEntry.j1 k x0 (strOfNums L) bad l t a2 a3 a4 a5 a6 a7) 2100 := by
    intro h
    refine ⟨[], false, 0, 0, 0, 0, 0, 0, false, fun k hk => ?_, fun h => (by cases h)⟩
    obtain ⟨k, rfl⟩ : ∃ m, k = m + 1 := ⟨k - 1, by omega⟩
    exact h k (by omega)
  by_cases c1 : b2 = true
  · refine none_ fun k hk => ?_
    simp only [clay_GetEntry.j1]
    rw [e1 k (by omega), Option.bind_some]
    simp only []
    rw [e2 k (by omega), Option.bind_some, ep k hk, Option.bind_some, if_pos c1]
  · by_cases c2 : r = true
    · by_cases c3 : b.toList = x0.toList
      · refine ⟨l, t, a2, a3, a4, a5, v1, v2, true, fun k hk => ?_, fun _ => ?_⟩
        · obtain ⟨k, rfl⟩ : ∃ m, k = m + 1 := ⟨k - 1, by omega⟩
          show clay_GetEntry.j1 (k + 1) x0 (strOfNums L) bad l t a2 a3 a4 a5 a6 a7 = _
          simp only [clay_GetEntry.j1]
          rw [e1 k (by omega), Option.bind_some]
          simp only []
          rw [e2 k (by omega), Option.bind_some, ep k (by omega), Option.bind_some, if_neg c1, if_pos c2, if_pos c3]
        · obtain ⟨p1, p2, p3⟩ := hp c2
          exact ⟨p1, p2, by rw [← toList_iff.1 c3, p3]⟩
      · refine none_ fun k hk => ?_
        simp only [clay_GetEntry.j1]
        rw [e1 k (by omega), Option.bind_some]
        simp only []
        rw [e2 k (by omega), Option.bind_some, ep k hk, Option.bind_some, if_neg c1, if_pos c2, if_neg c3]
    · refine none_ fun k hk => ?_
      simp only [clay_GetEntry.j1]
      rw [e1 k (by omega), Option.bind_some]
      simp only []
      rw [e2 k (by omega), Option.bind_some, ep k hk, Option.bind_some, if_neg c1, if_neg c2]

theorem gl_ex (x0 : ByteArray) (t : Bool) (a2 a3 a4 a5 a6 a7 : Int) (n : Nat) : ∀ (L : List Int) (bad : Bool) (l : List S73), okB L → l.length + n ≤ 255 → Ans x0 (fun k => clay_GetEntry.l0 k x0 (n : Int) (strOfNums L) bad l t a2 a3 a4 a5 a6 a7) (2200 + n) := by
  induction n with
  | zero =>
    intro L bad l hL hl
    obtain ⟨v1, L1, b1, h1, _, e1⟩ := num_ex hL bad 1 1 rfl (by decide)
    by_cases c : v1 = 1
    · obtain ⟨x, y, L2, b2, h2, e2⟩ := vec_ex h1 b1
      obtain ⟨z, w, L3, b3, h3, e3⟩ := vec_ex h2 b2
      obtain ⟨l', t', p2, p3, p4, p5, p6, p7, is, e, h⟩ := gj_ex x0 h3 b3 l true x y z w a6 a7 (by omega)
      refine ⟨l', t', p2, p3, p4, p5, p6, p7, is, fun k hk => ?_, h⟩
      obtain ⟨k, rfl⟩ : ∃ m, k = m + 1 := ⟨k - 1, by omega⟩
      show clay_GetEntry.l0 (k + 1) x0 ((0 : Nat) : Int) (strOfNums L) bad l t a2 a3 a4 a5 a6 a7 = _
      simp only [clay_GetEntry.l0]
      rw [if_neg (by decide), e1 k (by omega), Option.bind_some]
      simp only []
      rw [if_pos c, e2 k (by omega), Option.bind_some]
      simp only []
      rw [e3 k (by omega), Option.bind_some]
      exact e k (by omega)
    · obtain ⟨l', t', p2, p3, p4, p5, p6, p7, is, e, h⟩ := gj_ex x0 h1 b1 l t a2 a3 a4 a5 a6 a7 (by omega)
      refine ⟨l', t', p2, p3, p4, p5, p6, p7, is, fun k hk => ?_, h⟩
      obtain ⟨k, rfl⟩ : ∃ m, k = m + 1 := ⟨k - 1, by omega⟩
      show clay_GetEntry.l0 (k + 1) x0 ((0 : Nat) : Int) (strOfNums L) bad l t a2 a3 a4 a5 a6 a7 = _
      simp only [clay_GetEntry.l0]
      rw [if_neg (by decide), e1 k (by omega), Option.bind_some]
      simp only []
      rw [if_neg c]
      exact e k (by omega)
  | succ n ih =>
    intro L bad l hL hl
    obtain ⟨v1, L1, b1, h1, _, e1⟩ := num_ex hL bad 4 4 rfl (by decide)
    obtain ⟨v2, L2, b2, h2, hv2, e2⟩ := num2_ex h1 b1
    obtain ⟨s3, L3, b3, h3, e3⟩ := take_ex h2 b2 v2 hv2.1
    obtain ⟨v4, L4, b4, h4, hv4, e4⟩ := num2_ex h3 b3
    obtain ⟨s5, L5, b5, h5, e5⟩ := take_ex h4 b4 v4 hv4.1
    obtain ⟨l', t', p2, p3, p4, p5, p6, p7, is, e, h⟩ := ih L5 b5 (l ++ [(⟨v1, s3, s5⟩ : S73)]) h5 (by rw [List.length_append, List.length_singleton]; omega)
    refine ⟨l', t', p2, p3, p4, p5, p6, p7, is, fun k hk => ?_, h⟩
    obtain ⟨k, rfl⟩ : ∃ m, k = m + 1 := ⟨k - 1, by omega⟩
    show clay_GetEntry.l0 (k + 1) x0 ((n + 1 : Nat) : Int) (strOfNums L) bad l t a2 a3 a4 a5 a6 a7 = _
    simp only [clay_GetEntry.l0]
    rw [if_pos (by omega), e1 k (by omega), Option.bind_some]
    simp only []
    rw [e2 k (by omega), Option.bind_some]
    simp only []
    rw [e3, Option.bind_some]
    simp only []
    rw [e4 k (by omega), Option.bind_some]
    simp only []
    rw [e5, Option.bind_some]
    simp only []
    rw [if_pos (by omega), show wrap64 (((n + 1 : Nat) : Int) - 1) = (n : Int) from by unfold wrap64; omega]
    exact e k (by omega)

theorem ge_any (b : ByteArray) : Ans b (fun k => clay_GetEntry.f k b) 2500 := by
  obtain ⟨v1, L1, b1, h1, hv, e1⟩ := num_ex (okB_bytesOf b) false 1 1 rfl (by decide)
  rw [strOf_bytesOf] at e1
  have hv := hv rfl
  obtain ⟨l', t', p2, p3, p4, p5, p6, p7, is, e, h⟩ := gl_ex b false 0 0 0 0 0 0 v1.toNat L1 b1 [] h1 (by simp; omega)
  refine ⟨l', t', p2, p3, p4, p5, p6, p7, is, fun k hk => ?_, h⟩
  show clay_GetEntry.f k b = _
  unfold clay_GetEntry.f
  rw [e1 k (by omega), Option.bind_some]
  have := e k (by omega)
  rw [show ((v1.toNat : Nat) : Int) = v1 from by omega] at this
  exact this

/-! ### no bytes of one are the beginning of another's -/
theorem byL2_inj {x y : Nat} (hx : x < 65536) (hy : y < 65536) (h : byL x 2 2 = byL y 2 2) : x = y := by
  have := congrArg rdV h
  rw [rdV2 (by omega) (by omega), rdV2 (by omega) (by omega)] at this
  omega
theorem byL1_inj {x y : Int} (h0 : 0 ≤ x) (h1 : x < 256) (g0 : 0 ≤ y) (g1 : y < 256) (h : byL x 1 1 = byL y 1 1) : x = y := by
  have := congrArg rdV h
  rwa [rdV1 h0 h1, rdV1 g0 g1] at this
theorem cut_eq {a b R S : List Int} (hl : a.length = b.length) (h : a ++ R = b ++ S) : a = b ∧ R = S := List.append_inj h hl

theorem steps_free (l m : List S73) (n : Nat) (hs : ∀ j : Nat, j < n → (rd_T73 l j).f1.size ≤ 62 ∧ (rd_T73 l j).f2.size ≤ 62) (hm : ∀ j : Nat, j < n → (rd_T73 m j).f1.size ≤ 62 ∧ (rd_T73 m j).f2.size ≤ 62) :
    ∀ R S : List Int, stepsL (fun i => (rd_T73 l i).f0) (fun i => (rd_T73 l i).f1) (fun i => (rd_T73 l i).f2) n ++ R = stepsL (fun i => (rd_T73 m i).f0) (fun i => (rd_T73 m i).f1) (fun i => (rd_T73 m i).f2) n ++ S → R = S := by
  induction n with
  | zero => intro R S h; exact h
  | succ n ih =>
    intro R S h
    rw [stepsL_snoc, stepsL_snoc] at h
    simp only [List.append_assoc] at h
    have h := ih (fun j hj => hs j (by omega)) (fun j hj => hm j (by omega)) _ _ h
    have p := hs n (by omega)
    have q := hm n (by omega)
    obtain ⟨_, h⟩ := cut_eq (by rw [byL_length, byL_length]) h
    obtain ⟨e1, h⟩ := cut_eq (by rw [byL_length, byL_length]) h
    have z1 := byL2_inj (by omega) (by omega) e1
    obtain ⟨_, h⟩ := cut_eq (by rw [bytesOf_length, bytesOf_length]; exact z1) h
    obtain ⟨e2, h⟩ := cut_eq (by rw [byL_length, byL_length]) h
    have z2 := byL2_inj (by omega) (by omega) e2
    exact (cut_eq (by rw [bytesOf_length, bytesOf_length]; exact z2) h).2

theorem putE_free {l : List S73} {t : Bool} {a2 a3 a4 a5 a6 a7 : Int} {m : List S73} {u : Bool} {b2 b3 b4 b5 b6 b7 : Int} (h1 : l.length ≤ 40) (h2 : small l 0) (g1 : m.length ≤ 40) (g2 : small m 0) (R S : List Int) (h : putE l t a2 a3 a4 a5 a6 a7 ++ R = putE m u b2 b3 b4 b5 b6 b7 ++ S) : R = S := by
  unfold putE at h
  simp only [List.append_assoc] at h
  obtain ⟨e, h⟩ := cut_eq (by rw [byL_length, byL_length]) h
  have hn : l.length = m.length := by
    have := byL1_inj (by omega) (by omega) (by omega) (by omega) e
    omega
  rw [← hn] at h
  have h := steps_free l m l.length (fun j hj => h2 j (by omega) hj) (fun j hj => g2 j (by omega) (by omega)) _ _ h
  obtain ⟨e, h⟩ := cut_eq (by rw [byL_length, byL_length]) h
  have ht : t = u := by
    have := byL1_inj (by split <;> decide) (by split <;> decide) (by split <;> decide) (by split <;> decide) e
    cases t <;> cases u <;> simp at this <;> rfl
  subst ht
  cases t with
  | true =>
    simp only [if_true, List.append_assoc] at h
    obtain ⟨_, h⟩ := cut_eq (by rw [byL_length, byL_length]) h
    obtain ⟨_, h⟩ := cut_eq (by rw [byL_length, byL_length]) h
    obtain ⟨_, h⟩ := cut_eq (by rw [byL_length, byL_length]) h
    obtain ⟨_, h⟩ := cut_eq (by rw [byL_length, byL_length]) h
    obtain ⟨_, h⟩ := cut_eq (by rw [byL_length, byL_length]) h
    exact (cut_eq (by rw [byL_length, byL_length]) h).2
  | false =>
    simp only [Bool.false_eq_true, if_false, List.nil_append] at h
    obtain ⟨_, h⟩ := cut_eq (by rw [byL_length, byL_length]) h
    exact (cut_eq (by rw [byL_length, byL_length]) h).2
theorem okB_putE (l : List S73) (t : Bool) (a2 a3 a4 a5 a6 a7 : Int) : okB (putE l t a2 a3 a4 a5 a6 a7) := by
  have hs : ∀ n, okB (stepsL (fun i => (rd_T73 l i).f0) (fun i => (rd_T73 l i).f1) (fun i => (rd_T73 l i).f2) n) := by
    intro n
    induction n with
    | zero => exact okB_nil
    | succ n ih => rw [stepsL_snoc]; exact okB_append.2 ⟨okB_append.2 ⟨okB_append.2 ⟨okB_append.2 ⟨okB_append.2 ⟨ih, okB_byL _ _ _⟩, okB_byL _ _ _⟩, okB_bytesOf _⟩, okB_byL _ _ _⟩, okB_bytesOf _⟩
  unfold putE
  refine okB_append.2 ⟨okB_byL _ _ _, okB_append.2 ⟨hs _, okB_append.2 ⟨okB_byL _ _ _, okB_append.2 ⟨?_, okB_append.2 ⟨okB_byL _ _ _, okB_byL _ _ _⟩⟩⟩⟩⟩
  split
  · exact okB_append.2 ⟨okB_byL _ _ _, okB_append.2 ⟨okB_byL _ _ _, okB_append.2 ⟨okB_byL _ _ _, okB_byL _ _ _⟩⟩⟩
  · exact okB_nil

theorem putL_free {a0 a1 a2 a3 a4 a5 a6 a7 a8 a9 a10 a11 a12 : Int} {l : List Int} {b0 b1 b2 b3 b4 b5 b6 b7 b8 b9 b10 b11 b12 : Int} {m : List Int} (h1 : okT a0 a1 a2 a3 a4 a5 a6 a7 a8 a9 a10 a11 a12 l) (h2 : okT b0 b1 b2 b3 b4 b5 b6 b7 b8 b9 b10 b11 b12 m) (R : List Int) (h : putL a0 a1 a2 a3 a4 a5 a6 a7 a8 a9 a10 a11 a12 l ++ R = putL b0 b1 b2 b3 b4 b5 b6 b7 b8 b9 b10 b11 b12 m) : R = [] := by
  obtain ⟨t, ht, hs⟩ := putL_shape h1
  obtain ⟨u, hu, hz⟩ := putL_shape h2
  have h0 := h
  rw [ht, hu, List.cons_append] at h
  injection h with e1 e2
  have e3 := congrArg List.length e2
  rw [List.length_append] at e3
  have hR : ∀ n : Nat, n = 0 → R.length = n → R = [] := by rintro n rfl h; exact List.eq_nil_of_length_eq_zero h
  have hlen : a1 = 3 → l.length = m.length := by
    intro h3
    unfold putL at h0
    rw [if_neg (by omega), if_neg (by omega), if_neg (by omega), if_neg (by omega)] at h0
    simp only [List.append_assoc] at h0
    have h0 := List.append_cancel_left h0
    obtain ⟨_, h0⟩ := cut_eq (by rw [byL_length, byL_length]) h0
    obtain ⟨e, _⟩ := cut_eq (by rw [byL_length, byL_length]) h0
    have g1 := okT_len h1
    have g2 := okT_len h2
    have := byL1_inj (by omega) (by omega) (by omega) (by omega) e
    omega
  rcases hs with hs | hs | hs <;> rcases hz with hz | hz | hz
  all_goals first | (exfalso; omega) | exact hR _ rfl (by omega) | (have := hlen hs.1; exact hR _ rfl (by omega))
end Go.Proofs.Ytbjknbfagadhfaa.PAll
