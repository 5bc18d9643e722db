/- ClayTurned in plain form. -/
import Derived.Test.YtbjknbfagadhfaaQPAllx16
import Derived.Test.YtbjknbfagadhfaaQC6
namespace Go.Proofs.Ytbjknbfagadhfaa.PAll
open Go.RowKit Go.Proofs.YtbjknbfagadhfaaW.PrintWords Go.Proofs.YtbjknbfagadhfaaW.PrintLast Go.Proofs.YtbjknbfagadhfaaW.PrintMore
open Go.Proofs.Ytbjknbfagadhfaa.V (byI byL byL_length byL_snoc inL inL_length)
set_option linter.unusedSimpArgs false
set_option linter.unusedVariables false

theorem sameInts_k (l m : List Int) (hl : l.length ≤ 1000000000) : ∀ k, l.length + 5 ≤ k → maquettebook_SameInts.f k l m = some (decide (l = m)) := by
  intro k hk
  unfold maquettebook_SameInts.f
  by_cases h : (l.length : Int) = (m.length : Int)
  · rw [if_pos h]
    have hlm : l.length = m.length := by omega
    have loop : ∀ (d k i : Nat), l.length - i = d → i ≤ l.length → d < k → maquettebook_SameInts.l0 k l m (i : Int) = some (decide (l.drop i = m.drop i)) := by
      intro d
      induction d with
      | zero =>
        intro k i hd hi hk
        obtain ⟨k, rfl⟩ : ∃ m, k = m + 1 := ⟨k - 1, by omega⟩
        simp only [maquettebook_SameInts.l0]
        rw [if_neg (by omega), List.drop_of_length_le (by omega), List.drop_of_length_le (by omega)]
        rfl
      | succ d ih =>
        intro k i hd hi hk
        obtain ⟨k, rfl⟩ : ∃ m, k = m + 1 := ⟨k - 1, by omega⟩
        simp only [maquettebook_SameInts.l0]
        have h1 : i < l.length := by omega
        have h2 : i < m.length := by omega
        rw [if_pos (by omega), if_pos (by omega), if_pos (by omega), rd_at l i h1, rd_at m i h2, List.drop_eq_getElem_cons h1, List.drop_eq_getElem_cons h2,
          show wrap64 ((i : Int) + 1) = ((i + 1 : Nat) : Int) from by unfold wrap64; omega]
        by_cases he : l[i] = m[i]
        · rw [if_pos he, ih k (i + 1) (by omega) (by omega) (by omega), he, Option.some.injEq, decide_eq_decide]; exact ⟨fun e => by rw [e], fun e => (List.cons.inj e).2⟩
        · rw [if_neg he, decide_eq_false (fun e => he (List.cons.inj e).1)]
    have := loop l.length k 0 (by omega) (by omega) (by omega)
    simpa using this
  · rw [if_neg h, decide_eq_false]; rintro rfl; exact h rfl

theorem sameThing_ne (a0 a1 a2 a3 a4 a5 a6 a7 a8 a9 a10 a11 a12 : Int) (l : List Int) (x0 x1 x2 x3 x4 x5 x6 x7 x8 x9 x10 x11 x12 : Int) (m : List Int) (hl : l.length ≤ 1000000000) (hne : putL a0 a1 a2 a3 a4 a5 a6 a7 a8 a9 a10 a11 a12 l ≠ putL x0 x1 x2 x3 x4 x5 x6 x7 x8 x9 x10 x11 x12 m) (k : Nat) (hk : l.length + 5 ≤ k) : maquettebook_SameThing.f k a0 a1 a2 a3 a4 a5 a6 a7 a8 a9 a10 a11 a12 l x0 x1 x2 x3 x4 x5 x6 x7 x8 x9 x10 x11 x12 m = some false := by
  unfold maquettebook_SameThing.f
  by_cases h0 : a0 = x0
  · rw [if_pos h0]
    by_cases h1 : a1 = x1
    · rw [if_pos h1]
      split
      · rename_i hb
        split
        · rename_i hj
          rw [sameInts_k l m hl k hk, Option.bind_some]
          rw [decide_eq_false]
          rintro rfl
          simp only [Bool.and_eq_true, beq_iff_eq] at hb hj
          apply hne
          obtain ⟨rfl, ⟨rfl, rfl⟩, rfl, ⟨rfl, rfl⟩, rfl, rfl⟩ := hb
          obtain ⟨rfl, rfl, rfl⟩ := hj
          rw [h0, h1]
        · rfl
      · rfl
    · rw [if_neg h1]
  · rw [if_neg h0]

theorem turned_k (a0 a1 a2 a3 a4 a5 a6 a7 a8 a9 a10 a11 a12 : Int) (l : List Int) (at_ y : Int) (y0 : 0 ≤ y) (y1 : y < 256) : maquettelaw18_ClayTurned.f 3000 a0 a1 a2 a3 a4 a5 a6 a7 a8 a9 a10 a11 a12 l at_ y = some true := by
  have jt : maquettelaw18_ClayTurned.j0 3000 at_ y true a0 a1 a2 a3 a4 a5 a6 a7 a8 a9 a10 a11 a12 l = some true := by
    show maquettelaw18_ClayTurned.j0 (2999 + 1) at_ y true a0 a1 a2 a3 a4 a5 a6 a7 a8 a9 a10 a11 a12 l = some true
    simp only [maquettelaw18_ClayTurned.j0, if_true]
    rw [alive_k _ (by decide)]; rfl
  unfold maquettelaw18_ClayTurned.f
  by_cases hl : (l.length : Int) > 40
  · rw [if_pos hl]; exact jt
  · rw [if_neg hl]
    by_cases hy : y = 0
    · rw [if_pos hy]; exact jt
    · rw [if_neg hy, alive_k _ (by decide), Option.bind_some]
      show maquettelaw18_ClayTurned.j0 (2999 + 1) at_ y (!true) a0 a1 a2 a3 a4 a5 a6 a7 a8 a9 a10 a11 a12 l = some true
      simp only [maquettelaw18_ClayTurned.j0, Bool.not_true, Bool.false_eq_true, if_false]
      rw [put_k _ _ _ _ _ _ _ _ _ _ _ _ _ l (by omega) _ (by omega), Option.bind_some]
      by_cases h : okT a0 a1 a2 a3 a4 a5 a6 a7 a8 a9 a10 a11 a12 l
      · rw [if_pos h]
        have hok := okB_putL a0 a1 a2 a3 a4 a5 a6 a7 a8 a9 a10 a11 a12 l
        obtain ⟨t, ht, hs⟩ := putL_shape h
        have hL0 : 1 ≤ (putL a0 a1 a2 a3 a4 a5 a6 a7 a8 a9 a10 a11 a12 l).length := by rw [ht, List.length_cons]; omega
        have hL1 : (putL a0 a1 a2 a3 a4 a5 a6 a7 a8 a9 a10 a11 a12 l).length ≤ 100 := by rw [ht, List.length_cons]; rcases hs with h | h | h <;> omega
        generalize hL : putL a0 a1 a2 a3 a4 a5 a6 a7 a8 a9 a10 a11 a12 l = L at *
        simp only [if_true]
        show maquettelaw18_ClayTurned.j1 (2998 + 1) at_ y (strOfNums L) true (((strOfNums L).size : Int) == 0) a0 a1 a2 a3 a4 a5 a6 a7 a8 a9 a10 a11 a12 l = some true
        simp only [maquettelaw18_ClayTurned.j1, strOfNums_size]
        rw [show ((L.length : Int) == 0) = false from by simp; intro h; rw [h] at hL0; simp at hL0]
        simp only [Bool.false_eq_true, if_false]
        obtain ⟨ix, hix, i0, i1⟩ : ∃ ix : Int, ix = Int.tmod (wrap64 ((Int.tmod at_ (L.length : Int)) + (L.length : Int))) (L.length : Int) ∧ 0 ≤ ix ∧ ix < L.length := by
          have p1 := Int.tmod_lt_of_pos at_ (b := (L.length : Int)) (by omega)
          have p2 : -(L.length : Int) < Int.tmod at_ (L.length : Int) := by
            have := Int.lt_tmod_of_pos at_ (b := (L.length : Int)) (by omega)
            exact this
          have e : wrap64 ((Int.tmod at_ (L.length : Int)) + (L.length : Int)) = (Int.tmod at_ (L.length : Int)) + (L.length : Int) := by unfold wrap64; omega
          rw [e]
          refine ⟨_, rfl, Int.tmod_nonneg _ (by omega), Int.tmod_lt_of_pos _ (by omega)⟩
        rw [← hix]
        have hw : wrap64 (ix + 1) = ix + 1 := by unfold wrap64; omega
        obtain ⟨i, rfl⟩ := Int.eq_ofNat_of_zero_le i0
        have hiL : i < L.length := by omega
        have hz := hok L[i] (List.getElem_mem hiL)
        have hbt : bt (strOfNums L) (i : Int) = L[i] := by rw [bt_strOf hok, rd_at L i hiL]
        obtain ⟨hxr, hxn⟩ := xor_u8 hz.1 hz.2 y0 y1 hy
        rw [hw, hbt, if_neg (by omega), if_pos (by omega), if_pos (by omega), if_pos (by omega), Option.bind_some]
        generalize hq : Go.bits .xor .u8 L[i] y = q at hxr hxn
        have e1 : (strOfNums L).extract 0 ((i : Int)).toNat = strOfNums (L.take i) := by rw [extract_strOf, Int.toNat_natCast, List.drop_zero, Nat.sub_zero]
        have e2 : (strOfNums L).extract ((i : Int) + 1).toNat L.length = strOfNums (L.drop (i + 1)) := by
          rw [extract_strOf, show ((i : Int) + 1).toNat = i + 1 by omega, List.take_of_length_le (by rw [List.length_drop]; omega)]
        rw [e1, e2]
        rw [if_pos (by simp only [strOfNums_size, List.length_take, List.length_singleton]; omega), if_pos (by omega), if_pos (by omega), strOf_append, if_pos (by simp only [strOfNums_size, List.length_append, List.length_take, List.length_drop, List.length_singleton]; omega), strOf_append]
        have okN : okB (L.take i ++ [q] ++ L.drop (i + 1)) := okB_append.2 ⟨okB_append.2 ⟨okB_take hok i, by intro z hz; simp at hz; omega⟩, okB_drop hok (i + 1)⟩
        obtain ⟨x0, x1, x2, x3, x4, x5, x6, x7, x8, x9, x10, x11, x12, l2, is, e, hl2, h1, h2⟩ := get_any (strOfNums (L.take i ++ [q] ++ L.drop (i + 1)))
        rw [e _ (by decide), Option.bind_some]
        cases is with
        | false => rfl
        | true =>
          obtain ⟨hx, hb⟩ := h1 rfl
          have he := strOf_inj okN (okB_putL _ _ _ _ _ _ _ _ _ _ _ _ _ _) hb
          simp only [if_true]
          rw [sameThing_ne _ _ _ _ _ _ _ _ _ _ _ _ _ _ _ _ _ _ _ _ _ _ _ _ _ _ _ _ (by omega) ?_ _ (by omega)]
          · rfl
          · rw [hL, ← he]
            intro hh
            have h3 := congrArg (fun z : List Int => z[i]?) hh
            rw [List.getElem?_eq_getElem hiL, List.append_assoc, List.getElem?_append_right (by rw [List.length_take]; omega)] at h3
            rw [show i - (L.take i).length = 0 by rw [List.length_take]; omega] at h3
            simp at h3
            exact hxn h3
      · rw [if_neg h]
        simp only [Bool.false_eq_true, if_false]
        show maquettelaw18_ClayTurned.j1 (2998 + 1) at_ y _ false true a0 a1 a2 a3 a4 a5 a6 a7 a8 a9 a10 a11 a12 l = some true
        simp only [maquettelaw18_ClayTurned.j1, if_true]
        rfl
end Go.Proofs.Ytbjknbfagadhfaa.PAll
