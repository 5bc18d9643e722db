/- ClayCuts in plain form. -/
import Derived.Test.YtbjknbfagadhfaaQPAllx14
import Derived.Test.YtbjknbfagadhfaaQC6
import Derived.Test.YtbjknbfagadhfaaQC7
namespace Go.Proofs.Ytbjknbfagadhfaa.PAll
open Go.RowKit Go.Proofs.YtbjknbfagadhfaaW.PrintWords Go.Proofs.YtbjknbfagadhfaaW.PrintLast Go.Proofs.YtbjknbfagadhfaaW.PrintMore
open Go.Proofs.Ytbjknbfagadhfaa.V (byI byL byL_length byL_snoc inL inL_length)
set_option linter.unusedSimpArgs false
set_option linter.unusedVariables false

theorem light_ex (e : List S73) (t : Bool) (b2 b3 b4 b5 b6 b7 : Int) (hl : e.length ≤ 9223372036854775807) : ∃ r, (∀ k, e.length + 5 ≤ k → maquettelaw18_Light.f k e t b2 b3 b4 b5 b6 b7 = some r) ∧ (r = true → e.length ≤ 60) := by
  have loop : ∀ (d i : Nat) (v : Int), e.length - i = d → i ≤ e.length → ∃ r, (∀ k, d < k → maquettelaw18_Light.l0 k v (e.length : Int) (i : Int) e t b2 b3 b4 b5 b6 b7 = some r) ∧ (r = true → e.length ≤ 60) := by
    intro d
    induction d with
    | zero =>
      intro i v hd hi
      by_cases h : (e.length : Int) ≤ 60
      · refine ⟨decide (v ≤ 8000), fun k hk => ?_, fun _ => by omega⟩
        obtain ⟨k, rfl⟩ : ∃ m, k = m + 1 := ⟨k - 1, by omega⟩
        simp only [maquettelaw18_Light.l0]
        rw [if_neg (by omega), if_pos h]
      · refine ⟨false, fun k hk => ?_, fun h => (by cases h)⟩
        obtain ⟨k, rfl⟩ : ∃ m, k = m + 1 := ⟨k - 1, by omega⟩
        simp only [maquettelaw18_Light.l0]
        rw [if_neg (by omega), if_neg h]
    | succ d ih =>
      intro i v hd hi
      obtain ⟨r, er, hr⟩ := ih (i + 1) (wrap64 (v + wrap64 (((rd_T73 e i).f1.size : Int) + ((rd_T73 e i).f2.size : Int)))) (by omega) (by omega)
      refine ⟨r, fun k hk => ?_, hr⟩
      obtain ⟨k, rfl⟩ : ∃ m, k = m + 1 := ⟨k - 1, by omega⟩
      simp only [maquettelaw18_Light.l0]
      rw [if_pos (by omega), if_pos (by omega), if_pos (by omega), show wrap64 ((i : Int) + 1) = ((i + 1 : Nat) : Int) from by unfold wrap64; omega]
      exact er k (by omega)
  obtain ⟨r, er, hr⟩ := loop e.length 0 0 (by omega) (by omega)
  exact ⟨r, fun k hk => by unfold maquettelaw18_Light.f; exact er k (by omega), hr⟩

/-- a place in bytes -/
theorem place (x : Int) (n : Nat) (h0 : 1 ≤ n) (h1 : n ≤ 1000000) : ∃ i : Nat, i < n ∧ Int.tmod (wrap64 ((Int.tmod x (n : Int)) + (n : Int))) (n : Int) = (i : Int) := by
  have p1 := Int.tmod_lt_of_pos x (b := (n : Int)) (by omega)
  have p2 : -(n : Int) < Int.tmod x (n : Int) := Int.lt_tmod_of_pos x (by omega)
  have e : wrap64 ((Int.tmod x (n : Int)) + (n : Int)) = (Int.tmod x (n : Int)) + (n : Int) := by unfold wrap64; omega
  rw [e]
  have q1 := Int.tmod_nonneg (a := Int.tmod x (n : Int) + n) (n : Int) (by omega)
  have q2 := Int.tmod_lt_of_pos (Int.tmod x (n : Int) + n) (b := (n : Int)) (by omega)
  exact ⟨((Int.tmod x (n : Int) + n).tmod n).toNat, by omega, by omega⟩

theorem stepsL_len (l : List S73) (n : Nat) (hs : ∀ j : Nat, j < n → (rd_T73 l j).f1.size ≤ 62 ∧ (rd_T73 l j).f2.size ≤ 62) : (Go.Proofs.Ytbjknbfagadhfaa.V.stepsL (fun i => (rd_T73 l i).f0) (fun i => (rd_T73 l i).f1) (fun i => (rd_T73 l i).f2) n).length ≤ 200 * n := by
  induction n with
  | zero => exact Nat.le_refl _
  | succ n ih =>
    have h := hs n (by omega)
    have := ih (fun j hj => hs j (by omega))
    rw [Go.Proofs.Ytbjknbfagadhfaa.V.stepsL_snoc]
    simp only [List.length_append, byL_length, bytesOf_length]
    omega
theorem putE_len {l : List S73} {t : Bool} {a2 a3 a4 a5 a6 a7 : Int} (h1 : l.length ≤ 40) (h2 : small l 0) : 1 ≤ (putE l t a2 a3 a4 a5 a6 a7).length ∧ (putE l t a2 a3 a4 a5 a6 a7).length ≤ 9000 := by
  have := stepsL_len l l.length (fun j hj => h2 j (by omega) hj)
  unfold putE
  simp only [List.length_append, byL_length]
  split <;> simp only [List.length_append, byL_length, List.length_nil] <;> omega

/-- bytes of which some lack are no entry; nor are those behind which others stand -/
theorem ge_cut {l : List S73} {t : Bool} {a2 a3 a4 a5 a6 a7 : Int} (h1 : l.length ≤ 40) (h2 : small l 0) (L : List Int) (hL : okB L) (h : (∃ R, R ≠ [] ∧ putE l t a2 a3 a4 a5 a6 a7 = L ++ R) ∨ ∃ R, R ≠ [] ∧ L = putE l t a2 a3 a4 a5 a6 a7 ++ R) :
    ∃ l' t' p2 p3 p4 p5 p6 p7, ∀ k, 2500 ≤ k → clay_GetEntry.f k (strOfNums L) = some (l', t', p2, p3, p4, p5, p6, p7, false) := by
  obtain ⟨l', t', p2, p3, p4, p5, p6, p7, is, e, hi⟩ := ge_any (strOfNums L)
  cases is with
  | false => exact ⟨l', t', p2, p3, p4, p5, p6, p7, e⟩
  | true =>
    exfalso
    obtain ⟨g1, g2, g3⟩ := hi rfl
    have g := strOf_inj hL (okB_putE l' t' p2 p3 p4 p5 p6 p7) g3
    rcases h with ⟨R, hR, h⟩ | ⟨R, hR, h⟩
    · rw [g] at h
      have := putE_free h1 h2 g1 g2 [] R (by rw [List.append_nil]; exact h)
      exact hR this.symm
    · rw [g] at h
      have := putE_free g1 g2 h1 h2 [] R (by rw [List.append_nil]; exact h)
      exact hR this.symm
theorem g_cut {a0 a1 a2 a3 a4 a5 a6 a7 a8 a9 a10 a11 a12 : Int} {l : List Int} (hT : okT a0 a1 a2 a3 a4 a5 a6 a7 a8 a9 a10 a11 a12 l) (L : List Int) (hL : okB L) (h : (∃ R, R ≠ [] ∧ putL a0 a1 a2 a3 a4 a5 a6 a7 a8 a9 a10 a11 a12 l = L ++ R) ∨ ∃ R, R ≠ [] ∧ L = putL a0 a1 a2 a3 a4 a5 a6 a7 a8 a9 a10 a11 a12 l ++ R) :
    ∃ x0 x1 x2 x3 x4 x5 x6 x7 x8 x9 x10 x11 x12 m, ∀ k, 1000 ≤ k → clay_Get.f k (strOfNums L) = some (x0, x1, x2, x3, x4, x5, x6, x7, x8, x9, x10, x11, x12, m, false) := by
  obtain ⟨x0, x1, x2, x3, x4, x5, x6, x7, x8, x9, x10, x11, x12, m, is, e, _, hi, _⟩ := get_any (strOfNums L)
  cases is with
  | false => exact ⟨x0, x1, x2, x3, x4, x5, x6, x7, x8, x9, x10, x11, x12, m, e⟩
  | true =>
    exfalso
    obtain ⟨g1, g3⟩ := hi rfl
    have g := strOf_inj hL (okB_putL _ _ _ _ _ _ _ _ _ _ _ _ _ _) g3
    rcases h with ⟨R, hR, h⟩ | ⟨R, hR, h⟩
    · rw [g] at h
      exact hR (putL_free g1 hT R h.symm)
    · rw [g] at h
      exact hR (putL_free hT g1 R h.symm)

theorem strOf_of (s : ByteArray) : s = strOfNums (bytesOf s) := (strOf_bytesOf s).symm

theorem cuts_k (a0 a1 a2 a3 a4 a5 a6 a7 a8 a9 a10 a11 a12 : Int) (l : List Int) (e : List S73) (t : Bool) (b2 b3 b4 b5 b6 b7 : Int) (x : Int) (y : ByteArray) (he : e.length ≤ 9223372036854775807) (k : Nat) (hk : e.length + 5000 ≤ k) :
    maquettelaw18_ClayCuts.f k a0 a1 a2 a3 a4 a5 a6 a7 a8 a9 a10 a11 a12 l e t b2 b3 b4 b5 b6 b7 x y = some true := by
  have jt : maquettelaw18_ClayCuts.j0 k x y true a0 a1 a2 a3 a4 a5 a6 a7 a8 a9 a10 a11 a12 l e t b2 b3 b4 b5 b6 b7 = some true := by
    obtain ⟨k, rfl⟩ : ∃ m, k = m + 1 := ⟨k - 1, by omega⟩
    simp only [maquettelaw18_ClayCuts.j0, if_true]
    rw [alive_k _ (by omega)]; rfl
  unfold maquettelaw18_ClayCuts.f
  by_cases hl : (l.length : Int) > 40
  · rw [if_pos hl]; exact jt
  · rw [if_neg hl]
    obtain ⟨r, er, hr⟩ := light_ex e t b2 b3 b4 b5 b6 b7 he
    rw [er k (by omega), Option.bind_some]
    cases r with
    | false => rw [if_neg (by decide)]; exact jt
    | true =>
      have h60 := hr rfl
      rw [if_pos rfl]
      by_cases hy : y.toList = []
      · rw [if_pos hy]; exact jt
      · rw [if_neg hy]
        by_cases hy2 : (y.size : Int) > 40
        · rw [if_pos hy2]; exact jt
        · rw [if_neg hy2, alive_k _ (by omega), Option.bind_some]
          clear jt er hr
          have hyb : bytesOf y ≠ [] := by
            intro h
            apply hy
            have := congrArg List.length h
            rw [bytesOf_length] at this
            rw [ByteArray.toList_eq]
            apply List.eq_nil_of_length_eq_zero
            rw [data_length]; exact this
          have hyl : (bytesOf y).length ≤ 40 := by rw [bytesOf_length]; omega
          obtain ⟨Y, hY⟩ : ∃ Y, Y = bytesOf y := ⟨_, rfl⟩
          have hyS : y = strOfNums Y := by rw [hY]; exact strOf_of y
          have okY : okB Y := by rw [hY]; exact okB_bytesOf y
          rw [← hY] at hyb hyl
          subst hyS
          clear hY
          -- the entry's half
          have j1 : ∀ m, 4000 ≤ m → maquettelaw18_ClayCuts.j1 m x (strOfNums Y) e t b2 b3 b4 b5 b6 b7 = some true := by
            intro m hm
            obtain ⟨m, rfl⟩ : ∃ q, m = q + 1 := ⟨m - 1, by omega⟩
            simp only [maquettelaw18_ClayCuts.j1]
            obtain ⟨b, r, ep, hp, hq⟩ := pe_ex e t b2 b3 b4 b5 b6 b7 (by omega)
            rw [ep m (by omega), Option.bind_some]
            cases r with
            | false =>
              simp only [Bool.false_eq_true, if_false]
              rw [hq rfl]
              simp
            | true =>
              obtain ⟨p1, p2, rfl⟩ := hp rfl
              obtain ⟨q0, q1⟩ := putE_len (t := t) (a2 := b2) (a3 := b3) (a4 := b4) (a5 := b5) (a6 := b6) (a7 := b7) p1 p2
              have okE := okB_putE e t b2 b3 b4 b5 b6 b7
              generalize hE : putE e t b2 b3 b4 b5 b6 b7 = E at *
              obtain ⟨i, hi, ei⟩ := place x E.length q0 (by omega)
              simp only [if_true, strOfNums_size]
              rw [if_neg (by omega), ei, if_pos (by omega), if_pos (by omega)]
              have e1 : (strOfNums E).extract 0 ((i : Int)).toNat = strOfNums (E.take i) := by rw [extract_strOf, Int.toNat_natCast, List.drop_zero, Nat.sub_zero]
              rw [e1, strOf_append]
              obtain ⟨c1, c2, c3, c4, c5, c6, c7, c8, g1⟩ := ge_cut (t := t) (a2 := b2) (a3 := b3) (a4 := b4) (a5 := b5) (a6 := b6) (a7 := b7) p1 p2 (E.take i) (okB_take okE i) (.inl ⟨E.drop i, by intro h; have := congrArg List.length h; rw [List.length_drop, List.length_nil] at this; omega, by rw [hE, List.take_append_drop]⟩)
              obtain ⟨d1, d2, d3, d4, d5, d6, d7, d8, g2⟩ := ge_cut (t := t) (a2 := b2) (a3 := b3) (a4 := b4) (a5 := b5) (a6 := b6) (a7 := b7) p1 p2 (E ++ Y) (okB_append.2 ⟨okE, okY⟩) (.inr ⟨Y, hyb, by rw [hE]⟩)
              rw [g1 m (by omega), Option.bind_some, if_pos (by omega), g2 m (by omega), Option.bind_some]
              rfl
          obtain ⟨k, rfl⟩ : ∃ q, k = q + 1 := ⟨k - 1, by omega⟩
          simp only [maquettelaw18_ClayCuts.j0, Bool.not_true, Bool.false_eq_true, if_false]
          rw [put_k _ _ _ _ _ _ _ _ _ _ _ _ _ l (by omega) _ (by omega), Option.bind_some]
          by_cases h : okT a0 a1 a2 a3 a4 a5 a6 a7 a8 a9 a10 a11 a12 l
          · rw [if_pos h]
            have okE := okB_putL a0 a1 a2 a3 a4 a5 a6 a7 a8 a9 a10 a11 a12 l
            obtain ⟨u, hu, hs⟩ := putL_shape h
            have q0 : 1 ≤ (putL a0 a1 a2 a3 a4 a5 a6 a7 a8 a9 a10 a11 a12 l).length := by rw [hu, List.length_cons]; omega
            have q1 : (putL a0 a1 a2 a3 a4 a5 a6 a7 a8 a9 a10 a11 a12 l).length ≤ 100 := by rw [hu, List.length_cons]; rcases hs with h | h | h <;> omega
            have cut := g_cut h
            generalize hE : putL a0 a1 a2 a3 a4 a5 a6 a7 a8 a9 a10 a11 a12 l = E at *
            obtain ⟨i, hi, ei⟩ := place x E.length q0 (by omega)
            simp only [if_true, strOfNums_size]
            rw [if_neg (by omega), ei, if_pos (by omega), if_pos (by omega)]
            have e1 : (strOfNums E).extract 0 ((i : Int)).toNat = strOfNums (E.take i) := by rw [extract_strOf, Int.toNat_natCast, List.drop_zero, Nat.sub_zero]
            rw [e1, strOf_append]
            obtain ⟨c0, c1, c2, c3, c4, c5, c6, c7, c8, c9, c10, c11, c12, c13, g1⟩ := cut (E.take i) (okB_take okE i) (.inl ⟨E.drop i, by intro h; have := congrArg List.length h; rw [List.length_drop, List.length_nil] at this; omega, by rw [List.take_append_drop]⟩)
            obtain ⟨d0, d1, d2, d3, d4, d5, d6, d7, d8, d9, d10, d11, d12, d13, g2⟩ := cut (E ++ Y) (okB_append.2 ⟨okE, okY⟩) (.inr ⟨Y, hyb, rfl⟩)
            rw [g1 k (by omega), Option.bind_some, if_pos (by omega), g2 k (by omega), Option.bind_some]
            simp only [Bool.false_eq_true, if_false]
            exact j1 k (by omega)
          · rw [if_neg h]
            simp only [Bool.false_eq_true, if_false]
            exact j1 k (by omega)
end Go.Proofs.Ytbjknbfagadhfaa.PAll
