/- CrownTears: a crown of which the first bytes came over one of another Gen is the one, or the other, or none: the printed law answers true for every input. -/
import Derived.Test.YtenjkmfpbimmbaaPAllx9
import Derived.Test.YtenjkmfpbimmbaaD
namespace Go.Proofs.Ytenjkmfpbimmbaa.Pure
open Go.RowKit Go.Proofs.Ytenjkmfpbimmbaa.PAll Go.Proofs.YtenjkmfpbimmbaaW.PrintWords Go.Proofs.YtenjkmfpbimmbaaW.PrintLast Go.Proofs.YtenjkmfpbimmbaaW.PrintMore
set_option linter.unusedSimpArgs false
set_option linter.unusedVariables false

theorem tears_out {k : Nat} (hk : 20 ≤ k) (n : Int) (x y : ByteArray) (a b c d e f : Int) : maquettelaw14_CrownTears.j0 (k + 1) n x y true a b c d e f = some true := by
  simp only [maquettelaw14_CrownTears.j0, if_true, alive_k hk, Option.bind_some]

/-- where the tear may lie -/
theorem tear_at (x : Int) : 0 ≤ Int.tmod (wrap64 ((wrap64 ((Int.tmod x 129) + 128)) + 1)) 129 ∧ Int.tmod (wrap64 ((wrap64 ((Int.tmod x 129) + 128)) + 1)) 129 ≤ 128 := by
  have h1 := Int.tmod_lt_of_pos x (show (0 : Int) < 129 by decide)
  have h2 := Int.lt_tmod_of_pos x (show (0 : Int) < 129 by decide)
  generalize Int.tmod x 129 = t at *
  have e : wrap64 ((wrap64 (t + 128)) + 1) = t + 129 := by unfold wrap64; omega
  rw [e, Int.tmod_eq_emod_of_nonneg (by omega)]
  omega

theorem gG_list {b : ByteArray} {l : List UInt8} (h : b.data.toList.take 8 = l) : gG b = val l := by unfold gG; rw [h]

theorem torn {g r p g' r' p' : Int} (h : okC g r p = true) (h' : okC g' r' p' = true) (hne : g ≠ g') (n : Nat) (hn : n ≤ 128) {t : ByteArray}
    (ht : t.data.toList = (enc g' r' p').take n ++ (enc g r p).drop n) (hc : isC t = true) : (gG t = g ∧ gR t = r ∧ gP t = p) ∨ (gG t = g' ∧ gR t = r' ∧ gP t = p') := by
  obtain ⟨hok, he⟩ := isC_enc hc
  obtain ⟨b1, b2, _⟩ := okC_iff.1 hok
  obtain ⟨c1, c2, _⟩ := okC_iff.1 h
  have l1 := enc_length g r p
  have l2 := enc_length g' r' p'
  have htail : t.data.toList.drop 120 = be8 (gG t) := by rw [he]; rfl
  have htk : ((enc g' r' p').take n).length = n := by rw [List.length_take]; omega
  -- behind the tear
  have hdrop : ∀ k, n ≤ k → t.data.toList.drop k = (enc g r p).drop k := by
    intro k hk
    rw [ht, List.drop_append, htk, List.drop_of_length_le (by omega), List.nil_append, List.drop_drop]
    congr 1; omega
  have htake : ∀ k, k ≤ n → t.data.toList.take k = (enc g' r' p').take k := by
    intro k hk
    rw [ht, List.take_append_of_le_length (by omega), List.take_take]
    congr 1; omega
  have xr : val (((enc g r p).drop 8).take 2) = r := gR_enc h
  have xp : val (((enc g r p).drop 10).take 2) = p := gP_enc h
  have yg : val ((enc g' r' p').take 8) = g' := gG_enc h'
  have yr : val (((enc g' r' p').drop 8).take 2) = r' := gR_enc h'
  have yp : val (((enc g' r' p').drop 10).take 2) = p' := gP_enc h'
  have tailx : n ≤ 120 → gG t = g := by
    intro hk
    have e1 := hdrop 120 hk
    rw [htail] at e1
    have e2 : (enc g r p).drop 120 = be8 g := rfl
    rw [e2] at e1
    have := congrArg val e1
    rwa [val8 (by omega) b2, val8 (by omega) c2] at this
  have heady : 8 ≤ n → gG t = g' := by
    intro hk
    rw [gG_list (htake 8 hk), yg]
  by_cases n1 : n ≤ 8
  · left
    refine ⟨tailx (by omega), ?_, ?_⟩
    · unfold gR; rw [hdrop 8 n1, xr]
    · unfold gP; rw [hdrop 10 (by omega), xp]
  · by_cases n2 : n ≤ 120
    · exact absurd ((tailx n2).symm.trans (heady (by omega))) hne
    · right
      have hsub : ∀ a b, a + b ≤ n → (t.data.toList.drop a).take b = ((enc g' r' p').drop a).take b := by
        intro a b hab
        have := htake (a + b) hab
        skip
        rw [List.take_drop, List.take_drop, this]
      refine ⟨heady (by omega), ?_, ?_⟩
      · unfold gR; rw [hsub 8 2 (by omega), yr]
      · unfold gP; rw [hsub 10 2 (by omega), yp]

theorem tears_in {k : Nat} (hk : 20 ≤ k) {g r p g' r' p' : Int} (h : okC g r p = true) (h' : okC g' r' p' = true) (hne : g ≠ g') (x : Int) :
    maquettelaw14_CrownTears.j0 (k + 1) x (encB g r p) (encB g' r' p') false g r p g' r' p' = some true := by
  obtain ⟨m, rfl⟩ : ∃ m, k = m + 1 := ⟨k - 1, by omega⟩
  obtain ⟨t0, t1⟩ := tear_at x
  simp only [maquettelaw14_CrownTears.j0, maquettelaw14_CrownTears.j1, Bool.false_eq_true, if_false, encB_size]
  generalize hN : Int.tmod (wrap64 ((wrap64 ((Int.tmod x 129) + 128)) + 1)) 129 = N at *
  obtain ⟨n, rfl⟩ := Int.eq_ofNat_of_zero_le t0
  rw [if_pos (by decide), if_pos (by decide), if_pos (by omega), if_pos (by omega), if_pos (by omega), Int.toNat_natCast,
    if_pos (by rw [ByteArray.size_extract, ByteArray.size_extract, encB_size, encB_size]; omega), get_k hk]
  simp only [Option.bind_some]
  generalize hT : (encB g' r' p').extract 0 n ++ (encB g r p).extract n 128 = T
  have hl : T.data.toList = (enc g' r' p').take n ++ (enc g r p).drop n := by
    rw [← hT, ByteArray.data_append, Array.toList_append, extract_list, extract_list]
    have e1 : (encB g' r' p').data.toList = enc g' r' p' := rfl
    have e2 : (encB g r p).data.toList = enc g r p := rfl
    rw [e1, e2, List.drop_zero, Nat.sub_zero, List.take_of_length_le (l := (enc g r p).drop n) (by rw [List.length_drop, enc_length]; exact Nat.le_refl _)]
  unfold getA
  cases hc : isC T
  · simp
  · simp only [if_true]
    rcases torn h h' hne n (by omega) hl hc with ⟨e1, e2, e3⟩ | ⟨e1, e2, e3⟩
    · simp [e1, e2, e3]
    · rw [e1, e2, e3]
      simp

theorem CrownTears (g r p g' r' p' x : Int) : ∃ k, maquettelaw14_CrownTears.f k g r p g' r' p' x = some true := by
  refine ⟨30 + 1, ?_⟩
  unfold maquettelaw14_CrownTears.f
  simp only [put_k (show 20 ≤ 30 + 1 by decide), Option.bind_some, alive_k (show 20 ≤ 30 + 1 by decide), Bool.not_true]
  cases h : okC g r p
  · simp only [Bool.false_eq_true, if_false]
    exact tears_out (k := 30) (by decide) _ _ _ _ _ _ _ _ _
  · cases h' : okC g' r' p'
    · simp only [Bool.false_eq_true, if_false, if_true]
      exact tears_out (k := 30) (by decide) _ _ _ _ _ _ _ _ _
    · simp only [if_true, putA_ok h, putA_ok h']
      by_cases hg : g = g'
      · rw [if_pos hg]; exact tears_out (k := 30) (by decide) _ _ _ _ _ _ _ _ _
      · rw [if_neg hg]; exact tears_in (k := 30) (by decide) h h' hg x

theorem CrownTears_walk (g r p g' r' p' x : Int) (w0 : (Lit.int .i64 g).wf = true) (w1 : (Lit.int .i64 r).wf = true) (w2 : (Lit.int .i64 p).wf = true) (v0 : (Lit.int .i64 g').wf = true) (v1 : (Lit.int .i64 r').wf = true) (v2 : (Lit.int .i64 p').wf = true) (w3 : (Lit.int .i64 x).wf = true) (w : World) :
    Calls Try.prog 4 #[.agg #[.int .i64 g, .int .i64 r, .int .i64 p], .agg #[.int .i64 g', .int .i64 r', .int .i64 p'], .int .i64 x] w fun e w' => e = .returned (.bool true) ∧ Below w.heap.size w w' := by
  obtain ⟨k, h⟩ := CrownTears g r p g' r' p' x
  exact maquettelaw14_CrownTears.calls k g r p g' r' p' x true w h
end Go.Proofs.Ytenjkmfpbimmbaa.Pure
