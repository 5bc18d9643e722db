/- The program's platter and the document's tell the same: plain. -/
import Derived.Test.YtcmldpacgbhfmaaE5
namespace Go.Proofs.Ytcmldpacgbhfmaa.V
open Go.RowKit Go.Proofs.YtcmldpacgbhfmaaW.PrintWords Go.Proofs.YtcmldpacgbhfmaaW.PrintLast Go.Proofs.YtcmldpacgbhfmaaW.PrintMore
set_option linter.unusedVariables false
set_option linter.unusedSimpArgs false

structure Rel (N k : Nat) (S : PS) (R : RS) : Prop where
  dead : R.dead = S.halted
  safe : R.last = S.safe
  afl : R.float = S.afl
  last : S.last = lastOf S.afl
  pages : pagesOk S
  len : S.safe.length = N
  few : S.afl.length ≤ k
  low : 0 ≤ S.after
  high : S.after ≤ 9223372036854775807
  aft : R.after = if S.halts = true then S.after else -1
section
variable {N k : Nat} {S : PS} {R : RS}
theorem Rel.mono {k' : Nat} (h : Rel N k S R) (hk : k ≤ k') : Rel N k' S R := { h with few := Nat.le_trans h.few hk }
theorem Rel.start (n : Nat) : Rel n 0 (newS n) (newR n) :=
  ⟨rfl, rfl, rfl, rfl, (WellS.new n).pages, (WellS.new n).len, Nat.le_refl _, Int.le_refl _, (by show (0 : Int) ≤ 9223372036854775807; decide), rfl⟩
theorem Rel.pagesR (h : Rel N k S R) : pagesR R := by
  unfold V.pagesR
  rw [h.safe, h.afl]
  exact h.pages
theorem Rel.load (h : Rel N k S R) (n : Int) : loadR R n = loadE S n := by
  unfold loadR loadE mayE
  rw [h.dead, h.safe, h.afl, h.last]
  cases hh : S.halted with
  | true => simp
  | false =>
    simp only [Bool.false_eq_true, if_false]
    by_cases h1 : n < 0
    · rw [if_pos h1, if_pos h1]; rfl
    · rw [if_neg h1, if_neg h1]
      by_cases h2 : (S.safe.length : Int) ≤ n
      · rw [if_pos h2, if_pos h2]; rfl
      · rw [if_neg h2, if_neg h2]; rfl
theorem Rel.store (h : Rel N k S R) (n : Int) (b : ByteArray) : storeRE R n b = storeE S n b ∧ Rel N (k + 1) (storeS S n b) (storeRS R n b) := by
  have hm := h.mono (Nat.le_succ k)
  obtain ⟨safe, last, afl, halts, after, halted⟩ := S
  obtain ⟨rlast, rfloat, rdead, rafter⟩ := R
  obtain ⟨hd, hs, ha, hl, hp, hN, hf, h0, h1, h2⟩ := h
  simp only at hd hs ha hl hN hf h0 h1 h2
  subst hd hs ha
  unfold storeRE storeE storeRS storeS mayE
  simp only
  cases rdead with
  | true => simp; exact hm
  | false =>
    simp only [Bool.false_eq_true, if_false]
    by_cases g1 : n < 0
    · simp only [if_pos g1]; exact ⟨by first | rfl | trivial, hm⟩
    · simp only [if_neg g1]
      by_cases g2 : (rlast.length : Int) ≤ n
      · simp only [if_pos g2]; exact ⟨by first | rfl | trivial, hm⟩
      · simp only [if_neg g2, if_true]
        by_cases g3 : b.size = 128
        · simp only [if_pos g3]
          have hp' : ∀ p ∈ rfloat ++ [(⟨n, b⟩ : S65)], (0 ≤ p.f0 ∧ p.f0 < rlast.length) ∧ p.f1.size = 128 := by
            intro p hq
            rcases List.mem_append.1 hq with hq | hq
            · exact hp.2 p hq
            · rw [List.mem_singleton] at hq
              subst hq
              exact ⟨⟨by show 0 ≤ n; omega, by show n < (rlast.length : Int); omega⟩, g3⟩
          have hl' : upd last n b = lastOf (rfloat ++ [⟨n, b⟩]) := by rw [lastOf_snoc, hl]
          have hf' : (rfloat ++ [(⟨n, b⟩ : S65)]).length ≤ k + 1 := by simp; exact hf
          cases halts with
          | true =>
            rw [if_pos rfl] at h2
            subst h2
            by_cases g4 : rafter = 0
            · simp only [if_pos g4, g4, and_self, if_true]
              exact ⟨by first | rfl | trivial, ⟨rfl, rfl, rfl, hl, hp, hN, Nat.le_succ_of_le hf, Int.le_refl _, (by show (0 : Int) ≤ 9223372036854775807; decide), rfl⟩⟩
            · simp only [if_neg g4, g4, and_false, if_true, if_false]
              refine ⟨by first | rfl | trivial, ⟨rfl, rfl, rfl, hl', ⟨hp.1, hp'⟩, hN, hf', ?_, ?_, ?_⟩⟩
              · show 0 ≤ max (wrap64 (rafter - 1)) 0; omega
              · show max (wrap64 (rafter - 1)) 0 ≤ _; unfold wrap64; omega
              · show aftR rafter = max (wrap64 (rafter - 1)) 0
                rw [aftR, if_pos (by omega)]
                unfold wrap64; omega
          | false =>
            simp only [Bool.false_eq_true, if_false] at h2
            subst h2
            simp only [Bool.false_eq_true, false_and, if_false]
            rw [if_neg (by decide), if_neg (by decide)]
            refine ⟨rfl, ⟨rfl, rfl, rfl, hl', ⟨hp.1, hp'⟩, hN, hf', ?_, ?_, rfl⟩⟩
            · show 0 ≤ max (wrap64 (after - 1)) 0; omega
            · show max (wrap64 (after - 1)) 0 ≤ _; unfold wrap64; omega
        · simp only [if_neg g3]; exact ⟨by first | rfl | trivial, hm⟩
theorem Rel.settle (h : Rel N k S R) : setRE R = setE S ∧ Rel N k (setS S) (setRS R) := by
  have hm := h
  obtain ⟨safe, last, afl, halts, after, halted⟩ := S
  obtain ⟨rlast, rfloat, rdead, rafter⟩ := R
  obtain ⟨hd, hs, ha, hl, hp, hN, hf, h0, h1, h2⟩ := h
  simp only at hd hs ha hl hN hf h0 h1 h2
  subst hd hs ha
  unfold setRE setE setRS setS
  cases rdead with
  | true => exact ⟨rfl, hm⟩
  | false =>
    refine ⟨rfl, ⟨rfl, ?_, rfl, rfl, ?_, ?_, Nat.zero_le _, h0, h1, h2⟩⟩
    · show setAll rlast rfloat = settled ⟨rlast, last, rfloat, halts, after, false⟩ rfloat.length
      unfold setAll settled
      rw [List.take_length]
    · refine ⟨foldl_size hp.1 (fun p hq => (hp.2 p (List.mem_of_mem_take hq)).2), fun p hq => by simp [seS] at hq⟩
    · show (settled ⟨rlast, last, rfloat, halts, after, false⟩ rfloat.length).length = N
      rw [settled_length]; exact hN
theorem Rel.halt (h : Rel N k S R) {n : Int} (wn : (Lit.int .i64 n).wf = true) : Rel N k (haltE S n) (haltR R n) := by
  have hm := h
  obtain ⟨safe, last, afl, halts, after, halted⟩ := S
  obtain ⟨rlast, rfloat, rdead, rafter⟩ := R
  obtain ⟨hd, hs, ha, hl, hp, hN, hf, h0, h1, h2⟩ := h
  simp only at hd hs ha hl hN hf h0 h1 h2
  subst hd hs ha
  unfold haltE haltR
  cases rdead with
  | true => exact hm
  | false =>
    have hn : n ≤ 9223372036854775807 := by
      simp [Lit.wf, IntKind.min, IntKind.max, IntKind.signed, IntKind.bits] at wn
      omega
    refine ⟨rfl, rfl, rfl, hl, hp, hN, hf, ?_, ?_, ?_⟩
    · show 0 ≤ max n 0; omega
    · show max n 0 ≤ _; omega
    · show max n (-1) = if decide (0 ≤ n) = true then max n 0 else -1
      by_cases h0 : 0 ≤ n
      · rw [if_pos (by simpa using h0)]; omega
      · rw [if_neg (by simpa using h0)]; omega
theorem set_same (l : List ByteArray) (i : Nat) (x : ByteArray) (h : l[i]? = some x) : l.set i x = l := by
  apply List.ext_getElem?
  intro j
  rw [List.getElem?_set]
  by_cases hij : i = j
  · subst hij
    obtain ⟨hl, _⟩ := List.getElem?_eq_some_iff.1 h
    rw [if_pos rfl, if_pos hl, h]
  · rw [if_neg hij]
theorem Rel.fails (h : Rel N k S R) (cl : List Int) (i : Nat) (hi : i ≤ S.afl.length) : failR R cl i = failed S cl i := by
  induction i with
  | zero => show (R.last, (0 : Int)) = (S.safe, 0); rw [h.safe]
  | succ i ih =>
    have ih := ih (by omega)
    rw [failR, failed, ih, h.afl]
    unfold cutAt
    by_cases hc : i < cl.length
    · rw [if_pos hc]
      by_cases hz : 0 < rd cl (i : Int)
      · rw [if_pos (show i < cl.length ∧ 0 < rd cl (i : Int) from ⟨hc, hz⟩), show max (rd cl (i : Int)) 0 = rd cl (i : Int) by omega, if_pos (by omega : 0 < min (rd cl (i : Int)) 128)]
      · rw [if_neg (show ¬ (i < cl.length ∧ 0 < rd cl (i : Int)) from fun hx => hz hx.2), show min (max (rd cl (i : Int)) 0) 128 = 0 by omega, if_neg (show ¬ ((0 : Int) < 0) by decide)]
        have hp := h.pages.2 _ (rd65_mem (l := S.afl) (i := i) (by omega))
        have hlt : (rd_T65 S.afl (i : Int)).f0.toNat < (failed S cl i).1.length := by rw [failed_length]; have := hp.1; omega
        rw [show (rd_T65 S.afl (i : Int)).f1.extract 0 (0 : Int).toNat ++ (rdOf ByteArray.empty (failed S cl i).1 (rd_T65 S.afl (i : Int)).f0).extract (0 : Int).toNat (rdOf ByteArray.empty (failed S cl i).1 (rd_T65 S.afl (i : Int)).f0).size = rdOf ByteArray.empty (failed S cl i).1 (rd_T65 S.afl (i : Int)).f0 by simp]
        rw [set_same _ _ _ (by unfold rdOf; rw [List.getD, List.getElem?_eq_getElem hlt]; rfl)]
    · rw [if_neg hc, if_neg (show ¬ (i < cl.length ∧ 0 < rd cl (i : Int)) from fun hx => hc hx.1), if_neg (show ¬ ((0 : Int) < 0) by decide)]
      have hp := h.pages.2 _ (rd65_mem (l := S.afl) (i := i) (by omega))
      have hlt : (rd_T65 S.afl (i : Int)).f0.toNat < (failed S cl i).1.length := by rw [failed_length]; have := hp.1; omega
      rw [show (rd_T65 S.afl (i : Int)).f1.extract 0 (0 : Int).toNat ++ (rdOf ByteArray.empty (failed S cl i).1 (rd_T65 S.afl (i : Int)).f0).extract (0 : Int).toNat (rdOf ByteArray.empty (failed S cl i).1 (rd_T65 S.afl (i : Int)).f0).size = rdOf ByteArray.empty (failed S cl i).1 (rd_T65 S.afl (i : Int)).f0 by simp]
      rw [set_same _ _ _ (by unfold rdOf; rw [List.getD, List.getElem?_eq_getElem hlt]; rfl)]
theorem Rel.fail (h : Rel N k S R) (cl : List Int) : (failR R cl R.float.length).2 = (failed S cl S.afl.length).2 ∧ Rel N 0 (faS S cl) (failS R cl) := by
  have e : failR R cl R.float.length = failed S cl S.afl.length := by rw [h.afl]; exact h.fails cl _ (Nat.le_refl _)
  refine ⟨by rw [e], ⟨rfl, ?_, rfl, rfl, ?_, ?_, Nat.le_refl _, Int.le_refl _, (by show (0 : Int) ≤ 9223372036854775807; decide), rfl⟩⟩
  · show (failR R cl R.float.length).1 = (failed S cl S.afl.length).1
    rw [e]
  · exact ⟨failed_size h.pages cl _ (Nat.le_refl _), fun p hp => by simp [faS] at hp⟩
  · show (failed S cl S.afl.length).1.length = N
    rw [failed_length]; exact h.len
end
end Go.Proofs.Ytcmldpacgbhfmaa.V
