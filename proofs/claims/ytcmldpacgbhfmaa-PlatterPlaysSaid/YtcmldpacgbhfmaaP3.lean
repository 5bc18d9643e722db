/- A platter: sink; Store in one. -/
import Derived.Test.YtcmldpacgbhfmaaP2
namespace Go.Proofs.Ytcmldpacgbhfmaa.V
open Go.RowKit Go.Proofs.YtcmldpacgbhfmaaW.PrintWords Go.Proofs.YtcmldpacgbhfmaaW.PrintLast Go.Proofs.YtcmldpacgbhfmaaW.PrintMore
set_option linter.unusedVariables false
set_option linter.unusedSimpArgs false

theorem store_any {base : Nat} {F : Nat → Prop} {w : World} {g : Nat} {S : PS} (h : IsP base F w g S) (n : Int) (b : ByteArray) (wn : (Lit.int .i64 n).wf = true) (hl : S.afl.length ≤ 1000000) :
    Calls Try.prog 14 #[.pointer (some ⟨g, 0, none⟩), .int .i64 n, .string b] w fun e w' => e = .returned (.int .i64 (storeE S n b)) ∧ IsP base (fun k => F k ∨ w.heap.size ≤ k) w' g (storeS S n b) ∧ Kept w w' F ∧ (base ≤ w.heap.size → Below base w w') := by
  unfold storeE storeS
  by_cases hm : mayE S n = 0
  · rw [if_pos hm, if_pos hm]
    by_cases hs : b.size = 128
    · rw [if_pos hs, if_pos hs]
      by_cases hh : S.halts = true
      · rw [if_pos hh]
        by_cases ha : S.after = 0
        · rw [if_pos ha, if_pos ⟨hh, ha⟩]
          refine (store_halt h n b hm hs hh ha).mono ?_
          rintro e w' ⟨rfl, hi, hk, hb⟩
          exact ⟨rfl, hi.mono (fun _ hk => .inl hk), hk, hb⟩
        · rw [if_neg ha, if_neg (fun hx => ha hx.2)]
          exact store_ok h n b hm hs (.inr ⟨hh, ha⟩) wn hl
      · rw [if_neg hh, if_neg (fun hx => hh hx.1)]
        exact store_ok h n b hm hs (.inl (by simpa using hh)) wn hl
    · rw [if_neg hs, if_neg hs]
      refine (store_size h n b hm hs).mono ?_
      rintro e w' ⟨rfl, hb⟩
      exact ⟨rfl, (h.below hb).mono (fun _ hk => .inl hk), Kept.of_below hb _, fun hle => hb.mono hle⟩
  · rw [if_neg hm, if_neg hm]
    refine (store_no h n b ((mayE_cases S n).resolve_left hm)).mono ?_
    rintro e w' ⟨rfl, hb⟩
    exact ⟨rfl, (h.below hb).mono (fun _ hk => .inl hk), Kept.of_below hb _, fun hle => hb.mono hle⟩

set_option maxHeartbeats 8000000 in
set_option maxRecDepth 100000 in
theorem sink_any {base : Nat} {F : Nat → Prop} {w : World} {g : Nat} {S : PS} (h : IsP base F w g S) :
    Calls Try.prog 33 #[.pointer (some ⟨g, 0, none⟩)] w fun e w' => e = .returned (.tuple #[]) ∧ IsP base F w' g { S with afl := [], last := fun _ => none } ∧ Kept w w' F ∧ (base ≤ w.heap.size → Below base w w') := by
  obtain ⟨A, c, m, B, d, h1, h2, h3, h4, h5, h6, h7, h8⟩ := h.cells
  have T9 : ∀ q, q ∈ 9 :: Kd.string.E → q ≠ 62 := by intro q hq; simp [Kd.string, Kd.scalar] at hq; omega
  have K0 : (w.setCell ⟨g, 2, none⟩ (.slice none 0 0)).heap[g]? = some (.cells #[.slice A S.safe.length c, .map (some m), .slice none 0 0, .bool S.halts, .int .i64 S.after, .bool S.halted] 62 (0, 0)) := by simpa using blk_set h1 2 (.slice none 0 0)
  have L0 := h8.at (Below.heap_setCell w ⟨g, 2, none⟩ (.slice none 0 0) m (last_ne h8 h1))
  obtain ⟨w2, hrun, hl2, hg2⟩ := L0.clear (t := 59) Try.underlying59 0
  obtain ⟨c0, c1, c2, c3, c4, c5⟩ := cell62 h1
  have hf2 := blk_frozen h1 2
  have K2 := (hg2.block g (blk_lt K0) (fun e => last_ne h8 h1 (by injection e with e; exact e.symm))).trans K0
  have a1 := Kd.R_set h6 h1 T9 2 (.slice none 0 0)
  have om := own_map a1 L0
  have S2 : Kd.R Kd.string 9 w2 base F (.slice A S.safe.length c) S.safe := by
    exact Kd.R_grown2 a1 rfl hg2 om
  have G : (Code.wp = Code.wp) := rfl
  go_enter Try.func33, Try.ntmps33
  go_wp2
  refine Go.Great.bodyPost_end0 rfl rfl ?_
  refine ⟨rfl, ⟨_, m, .slice none 0 0, K2, h2, h3, h4, h5, S2, Kd.R_nil _ _ _ _ _, hl2⟩, ?_, ?_⟩
  · exact kept_grown (Kept.setCell (Kept.refl w F) (.inl h3) _) hg2 (fun k hk => by injection hk with hk; subst hk; exact .inl h5)
  · intro hw
    exact below_grown (below_setG (Below.refl base w) h2 2 _) hg2 (fun k hk => by injection hk with hk; subst hk; exact h4) (Nat.le_trans h4 (Nat.le_of_lt L0.lt))
end Go.Proofs.Ytcmldpacgbhfmaa.V
