/- The document's own platter in memory; Halt, Load. -/
import Derived.Test.YtcmldpacgbhfmaaP11
namespace Go.Proofs.Ytcmldpacgbhfmaa.V
open Go.RowKit Go.Proofs.YtcmldpacgbhfmaaW.PrintWords Go.Proofs.YtcmldpacgbhfmaaW.PrintLast Go.Proofs.YtcmldpacgbhfmaaW.PrintMore
set_option linter.unusedVariables false
set_option linter.unusedSimpArgs false

/-- the document's platter as plain data -/
structure RS where
  last : List ByteArray
  float : List S65
  dead : Bool
  after : Int
def IsR (base : Nat) (F : Nat → Prop) (w : World) (g : Nat) (S : RS) : Prop :=
  ∃ v B, w.heap[g]? = some (.cells #[v, B, .bool S.dead, .int .i64 S.after] 55 (0, 0)) ∧ base ≤ g ∧ F g ∧ Kd.R Kd.string 9 w base F v S.last ∧ Kd.R k65 70 w base F B S.float
theorem T70 : ∀ q, q ∈ 70 :: k65.E → q ≠ 55 := by intro q hq; simp [k65, Kd.iso, Kd.pair, Kd.int, Kd.string, Kd.scalar] at hq; omega
theorem T9' : ∀ q, q ∈ 9 :: Kd.string.E → q ≠ 55 := by intro q hq; simp [Kd.string, Kd.scalar] at hq; omega
section
variable {base base' : Nat} {F F' : Nat → Prop} {w w' : World} {g : Nat} {S : RS}
theorem IsR.mono (h : IsR base F w g S) (hF : ∀ k, F k → F' k) : IsR base F' w g S := by
  obtain ⟨v, B, h1, h2, h3, h6, h7⟩ := h
  exact ⟨v, B, h1, h2, hF _ h3, Kd.R_mono h6 hF, Kd.R_mono h7 hF⟩
theorem IsR.lower (h : IsR base F w g S) (hb : base' ≤ base) : IsR base' F w g S := by
  obtain ⟨v, B, h1, h2, h3, h6, h7⟩ := h
  exact ⟨v, B, h1, Nat.le_trans hb h2, h3, Kd.R_lower h6 hb, Kd.R_lower h7 hb⟩
theorem IsR.step (h : IsR base F w g S) (hm : ∀ k, F k → k < w.heap.size → w'.heap[k]? = w.heap[k]?) : IsR base F w' g S := by
  obtain ⟨v, B, h1, h2, h3, h6, h7⟩ := h
  exact ⟨v, B, (hm g h3 (blk_lt h1)).trans h1, h2, h3, Kd.R_step h6 hm, Kd.R_step h7 hm⟩
theorem IsR.below (h : IsR base F w g S) (hb : Below w.heap.size w w') : IsR base F w' g S := h.step (fun k _ hk => hb.block k hk)
theorem IsR.kept {T : Nat → Prop} (h : IsR base F w g S) (hk : Kept w w' T) (hn : ∀ k, F k → ¬ T k) : IsR base F w' g S := h.step (fun k hF hlt => hk.2 k hlt (hn k hF))
theorem IsR.narrow (h : IsR base F w g S) : IsR base (fun k => F k ∧ k < w.heap.size) w g S := by
  obtain ⟨v, B, h1, h2, h3, h6, h7⟩ := h
  exact ⟨v, B, h1, h2, ⟨h3, blk_lt h1⟩, Kd.R_mono (Kd.R_bound h6) (fun k hk => ⟨hk.1, hk.2.2.1⟩), Kd.R_mono (Kd.R_bound h7) (fun k hk => ⟨hk.1, hk.2.2.1⟩)⟩
theorem IsR.ge (h : IsR base F w g S) : base ≤ g := by obtain ⟨v, B, h1, h2, _⟩ := h; exact h2
theorem IsR.inF (h : IsR base F w g S) : F g := by obtain ⟨v, B, h1, h2, h3, _⟩ := h; exact h3
theorem IsR.cells (h : IsR base F w g S) : ∃ A c B d, w.heap[g]? = some (.cells #[.slice A S.last.length c, .slice B S.float.length d, .bool S.dead, .int .i64 S.after] 55 (0, 0)) ∧
    base ≤ g ∧ F g ∧ Kd.R Kd.string 9 w base F (.slice A S.last.length c) S.last ∧ Kd.R k65 70 w base F (.slice B S.float.length d) S.float := by
  obtain ⟨v, B, h1, h2, h3, h6, h7⟩ := h
  obtain ⟨A, c, rfl⟩ := Kd.R_slice h6
  obtain ⟨B', d, rfl⟩ := Kd.R_slice h7
  exact ⟨A, c, B', d, h1, h2, h3, h6, h7⟩
theorem IsR.set2 (h : IsR base F w g S) (b : Bool) : IsR base F (w.setCell ⟨g, 2, none⟩ (.bool b)) g { S with dead := b } := by
  obtain ⟨v, B, h1, h2, h3, h6, h7⟩ := h
  exact ⟨v, B, by simpa using blk_set h1 2 (.bool b), h2, h3, Kd.R_set h6 h1 T9' 2 _, Kd.R_set h7 h1 T70 2 _⟩
theorem IsR.set3 (h : IsR base F w g S) (b : Int) : IsR base F (w.setCell ⟨g, 3, none⟩ (.int .i64 b)) g { S with after := b } := by
  obtain ⟨v, B, h1, h2, h3, h6, h7⟩ := h
  exact ⟨v, B, by simpa using blk_set h1 3 (.int .i64 b), h2, h3, Kd.R_set h6 h1 T9' 3 _, Kd.R_set h7 h1 T70 3 _⟩
theorem IsR.set1 (h : IsR base F w g S) : IsR base F (w.setCell ⟨g, 1, none⟩ (.slice none 0 0)) g { S with float := [] } := by
  obtain ⟨v, B, h1, h2, h3, h6, h7⟩ := h
  exact ⟨v, .slice none 0 0, by simpa using blk_set h1 1 (.slice none 0 0), h2, h3, Kd.R_set h6 h1 T9' 1 _, Kd.R_nil _ _ _ _ _⟩
end
theorem cell55 {w : World} {g : Nat} {a b c d : Value} (h : w.heap[g]? = some (.cells #[a, b, c, d] 55 (0, 0))) :
    w.cell? ⟨g, 0, none⟩ = some a ∧ w.cell? ⟨g, 1, none⟩ = some b ∧ w.cell? ⟨g, 2, none⟩ = some c ∧ w.cell? ⟨g, 3, none⟩ = some d :=
  ⟨(blk_cell h 0).trans rfl, (blk_cell h 1).trans rfl, (blk_cell h 2).trans rfl, (blk_cell h 3).trans rfl⟩
/-- Halt -/
def haltR (S : RS) (n : Int) : RS := if S.dead = true then S else { S with after := max n (-1) }
set_option maxHeartbeats 8000000 in
set_option maxRecDepth 100000 in
theorem rhalt_any {base : Nat} {F : Nat → Prop} {w : World} {g : Nat} {S : RS} (h : IsR base F w g S) (n : Int) :
    Calls Try.prog 28 #[.pointer (some ⟨g, 0, none⟩), .int .i64 n] w fun e w' => e = .returned (.tuple #[]) ∧ IsR base F w' g (haltR S n) ∧ Kept w w' F ∧ (base ≤ w.heap.size → Below base w w') := by
  have HP := Aside0.mk h
  obtain ⟨A, c, B, d, h1, _⟩ := h.cells
  obtain ⟨c0, c1, c2, c3⟩ := cell55 h1
  have f3 := blk_frozen h1 3
  unfold haltR
  clear h h1
  cases hh : S.dead with
  | true =>
    rw [hh] at c2
    go_enter Try.func28, Try.ntmps28
    go_wp2
    refine Go.Great.bodyPost_end0 rfl rfl ?_
    exact ⟨rfl, HP.out, Kept.refl _ _, fun hle => Below.refl _ _⟩
  | false =>
    rw [hh] at c2
    simp only [Bool.false_eq_true, if_false]
    go_enter Try.func28, Try.ntmps28
    go_wp2
    refine Go.Great.bodyPost_end0 rfl rfl ?_
    refine ⟨rfl, ?_, (Kept.refl _ _).setCell (.inl HP.out.inF) _, fun hle => below_setG (Below.refl _ _) HP.out.ge _ _⟩
    have e := HP.out.set3 (max n (-1))
    rw [hh] at e
    exact e
/-- Load -/
def loadR (S : RS) (n : Int) : ByteArray × Int := if S.dead = true then (⟨#[]⟩, 7) else if n < 0 then (⟨#[]⟩, 6) else if (S.last.length : Int) ≤ n then (⟨#[]⟩, 6) else ((lastOf S.float n).getD (rdOf ByteArray.empty S.last n), 0)
theorem lastOf_nil : lastOf [] = fun _ => none := rfl
set_option maxHeartbeats 8000000 in
set_option maxRecDepth 100000 in
theorem rload_any {base : Nat} {F : Nat → Prop} {w : World} {g : Nat} {S : RS} (h : IsR base F w g S) (n : Int) (hl : S.float.length ≤ 1000000) :
    Calls Try.prog 25 #[.pointer (some ⟨g, 0, none⟩), .int .i64 n] w fun e w' => e = .returned (.tuple #[.string (loadR S n).1, .int .i64 (loadR S n).2]) ∧ Below w.heap.size w w' := by
  have HL := Aside0.mk hl
  obtain ⟨A, c, B, d, h1, _, _, h6, h7⟩ := h.cells
  obtain ⟨c0, c1, c2, c3⟩ := cell55 h1
  have G6 := Aside0.mk h6
  have G7 := Aside0.mk h7
  unfold loadR
  clear h h1 h6 h7 hl
  have HB := Aside0.mk (Below.refl w.heap.size w)
  cases hh : S.dead with
  | true =>
    rw [hh] at c2
    simp only [if_true]
    go_enter Try.func25, Try.ntmps25
    go_wp2
    go_ret2
    exact ⟨rfl, HB.out⟩
  | false =>
    rw [hh] at c2
    simp only [Bool.false_eq_true, if_false]
    by_cases hn : n < 0
    · rw [if_pos hn]
      have t0 := decide_eq_true hn
      clear hn
      go_enter Try.func25, Try.ntmps25
      go_wp2
      go_ret2
      exact ⟨rfl, HB.out⟩
    rw [if_neg hn]
    have t0 := decide_eq_false hn
    by_cases hm : (S.last.length : Int) ≤ n
    · rw [if_pos hm]
      have t1 := decide_eq_true hm
      clear hn hm
      go_enter Try.func25, Try.ntmps25
      go_wp2
      go_ret2
      exact ⟨rfl, HB.out⟩
    rw [if_neg hm]
    have t1 := decide_eq_false hm
    have t2 : decide (0 ≤ n) = true := decide_eq_true (by omega)
    have t3 : decide (n < (S.last.length : Int)) = true := decide_eq_true (by omega)
    have t4 : (0 ≤ n) = True := eq_true (by omega)
    have t5 : (n < (S.last.length : Int)) = True := eq_true (by omega)
    obtain ⟨b9, e9, y9⟩ := Kd.at_string (Kd.R_reads' G6.out).2.2 n (by omega) (by omega)
    cases e9
    clear hn hm
    go_enter Try.func25, Try.ntmps25
    go_wp2
    go_loopg [6] S.float.length (fun kq v6 w' => Aside0 (kq ≤ S.float.length) ∧ v6 = .int .i64 ((kq : Int) - 1) ∧ Aside0 (lastOf S.float n = lastOf (S.float.take kq) n) ∧ w' = w)
    case atStart => exact ⟨⟨Nat.le_refl _⟩, by first | rfl | (rw [Value.int.injEq]; refine ⟨rfl, ?_⟩; have := HL.out; first | (rw [IntKind.wrap_i64]; omega) | (unfold wrap64; omega)), ⟨by rw [List.take_length]⟩, rfl⟩
    case round =>
      obtain ⟨HK, rfl, HLa, rfl⟩ := hrel
      cases gk with
      | zero =>
        have hla := HLa.out
        rw [List.take_zero, lastOf_nil] at hla
        have HLZ := Aside0.mk hla
        clear HLa hla
        go_wp2
        go_ret2
        refine ⟨?_, HB.out⟩
        rw [HLZ.out]; rfl
      | succ kk =>
        have d1 : decide (0 ≤ (((kk + 1 : Nat) : Int) - 1)) = true := decide_eq_true (by omega)
        have d2 : (0 ≤ (((kk + 1 : Nat) : Int) - 1)) = True := eq_true (by omega)
        have d3 : ((((kk + 1 : Nat) : Int) - 1)) = (kk : Int) := by omega
        have hk := HK.out
        have d4 : decide (kk < S.float.length) = true := decide_eq_true (by omega)
        have d5 : (kk < S.float.length) = True := eq_true (by omega)
        have d6 : ((kk : Int) < (S.float.length : Int)) = True := eq_true (by omega)
        have d7 : decide ((kk : Int) < (S.float.length : Int)) = true := decide_eq_true (by omega)
        obtain ⟨ad, e0, y0, y1⟩ := at_T65 (Kd.R_reads' G7.out).2.2 (kk : Int) (by omega) (by omega)
        rw [Int.toNat_natCast] at y0 y1
        cases e0
        have htk : S.float.take (kk + 1) = S.float.take kk ++ [rd_T65 S.float (kk : Int)] := by
          rw [List.take_succ_eq_append_getElem (by omega)]
          unfold rd_T65
          rw [Int.toNat_natCast, List.getD, List.getElem?_eq_getElem (by omega)]; rfl
        have hla := HLa.out
        rw [htk, lastOf_snoc] at hla
        generalize hpe : rd_T65 S.float (kk : Int) = pp at *
        clear htk hk HLa hpe
        by_cases hpn : pp.f0 = n
        · rw [← hpn, upd_same, hpn] at hla
          have HLE := Aside0.mk hla
          have e1 : (pp.f0 == n) = true := beq_iff_eq.2 hpn
          have HPN := Aside0.mk hpn
          clear hla hpn
          rw [d3]
          clear d3
          go_wp2
          go_ret2
          refine ⟨?_, HB.out⟩
          rw [HLE.out]; rfl
        · rw [upd_ne _ _ (fun e => hpn e.symm)] at hla
          have e1 : (pp.f0 == n) = false := beq_eq_false_iff_ne.2 hpn
          have HLA := Aside0.mk hla
          clear hla hpn
          rw [d3]
          clear d3
          go_wp2
          go_roundg kk
          case measure => omega
          case rel =>
            refine ⟨⟨by have := HK.out; omega⟩, ?_, HLA, rfl⟩
            first | rfl | (rw [Value.int.injEq]; refine ⟨rfl, ?_⟩; have := HL.out; have := HK.out; first | (rw [IntKind.wrap_i64]; omega) | (unfold wrap64; omega))
end Go.Proofs.Ytcmldpacgbhfmaa.V
