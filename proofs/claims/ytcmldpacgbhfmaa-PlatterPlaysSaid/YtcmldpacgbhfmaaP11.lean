/- Two platters side by side; Twin as a law meets it. -/
import Derived.Test.YtcmldpacgbhfmaaTw
namespace Go.Proofs.Ytcmldpacgbhfmaa.V
open Go.RowKit Go.Proofs.YtcmldpacgbhfmaaW.PrintWords Go.Proofs.YtcmldpacgbhfmaaW.PrintLast Go.Proofs.YtcmldpacgbhfmaaW.PrintMore
set_option linter.unusedVariables false
set_option linter.unusedSimpArgs false

def IsQ2 (w0 w : World) (p : Nat) (S : PS) (t : Nat) (T : PS) : Prop :=
  Below w0.heap.size w0 w ∧ ∃ Fp Ft : Nat → Prop, IsP w0.heap.size Fp w p S ∧ IsP w0.heap.size Ft w t T ∧ (∀ k, Fp k → w0.heap.size ≤ k) ∧ (∀ k, Ft k → w0.heap.size ≤ k) ∧ ∀ k, Fp k → ¬ Ft k
section
variable {w0 w w' : World} {p t : Nat} {S S' T : PS} {N k : Nat}
theorem IsQ2.symm (h : IsQ2 w0 w p S t T) : IsQ2 w0 w t T p S := by
  obtain ⟨h1, Fp, Ft, h2, h3, h4, h5, h6⟩ := h
  exact ⟨h1, Ft, Fp, h3, h2, h5, h4, fun k h7 h8 => h6 k h8 h7⟩
theorem IsQ2.below (h : IsQ2 w0 w p S t T) (hb : Below w.heap.size w w') : IsQ2 w0 w' p S t T := by
  obtain ⟨h1, Fp, Ft, h2, h3, h4, h5, h6⟩ := h
  exact ⟨h1.trans (hb.mono h1.size), Fp, Ft, h2.below hb, h3.below hb, h4, h5, h6⟩
theorem IsQ2.left (h : IsQ2 w0 w p S t T) : IsQ w0 w p S := by
  obtain ⟨h1, Fp, Ft, h2, h3, h4, h5, h6⟩ := h
  exact ⟨h1, h2.mono h4⟩
theorem IsQ2.right (h : IsQ2 w0 w p S t T) : IsQ w0 w t T := h.symm.left
/-- a step of the one -/
theorem IsQ2.step {R : Ending → Prop} {f : Nat} {args : Array Value} (h : IsQ2 w0 w p S t T)
    (hc : ∀ F, IsP w0.heap.size F w p S → Calls Try.prog f args w fun e w' => R e ∧ IsP w0.heap.size (fun k => F k ∨ w.heap.size ≤ k) w' p S' ∧ Kept w w' F ∧ (w0.heap.size ≤ w.heap.size → Below w0.heap.size w w')) :
    Calls Try.prog f args w fun e w' => R e ∧ IsQ2 w0 w' p S' t T := by
  obtain ⟨h1, Fp, Ft, h2, h3, h4, h5, h6⟩ := h
  refine (hc _ h2.narrow).mono ?_
  rintro e w' ⟨hR, hi, hk, hb⟩
  refine ⟨hR, h1.trans (hb h1.size), _, _, hi, h3.narrow.kept hk (fun k hk1 hk2 => h6 k hk2.1 hk1.1), ?_, fun k hk => h5 k hk.1, ?_⟩
  · rintro k (hk | hk)
    · exact h4 k hk.1
    · exact Nat.le_trans h1.size hk
  · rintro k (hk | hk) hk2
    · exact h6 k hk.1 hk2.1
    · have := hk2.2.2.1; omega
theorem q2_st (h : IsQ2 w0 w p S t T) (W : WellS S N k) (n : Int) (b : ByteArray) (h0 : 0 ≤ n) (h1 : n < N) (hb : b.size = 128) (hk : k ≤ 1000) (hN : N ≤ 1000) :
    Calls Try.prog 14 #[.pointer (some ⟨p, 0, none⟩), .int .i64 n, .string b] w fun e w' => e = .returned (.int .i64 0) ∧ IsQ2 w0 w' p (stS S n b) t T := by
  refine IsQ2.step (R := fun e => e = .returned (.int .i64 0)) h (fun F hF => ?_)
  have := store_ok hF n b (W.may h0 h1) hb (.inl W.halts) (Go.WalkArith.wf_i64 (by omega)) (by rw [W.few]; omega)
  have e : ({ S with after := max (wrap64 (S.after - 1)) 0, afl := S.afl ++ [⟨n, b⟩], last := upd S.last n b } : PS) = stS S n b := by
    unfold stS
    rw [W.after, show max (wrap64 (0 - 1)) 0 = 0 from by unfold wrap64; decide]
  rw [e] at this
  exact this
theorem q2_se (h : IsQ2 w0 w p S t T) (W : WellS S N k) (hk : k ≤ 1000) :
    Calls Try.prog 15 #[.pointer (some ⟨p, 0, none⟩)] w fun e w' => e = .returned (.int .i64 0) ∧ IsQ2 w0 w' p (seS S) t T := by
  refine IsQ2.step (R := fun e => e = .returned (.int .i64 0)) h (fun F hF => ?_)
  refine (settle_any hF W.halted (fun p hp => (W.pages.2 p hp).1) (by rw [W.few]; omega)).mono ?_
  rintro e w' ⟨rfl, hi, hk, hb⟩
  exact ⟨rfl, hi.mono (fun _ hk => .inl hk), hk, hb⟩
theorem q2_fa_nil (h : IsQ2 w0 w p S t T) (hw : pagesOk S) (hl : S.afl.length ≤ 1000) :
    Calls Try.prog 16 #[.pointer (some ⟨p, 0, none⟩), .slice none 0 0] w fun e w' => e = .returned (.int .i64 0) ∧ IsQ2 w0 w' p (faS S []) t T := by
  refine IsQ2.step (R := fun e => e = .returned (.int .i64 0)) h (fun F hF => ?_)
  refine (fail_any hF hw (by omega) none 0 [] (fun W' _ => Kd.C_nil _ _)).mono ?_
  rintro e w' ⟨rfl, hi, hk, hb⟩
  exact ⟨by rw [failed_nil], hi.mono (fun _ hk => .inl hk), hk, hb⟩
theorem q2_fill (h : IsQ2 w0 w p S t T) (a : ByteArray) :
    Calls Try.prog 13 #[.string a] w fun e w' => e = .returned (.string (fill a)) ∧ IsQ2 w0 w' p S t T := by
  refine (fill_any a w).mono ?_
  rintro e w' ⟨rfl, hb⟩
  exact ⟨rfl, h.below hb⟩
theorem q2_load (h : IsQ2 w0 w p S t T) (n : Int) (wn : (Lit.int .i64 n).wf = true) {b : ByteArray} {e0 : Int} (he : loadE S n = (b, e0)) :
    Calls Try.prog 17 #[.pointer (some ⟨p, 0, none⟩), .int .i64 n] w fun e w' => e = .returned (.tuple #[.string b, .int .i64 e0]) ∧ IsQ2 w0 w' p S t T := by
  refine (load_any h.left.2 n wn).mono ?_
  rintro e w' ⟨rfl, hb⟩
  rw [he]
  exact ⟨rfl, h.below hb⟩
theorem q2_afloat (h : IsQ2 w0 w p S t T) {n : Int} (hn : (S.afl.length : Int) = n) :
    Calls Try.prog 19 #[.pointer (some ⟨p, 0, none⟩)] w fun e w' => e = .returned (.int .i64 n) ∧ IsQ2 w0 w' p S t T := by
  refine (afloat_any h.left.2).mono ?_
  rintro e w' ⟨rfl, hb⟩
  rw [hn]
  exact ⟨rfl, h.below hb⟩
theorem q2_pages (h : IsQ2 w0 w p S t T) {n : Int} (hn : (S.safe.length : Int) = n) :
    Calls Try.prog 23 #[.pointer (some ⟨p, 0, none⟩)] w fun e w' => e = .returned (.int .i64 n) ∧ IsQ2 w0 w' p S t T := by
  refine (pages_any h.left.2).mono ?_
  rintro e w' ⟨rfl, hb⟩
  rw [hn]
  exact ⟨rfl, h.below hb⟩
theorem q_twin (h : IsQ w0 w p S) (hp : pagesOk S) (hN : S.safe.length ≤ 1000) (hk : S.afl.length ≤ 1000) (hl : S.last = lastOf S.afl) :
    Calls Try.prog 22 #[.pointer (some ⟨p, 0, none⟩)] w fun e w' => ∃ t, e = .returned (.pointer (some ⟨t, 0, none⟩)) ∧ IsQ2 w0 w' p S t S := by
  refine (twin_any h.2 hk hN (fun q hq => Go.WalkArith.wf_i64 (by have := (hp.2 q hq).1; omega))).mono ?_
  rintro e w' ⟨g', rfl, hi, hb⟩
  have e : twS S = S := by unfold twS; rw [← hl]
  rw [e] at hi
  refine ⟨g', rfl, h.1.trans (hb.mono h.1.size), _, _, h.2.narrow.below hb, (hi.lower h.1.size), fun k hk => hk.1, fun k hk => Nat.le_trans h.1.size hk, fun k hk hk2 => ?_⟩
  have := hk.2.2.1
  omega
end
end Go.Proofs.Ytcmldpacgbhfmaa.V
