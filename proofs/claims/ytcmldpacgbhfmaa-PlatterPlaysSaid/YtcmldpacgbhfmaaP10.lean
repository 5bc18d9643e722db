/- A platter beside a row of whole numbers of the law's own. -/
import Derived.Test.YtcmldpacgbhfmaaP9
namespace Go.Proofs.Ytcmldpacgbhfmaa.V
open Go.RowKit Go.Proofs.YtcmldpacgbhfmaaW.PrintWords Go.Proofs.YtcmldpacgbhfmaaW.PrintLast Go.Proofs.YtcmldpacgbhfmaaW.PrintMore
set_option linter.unusedVariables false
set_option linter.unusedSimpArgs false

theorem info3 : (Try.prog.info? 3).map (fun i => (i.zero, i.size, i.bytes)) = some (some (.int .i64 0), 1, 8) := by kernel_rfl
theorem ki_mkM (w : World) (base : Nat) (ok : Nat → Prop) (x : Int) : (Kd.int .i64).M w base ok x [.int .i64 x] := rfl
section
variable {w0 w w' : World} {g : Nat} {S : PS} {base : Nat} {ok : Nat → Prop} {v : Value} {xs : List Int}
theorem R_others (h : Kd.R (Kd.int .i64) 3 w base ok v xs) (ho : Others w w') : Kd.R (Kd.int .i64) 3 w' base ok v xs := by
  refine Kd.R_mono (Kd.R_step (Kd.R_bound h) ?_) (fun k hk => hk.1)
  rintro k ⟨_, _, _, q, hq, cs, hc⟩ _
  have e : q = 3 := by simpa [Kd.int, Kd.scalar] using hq
  subst e
  rw [ho k cs 3 hc (by decide) (by decide) (by decide), hc]
theorem IsQ.grown (h : IsQ w0 w g S) (hr : Kd.R (Kd.int .i64) 3 w base ok v xs) (hb : Below w0.heap.size w0 w') (hg : w.grownBy w' v.ownBlock) : IsQ w0 w' g S := by
  refine ⟨hb, (h.2.narrow.step (fun k hk hlt => hg.block k hlt ?_)).mono (fun k hk => hk.1)⟩
  intro he
  obtain ⟨cs, hc⟩ := Kd.R_typed hr k he.symm
  rcases hk.2.2.2 with ⟨cs', q, e, hq⟩ | ⟨es, c, e⟩
  · rw [hc] at e
    injection e with e
    injection e with _ e
    subst e
    rcases hq with h | h | h <;> exact absurd h (by decide)
  · rw [hc] at e; cases e
end
end Go.Proofs.Ytcmldpacgbhfmaa.V
