/- CrownTurns: crowns go from slot to slot; of two the later one counts; with one of them lost the other one does: the printed law answers true for every input. -/
import Derived.Test.YtenjkmfpbimmbaaPAllx10
import Derived.Test.YtenjkmfpbimmbaaD
namespace Go.Proofs.Ytenjkmfpbimmbaa.Pure
open Go.RowKit Go.Proofs.Ytenjkmfpbimmbaa.PAll Go.Proofs.YtenjkmfpbimmbaaW.PrintWords Go.Proofs.YtenjkmfpbimmbaaW.PrintLast Go.Proofs.YtenjkmfpbimmbaaW.PrintMore
set_option linter.unusedSimpArgs false
set_option linter.unusedVariables false

theorem turns_out {k : Nat} (hk : 20 ≤ k) (g r p : Int) (b : ByteArray) : maquettelaw14_CrownTurns.j0 (k + 1) g r p b true = some true := by
  simp only [maquettelaw14_CrownTurns.j0]
  rw [if_pos trivial, alive_k hk]; rfl

def zB : ByteArray := ⟨(List.replicate 128 (0 : UInt8)).toArray⟩
theorem isC_zB : isC zB = false := by decide +kernel

theorem turns_in {k : Nat} (hk : 20 ≤ k) {g r p : Int} (h : okC g r p = true) (h' : okC (g + 1) r p = true) : maquettelaw14_CrownTurns.j0 (k + 1) g r p (encB g r p) false = some true := by
  obtain ⟨h1, h2, _⟩ := okC_iff.1 h
  obtain ⟨m, rfl⟩ : ∃ m, k = m + 1 := ⟨k - 1, by omega⟩
  have hw : wrap64 (g + 1) = g + 1 := by unfold wrap64; omega
  have e1 : pickA (encB g r p) (encB (g + 1) r p) = (g + 1, r, p, 1, true) := by rw [pick_enc h h', if_neg (by omega)]
  have e2 : pickA (encB (g + 1) r p) (encB g r p) = (g + 1, r, p, 0, true) := by rw [pick_enc h' h, if_pos (by omega)]
  have e3 : pickA zB (encB g r p) = (g, r, p, 1, true) := by
    unfold pickA
    rw [isC_zB, isC_encB h, gG_enc h, gR_enc h, gP_enc h]
    rfl
  have e4 : pickA zB zB = (0, 0, 0, 0, false) := by
    unfold pickA
    rw [isC_zB]; rfl
  have ez : maquetteref13_Zeros.f 128 = some zB := zeros_f 128 (by decide)
  simp only [maquettelaw14_CrownTurns.j0, Bool.false_eq_true, if_false]
  rw [hw, put_k hk, putA_ok h', h']
  simp only [Option.bind_some]
  rw [pick_k hk, pick_k hk, ez]
  simp only [Option.bind_some, pick_k hk, slot_f, e1, e2, e3, e4, if_true, Bool.false_eq_true, if_false]
  have hne : (g % 2 != (g + 1) % 2) = true := by rw [bne_iff_ne]; omega
  rw [hne]
  simp only [maquettelaw14_CrownTurns.j1]

theorem CrownTurns : maquettelaw14_CrownTurns.Pure := by
  intro g r p _ _ _
  refine ⟨30 + 1, ?_⟩
  unfold maquettelaw14_CrownTurns.f
  rw [put_k (by decide)]
  simp only [Option.bind_some]
  cases hok : okC g r p
  · simp only [Bool.false_eq_true, if_false]
    exact turns_out (by decide) _ _ _ _
  · simp only [if_true]
    rw [putA_ok hok]
    by_cases hg : g ≥ 4611686018427387904
    · rw [if_pos hg]; exact turns_out (by decide) _ _ _ _
    · rw [if_neg hg, alive_k (by decide)]
      simp only [Option.bind_some, Bool.not_true]
      obtain ⟨h1, h2, h3⟩ := okC_iff.1 hok
      exact turns_in (by decide) hok (okC_iff.2 ⟨by omega, by omega, h3⟩)

end Go.Proofs.Ytenjkmfpbimmbaa.Pure
