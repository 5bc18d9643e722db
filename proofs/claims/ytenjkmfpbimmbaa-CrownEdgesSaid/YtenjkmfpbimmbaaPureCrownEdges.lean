/- CrownEdges: which numbers a crown may have: the printed law answers true for every input. -/
import Derived.Test.YtenjkmfpbimmbaaPAllx11
import Derived.Test.YtenjkmfpbimmbaaD
namespace Go.Proofs.Ytenjkmfpbimmbaa.Pure
open Go.RowKit Go.Proofs.Ytenjkmfpbimmbaa.PAll Go.Proofs.YtenjkmfpbimmbaaW.PrintWords Go.Proofs.YtenjkmfpbimmbaaW.PrintLast Go.Proofs.YtenjkmfpbimmbaaW.PrintMore
set_option linter.unusedSimpArgs false
set_option linter.unusedVariables false

theorem getA_no {g r p : Int} (h : okC g r p = false) : getA (putA g r p) = (0, 0, 0, false) := by
  have e : putA g r p = (⟨#[]⟩ : ByteArray) := by unfold putA; rw [if_neg (by rw [h]; decide)]
  rw [e]
  unfold getA
  rw [show isC (⟨#[]⟩ : ByteArray) = false from by decide +kernel]
  rfl

/-- what each case asks, if 'may' is right -/
theorem edge_b {g r p : Int} {may : Bool} (h : okC g r p = may) :
    (if (okC g r p == may) = true then (if ((getA (putA g r p)).2.2.2 == may) = true then (if may = true then (if ((getA (putA g r p)).1 == g && ((getA (putA g r p)).2.1 == r && ((getA (putA g r p)).2.2.1 == p))) = true then (some (((putA g r p).size : Int) == 128)) else (some false)) else (some true)) else (some false)) else (some false)) = some true := by
  subst h
  cases h : okC g r p
  · rw [getA_no h]; rfl
  · rw [putA_ok h, getA_enc h, encB_size]; simp

theorem edge_p {g r p : Int} {P : Prop} [Decidable P] (h : okC g r p = decide P) :
    (if (okC g r p == decide P) = true then (if ((getA (putA g r p)).2.2.2 == decide P) = true then (if P then (if ((getA (putA g r p)).1 == g && ((getA (putA g r p)).2.1 == r && ((getA (putA g r p)).2.2.1 == p))) = true then (some (((putA g r p).size : Int) == 128)) else (some false)) else (some true)) else (some false)) else (some false)) = some true := by
  have := edge_b h
  simp only [decide_eq_true_eq] at this
  exact this

theorem edge_f {g r p : Int} (h : okC g r p = false) :
    (if (okC g r p == false) = true then (if ((getA (putA g r p)).2.2.2 == false) = true then (some true) else (some false)) else (some false)) = some true := by
  rw [getA_no h, h]; rfl

theorem okC_dec {g r p : Int} {b : Bool} (h : (1 ≤ g ∧ g ≤ 4611686018427387904 ∧ 8 ≤ p ∧ p ≤ 200 ∧ 2 ≤ r ∧ r < p) ↔ b = true) : okC g r p = b := by
  rw [Bool.eq_iff_iff, okC_iff]; exact h

theorem edges_j {k : Nat} (hk : 20 ≤ k) (a v : Int) (may : Bool) (hm : may = true ↔ 2 ≤ v ∧ v < 20) : maquettelaw14_CrownEdges.j0 (k + 1) a v may 5 4 20 = some true := by
  simp only [maquettelaw14_CrownEdges.j0, put_k hk, get_k hk, Option.bind_some]
  split
  · split
    · exact edge_p (okC_dec (by simp; omega))
    · exact edge_f (okC_dec (by simp; omega))
  · split
    · exact edge_b (okC_dec (by rw [hm]; omega))
    · split
      · exact edge_p (okC_dec (by simp; omega))
      · exact edge_f (okC_dec (by simp; omega))

theorem CrownEdges : maquettelaw14_CrownEdges.Pure := by
  intro a v _ _
  refine ⟨30 + 1, ?_⟩
  unfold maquettelaw14_CrownEdges.f
  rw [alive_k (by decide)]
  simp only [Option.bind_some, if_true]
  split
  · exact edges_j (by decide) a v _ (by simp; omega)
  · exact edges_j (by decide) a v _ (by simp; omega)

end Go.Proofs.Ytenjkmfpbimmbaa.Pure
