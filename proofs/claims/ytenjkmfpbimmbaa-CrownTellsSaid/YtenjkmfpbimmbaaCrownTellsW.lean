/- CrownTells: every crown as bytes, and back; which of two pages counts; every slot: the printed law answers true for every input. -/
import Derived.Test.YtenjkmfpbimmbaaPAllx8
import Derived.Test.YtenjkmfpbimmbaaD
namespace Go.Proofs.Ytenjkmfpbimmbaa.Pure
open Go.RowKit Go.Proofs.Ytenjkmfpbimmbaa.PAll Go.Proofs.YtenjkmfpbimmbaaW.PrintWords Go.Proofs.YtenjkmfpbimmbaaW.PrintLast Go.Proofs.YtenjkmfpbimmbaaW.PrintMore
set_option linter.unusedSimpArgs false
set_option linter.unusedVariables false

theorem tells_j2 {k : Nat} (n : Int) : maquettelaw14_CrownTells.j2 (k + 2) n = some true := by
  simp only [maquettelaw14_CrownTells.j2, maquettelaw14_CrownTells.j3, and1, slot_f, Option.bind_some]
  by_cases h : n % 2 = 1
  · rw [if_pos h, h]; rfl
  · rw [if_neg h, show n % 2 = 0 by omega]; rfl

theorem tells_j1 {k : Nat} (hk : 20 ≤ k) (n g r p : Int) : maquettelaw14_CrownTells.j1 (k + 1) n (putA g r p) (okC g r p) false g r p = some true := by
  obtain ⟨m, rfl⟩ : ∃ m, k = m + 2 := ⟨k - 2, by omega⟩
  simp only [maquettelaw14_CrownTells.j1, Bool.false_eq_true, if_false, get_k hk, Option.bind_some, tells_j2]
  cases h : okC g r p
  · simp only [Bool.false_eq_true, if_false]
  · simp only [if_true, putA_ok h, getA_enc h, beq_self_eq_true, Bool.not_true, Bool.or_self, Bool.false_eq_true, if_false]

theorem tells_out {k : Nat} (hk : 20 ≤ k) (g r p n : Int) (a b : ByteArray) : maquettelaw14_CrownTells.j0 (k + 1) a b n true g r p = some true := by
  simp only [maquettelaw14_CrownTells.j0, if_true, alive_k hk, Option.bind_some]

theorem tells_in {k : Nat} (hk : 20 ≤ k) (g r p n : Int) (a b : ByteArray) : maquettelaw14_CrownTells.j0 (k + 2) a b n false g r p = some true := by
  have hk1 : 20 ≤ k + 1 := by omega
  simp only [maquettelaw14_CrownTells.j0, Bool.false_eq_true, if_false, put_k hk1, rput_k hk1, get_k hk1, rget_k hk1, pick_k hk1, rpick_k hk1, Option.bind_some,
    if_true, bne_self_eq_false, beq_self_eq_true, Bool.not_true, Bool.or_self, tells_j1 hk]

theorem CrownTells (g r p n : Int) (a b : ByteArray) : ∃ k, maquettelaw14_CrownTells.f k g r p a b n = some true := by
  refine ⟨30 + 2, ?_⟩
  unfold maquettelaw14_CrownTells.f
  split
  · exact tells_out (k := 31) (by decide) _ _ _ _ _ _
  · split
    · exact tells_out (k := 31) (by decide) _ _ _ _ _ _
    · rw [alive_k (by decide)]
      simp only [Option.bind_some, Bool.not_true]
      exact tells_in (k := 30) (by decide) _ _ _ _ _ _

theorem CrownTells_walk (g r p : Int) (a b : ByteArray) (n : Int) (w0 : (Lit.int .i64 g).wf = true) (w1 : (Lit.int .i64 r).wf = true) (w2 : (Lit.int .i64 p).wf = true) (y1 : a.size ≤ maxLen) (y2 : b.size ≤ maxLen) (w3 : (Lit.int .i64 n).wf = true) (w : World) :
    Calls Try.prog 3 #[.agg #[.int .i64 g, .int .i64 r, .int .i64 p], .string a, .string b, .int .i64 n] w fun e w' => e = .returned (.bool true) ∧ Below w.heap.size w w' := by
  obtain ⟨k, h⟩ := CrownTells g r p n a b
  exact maquettelaw14_CrownTells.calls k g r p a b n true w h
end Go.Proofs.Ytenjkmfpbimmbaa.Pure
