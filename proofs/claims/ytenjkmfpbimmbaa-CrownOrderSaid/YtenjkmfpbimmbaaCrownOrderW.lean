/- CrownOrder: of two crowns the greater number counts, wherever they stand; of the same the first: the printed law answers true for every input. -/
import Derived.Test.YtenjkmfpbimmbaaPAllx12
import Derived.Test.YtenjkmfpbimmbaaD
namespace Go.Proofs.Ytenjkmfpbimmbaa.Pure
open Go.RowKit Go.Proofs.Ytenjkmfpbimmbaa.PAll Go.Proofs.YtenjkmfpbimmbaaW.PrintWords Go.Proofs.YtenjkmfpbimmbaaW.PrintLast Go.Proofs.YtenjkmfpbimmbaaW.PrintMore
set_option linter.unusedSimpArgs false
set_option linter.unusedVariables false

theorem order_out {k : Nat} (hk : 20 ≤ k) (x y : ByteArray) (a b c d e f : Int) : maquettelaw14_CrownOrder.j0 (k + 1) x y true a b c d e f = some true := by
  simp only [maquettelaw14_CrownOrder.j0, if_true, alive_k hk, Option.bind_some]

theorem encB_ends {g r p : Int} : ((encB g r p).extract 0 8).toList = ((encB g r p).extract 120 128).toList := by
  rw [ByteArray.toList_eq, ByteArray.toList_eq, extract_list, extract_list]
  rfl

theorem order_j1 {k : Nat} {g r p : Int} (at_ : Int) (u v z : Int) : maquettelaw14_CrownOrder.j1 (k + 2) (encB g r p) at_ true at_ u v z u v z = some true := by
  have e1 : wrap64 (((128 : Nat) : Int) - 8) = 120 := by unfold wrap64; decide
  simp only [maquettelaw14_CrownOrder.j1, maquettelaw14_CrownOrder.j2, if_true, beq_self_eq_true, Bool.and_self, encB_size, e1]
  rw [if_pos (by decide), if_pos (by decide), if_pos (by decide), if_pos (by decide), if_pos (by decide)]
  have := @encB_ends g r p
  show some (((encB g r p).extract 0 8).toList == ((encB g r p).extract 120 128).toList) = some true
  rw [this, beq_self_eq_true]

theorem order_in {k : Nat} (hk : 20 ≤ k) {g r p g' r' p' : Int} (h : okC g r p = true) (h' : okC g' r' p' = true) :
    maquettelaw14_CrownOrder.j0 (k + 1) (encB g r p) (encB g' r' p') false g r p g' r' p' = some true := by
  obtain ⟨m, rfl⟩ : ∃ m, k = m + 2 := ⟨k - 2, by omega⟩
  have e := pick_enc h h'
  simp only [maquettelaw14_CrownOrder.j0, Bool.false_eq_true, if_false, pick_k hk, Option.bind_some, e]
  by_cases hg : g' ≤ g
  · simp only [if_pos hg]
    rw [if_neg (by omega)]
    exact order_j1 _ _ _ _
  · simp only [if_neg hg]
    rw [if_pos (by omega)]
    exact order_j1 _ _ _ _

theorem CrownOrder (g r p g' r' p' : Int) : ∃ k, maquettelaw14_CrownOrder.f k g r p g' r' p' = some true := by
  refine ⟨30 + 1, ?_⟩
  unfold maquettelaw14_CrownOrder.f
  simp only [put_k (show 20 ≤ 30 + 1 by decide), Option.bind_some, alive_k (show 20 ≤ 30 + 1 by decide), Bool.not_true]
  cases h : okC g r p
  · simp only [Bool.false_eq_true, if_false]
    exact order_out (k := 30) (by decide) _ _ _ _ _ _ _ _
  · cases h' : okC g' r' p'
    · simp only [Bool.false_eq_true, if_false, if_true]
      exact order_out (k := 30) (by decide) _ _ _ _ _ _ _ _
    · simp only [if_true, putA_ok h, putA_ok h']
      exact order_in (k := 30) (by decide) h h'

theorem CrownOrder_walk (g r p g' r' p' : Int) (w0 : (Lit.int .i64 g).wf = true) (w1 : (Lit.int .i64 r).wf = true) (w2 : (Lit.int .i64 p).wf = true) (v0 : (Lit.int .i64 g').wf = true) (v1 : (Lit.int .i64 r').wf = true) (v2 : (Lit.int .i64 p').wf = true) (w : World) :
    Calls Try.prog 8 #[.agg #[.int .i64 g, .int .i64 r, .int .i64 p], .agg #[.int .i64 g', .int .i64 r', .int .i64 p']] w fun e w' => e = .returned (.bool true) ∧ Below w.heap.size w w' := by
  obtain ⟨k, h⟩ := CrownOrder g r p g' r' p'
  exact maquettelaw14_CrownOrder.calls k g r p g' r' p' true w h
end Go.Proofs.Ytenjkmfpbimmbaa.Pure
