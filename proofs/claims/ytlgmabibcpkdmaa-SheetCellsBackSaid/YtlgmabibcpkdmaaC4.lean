/- A page's kind; alive. -/
import Derived.Test.YtlgmabibcpkdmaaC3
namespace Go.Proofs.Ytlgmabibcpkdmaa.PAll
open Go.RowKit Go.Proofs.YtlgmabibcpkdmaaW.PrintWords Go.Proofs.YtlgmabibcpkdmaaW.PrintLast Go.Proofs.YtlgmabibcpkdmaaW.PrintMore
open Go.Proofs.Ytlgmabibcpkdmaa.V (byI byL byL_length byL_snoc strOf_bytesOf strOf_append okK okP okR ahK idxV idxB idxA idxB_length lfT lfV lfB lfA lfT_length okR_size all_at fullA zer)
set_option linter.unusedSimpArgs false
set_option linter.unusedVariables false

/-- what a page is read as: slots, cells, a piece -/
theorem page_ex (a : ByteArray) (ha : a.size ≤ 1000000) : ∃ (s : List S41 × Bool) (c : List S52 × Bool) (l : Int × ByteArray × Bool),
    (∀ k, 600 ≤ k → sheet_Slots.f k a = some s) ∧ (∀ k, 600 ≤ k → sheet_Cells.f k a = some c) ∧ (∀ k, 600 ≤ k → sheet_Link.f k a = some l) ∧
    (∀ k, 600 ≤ k → sheet_Kind.f k a = some (if s.2 = true then 73 else if c.2 = true then 76 else if l.2.2 = true then 67 else 0)) ∧
    (s.2 = true → fb a = some 73) ∧ (c.2 = true → fb a = some 76) ∧ (l.2.2 = true → fb a = some 67) := by
  obtain ⟨b1, l1, e1⟩ := slots_ex a
  obtain ⟨b2, l2, e2⟩ := cells_ex a
  obtain ⟨b3, nx, pc, e3⟩ := link_ex a ha
  refine ⟨slotsFin a b1 l1, cellsFin a b2 l2, linkFin a b3 nx pc, fun k hk => e1 k (by omega), fun k hk => e2 k (by omega), fun k hk => e3 k (by omega), fun k hk => ?_, slots_fb, cells_fb, link_fb⟩
  unfold sheet_Kind.f
  rw [e1 k (by omega), e2 k (by omega), e3 k (by omega), Option.bind_some, Option.bind_some, Option.bind_some]
  split
  · rfl
  · split
    · rfl
    · split <;> rfl

set_option maxRecDepth 100000 in
theorem alive_60 : maquettelaw15_alive.f 60 = some true := by decide +kernel
theorem alive_k (k : Nat) (hk : 60 ≤ k) : maquettelaw15_alive.f k = some true := by
  induction k with
  | zero => omega
  | succ k ih =>
    by_cases h : k + 1 = 60
    · rw [h]; exact alive_60
    · exact maquettelaw15_alive.mono k _ (ih (by omega))
end Go.Proofs.Ytlgmabibcpkdmaa.PAll
