/- Of the texts that the row stands on, what it needs (part 36), put together by a program of this session. -/
import Derived.Test.YtdhaoaehboonpaaGreatZeT32
namespace Go.Proofs.YtdhaoaehboonpaaGreat.V
open Go.RowKit Go.Proofs.YtdhaoaehboonpaaGreatW.PrintWords Go.Proofs.YtdhaoaehboonpaaGreatW.PrintLast Go.Proofs.YtdhaoaehboonpaaGreatW.PrintMore Go.Proofs.YtdhaoaehboonpaaGreatM
set_option linter.unusedVariables false
set_option linter.unusedSimpArgs false
theorem plan_none {m : Nat} (h1 : 1 ≤ m) (h2 : m ≤ 198) : (planE [] [] (pgs m)).2.2 = 0 ∧ (planE [] [] (pgs m)).1.length = 1 := by
  have hm := pgs_may h2
  obtain ⟨fr, hfr⟩ : ∃ fr, pgs m = 2 :: fr := by
    obtain ⟨k, rfl⟩ : ∃ k, m = k + 1 := ⟨m - 1, by omega⟩
    unfold pgs
    rw [List.range_succ_eq_map]
    exact ⟨_, rfl⟩
  rw [hfr] at hm ⊢
  have hi : (indexE []).2 = true := by decide +kernel
  have hz : planZ [] [] (2 :: fr) = (2, { known := upd (fun _ => none) (indexE []).1 2, free := fr, out := [(2, (indexE []).1)], e := 0 }) := by
    unfold planZ planT planS planC
    show (putN (⟨fun _ => none, 2 :: fr, [], 0⟩ : PS) (indexE []).1 (indexE []).2, putS (⟨fun _ => none, 2 :: fr, [], 0⟩ : PS) (indexE []).1 (indexE []).2) = _
    rw [hi]
    rfl
  unfold planE
  rw [if_pos (by rw [show rightF (-1) [] = true from rfl, Bool.true_and]; exact hm), if_neg (by show ¬ (21 < (lvs [] []).length); decide), hz]
  exact ⟨rfl, rfl⟩
end Go.Proofs.YtdhaoaehboonpaaGreat.V
