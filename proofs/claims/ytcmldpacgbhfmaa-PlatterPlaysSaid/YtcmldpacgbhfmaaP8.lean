/- alive is true. -/
import Derived.Test.YtcmldpacgbhfmaaP7
namespace Go.Proofs.Ytcmldpacgbhfmaa.V
open Go.RowKit Go.Proofs.YtcmldpacgbhfmaaW.PrintWords Go.Proofs.YtcmldpacgbhfmaaW.PrintLast Go.Proofs.YtcmldpacgbhfmaaW.PrintMore
set_option linter.unusedVariables false
set_option linter.unusedSimpArgs false

def sAbc : ByteArray := ⟨#[97, 98, 99]⟩
def sXyz : ByteArray := ⟨#[120, 121, 122]⟩
def sXyc : ByteArray := ⟨#[120, 121, 99]⟩
def A1 : PS := stS (newS 3) 1 (fill sAbc)
def A2 : PS := seS A1
def A3 : PS := stS A2 1 (fill sXyz)
def A4 : PS := faS A3 [2]
theorem A1w : WellS A1 3 1 := (WellS.new 3).st (by decide) (by decide) (fill_size _)
theorem A2w : WellS A2 3 0 := A1w.se
theorem A3w : WellS A3 3 1 := A2w.st (by decide) (by decide) (fill_size _)
theorem A4w : WellS A4 3 0 := A3w.fa _
theorem A4load : loadE A4 1 = (fill sXyc, 0) := by decide +kernel
theorem A3fail : (failed A3 [2] 1).2 = 1 := by decide +kernel
set_option maxHeartbeats 8000000 in
set_option maxRecDepth 100000 in
theorem alive_any (w0 : World) : Calls Try.prog 11 #[] w0 fun e w' => e = .returned (.bool true) ∧ Below w0.heap.size w0 w' := by
  have hab : ∀ w g, IsQ w0 w g (newS 3) → Calls Try.prog 13 #[.string ⟨#[97, 98, 99]⟩] w fun e w' => e = .returned (.string (fill sAbc)) ∧ IsQ w0 w' g (newS 3) := fun w g h => q_fill h _
  have hxy : ∀ w g, IsQ w0 w g A2 → Calls Try.prog 13 #[.string ⟨#[120, 121, 122]⟩] w fun e w' => e = .returned (.string (fill sXyz)) ∧ IsQ w0 w' g A2 := fun w g h => q_fill h _
  have hxc : ∀ w g, IsQ w0 w g A4 → Calls Try.prog 13 #[.string ⟨#[120, 121, 99]⟩] w fun e w' => e = .returned (.string (fill sXyc)) ∧ IsQ w0 w' g A4 := fun w g h => q_fill h _
  have hs1 : ∀ w g, IsQ w0 w g (newS 3) → Calls Try.prog 14 #[.pointer (some ⟨g, 0, none⟩), .int .i64 1, .string (fill sAbc)] w fun e w' => e = .returned (.int .i64 0) ∧ IsQ w0 w' g A1 ∧ Others w w' := fun w g h => q_st h (WellS.new 3) 1 _ (by decide) (by decide) (fill_size _) (by decide) (by decide)
  have hs2 : ∀ w g, IsQ w0 w g A1 → Calls Try.prog 15 #[.pointer (some ⟨g, 0, none⟩)] w fun e w' => e = .returned (.int .i64 0) ∧ IsQ w0 w' g A2 := fun w g h => q_se h A1w (by decide)
  have hs3 : ∀ w g, IsQ w0 w g A2 → Calls Try.prog 14 #[.pointer (some ⟨g, 0, none⟩), .int .i64 1, .string (fill sXyz)] w fun e w' => e = .returned (.int .i64 0) ∧ IsQ w0 w' g A3 ∧ Others w w' := fun w g h => q_st h A2w 1 _ (by decide) (by decide) (fill_size _) (by decide) (by decide)
  have hs4 : ∀ w g, IsQ w0 w g A3 → Calls Try.prog 16 #[.pointer (some ⟨g, 0, none⟩), .slice (some ⟨w.heap.size, 0, none⟩) 1 1] (w.alloc (.cells #[.int .i64 2] 3)) fun e w' => e = .returned (.int .i64 1) ∧ IsQ w0 w' g A4 := fun w g h => q_fa (h.alloc _) A3w (by decide) _ 1 [2] 1 rfl (C_made (MapKept.heap_alloc w _).1 rfl (by decide) (by decide) (by decide) (by decide)) A3fail
  have X1 := Aside0.mk hab
  have X2 := Aside0.mk hxy
  have X3 := Aside0.mk hxc
  have X4 := Aside0.mk hs1
  have X5 := Aside0.mk hs2
  have X6 := Aside0.mk hs3
  have X7 := Aside0.mk hs4
  clear hab hxy hxc hs1 hs2 hs3 hs4
  have hn : ∀ w, Below w0.heap.size w0 w → Calls Try.prog 12 #[.int .i64 3] w fun e w' => ∃ g, e = .returned (.pointer (some ⟨g, 0, none⟩)) ∧ IsQ w0 w' g (newS 3) := fun w h => q_new w0 w h 3 (by decide) (by decide)
  have X0 := Aside0.mk hn
  clear hn
  go_enter Try.func11, Try.ntmps11
  go_wp2_with (first
    | (go_at_call 12; (with_reducible refine (X0.out _ (Below.refl _ _)).mono ?_); rintro e w1 ⟨g, rfl, hq⟩; have IPc := Aside0.mk hq; clear hq)
    | (go_at_call 13; (with_reducible first | refine (X1.out _ _ IPc.out).mono ?_ | refine (X2.out _ _ IPc.out).mono ?_ | refine (X3.out _ _ IPc.out).mono ?_); rintro e w1 ⟨rfl, hq⟩; clear IPc; have IPc := Aside0.mk hq; clear hq)
    | (go_at_call 14; (with_reducible first | refine (X4.out _ _ IPc.out).mono ?_ | refine (X6.out _ _ IPc.out).mono ?_); rintro e w1 ⟨rfl, hq, -⟩; clear IPc; have IPc := Aside0.mk hq; clear hq)
    | (go_at_call 15; (with_reducible refine (X5.out _ _ IPc.out).mono ?_); rintro e w1 ⟨rfl, hq⟩; clear IPc; have IPc := Aside0.mk hq; clear hq)
    | (go_at_call 16; go_must (with_reducible refine (X7.out _ _ IPc.out).mono ?_); rintro e w1 ⟨rfl, hq⟩; clear IPc; have IPc := Aside0.mk hq; clear hq)
    | (go_at_call 17; (with_reducible refine (q_load IPc.out 1 (by decide) A4load).mono ?_); rintro e w1 ⟨rfl, hq⟩; clear IPc; have IPc := Aside0.mk hq; clear hq)
    | (go_at_call 19; (with_reducible first | refine (q_afloat IPc.out (n := 1) (congrArg Nat.cast A3w.few)).mono ?_ | refine (q_afloat IPc.out (n := 0) (congrArg Nat.cast A4w.few)).mono ?_); rintro e w1 ⟨rfl, hq⟩; clear IPc; have IPc := Aside0.mk hq; clear hq)
    | (go_at_call 23; (with_reducible refine (q_pages IPc.out (n := 3) (congrArg Nat.cast A4w.len)).mono ?_); rintro e w1 ⟨rfl, hq⟩; clear IPc; have IPc := Aside0.mk hq; clear hq))
  go_ret
  exact ⟨by first | rfl | simp, IPc.out.1⟩
end Go.Proofs.Ytcmldpacgbhfmaa.V
