/- The writer's vec. -/
import Derived.Test.YtbjknbfagadhfaaQV
namespace Go.Proofs.Ytbjknbfagadhfaa.V
open Go.RowKit Go.Proofs.YtbjknbfagadhfaaW.PrintWords Go.Proofs.YtbjknbfagadhfaaW.PrintLast Go.Proofs.YtbjknbfagadhfaaW.PrintMore
set_option linter.unusedSimpArgs false
set_option linter.unusedVariables false

theorem IsW.drew {w0 w : World} {g : Nat} {l : List Int} (h : IsW w0 w g l) : IsW w0 w.drew g l := h
theorem IsW.below {w0 w w1 : World} {g : Nat} {l : List Int} (h : IsW w0 w g l) (hb : Below w.heap.size w w1) : IsW w0 w1 g l := by
  obtain ⟨v, h1, h2, h3⟩ := h
  exact ⟨v, blk_below h1 hb, h2, Kd.R_below h3 hb⟩
theorem IsW.alloc {w0 w : World} {g : Nat} {l : List Int} (h : IsW w0 w g l) (o : Obj) : IsW w0 (w.alloc o) g l := h.below (below_alloc (Below.refl _ _) o)

theorem Kp.alloc (w : World) (g : Nat) (o : Obj) : Kp w (w.alloc o) g := fun _ _ _ _ _ h => blk_alloc h o

theorem vec_any (w0 w : World) (g : Nat) (l : List Int) (x y : Int) (hl : l.length ≤ 900000) (HI : IsW w0 w g l) (HB : Below w0.heap.size w0 w) :
    Calls Try.prog 35 #[.pointer (some ⟨g, 0, none⟩), .agg #[.int .i64 x, .int .i64 y]] w fun e w' => e = .returned (.tuple #[]) ∧ IsW w0 w' g (l ++ byL x 8 8 ++ byL y 8 8) ∧ Below w0.heap.size w0 w' ∧ Kp w w' g := by
  have hg : g < w.heap.size := by obtain ⟨v, h, _⟩ := HI; exact blk_lt h
  have HI := Aside0.mk HI
  have HB := Aside0.mk HB
  have HL := Aside0.mk hl
  have HG := Aside0.mk hg
  clear hl hg
  go_enter Try.func35, Try.ntmps35
  go_wp2_with (first | (go_at_call 34; refine (num_any w0 _ g l x 8 (by decide) (by decide) (by have := HL.out; omega) (HI.out.alloc _) (HB.out.alloc HB.out.size _)).mono ?_; rintro e w1 ⟨rfl, hI1, hB1, hK1⟩; have hbx := hK1 w.heap.size _ 24 (by decide) (by have := HG.out; omega) (heap_alloc_new w _); have hcz0 := blk_cell hbx 0; have hcz1 := blk_cell hbx 1; have H1 := Aside0.mk hI1; have H2 := Aside0.mk hB1; have H3 := Aside0.mk hK1; clear hI1 hB1 hK1 hbx HI HB))
  refine (num_any w0 w1 g (l ++ byL x 8 8) y 8 (by decide) (by decide) (by have := HL.out; rw [List.length_append, byL_length]; omega) H1.out H2.out).mono ?_
  rintro e w2 ⟨rfl, hI2, hB2, hK2⟩
  have H4 := Aside0.mk hI2
  have H5 := Aside0.mk hB2
  have H6 := Aside0.mk hK2
  clear hI2 hB2 hK2 hcz0 hcz1
  go_wp2
  go_end0
  exact ⟨rfl, H4.out, H5.out, ((Kp.alloc _ _ _).trans H3.out).trans H6.out⟩
end Go.Proofs.Ytbjknbfagadhfaa.V
