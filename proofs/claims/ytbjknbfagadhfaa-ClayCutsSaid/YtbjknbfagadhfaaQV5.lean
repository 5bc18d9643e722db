/- The writer's text. -/
import Derived.Test.YtbjknbfagadhfaaQV2
import Derived.Laws.NewBlocks
namespace Go.Proofs.Ytbjknbfagadhfaa.V
open Go.RowKit Go.Proofs.YtbjknbfagadhfaaW.PrintWords Go.Proofs.YtbjknbfagadhfaaW.PrintLast Go.Proofs.YtbjknbfagadhfaaW.PrintMore
set_option linter.unusedSimpArgs false
set_option linter.unusedVariables false

theorem text_any (w0 w : World) (g : Nat) (l : List Int) (s : ByteArray) (hl : l.length ≤ 900000) (hs : s.size ≤ 60000) (HI : IsW w0 w g l) (HB : Below w0.heap.size w0 w) :
    Calls Try.prog 79 #[.pointer (some ⟨g, 0, none⟩), .string s] w fun e w' => e = .returned (.tuple #[]) ∧ IsW w0 w' g (l ++ byL s.size 2 2 ++ bytesOf s) ∧ Below w0.heap.size w0 w' ∧ Kp w w' g := by
  have HI := Aside0.mk HI
  have HB := Aside0.mk HB
  have HL := Aside0.mk hl
  have HS := Aside0.mk hs
  clear hl hs
  go_enter Try.func79, Try.ntmps79
  go_wp2_with (first | (go_at_call 34; refine (num_any w0 _ g l s.size 2 (by decide) (by decide) (by have := HL.out; omega) HI.out HB.out).mono ?_; rintro e w1 ⟨rfl, hI1, hB1, hK1⟩; obtain ⟨u, hHG, hge, hR⟩ := hI1; have hwc := blk_cell hHG 0; have HG := Aside0.mk hHG; have HGE := Aside0.mk hge; have HR := Aside0.mk hR; have H2 := Aside0.mk hB1; have H3 := Aside0.mk hK1; clear hB1 hK1 HI HB hHG hge hR) | (at_builtin; refine print_append_str (w0 := w0) w0.heap.size rfl (.tmp 12) (.tmp 13) 67 9 5 rfl Try.underlying67 Try.underlying9 info5 u (l ++ byL s.size 2 2) s rfl rfl ?aO ?aB ?aS ?aL ?_; (case aO => exact Kd.own_of_R HR.out); (case aB => exact H2.out); (case aS => exact below_size H2.out); (case aL => have := HL.out; have := HS.out; rw [List.length_append, byL_length]; omega); intro v1 w2 ho hb hg; have hR1 : Kd.R (Kd.int .u8) 5 w2 w0.heap.size (fun _ => True) v1 (l ++ byL s.size 2 2 ++ bytesOf s) := Kd.R_of_own ho (fun _ _ => trivial); obtain ⟨A1, c1, rfl⟩ := Kd.R_slice hR1; have HG2 := Aside0.mk (blk_grown HG.out hg (fun h => (HR.out.1 g h.symm) rfl)); have hfz2 := blk_frozen HG2.out 0; have HKP2 : Aside0 (Kp w w2 g) := ⟨fun k c t ht hk hb_ => blk_grown (H3.out k c t ht hk hb_) hg (Kd.R_ne HR.out (H3.out k c t ht hk hb_) ht)⟩; (have hne : ∀ k, (Value.slice A1 (l ++ byL s.size 2 2 ++ bytesOf s).length c1).ownBlock = some k → k ≠ g := by intro k hk he; subst he; exact Kd.R_ne hR1 HG2.out (by decide) hk.symm); have HO2 := Aside0.mk (show Kd.R (Kd.int .u8) 5 w2 w0.heap.size (fun k => k ≠ g) (.slice A1 (l ++ byL s.size 2 2 ++ bytesOf s).length c1) (l ++ byL s.size 2 2 ++ bytesOf s) from Kd.R_of_own ho hne); have HB2 := Aside0.mk hb; obtain ⟨L1, hL1⟩ : ∃ y : List Int, y = l ++ byL s.size 2 2 ++ bytesOf s := ⟨_, rfl⟩; rw [← hL1] at HO2 ⊢; have hwc2 := blk_cell HG2.out 0; have HL1 := Aside0.mk hL1; clear hR1 hne ho hb hg hwc HG HR H2 H3 hL1))
  go_end0
  rw [← HL1.out]
  refine ⟨rfl, ?_, ?_, ?_⟩
  · exact ⟨_, by simpa using blk_set HG2.out 0 (.slice A1 L1.length c1), HGE.out, Kd.R_far (p := ⟨g, 0, none⟩) HO2.out (fun k hk => hk) _⟩
  · exact HB2.out.setCell HGE.out _
  · exact fun k c t ht hk hb_ => (Below.heap_setCell w2 ⟨g, 0, none⟩ _ k hk).trans (HKP2.out k c t ht hk hb_)
end Go.Proofs.Ytbjknbfagadhfaa.V
