/- clay.Put, a group. -/
import Derived.Test.YtbjknbfagadhfaaQV2
import Derived.Laws.NewBlocks
namespace Go.Proofs.Ytbjknbfagadhfaa.V
open Go.RowKit Go.Proofs.YtbjknbfagadhfaaW.PrintWords Go.Proofs.YtbjknbfagadhfaaW.PrintLast Go.Proofs.YtbjknbfagadhfaaW.PrintMore
set_option linter.unusedSimpArgs false
set_option linter.unusedVariables false

/-- the members, one behind the other -/
def inL (l : List Int) : List Int := (l.map fun n => byL n 4 4).flatten

theorem inL_length (l : List Int) : (inL l).length = 4 * l.length := by
  unfold inL; induction l with
  | nil => rfl
  | cons x t ih => rw [List.map_cons, List.flatten_cons, List.length_append, ih, byL_length, List.length_cons]; omega
theorem inL_snoc (l : List Int) (j : Nat) (h : j < l.length) : inL (l.take (j + 1)) = inL (l.take j) ++ byL (rd l j) 4 4 := by
  have e : l.take (j + 1) = l.take j ++ [rd l j] := by
    rw [List.take_add_one, List.getElem?_eq_getElem h]; simp [rd, List.getD, List.getElem?_eq_getElem h]
  rw [e]; unfold inL; rw [List.map_append, List.flatten_append]; simp

theorem put_group (a0 : Int) (a1 : Int) (a2 : Int) (a3 : Int) (a4 : Int) (a5 : Int) (a6 : Int) (a7 : Int) (a8 : Int) (a9 : Int) (a10 : Int) (a11 : Int) (a12 : Int) (A : Option Addr) (c : Nat) (l : List Int) (w : World) (hr : Kd.C (Kd.int .i64) w A l.length l) (hl : l.length ≤ 8) (R : Hid (∀ w1, Below w.heap.size w w1 → Calls Try.prog 18 #[.agg #[.int .i64 a0, .int .i64 a1, .int .i64 a2, .int .i64 a3, .int .i64 a4, .int .i64 a5, .int .i64 a6, .int .i64 a7, .int .i64 a8, .int .i64 a9, .int .i64 a10, .int .i64 a11, .int .i64 a12, .slice A l.length c]] w1 fun e w' => e = .returned (.bool true) ∧ Below w1.heap.size w1 w')) (hk : a1 = 3) :
    Calls Try.prog 13 #[.agg #[.int .i64 a0, .int .i64 a1, .int .i64 a2, .int .i64 a3, .int .i64 a4, .int .i64 a5, .int .i64 a6, .int .i64 a7, .int .i64 a8, .int .i64 a9, .int .i64 a10, .int .i64 a11, .int .i64 a12, .slice A l.length c]] w fun e w' => e = .returned (.tuple #[.string (strOfNums ([] ++ byL 3 1 1 ++ byL a0 4 4 ++ byL l.length 1 1 ++ inL l)), .bool true]) ∧ Below w.heap.size w w' := by
  subst hk
  have HR := Aside0.mk hr
  have HL := Aside0.mk hl
  clear hr hl
  go_enter Try.func13, Try.ntmps13
  go_wp2_with (first | (go_at_call 18; refine (R.out _ ((Below.refl _ _).alloc (Nat.le_refl _) _)).mono ?_; rintro e w1 ⟨rfl, hB1⟩; have hbx := blk_below (heap_alloc_new w _) hB1; have hcz0 := blk_cell hbx 0; have hcz1 := blk_cell hbx 1; have hcz2 := blk_cell hbx 2; have hcz3 := blk_cell hbx 3; have hcz4 := blk_cell hbx 4; have hcz5 := blk_cell hbx 5; have hcz6 := blk_cell hbx 6; have hcz7 := blk_cell hbx 7; have hcz8 := blk_cell hbx 8; have hcz9 := blk_cell hbx 9; have hcz10 := blk_cell hbx 10; have hcz11 := blk_cell hbx 11; have hcz12 := blk_cell hbx 12; have hcz13 := blk_cell hbx 13; have hlt := blk_lt hbx; have HX := Aside0.mk (blk_alloc hbx (.cells #[.slice none 0 0] 76)); have HB0 := ((Below.refl w.heap.size w).alloc (Nat.le_refl _) _).trans (hB1.mono (by simp)); have HI := Aside0.mk (show IsW w (w1.alloc (.cells #[.slice none 0 0] 76)) w1.heap.size [] from ⟨_, heap_alloc_new w1 _, HB0.size, Kd.R_nil _ _ _ _ _⟩); have HB := Aside0.mk (show Below w.heap.size w (w1.alloc (.cells #[.slice none 0 0] 76)) from HB0.alloc HB0.size _); have HNE := Aside0.mk (show w.heap.size ≠ w1.heap.size by omega); clear hbx hB1 HB0) | (go_at_call 34; refine (num_any w _ w1.heap.size _ _ _ (by decide) (by decide) (by simp [byL_length]) HI.out HB.out).mono ?_; rintro e w2 ⟨rfl, hI, hB, hK⟩; have hx := hK _ _ 31 (by decide) HNE.out HX.out; clear hcz0 hcz1 hcz2 hcz3 hcz4 hcz5 hcz6 hcz7 hcz8 hcz9 hcz10 hcz11 hcz12 hcz13; have hcz0 := blk_cell hx 0; have hcz1 := blk_cell hx 1; have hcz2 := blk_cell hx 2; have hcz3 := blk_cell hx 3; have hcz4 := blk_cell hx 4; have hcz5 := blk_cell hx 5; have hcz6 := blk_cell hx 6; have hcz7 := blk_cell hx 7; have hcz8 := blk_cell hx 8; have hcz9 := blk_cell hx 9; have hcz10 := blk_cell hx 10; have hcz11 := blk_cell hx 11; have hcz12 := blk_cell hx 12; have hcz13 := blk_cell hx 13; (try clear hwc hcv); have hI_ := hI; obtain ⟨vq, hq1, hq2, hq3⟩ := hI_; have hwc := blk_cell hq1 0; have hcv := own_string (P := Try.prog) Try.underlying67 Try.underlying5 Try.underlying9 (Kd.own_of_R hq3); clear hq1 hq2 hq3; have n0 := Aside0.mk hI; have n1 := Aside0.mk hB; have n2 := Aside0.mk hx; clear HI HB HX hI hB hK hx; have HI := n0; have HB := n1; have HX := n2; clear n0 n1 n2))
  go_loopw [76] (fun v76 w' => ∃ j : Nat, j ≤ l.length ∧ v76 = .int .i64 (j : Int) ∧ Aside0 (IsW w w' w1.heap.size ([] ++ byL 3 1 1 ++ byL a0 4 4 ++ byL l.length 1 1 ++ inL (l.take j))) ∧ Aside0 (Below w.heap.size w w') ∧ Aside0 (w'.heap[w.heap.size]? = some (.cells #[.int .i64 a0, .int .i64 3, .int .i64 a2, .int .i64 a3, .int .i64 a4, .int .i64 a5, .int .i64 a6, .int .i64 a7, .int .i64 a8, .int .i64 a9, .int .i64 a10, .int .i64 a11, .int .i64 a12, .slice A l.length c] 31 (0, 0)))) (fun v76 _ => (l.length - (intOf v76).toNat))
  case atStart => exact ⟨0, Nat.zero_le _, rfl, ⟨by have e : inL (l.take 0) = [] := rfl; rw [e, List.append_nil]; exact HI.out⟩, HB, HX⟩
  case round =>
    clear HI HB HX hcz0 hcz1 hcz2 hcz3 hcz4 hcz5 hcz6 hcz7 hcz8 hcz9 hcz10 hcz11 hcz12 hcz13 hwc hcv
    obtain ⟨j, hj, rfl, HI, HB, HX⟩ := hrel
    by_cases hj2 : j < l.length
    · have c0 : decide ((j : Int) < (l.length : Int)) = true := decide_eq_true (by omega)
      have LM := Aside0.mk (show ([] ++ byL 3 1 1 ++ byL a0 4 4 ++ byL l.length 1 1 ++ inL (l.take j)).length ≤ 1000000 by
        have := HL.out; simp only [List.length_append, byL_length, inL_length, List.length_take, List.length_nil]; omega)
      obtain ⟨ad, e, hx0⟩ := Kd.at_int HR.out (j : Int) (by omega) (by omega)
      cases e
      replace hx0 := (HB.out.cell (World.block_lt_of_cell? w _ hx0)).trans hx0
      have HJ := Aside0.mk hj2
      obtain ⟨i, hi⟩ : ∃ i : Int, i = (j : Int) := ⟨_, rfl⟩
      have HJI := Aside0.mk hi
      have p0 : (0 ≤ i) = True := eq_true (by omega)
      have p1 : (i < (l.length : Int)) = True := eq_true (by omega)
      rw [← hi] at c0 hx0 ⊢
      clear hj hj2 hi
      go_wp2_with (first | (go_at_call 34; refine (num_any w _ w1.heap.size _ _ _ (by decide) (by decide) (LM.out) HI.out HB.out).mono ?_; rintro e w2 ⟨rfl, hI, hB, hK⟩; have hx := hK _ _ 31 (by decide) HNE.out HX.out; have n0 := Aside0.mk hI; have n1 := Aside0.mk hB; have n2 := Aside0.mk hx; clear HI HB HX hI hB hK hx; have HI := n0; have HB := n1; have HX := n2; clear n0 n1 n2))
      go_roundw
      case rel => exact ⟨j + 1, by have := HJ.out; omega, by rw [HJI.out]; first | rfl | (simp; done) | (simp [wrap64]; have := HL.out; have := HJ.out; omega), ⟨by rw [inL_snoc l j HJ.out, ← List.append_assoc, ← HJI.out]; exact HI.out⟩, HB, HX⟩
      case measure => have := HJ.out; have := HJI.out; have := HL.out; simp [intOf, wrap64]; omega
    · have hje : j = l.length := by omega
      subst hje
      have c0 : decide ((l.length : Int) < (l.length : Int)) = false := decide_eq_false (by omega)
      have hI_ := HI.out
      obtain ⟨vq, hq1, hq2, hq3⟩ := hI_
      have hwc := blk_cell hq1 0
      have hcv := own_string (P := Try.prog) Try.underlying67 Try.underlying5 Try.underlying9 (Kd.own_of_R hq3)
      clear hq1 hq2 hq3
      rw [List.take_length] at hcv
      go_wp2
      go_ret2
      exact ⟨rfl, HB.out⟩
end Go.Proofs.Ytbjknbfagadhfaa.V
