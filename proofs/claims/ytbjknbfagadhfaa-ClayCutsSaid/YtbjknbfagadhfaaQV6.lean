/- clay.PutEntry. -/
import Derived.Test.YtbjknbfagadhfaaQV5
import Derived.Laws.NewBlocks
namespace Go.Proofs.Ytbjknbfagadhfaa.V
open Go.RowKit Go.Proofs.YtbjknbfagadhfaaW.PrintWords Go.Proofs.YtbjknbfagadhfaaW.PrintLast Go.Proofs.YtbjknbfagadhfaaW.PrintMore
set_option linter.unusedSimpArgs false
set_option linter.unusedVariables false

theorem putE_no (a2 : Int) (a3 : Int) (a4 : Int) (a5 : Int) (a6 : Int) (a7 : Int) (t : Bool) (A : Option Addr) (c : Nat) {α : Type} (l : List α) (w : World) (R : Hid (∀ w1, Below w.heap.size w w1 → Calls Try.prog 29 #[.agg #[.slice A l.length c, .bool t, .int .i64 a2, .int .i64 a3, .int .i64 a4, .int .i64 a5, .int .i64 a6, .int .i64 a7]] w1 fun e w' => e = .returned (.bool false) ∧ Below w1.heap.size w1 w')) :
    Calls Try.prog 24 #[.agg #[.slice A l.length c, .bool t, .int .i64 a2, .int .i64 a3, .int .i64 a4, .int .i64 a5, .int .i64 a6, .int .i64 a7]] w fun e w' => e = .returned (.tuple #[.string ⟨#[]⟩, .bool false]) ∧ Below w.heap.size w w' := by
  go_enter Try.func24, Try.ntmps24
  go_wp2_with (first | (go_at_call 29; refine (R.out _ ((Below.refl _ _).alloc (Nat.le_refl _) _)).mono ?_; rintro e w1 ⟨rfl, hB1⟩))
  go_ret2
  exact ⟨rfl, ((Below.refl _ _).alloc (Nat.le_refl _) _).trans (hB1.mono (by simp))⟩

/-- the steps' bytes, the first j of them -/
def stepsL (Id : Int → Int) (Bf Af : Int → ByteArray) (j : Nat) : List Int := ((List.range j).map fun (i : Nat) => byL (Id i) 4 4 ++ byL (Bf i).size 2 2 ++ bytesOf (Bf i) ++ byL (Af i).size 2 2 ++ bytesOf (Af i)).flatten
theorem stepsL_snoc (Id : Int → Int) (Bf Af : Int → ByteArray) (j : Nat) : stepsL Id Bf Af (j + 1) = stepsL Id Bf Af j ++ byL (Id j) 4 4 ++ byL (Bf j).size 2 2 ++ bytesOf (Bf j) ++ byL (Af j).size 2 2 ++ bytesOf (Af j) := by
  unfold stepsL; rw [List.range_succ, List.map_append, List.flatten_append]; simp [List.append_assoc]
theorem stepsL_length (Id : Int → Int) (Bf Af : Int → ByteArray) (hs : ∀ i, (Bf i).size ≤ 1000 ∧ (Af i).size ≤ 1000) (j : Nat) : (stepsL Id Bf Af j).length ≤ 2008 * j := by
  induction j with
  | zero => exact Nat.le_refl _
  | succ j ih =>
    have h1 := (hs j).1
    have h2 := (hs j).2
    rw [stepsL_snoc]
    simp only [List.length_append, byL_length, bytesOf_length]
    omega


set_option maxRecDepth 100000 in
theorem put_steps (a2 : Int) (a3 : Int) (a4 : Int) (a5 : Int) (a6 : Int) (a7 : Int) (t : Bool) (A : Option Addr) (c : Nat) {α : Type} (l : List α) (w : World) (Id : Int → Int) (Bf Af : Int → ByteArray) (HR : ∀ i : Int, 0 ≤ i → i < l.length → ∃ ad, A = some ad ∧ w.cell? (ad.add (i.toNat * 3)) = some (.int .i64 (Id i)) ∧ w.cell? ⟨(ad.add (i.toNat * 3)).block, (ad.add (i.toNat * 3)).off + 1, none⟩ = some (.string (Bf i)) ∧ w.cell? ⟨(ad.add (i.toNat * 3)).block, (ad.add (i.toNat * 3)).off + 2, none⟩ = some (.string (Af i))) (hl : l.length ≤ 40) (hs : ∀ i, (Bf i).size ≤ 1000 ∧ (Af i).size ≤ 1000) (R : Hid (∀ w1, Below w.heap.size w w1 → Calls Try.prog 29 #[.agg #[.slice A l.length c, .bool t, .int .i64 a2, .int .i64 a3, .int .i64 a4, .int .i64 a5, .int .i64 a6, .int .i64 a7]] w1 fun e w' => e = .returned (.bool true) ∧ Below w1.heap.size w1 w')) :
    Calls Try.prog 24 #[.agg #[.slice A l.length c, .bool t, .int .i64 a2, .int .i64 a3, .int .i64 a4, .int .i64 a5, .int .i64 a6, .int .i64 a7]] w fun e w' => e = .returned (.tuple #[.string (strOfNums ([] ++ byL l.length 1 1 ++ stepsL Id Bf Af l.length ++ byL (if t then 1 else 0) 1 1 ++ (if t then byL a2 8 8 ++ byL a3 8 8 ++ byL a4 8 8 ++ byL a5 8 8 else []) ++ byL a6 4 4 ++ byL a7 4 4)), .bool true]) ∧ Below w.heap.size w w' := by
  have HR := Aside0.mk HR
  have HL := Aside0.mk hl
  have HS := Aside0.mk hs
  clear hl hs
  go_enter Try.func24, Try.ntmps24
  go_wp2_with (first | (go_at_call 29; refine (R.out _ ((Below.refl _ _).alloc (Nat.le_refl _) _)).mono ?_; rintro e w1 ⟨rfl, hB1⟩; have hbx := blk_below (heap_alloc_new w _) hB1; have hcz0 := blk_cell hbx 0; have hcz1 := blk_cell hbx 1; have hcz2 := blk_cell hbx 2; have hcz3 := blk_cell hbx 3; have hcz4 := blk_cell hbx 4; have hcz5 := blk_cell hbx 5; have hcz6 := blk_cell hbx 6; have hcz7 := blk_cell hbx 7; have hlt := blk_lt hbx; have HX := Aside0.mk (blk_alloc hbx (.cells #[.slice none 0 0] 76)); have HB0 := ((Below.refl w.heap.size w).alloc (Nat.le_refl _) _).trans (hB1.mono (by simp)); have HI := Aside0.mk (show IsW w (w1.alloc (.cells #[.slice none 0 0] 76)) w1.heap.size [] from ⟨_, heap_alloc_new w1 _, HB0.size, Kd.R_nil _ _ _ _ _⟩); have HB := Aside0.mk (show Below w.heap.size w (w1.alloc (.cells #[.slice none 0 0] 76)) from HB0.alloc HB0.size _); have HNE := Aside0.mk (show w.heap.size ≠ w1.heap.size by omega); clear hbx hB1 HB0) | (go_at_call 34; refine (num_any w _ w1.heap.size _ _ _ (by decide) (by decide) (by first | (simp [byL_length]; done) | (have := LM.out; simp [byL_length] at this ⊢; omega)) HI.out HB.out).mono ?_; rintro e w2 ⟨rfl, hI, hB, hK⟩; have hx := hK _ _ 55 (by decide) HNE.out HX.out; clear hcz0 hcz1 hcz2 hcz3 hcz4 hcz5 hcz6 hcz7; have hcz0 := blk_cell hx 0; have hcz1 := blk_cell hx 1; have hcz2 := blk_cell hx 2; have hcz3 := blk_cell hx 3; have hcz4 := blk_cell hx 4; have hcz5 := blk_cell hx 5; have hcz6 := blk_cell hx 6; have hcz7 := blk_cell hx 7; (try clear hwc hcv); have hI_ := hI; obtain ⟨vq, hq1, hq2, hq3⟩ := hI_; have hwc := blk_cell hq1 0; have hcv := own_string (P := Try.prog) Try.underlying67 Try.underlying5 Try.underlying9 (Kd.own_of_R hq3); clear hq1 hq2 hq3; have n0 := Aside0.mk hI; have n1 := Aside0.mk hB; have n2 := Aside0.mk hx; clear HI HB HX hI hB hK hx; have HI := n0; have HB := n1; have HX := n2; clear n0 n1 n2))
  go_loopw [20] (fun v20 w' => ∃ j : Nat, j ≤ l.length ∧ v20 = .int .i64 (j : Int) ∧ Aside0 (IsW w w' w1.heap.size ([] ++ byL l.length 1 1 ++ stepsL Id Bf Af j)) ∧ Aside0 (Below w.heap.size w w') ∧ Aside0 (w'.heap[w.heap.size]? = some (.cells #[.slice A l.length c, .bool t, .int .i64 a2, .int .i64 a3, .int .i64 a4, .int .i64 a5, .int .i64 a6, .int .i64 a7] 55 (0, 0)))) (fun v20 _ => (l.length - (intOf v20).toNat))
  case atStart => exact ⟨0, Nat.zero_le _, rfl, ⟨by have e : stepsL Id Bf Af 0 = [] := rfl; rw [e, List.append_nil]; exact HI.out⟩, HB, HX⟩
  case round =>
    clear HI HB HX hcz0 hcz1 hcz2 hcz3 hcz4 hcz5 hcz6 hcz7 hwc hcv
    obtain ⟨j, hj, rfl, HI, HB, HX⟩ := hrel
    by_cases hj2 : j < l.length
    · have c0 : decide ((j : Int) < (l.length : Int)) = true := decide_eq_true (by omega)
      have HNE2 : Aside0 (wr.heap.size ≠ w1.heap.size) := ⟨by obtain ⟨v, h, _⟩ := HI.out; have := blk_lt h; omega⟩
      have LM := Aside0.mk (show ([] ++ byL l.length 1 1 ++ stepsL Id Bf Af j).length ≤ 200000 by
        have := HL.out; have := stepsL_length Id Bf Af HS.out j; simp only [List.length_append, byL_length, List.length_nil]; omega)
      obtain ⟨ad, e, hx0, hx1, hx2⟩ := HR.out (j : Int) (by omega) (by omega)
      cases e
      replace hx0 := (HB.out.cell (World.block_lt_of_cell? w _ hx0)).trans hx0
      replace hx1 := (HB.out.cell (World.block_lt_of_cell? w _ hx1)).trans hx1
      replace hx2 := (HB.out.cell (World.block_lt_of_cell? w _ hx2)).trans hx2
      have HJ := Aside0.mk hj2
      obtain ⟨i, hi⟩ : ∃ i : Int, i = (j : Int) := ⟨_, rfl⟩
      have HJI := Aside0.mk hi
      have p0 : (0 ≤ i) = True := eq_true (by omega)
      have p1 : (i < (l.length : Int)) = True := eq_true (by omega)
      rw [← hi] at c0 hx0 hx1 hx2 ⊢
      clear hj hj2 hi
      go_wp2_with (first | (go_at_call 34; refine (num_any w _ w1.heap.size _ _ _ (by decide) (by decide) (by have := LM.out; have := HS.out i; simp only [List.length_append, byL_length, bytesOf_length] at *; omega) (HI.out.alloc _) (HB.out.alloc HB.out.size _)).mono ?_; rintro e w2 ⟨rfl, hI, hB, hK⟩; have hx := hK _ _ 55 (by decide) HNE.out (blk_alloc HX.out _); have hy := hK wr.heap.size _ 73 (by decide) HNE2.out (heap_alloc_new wr _); have hcy0 := blk_cell hy 0; have hcy1 := blk_cell hy 1; have hcy2 := blk_cell hy 2; have n0 := Aside0.mk hI; have n1 := Aside0.mk hB; have n2 := Aside0.mk hx; have HY := Aside0.mk hy; clear HI HB HX hI hB hK hx hy; have HI := n0; have HB := n1; have HX := n2; clear n0 n1 n2) | (go_at_call 79; refine (text_any w _ w1.heap.size _ _ (by have := LM.out; have := HS.out i; simp only [List.length_append, byL_length, bytesOf_length] at *; omega) (by have := HS.out i; omega) HI.out HB.out).mono ?_; rintro e w2 ⟨rfl, hI, hB, hK⟩; have hx := hK _ _ 55 (by decide) HNE.out HX.out; have hy := hK wr.heap.size _ 73 (by decide) HNE2.out HY.out; clear hcy0 hcy1 hcy2; have hcy0 := blk_cell hy 0; have hcy1 := blk_cell hy 1; have hcy2 := blk_cell hy 2; have n0 := Aside0.mk hI; have n1 := Aside0.mk hB; have n2 := Aside0.mk hx; have n3 := Aside0.mk hy; clear HI HB HX HY hI hB hK hx hy; have HI := n0; have HB := n1; have HX := n2; have HY := n3; clear n0 n1 n2 n3))
      go_roundw
      case rel => exact ⟨j + 1, by have := HJ.out; omega, by rw [HJI.out]; first | rfl | (simp; done) | (simp [wrap64]; have := HL.out; have := HJ.out; omega), ⟨by rw [stepsL_snoc, ← HJI.out]; have h := HI.out; simp only [← List.append_assoc] at h ⊢; exact h⟩, HB, HX⟩
      case measure => have := HJ.out; have := HJI.out; have := HL.out; simp [intOf, wrap64]; omega
    · have hje : j = l.length := by omega
      subst hje
      have c0 : decide ((l.length : Int) < (l.length : Int)) = false := decide_eq_false (by omega)
      have LM := Aside0.mk (show ([] ++ byL l.length 1 1 ++ stepsL Id Bf Af l.length).length ≤ 200000 by
        have := HL.out; have := stepsL_length Id Bf Af HS.out l.length; simp only [List.length_append, byL_length, List.length_nil]; omega)
      have hx := HX.out
      have hcz0 := blk_cell hx 0
      have hcz1 := blk_cell hx 1
      have hcz2 := blk_cell hx 2
      have hcz3 := blk_cell hx 3
      have hcz4 := blk_cell hx 4
      have hcz5 := blk_cell hx 5
      have hcz6 := blk_cell hx 6
      have hcz7 := blk_cell hx 7
      have hI_ := HI.out
      obtain ⟨vq, hq1, hq2, hq3⟩ := hI_
      have hwc := blk_cell hq1 0
      have hcv := own_string (P := Try.prog) Try.underlying67 Try.underlying5 Try.underlying9 (Kd.own_of_R hq3)
      clear hq1 hq2 hq3 hx
      cases t with
      | true =>
        go_wp2_with (first | (go_at_call 34; refine (num_any w _ w1.heap.size _ _ _ (by decide) (by decide) (by first | (simp [byL_length]; done) | (have := LM.out; simp [byL_length] at this ⊢; omega)) HI.out HB.out).mono ?_; rintro e w2 ⟨rfl, hI, hB, hK⟩; have hx := hK _ _ 55 (by decide) HNE.out HX.out; clear hcz0 hcz1 hcz2 hcz3 hcz4 hcz5 hcz6 hcz7; have hcz0 := blk_cell hx 0; have hcz1 := blk_cell hx 1; have hcz2 := blk_cell hx 2; have hcz3 := blk_cell hx 3; have hcz4 := blk_cell hx 4; have hcz5 := blk_cell hx 5; have hcz6 := blk_cell hx 6; have hcz7 := blk_cell hx 7; (try clear hwc hcv); have hI_ := hI; obtain ⟨vq, hq1, hq2, hq3⟩ := hI_; have hwc := blk_cell hq1 0; have hcv := own_string (P := Try.prog) Try.underlying67 Try.underlying5 Try.underlying9 (Kd.own_of_R hq3); clear hq1 hq2 hq3; have n0 := Aside0.mk hI; have n1 := Aside0.mk hB; have n2 := Aside0.mk hx; clear HI HB HX hI hB hK hx; have HI := n0; have HB := n1; have HX := n2; clear n0 n1 n2) | (go_at_call 35; refine (vec_any w _ w1.heap.size _ _ _ (by first | (simp [byL_length]; done) | (have := LM.out; simp [byL_length] at this ⊢; omega)) HI.out HB.out).mono ?_; rintro e w2 ⟨rfl, hI, hB, hK⟩; have hx := hK _ _ 55 (by decide) HNE.out HX.out; clear hcz0 hcz1 hcz2 hcz3 hcz4 hcz5 hcz6 hcz7; have hcz0 := blk_cell hx 0; have hcz1 := blk_cell hx 1; have hcz2 := blk_cell hx 2; have hcz3 := blk_cell hx 3; have hcz4 := blk_cell hx 4; have hcz5 := blk_cell hx 5; have hcz6 := blk_cell hx 6; have hcz7 := blk_cell hx 7; (try clear hwc hcv); have hI_ := hI; obtain ⟨vq, hq1, hq2, hq3⟩ := hI_; have hwc := blk_cell hq1 0; have hcv := own_string (P := Try.prog) Try.underlying67 Try.underlying5 Try.underlying9 (Kd.own_of_R hq3); clear hq1 hq2 hq3; have n0 := Aside0.mk hI; have n1 := Aside0.mk hB; have n2 := Aside0.mk hx; clear HI HB HX hI hB hK hx; have HI := n0; have HB := n1; have HX := n2; clear n0 n1 n2))
        go_ret2
        exact ⟨by simp only [if_true, ← List.append_assoc]; rfl, HB.out⟩
      | false =>
        go_wp2_with (first | (go_at_call 34; refine (num_any w _ w1.heap.size _ _ _ (by decide) (by decide) (by first | (simp [byL_length]; done) | (have := LM.out; simp [byL_length] at this ⊢; omega)) HI.out HB.out).mono ?_; rintro e w2 ⟨rfl, hI, hB, hK⟩; have hx := hK _ _ 55 (by decide) HNE.out HX.out; clear hcz0 hcz1 hcz2 hcz3 hcz4 hcz5 hcz6 hcz7; have hcz0 := blk_cell hx 0; have hcz1 := blk_cell hx 1; have hcz2 := blk_cell hx 2; have hcz3 := blk_cell hx 3; have hcz4 := blk_cell hx 4; have hcz5 := blk_cell hx 5; have hcz6 := blk_cell hx 6; have hcz7 := blk_cell hx 7; (try clear hwc hcv); have hI_ := hI; obtain ⟨vq, hq1, hq2, hq3⟩ := hI_; have hwc := blk_cell hq1 0; have hcv := own_string (P := Try.prog) Try.underlying67 Try.underlying5 Try.underlying9 (Kd.own_of_R hq3); clear hq1 hq2 hq3; have n0 := Aside0.mk hI; have n1 := Aside0.mk hB; have n2 := Aside0.mk hx; clear HI HB HX hI hB hK hx; have HI := n0; have HB := n1; have HX := n2; clear n0 n1 n2) | (go_at_call 35; refine (vec_any w _ w1.heap.size _ _ _ (by first | (simp [byL_length]; done) | (have := LM.out; simp [byL_length] at this ⊢; omega)) HI.out HB.out).mono ?_; rintro e w2 ⟨rfl, hI, hB, hK⟩; have hx := hK _ _ 55 (by decide) HNE.out HX.out; clear hcz0 hcz1 hcz2 hcz3 hcz4 hcz5 hcz6 hcz7; have hcz0 := blk_cell hx 0; have hcz1 := blk_cell hx 1; have hcz2 := blk_cell hx 2; have hcz3 := blk_cell hx 3; have hcz4 := blk_cell hx 4; have hcz5 := blk_cell hx 5; have hcz6 := blk_cell hx 6; have hcz7 := blk_cell hx 7; (try clear hwc hcv); have hI_ := hI; obtain ⟨vq, hq1, hq2, hq3⟩ := hI_; have hwc := blk_cell hq1 0; have hcv := own_string (P := Try.prog) Try.underlying67 Try.underlying5 Try.underlying9 (Kd.own_of_R hq3); clear hq1 hq2 hq3; have n0 := Aside0.mk hI; have n1 := Aside0.mk hB; have n2 := Aside0.mk hx; clear HI HB HX hI hB hK hx; have HI := n0; have HB := n1; have HX := n2; clear n0 n1 n2))
        go_ret2
        exact ⟨by simp only [Bool.false_eq_true, if_false, List.append_nil]; rfl, HB.out⟩
end Go.Proofs.Ytbjknbfagadhfaa.V
