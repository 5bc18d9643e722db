-- Written by a program of this session, in the manner of the kit's print; it is not the kit's own print.
import Derived.Test.YtlgmabibcpkdmaaPAllx0
import Derived.Test.YtlgmabibcpkdmaaPAllx4
import Derived.Test.YtlgmabibcpkdmaaPAllx6
namespace Go.Proofs.Ytlgmabibcpkdmaa.PAll
open Go.RowKit Go.Proofs.YtlgmabibcpkdmaaW.PrintWords Go.Proofs.YtlgmabibcpkdmaaW.PrintLast Go.Proofs.YtlgmabibcpkdmaaW.PrintMore
attribute [local go_sem] max2_int min2_int max_two min_two max_three min_three max_four min_four   -- for this text's walks alone
set_option linter.unusedVariables false
set_option linter.unusedSimpArgs false

/-! ### maquettelaw15_SheetKinds: function 6 -/
mutual
def maquettelaw15_SheetKinds.j0 : Nat → Int → ByteArray → Bool → Option (Bool)
  | 0, _, _, _ => none
  | k + 1, x0, x1, x30 => if x30 = true then ((maquettelaw15_alive.f k).bind fun t280 => (some t280)) else (if 0 ≤ x0 then (if (x0 : Int).toNat ≤ 281474976710656 then ((sheet_Slots.f k x1).bind fun bt284 => ((sheet_Cells.f k x1).bind fun bt288 => ((sheet_Link.f k x1).bind fun bt292 => ((some (([bt284.2, bt288.2, bt292.2.2] : List Bool) : List Bool)).bind fun y295 => (maquettelaw15_SheetKinds.l0 k x1 (strOfNums (List.replicate (x0 : Int).toNat 0)) 0 y295 (y295.length : Int) 0))))) else (none)) else (none))
def maquettelaw15_SheetKinds.l0 : Nat → ByteArray → ByteArray → Int → List Bool → Int → Int → Option (Bool)
  | 0, _, _, _, _, _, _ => none
  | k + 1, x1, x5, x13, x54, x55, x56 => if x56 < x55 then (if 0 ≤ x56 then (if x56 < (x54.length : Int) then (if rdOf false x54 x56 = true then (maquettelaw15_SheetKinds.j2 k x1 x5 (wrap64 (x13 + 1)) x54 x55 x56) else (maquettelaw15_SheetKinds.j2 k x1 x5 x13 x54 x55 x56)) else (none)) else (none)) else ((sheet_Kind.f k x5).bind fun t299 => (if t299 = 0 then (if x13 ≤ 1 then ((sheet_Kind.f k x1).bind fun t300 => (maquettelaw15_SheetKinds.j3 k ((t300 != 0) == (x13 == 1)))) else (maquettelaw15_SheetKinds.j3 k false)) else (maquettelaw15_SheetKinds.j3 k false)))
def maquettelaw15_SheetKinds.j2 : Nat → ByteArray → ByteArray → Int → List Bool → Int → Int → Option (Bool)
  | 0, _, _, _, _, _, _ => none
  | k + 1, x1, x5, x13, x54, x55, x56 => maquettelaw15_SheetKinds.l0 k x1 x5 x13 x54 x55 (wrap64 (x56 + 1))
def maquettelaw15_SheetKinds.j3 : Nat → Bool → Option (Bool)
  | 0, _ => none
  | k + 1, x4 => some x4
end
def maquettelaw15_SheetKinds.f (k : Nat) (a0 : Int) (a1 : ByteArray) : Option (Bool) := if a0 < 0 then (maquettelaw15_SheetKinds.j0 k a0 a1 true) else (if a0 > 300 then (maquettelaw15_SheetKinds.j0 k a0 a1 true) else (if (a1.size : Int) > 200 then (maquettelaw15_SheetKinds.j0 k a0 a1 true) else ((maquettelaw15_alive.f k).bind fun t279 => (maquettelaw15_SheetKinds.j0 k a0 a1 (!t279)))))
theorem maquettelaw15_SheetKinds.mono_l : ∀ k, (∀ y0 y1 y2, LeO (maquettelaw15_SheetKinds.j0 k y0 y1 y2) (maquettelaw15_SheetKinds.j0 (k + 1) y0 y1 y2)) ∧ (∀ y0 y1 y2 y3 y4 y5, LeO (maquettelaw15_SheetKinds.l0 k y0 y1 y2 y3 y4 y5) (maquettelaw15_SheetKinds.l0 (k + 1) y0 y1 y2 y3 y4 y5)) ∧ (∀ y0 y1 y2 y3 y4 y5, LeO (maquettelaw15_SheetKinds.j2 k y0 y1 y2 y3 y4 y5) (maquettelaw15_SheetKinds.j2 (k + 1) y0 y1 y2 y3 y4 y5)) ∧ (∀ y0, LeO (maquettelaw15_SheetKinds.j3 k y0) (maquettelaw15_SheetKinds.j3 (k + 1) y0))
  | 0 => ⟨fun _ _ _ r h => by simp [maquettelaw15_SheetKinds.j0] at h, fun _ _ _ _ _ _ r h => by simp [maquettelaw15_SheetKinds.l0] at h, fun _ _ _ _ _ _ r h => by simp [maquettelaw15_SheetKinds.j2] at h, fun _ r h => by simp [maquettelaw15_SheetKinds.j3] at h⟩
  | k + 1 => by
    obtain ⟨ih0, ih1, ih2, ih3⟩ := maquettelaw15_SheetKinds.mono_l k
    refine ⟨?_, ?_, ?_, ?_⟩
    · intro y0 y1 y2
      unfold maquettelaw15_SheetKinds.j0
      repeat' first
      | (with_reducible exact ih0 _ _ _)
      | (with_reducible exact ih1 _ _ _ _ _ _)
      | (with_reducible exact ih2 _ _ _ _ _ _)
      | (with_reducible exact ih3 _)
      | (with_reducible exact maquettelaw15_alive.mono _)
      | (with_reducible exact sheet_Cells.mono _ _)
      | (with_reducible exact sheet_Kind.mono _ _)
      | (with_reducible exact sheet_Link.mono _ _)
      | (with_reducible exact sheet_Slots.mono _ _)
      | (with_reducible exact LeO.refl _)
      | (with_reducible exact LeO.none _)
      | (with_reducible refine LeO.ite ?_ ?_)
      | (with_reducible refine LeO.bind ?_ (fun _ => ?_))
      | exact ih0 _ _ _
      | exact ih1 _ _ _ _ _ _
      | exact ih2 _ _ _ _ _ _
      | exact ih3 _
      | exact maquettelaw15_alive.mono _
      | exact sheet_Cells.mono _ _
      | exact sheet_Kind.mono _ _
      | exact sheet_Link.mono _ _
      | exact sheet_Slots.mono _ _
      | exact LeO.none _
      | refine LeO.ite ?_ ?_
      | refine LeO.bind ?_ (fun _ => ?_)
    · intro y0 y1 y2 y3 y4 y5
      unfold maquettelaw15_SheetKinds.l0
      repeat' first
      | (with_reducible exact ih0 _ _ _)
      | (with_reducible exact ih1 _ _ _ _ _ _)
      | (with_reducible exact ih2 _ _ _ _ _ _)
      | (with_reducible exact ih3 _)
      | (with_reducible exact maquettelaw15_alive.mono _)
      | (with_reducible exact sheet_Cells.mono _ _)
      | (with_reducible exact sheet_Kind.mono _ _)
      | (with_reducible exact sheet_Link.mono _ _)
      | (with_reducible exact sheet_Slots.mono _ _)
      | (with_reducible exact LeO.refl _)
      | (with_reducible exact LeO.none _)
      | (with_reducible refine LeO.ite ?_ ?_)
      | (with_reducible refine LeO.bind ?_ (fun _ => ?_))
      | exact ih0 _ _ _
      | exact ih1 _ _ _ _ _ _
      | exact ih2 _ _ _ _ _ _
      | exact ih3 _
      | exact maquettelaw15_alive.mono _
      | exact sheet_Cells.mono _ _
      | exact sheet_Kind.mono _ _
      | exact sheet_Link.mono _ _
      | exact sheet_Slots.mono _ _
      | exact LeO.none _
      | refine LeO.ite ?_ ?_
      | refine LeO.bind ?_ (fun _ => ?_)
    · intro y0 y1 y2 y3 y4 y5
      unfold maquettelaw15_SheetKinds.j2
      repeat' first
      | (with_reducible exact ih0 _ _ _)
      | (with_reducible exact ih1 _ _ _ _ _ _)
      | (with_reducible exact ih2 _ _ _ _ _ _)
      | (with_reducible exact ih3 _)
      | (with_reducible exact maquettelaw15_alive.mono _)
      | (with_reducible exact sheet_Cells.mono _ _)
      | (with_reducible exact sheet_Kind.mono _ _)
      | (with_reducible exact sheet_Link.mono _ _)
      | (with_reducible exact sheet_Slots.mono _ _)
      | (with_reducible exact LeO.refl _)
      | (with_reducible exact LeO.none _)
      | (with_reducible refine LeO.ite ?_ ?_)
      | (with_reducible refine LeO.bind ?_ (fun _ => ?_))
      | exact ih0 _ _ _
      | exact ih1 _ _ _ _ _ _
      | exact ih2 _ _ _ _ _ _
      | exact ih3 _
      | exact maquettelaw15_alive.mono _
      | exact sheet_Cells.mono _ _
      | exact sheet_Kind.mono _ _
      | exact sheet_Link.mono _ _
      | exact sheet_Slots.mono _ _
      | exact LeO.none _
      | refine LeO.ite ?_ ?_
      | refine LeO.bind ?_ (fun _ => ?_)
    · intro y0
      unfold maquettelaw15_SheetKinds.j3
      repeat' first
      | (with_reducible exact ih0 _ _ _)
      | (with_reducible exact ih1 _ _ _ _ _ _)
      | (with_reducible exact ih2 _ _ _ _ _ _)
      | (with_reducible exact ih3 _)
      | (with_reducible exact maquettelaw15_alive.mono _)
      | (with_reducible exact sheet_Cells.mono _ _)
      | (with_reducible exact sheet_Kind.mono _ _)
      | (with_reducible exact sheet_Link.mono _ _)
      | (with_reducible exact sheet_Slots.mono _ _)
      | (with_reducible exact LeO.refl _)
      | (with_reducible exact LeO.none _)
      | (with_reducible refine LeO.ite ?_ ?_)
      | (with_reducible refine LeO.bind ?_ (fun _ => ?_))
      | exact ih0 _ _ _
      | exact ih1 _ _ _ _ _ _
      | exact ih2 _ _ _ _ _ _
      | exact ih3 _
      | exact maquettelaw15_alive.mono _
      | exact sheet_Cells.mono _ _
      | exact sheet_Kind.mono _ _
      | exact sheet_Link.mono _ _
      | exact sheet_Slots.mono _ _
      | exact LeO.none _
      | refine LeO.ite ?_ ?_
      | refine LeO.bind ?_ (fun _ => ?_)
theorem maquettelaw15_SheetKinds.mono : ∀ a0 a1 k, LeO (maquettelaw15_SheetKinds.f k a0 a1) (maquettelaw15_SheetKinds.f (k + 1) a0 a1) := by
  intro a0 a1 k
  obtain ⟨ih0, ih1, ih2, ih3⟩ := maquettelaw15_SheetKinds.mono_l k
  unfold maquettelaw15_SheetKinds.f
  repeat' first
      | (with_reducible exact ih0 _ _ _)
      | (with_reducible exact ih1 _ _ _ _ _ _)
      | (with_reducible exact ih2 _ _ _ _ _ _)
      | (with_reducible exact ih3 _)
      | (with_reducible exact maquettelaw15_alive.mono _)
      | (with_reducible exact sheet_Cells.mono _ _)
      | (with_reducible exact sheet_Kind.mono _ _)
      | (with_reducible exact sheet_Link.mono _ _)
      | (with_reducible exact sheet_Slots.mono _ _)
      | (with_reducible exact LeO.refl _)
      | (with_reducible exact LeO.none _)
      | (with_reducible refine LeO.ite ?_ ?_)
      | (with_reducible refine LeO.bind ?_ (fun _ => ?_))
      | exact ih0 _ _ _
      | exact ih1 _ _ _ _ _ _
      | exact ih2 _ _ _ _ _ _
      | exact ih3 _
      | exact maquettelaw15_alive.mono _
      | exact sheet_Cells.mono _ _
      | exact sheet_Kind.mono _ _
      | exact sheet_Link.mono _ _
      | exact sheet_Slots.mono _ _
      | exact LeO.none _
      | refine LeO.ite ?_ ?_
      | refine LeO.bind ?_ (fun _ => ?_)
set_option maxHeartbeats 8000000 in
set_option maxRecDepth 100000 in
theorem maquettelaw15_SheetKinds.calls (k : Nat) (a0 : Int) (a1 : ByteArray) (r : Bool) (w : World) (h : maquettelaw15_SheetKinds.f k a0 a1 = some r) :
    Calls Try.prog 6 #[.int .i64 a0, .string a1] w fun e w' => e = .returned (.bool r) ∧ Below w.heap.size w w' := by
  have HB := Aside0.mk (Below.refl w.heap.size w)
  have H : (if a0 < 0 then (maquettelaw15_SheetKinds.j0 k a0 a1 true) else (if a0 > 300 then (maquettelaw15_SheetKinds.j0 k a0 a1 true) else (if (a1.size : Int) > 200 then (maquettelaw15_SheetKinds.j0 k a0 a1 true) else ((maquettelaw15_alive.f k).bind fun t279 => (maquettelaw15_SheetKinds.j0 k a0 a1 (!t279)))))) = some r := h
  clear h
  have HC3 := Aside0.mk H
  clear H
  go_enter Try.func6, Try.ntmps6
  go_upto_region 1 with (fail)
  go_cut [30] (fun v30 wc => ∃ (kq : Nat) (x30_2 : Bool), v30 = .bool x30_2 ∧ Aside0 (maquettelaw15_SheetKinds.j0 kq a0 a1 x30_2 = some r) ∧ Aside0 (kq ≤ k) ∧ Aside0 (Below w.heap.size w wc))
  case first =>
    have H := HC3.out
    clear HC3
    by_cases c4 : a0 < 0
    · rw [if_pos c4] at H
      have c4b0 : decide (a0 < 0) = true := decide_eq_true c4
      clear c4
      (first | rw [c4b0] | (simp only [i64_w, i32_w]; rw [c4b0]) | skip)
      have H' := Aside0.mk H
      clear H
      go_wp2
      go_meet
      case rel => exact ⟨_, (true), (by first | rfl | (simp; done) | (simp [*]; done)), H', ⟨by first | omega | exact Nat.le_refl _⟩, ⟨by repeat (first | (with_reducible first | exact HB.out | apply below_alloc | apply pw_below_drewN | apply below_drew1) | exact HB.out)⟩⟩
    · rw [if_neg c4] at H
      have c4b0 : decide (a0 < 0) = false := decide_eq_false c4
      clear c4
      (first | rw [c4b0] | (simp only [i64_w, i32_w]; rw [c4b0]) | skip)
      by_cases c5 : a0 > 300
      · rw [if_pos c5] at H
        have c5b0 : decide (300 < a0) = true := decide_eq_true c5
        clear c5
        have H' := Aside0.mk H
        clear H
        go_wp2
        go_meet
        case rel => exact ⟨_, (true), (by first | rfl | (simp; done) | (simp [*]; done)), H', ⟨by first | omega | exact Nat.le_refl _⟩, ⟨by repeat (first | (with_reducible first | exact HB.out | apply below_alloc | apply pw_below_drewN | apply below_drew1) | exact HB.out)⟩⟩
      · rw [if_neg c5] at H
        have c5b0 : decide (300 < a0) = false := decide_eq_false c5
        clear c5
        by_cases c6 : (a1.size : Int) > 200
        · rw [if_pos c6] at H
          have c6b0 : decide (200 < (a1.size : Int)) = true := decide_eq_true c6
          have c6b1 : decide (200 < a1.size) = true := decide_eq_true (by omega)
          clear c6
          have H' := Aside0.mk H
          clear H
          go_wp2
          go_meet
          case rel => exact ⟨_, (true), (by first | rfl | (simp; done) | (simp [*]; done)), H', ⟨by first | omega | exact Nat.le_refl _⟩, ⟨by repeat (first | (with_reducible first | exact HB.out | apply below_alloc | apply pw_below_drewN | apply below_drew1) | exact HB.out)⟩⟩
        · rw [if_neg c6] at H
          have c6b0 : decide (200 < (a1.size : Int)) = false := decide_eq_false c6
          have c6b1 : decide (200 < a1.size) = false := decide_eq_false (by omega)
          clear c6
          replace H := Option.bind_eq_some_iff.mp H
          obtain ⟨t279, A70, H⟩ := H
          replace H : (maquettelaw15_SheetKinds.j0 k a0 a1 (!t279)) = some r := H
          have A7 := Aside0.mk A70
          clear A70
          have H' := Aside0.mk H
          clear H
          go_wp2_with (first | (go_at_call 10; (with_reducible refine (maquettelaw15_alive.calls k  t279 _ A7.out).mono ?_); rintro e w8 ⟨rfl, hb⟩; have n0_ := Aside0.mk (below_step (by repeat (first | (with_reducible first | exact HB.out | apply below_alloc | apply pw_below_drewN | apply below_drew1) | exact HB.out)) hb); clear HB; have HB := n0_; clear n0_; (try clear hb); (try clear hb2); (try clear hk); (try clear hi)))
          go_meet
          case rel => exact ⟨_, (!t279), (by first | rfl | (simp; done) | (simp [*]; done)), H', ⟨by first | omega | exact Nat.le_refl _⟩, ⟨by repeat (first | (with_reducible first | exact HB.out | apply below_alloc | apply pw_below_drewN | apply below_drew1) | exact HB.out)⟩⟩
  case rest =>
    clear HC3
    try clear p2
    try clear c4
    try clear c4b0
    try clear c5
    try clear c5b0
    try clear c6
    try clear c6b0
    try clear c6b1
    obtain ⟨kq, x30_2, rfl, HA, HJ2, HB⟩ := hcut
    cases kq with
    | zero => exact absurd HA.out (by simp [maquettelaw15_SheetKinds.j0])
    | succ kj2 =>
      have H := HA.out
      clear HA
      simp only [maquettelaw15_SheetKinds.j0] at H
      by_cases c9 : x30_2 = true
      · subst c9
        have H1 : ((maquettelaw15_alive.f kj2).bind fun t280 => (some t280)) = some r := by rw [if_pos rfl] at H; exact H
        clear H
        have H := H1
        clear H1
        replace H := Option.bind_eq_some_iff.mp H
        obtain ⟨t280, A100, H⟩ := H
        replace H : (some t280) = some r := H
        have A10 := Aside0.mk A100
        clear A100
        obtain rfl := Option.some.inj H
        go_wp2_with (first | ((with_reducible refine gate_callee (f := 10) rfl ?_); refine goesL_ (some 31) rfl rfl Try.func10 (by kernel_rfl) rfl #[] rfl (by (try simp only [List.map_toArray, List.map_cons, List.map_nil]); first | done | rfl | (simp only [List.length_drop, List.length_take]; rfl) | (simp only [ByteArray.size_append, Int.natCast_add]; rfl) | (simp [ByteArray.size_append, Int.add_assoc]; done)) ?_; (with_reducible refine (maquettelaw15_alive.calls kj2  t280 _ A10.out).mono ?_); rintro e w11 ⟨rfl, hb⟩; refine ⟨_, rfl, ?_⟩; have n0_ := Aside0.mk (below_step (by repeat (first | (with_reducible first | exact HB.out | apply below_alloc | apply pw_below_drewN | apply below_drew1) | exact HB.out)) hb); clear HB; have HB := n0_; clear n0_; (try clear hb); (try clear hb2); (try clear hk); (try clear hi)))
        go_ret
        exact ⟨by first | rfl | (simp [errW_none, errW_some] <;> rfl) | (simp [*, errW_none, errW_some] <;> rfl), by repeat (first | (with_reducible first | exact HB.out | apply below_alloc | apply pw_below_drewN | apply below_drew1) | exact HB.out)⟩
      · replace c9 := Bool.eq_false_iff.mpr c9
        subst c9
        have H1 : (if 0 ≤ a0 then (if (a0 : Int).toNat ≤ 281474976710656 then ((sheet_Slots.f kj2 a1).bind fun bt284 => ((sheet_Cells.f kj2 a1).bind fun bt288 => ((sheet_Link.f kj2 a1).bind fun bt292 => ((some (([bt284.2, bt288.2, bt292.2.2] : List Bool) : List Bool)).bind fun y295 => (maquettelaw15_SheetKinds.l0 kj2 a1 (strOfNums (List.replicate (a0 : Int).toNat 0)) 0 y295 (y295.length : Int) 0))))) else (none)) else (none)) = some r := by rw [if_neg (show ¬ (false = true) by decide)] at H; exact H
        clear H
        have H := H1
        clear H1
        by_cases c12 : 0 ≤ a0
        · rw [if_pos c12] at H
          have c12b0 := eq_true c12
          have c12b1 : decide (0 ≤ a0) = true := decide_eq_true c12
          clear c12
          by_cases c13 : (a0 : Int).toNat ≤ 281474976710656
          · rw [if_pos c13] at H
            have c13b0 := eq_true c13
            have c13b1 : decide ((a0 : Int).toNat ≤ 281474976710656) = true := decide_eq_true c13
            clear c13
            obtain ⟨y281, hy281⟩ : ∃ y_ : List Int, y_ = (List.replicate (a0 : Int).toNat 0) := ⟨_, rfl⟩
            replace H : ((sheet_Slots.f kj2 a1).bind fun bt284 => ((sheet_Cells.f kj2 a1).bind fun bt288 => ((sheet_Link.f kj2 a1).bind fun bt292 => ((some (([bt284.2, bt288.2, bt292.2.2] : List Bool) : List Bool)).bind fun y295 => (maquettelaw15_SheetKinds.l0 kj2 a1 (strOfNums y281) 0 y295 (y295.length : Int) 0))))) = some r := by first | (rw [hy281]; with_reducible exact H) | (have H2_ := (Option.bind_some _ _).symm.trans H; rw [hy281]; with_reducible exact H2_) | (have H2_ := (Option.bind_some _ _).symm.trans H; with_reducible exact H2_) | with_reducible exact H | (rw [hy281]; exact H) | exact H
            have Ny281 := Aside0.mk hy281
            clear hy281
            replace H := Option.bind_eq_some_iff.mp H
            obtain ⟨⟨t284, t285⟩, A140, H⟩ := H
            replace H : ((sheet_Cells.f kj2 a1).bind fun bt288 => ((sheet_Link.f kj2 a1).bind fun bt292 => ((some (([t285, bt288.2, bt292.2.2] : List Bool) : List Bool)).bind fun y295 => (maquettelaw15_SheetKinds.l0 kj2 a1 (strOfNums y281) 0 y295 (y295.length : Int) 0)))) = some r := H
            have A14 := Aside0.mk A140
            clear A140
            replace H := Option.bind_eq_some_iff.mp H
            obtain ⟨⟨t288, t289⟩, A150, H⟩ := H
            replace H : ((sheet_Link.f kj2 a1).bind fun bt292 => ((some (([t285, t289, bt292.2.2] : List Bool) : List Bool)).bind fun y295 => (maquettelaw15_SheetKinds.l0 kj2 a1 (strOfNums y281) 0 y295 (y295.length : Int) 0))) = some r := H
            have A15 := Aside0.mk A150
            clear A150
            replace H := Option.bind_eq_some_iff.mp H
            obtain ⟨⟨t292, t293, t294⟩, A160, H⟩ := H
            replace H : ((some (([t285, t289, t294] : List Bool) : List Bool)).bind fun y295 => (maquettelaw15_SheetKinds.l0 kj2 a1 (strOfNums y281) 0 y295 (y295.length : Int) 0)) = some r := H
            have A16 := Aside0.mk A160
            clear A160
            obtain ⟨y295, hy295⟩ : ∃ y_ : List Bool, y_ = (([t285, t289, t294] : List Bool)) := ⟨_, rfl⟩
            replace H : (maquettelaw15_SheetKinds.l0 kj2 a1 (strOfNums y281) 0 y295 (y295.length : Int) 0) = some r := by first | (rw [hy295]; with_reducible exact H) | (have H2_ := (Option.bind_some _ _).symm.trans H; rw [hy295]; with_reducible exact H2_) | (have H2_ := (Option.bind_some _ _).symm.trans H; with_reducible exact H2_) | with_reducible exact H | (rw [hy295]; exact H) | exact H
            have Ny295 := Aside0.mk hy295
            clear hy295
            have H' := Aside0.mk H
            clear H
            go_wp2_with (first | ((with_reducible refine gate_dst (N := 33) rfl ?_); (try (refine gate_guard (by rfl) ?_; dsimp only)); refine Kd.R_make (Kd.int .u8) _ 5 rfl (N := 33) rfl 28 _ _ rfl a0 rfl rfl Try.underlying28 (.int .u8 0) 1 info5 rfl (by decide) (by omega) 0 (ok := fun _ => True) (okp := fun _ => True) rfl (fun _ hk => hk) trivial (of_decide_eq_true (by first | (with_reducible assumption) | assumption)) (Nat.le_trans (Nat.mul_le_mul_right _ (of_decide_eq_true (by first | (with_reducible assumption) | assumption) : a0.toNat ≤ 281474976710656)) (by omega)) (Below.refl _ _) (Nat.le_refl _) ?_; intro v282 w17 ho18 hb hg_ hnew_; clear hg_ hnew_; (first | rw [← Ny281.out] at ho18 | (simp only [Int.reduceToNat] at ho18; rw [← Ny281.out] at ho18)); have n0_ := Aside0.mk (Kd.R_lower ho18 (below_size (by repeat (first | (with_reducible first | exact HB.out | apply below_alloc | apply pw_below_drewN | apply below_drew1) | exact HB.out)))); have n1_ := Aside0.mk (below_step (by repeat (first | (with_reducible first | exact HB.out | apply below_alloc | apply pw_below_drewN | apply below_drew1) | exact HB.out)) hb); clear HB; have HO283 := n0_; have HB := n1_; clear n0_ n1_; clear hb ho18; have hcv19 := own_string (P := Try.prog) Try.underlying28 Try.underlying5 Try.underlying9 (Kd.own_of_R HO283.out)) | ((with_reducible refine gate_callee (f := 20) rfl ?_); refine goesL_ (some 37) rfl rfl Try.func20 (by kernel_rfl) rfl #[.string a1] rfl (by (try simp only [List.map_toArray, List.map_cons, List.map_nil]); first | done | rfl | (simp only [List.length_drop, List.length_take]; rfl) | (simp only [ByteArray.size_append, Int.natCast_add]; rfl) | (simp [ByteArray.size_append, Int.add_assoc]; done)) ?_; (with_reducible refine (sheet_Slots.calls kj2 a1 t284 t285 _ A14.out).mono ?_); rintro e w20 ⟨v286, rfl, ho0, hb⟩; refine ⟨_, rfl, ?_⟩; have n0_ := Aside0.mk (Kd.R_below (by (with_reducible repeat (first | apply Kd.R_alloc | apply Kd.R_drewN | apply Kd.R_drew)); exact HO283.out) hb); have n1_ := Aside0.mk (Kd.R_lower ho0 (below_size (by repeat (first | (with_reducible first | exact HB.out | apply below_alloc | apply pw_below_drewN | apply below_drew1) | exact HB.out)))); have n2_ := Aside0.mk (below_step (by repeat (first | (with_reducible first | exact HB.out | apply below_alloc | apply pw_below_drewN | apply below_drew1) | exact HB.out)) hb); clear HO283; clear HB; have HO283 := n0_; have HO287 := n1_; have HB := n2_; clear n0_ n1_ n2_; (try clear hb); (try clear hb2); (try clear hk); (try clear hi); (try clear ho0)) | ((with_reducible refine gate_callee (f := 12) rfl ?_); refine goesL_ (some 42) rfl rfl Try.func12 (by kernel_rfl) rfl #[.string a1] rfl (by (try simp only [List.map_toArray, List.map_cons, List.map_nil]); first | done | rfl | (simp only [List.length_drop, List.length_take]; rfl) | (simp only [ByteArray.size_append, Int.natCast_add]; rfl) | (simp [ByteArray.size_append, Int.add_assoc]; done)) ?_; (with_reducible refine (sheet_Cells.calls kj2 a1 t288 t289 _ A15.out).mono ?_); rintro e w21 ⟨v290, rfl, ho0, hb⟩; refine ⟨_, rfl, ?_⟩; have n0_ := Aside0.mk (Kd.R_below (by (with_reducible repeat (first | apply Kd.R_alloc | apply Kd.R_drewN | apply Kd.R_drew)); exact HO283.out) hb); have n1_ := Aside0.mk (Kd.R_below (by (with_reducible repeat (first | apply Kd.R_alloc | apply Kd.R_drewN | apply Kd.R_drew)); exact HO287.out) hb); have n2_ := Aside0.mk (Kd.R_lower ho0 (below_size (by repeat (first | (with_reducible first | exact HB.out | apply below_alloc | apply pw_below_drewN | apply below_drew1) | exact HB.out)))); have n3_ := Aside0.mk (below_step (by repeat (first | (with_reducible first | exact HB.out | apply below_alloc | apply pw_below_drewN | apply below_drew1) | exact HB.out)) hb); clear HO283; clear HO287; clear HB; have HO283 := n0_; have HO287 := n1_; have HO291 := n2_; have HB := n3_; clear n0_ n1_ n2_ n3_; (try clear hb); (try clear hb2); (try clear hk); (try clear hi); (try clear ho0)) | ((with_reducible refine gate_callee (f := 17) rfl ?_); refine goesL_ (some 47) rfl rfl Try.func17 (by kernel_rfl) rfl #[.string a1] rfl (by (try simp only [List.map_toArray, List.map_cons, List.map_nil]); first | done | rfl | (simp only [List.length_drop, List.length_take]; rfl) | (simp only [ByteArray.size_append, Int.natCast_add]; rfl) | (simp [ByteArray.size_append, Int.add_assoc]; done)) ?_; (with_reducible refine (sheet_Link.calls kj2 a1 t292 t293 t294 _ A16.out).mono ?_); rintro e w22 ⟨rfl, hb⟩; refine ⟨_, rfl, ?_⟩; have n0_ := Aside0.mk (Kd.R_below (by (with_reducible repeat (first | apply Kd.R_alloc | apply Kd.R_drewN | apply Kd.R_drew)); exact HO283.out) hb); have n1_ := Aside0.mk (Kd.R_below (by (with_reducible repeat (first | apply Kd.R_alloc | apply Kd.R_drewN | apply Kd.R_drew)); exact HO287.out) hb); have n2_ := Aside0.mk (Kd.R_below (by (with_reducible repeat (first | apply Kd.R_alloc | apply Kd.R_drewN | apply Kd.R_drew)); exact HO291.out) hb); have n3_ := Aside0.mk (below_step (by repeat (first | (with_reducible first | exact HB.out | apply below_alloc | apply pw_below_drewN | apply below_drew1) | exact HB.out)) hb); clear HO283; clear HO287; clear HO291; clear HB; have HO283 := n0_; have HO287 := n1_; have HO291 := n2_; have HB := n3_; clear n0_ n1_ n2_ n3_; (try clear hb); (try clear hb2); (try clear hk); (try clear hi)) | ((with_reducible refine gate_dst (N := 54) rfl ?_); (try (refine gate_guard (by rfl) ?_; dsimp only)); refine Kd.R_lit Kd.bool _ 4 ?hg (N := 54) ?hd (xs := ([t285, t289, t294] : List Bool)) (inner := [.bool t285, .bool t289, .bool t294]) (ok := fun _ => True) (okp := fun _ => True) ?hr ?hp (fun _ hk => hk) trivial (Below.refl _ _) (Nat.le_refl _) (by simp) ?_; (case hd => rfl); (case hg => rfl); (case hr => first | (go_simp; done) | (go_simp; rfl)); (case hp => exact (Reps.one (show Kd.M Kd.bool _ _ _ t285 [.bool t285] from rfl) (Reps.one (show Kd.M Kd.bool _ _ _ t289 [.bool t289] from rfl) (Reps.one (show Kd.M Kd.bool _ _ _ t294 [.bool t294] from rfl) (Reps.none _ _))))); intro v296 w23 ho24 hb hg_ hnew_; clear hg_ hnew_; (first | rw [← Ny295.out] at ho24 | (simp only [Int.reduceToNat] at ho24; rw [← Ny295.out] at ho24)); have n0_ := Aside0.mk (Kd.R_below (by (with_reducible repeat (first | apply Kd.R_alloc | apply Kd.R_drewN | apply Kd.R_drew)); exact HO283.out) hb); have n1_ := Aside0.mk (Kd.R_below (by (with_reducible repeat (first | apply Kd.R_alloc | apply Kd.R_drewN | apply Kd.R_drew)); exact HO287.out) hb); have n2_ := Aside0.mk (Kd.R_below (by (with_reducible repeat (first | apply Kd.R_alloc | apply Kd.R_drewN | apply Kd.R_drew)); exact HO291.out) hb); have n3_ := Aside0.mk (Kd.R_lower ho24 (below_size (by repeat (first | (with_reducible first | exact HB.out | apply below_alloc | apply pw_below_drewN | apply below_drew1) | exact HB.out)))); have n4_ := Aside0.mk (below_step (by repeat (first | (with_reducible first | exact HB.out | apply below_alloc | apply pw_below_drewN | apply below_drew1) | exact HB.out)) hb); clear HO283; clear HO287; clear HO291; clear HB; have HO283 := n0_; have HO287 := n1_; have HO291 := n2_; have HO297 := n3_; have HB := n4_; clear n0_ n1_ n2_ n3_ n4_; clear hb ho24; obtain ⟨Ao25, co25, eo25⟩ := Kd.R_slice HO297.out; subst eo25))
            go_loopg [13, 56] kj2 (fun kq v13 v56 w' => ∃ (x13_2 : Int) (x56_2 : Int), v13 = .int .i64 x13_2 ∧ v56 = .int .i64 x56_2 ∧ Aside0 (maquettelaw15_SheetKinds.l0 kq a1 (strOfNums y281) x13_2 y295 (y295.length : Int) x56_2 = some r) ∧ Aside0 (kq ≤ kj2) ∧ Aside0 (Kd.R Kd.bool 4 w' w.heap.size (fun _ => True) (.slice Ao25 y295.length co25) y295) ∧ Aside0 (Below w.heap.size w w'))
            case atStart => exact ⟨(0), (0), (by first | rfl | (simp; done) | (simp [*]; done)), (by first | rfl | (simp; done) | (simp [*]; done)), H', ⟨Nat.le_refl _⟩, ⟨by (with_reducible repeat (first | apply Kd.R_alloc | apply Kd.R_drewN | apply Kd.R_drew)); exact HO297.out⟩, ⟨by repeat (first | (with_reducible first | exact HB.out | apply below_alloc | apply pw_below_drewN | apply below_drew1) | exact HB.out)⟩⟩
            case round =>
              clear H'
              try clear c1
              try clear hcv1
              try clear c2
              try clear p2
              try clear c4
              try clear c4b0
              try clear c5
              try clear c5b0
              try clear c6
              try clear c6b0
              try clear c6b1
              try clear c9
              try clear c10
              try clear c12
              try clear c12b0
              try clear c12b1
              try clear c13
              try clear c13b0
              try clear c13b1
              try clear c17
              try clear hcv19
              try clear c20
              try clear p2
              obtain ⟨x13_2, x56_2, rfl, rfl, HA, HK2, HO_54, HB⟩ := hrel
              cases gk with
              | zero => exact absurd HA.out (by simp [maquettelaw15_SheetKinds.l0])
              | succ k2 =>
                have H := HA.out
                clear HA
                simp only [maquettelaw15_SheetKinds.l0] at H
                by_cases c26 : x56_2 < (y295.length : Int)
                · rw [if_pos c26] at H
                  have c26b0 : decide (x56_2 < (y295.length : Int)) = true := decide_eq_true c26
                  clear c26
                  by_cases c27 : 0 ≤ x56_2
                  · rw [if_pos c27] at H
                    have c27b0 : decide (0 ≤ x56_2) = true := decide_eq_true c27
                    clear c27
                    by_cases c28 : x56_2 < (y295.length : Int)
                    · rw [if_pos c28] at H
                      have c28b0 : decide (x56_2 < (y295.length : Int)) = true := decide_eq_true c28
                      clear c28
                      have HC29 := Aside0.mk H
                      clear H
                      have p298 : 0 ≤ (x56_2 : Int) := of_decide_eq_true (by first | (with_reducible assumption) | assumption)
                      have q298 : x56_2 < (y295.length : Int) := of_decide_eq_true (by first | (with_reducible assumption) | assumption)
                      obtain ⟨ad298, e298, hx298_0⟩ := Kd.at_bool (Kd.R_reads' HO_54.out).2.2 x56_2 p298 q298
                      cases e298
                      replace p298 := eq_true p298
                      replace q298 := eq_true q298
                      go_upto_if 60 with (fail)
                      have H := HC29.out
                      clear HC29
                      obtain ⟨bq30, hbq30⟩ : ∃ b_ : Bool, b_ = (rdOf false y295 x56_2) := ⟨_, rfl⟩
                      replace H : (if bq30 = true then (maquettelaw15_SheetKinds.j2 k2 a1 (strOfNums y281) (wrap64 (x13_2 + 1)) y295 (y295.length : Int) x56_2) else (maquettelaw15_SheetKinds.j2 k2 a1 (strOfNums y281) x13_2 y295 (y295.length : Int) x56_2)) = some r := by rw [← hbq30] at H; exact H
                      have Nbq30 := Aside0.mk hbq30
                      clear hbq30
                      (try rw [← Nbq30.out])
                      by_cases c31 : bq30 = true
                      · subst c31
                        have H1 : (maquettelaw15_SheetKinds.j2 k2 a1 (strOfNums y281) (wrap64 (x13_2 + 1)) y295 (y295.length : Int) x56_2) = some r := by rw [if_pos rfl] at H; exact H
                        clear H
                        have H := H1
                        clear H1
                        cases k2 with
                        | zero => exact absurd H (by simp [maquettelaw15_SheetKinds.j2])
                        | succ kj28 =>
                          simp only [maquettelaw15_SheetKinds.j2] at H
                          have H' := Aside0.mk H
                          clear H
                          go_wp2
                          go_roundg kj28
                          case measure => have := HJ2.out; have := HK2.out; omega
                          case rel => exact ⟨(wrap64 (x13_2 + 1)), (wrap64 (x56_2 + 1)), (by first | rfl | (simp; done) | (simp [*]; done)), (by first | rfl | (simp; done) | (simp [*]; done)), H', ⟨by have := HJ2.out; have := HK2.out; omega⟩, ⟨by (with_reducible repeat (first | apply Kd.R_alloc | apply Kd.R_drewN | apply Kd.R_drew)); exact HO_54.out⟩, ⟨by repeat (first | (with_reducible first | exact HB.out | apply below_alloc | apply pw_below_drewN | apply below_drew1) | exact HB.out)⟩⟩
                      · replace c31 := Bool.eq_false_iff.mpr c31
                        subst c31
                        have H1 : (maquettelaw15_SheetKinds.j2 k2 a1 (strOfNums y281) x13_2 y295 (y295.length : Int) x56_2) = some r := by rw [if_neg (show ¬ (false = true) by decide)] at H; exact H
                        clear H
                        have H := H1
                        clear H1
                        cases k2 with
                        | zero => exact absurd H (by simp [maquettelaw15_SheetKinds.j2])
                        | succ kj28 =>
                          simp only [maquettelaw15_SheetKinds.j2] at H
                          have H' := Aside0.mk H
                          clear H
                          go_wp2
                          go_roundg kj28
                          case measure => have := HJ2.out; have := HK2.out; omega
                          case rel => exact ⟨(x13_2), (wrap64 (x56_2 + 1)), (by first | rfl | (simp; done) | (simp [*]; done)), (by first | rfl | (simp; done) | (simp [*]; done)), H', ⟨by have := HJ2.out; have := HK2.out; omega⟩, ⟨by (with_reducible repeat (first | apply Kd.R_alloc | apply Kd.R_drewN | apply Kd.R_drew)); exact HO_54.out⟩, ⟨by repeat (first | (with_reducible first | exact HB.out | apply below_alloc | apply pw_below_drewN | apply below_drew1) | exact HB.out)⟩⟩
                    · rw [if_neg c28] at H
                      exact absurd H (by simp)
                  · rw [if_neg c27] at H
                    exact absurd H (by simp)
                · rw [if_neg c26] at H
                  have c26b0 : decide (x56_2 < (y295.length : Int)) = false := decide_eq_false c26
                  clear c26
                  have HC32 := Aside0.mk H
                  clear H
                  go_upto_region 14 with (fail)
                  go_cut [4] (fun v4 wc => ∃ (kq : Nat) (x4_31 : Bool), v4 = .bool x4_31 ∧ Aside0 (maquettelaw15_SheetKinds.j3 kq x4_31 = some r) ∧ Aside0 (kq ≤ k2) ∧ Aside0 (Below w.heap.size w wc))
                  case first =>
                    have H := HC32.out
                    clear HC32
                    replace H := Option.bind_eq_some_iff.mp H
                    obtain ⟨t299, A330, H⟩ := H
                    replace H : (if t299 = 0 then (if x13_2 ≤ 1 then ((sheet_Kind.f k2 a1).bind fun t300 => (maquettelaw15_SheetKinds.j3 k2 ((t300 != 0) == (x13_2 == 1)))) else (maquettelaw15_SheetKinds.j3 k2 false)) else (maquettelaw15_SheetKinds.j3 k2 false)) = some r := H
                    have A33 := Aside0.mk A330
                    clear A330
                    by_cases c34 : t299 = 0
                    · rw [if_pos c34] at H
                      have c34b0 : (t299 == 0) = true := beq_iff_eq.mpr c34
                      have c34b1 : (t299 != 0) = false := bne_eq_false_iff_eq.mpr c34
                      clear c34
                      (first | rw [c34b0] | (simp only [i64_w, i32_w]; rw [c34b0]) | skip)
                      by_cases c35 : x13_2 ≤ 1
                      · rw [if_pos c35] at H
                        have c35b0 : decide (x13_2 ≤ 1) = true := decide_eq_true c35
                        clear c35
                        replace H := Option.bind_eq_some_iff.mp H
                        obtain ⟨t300, A360, H⟩ := H
                        replace H : (maquettelaw15_SheetKinds.j3 k2 ((t300 != 0) == (x13_2 == 1))) = some r := H
                        have A36 := Aside0.mk A360
                        clear A360
                        have H' := Aside0.mk H
                        clear H
                        go_wp2_with (first | ((with_reducible refine gate_callee (f := 18) rfl ?_); refine goesL_ (some 65) rfl rfl Try.func18 (by kernel_rfl) rfl #[.string (strOfNums y281)] rfl (by (try simp only [List.map_toArray, List.map_cons, List.map_nil]); first | done | rfl | (simp only [List.length_drop, List.length_take]; rfl) | (simp only [ByteArray.size_append, Int.natCast_add]; rfl) | (simp [ByteArray.size_append, Int.add_assoc]; done)) ?_; (with_reducible refine (sheet_Kind.calls k2 (strOfNums y281) t299 _ A33.out).mono ?_); rintro e w37 ⟨rfl, hb⟩; refine ⟨_, rfl, ?_⟩; have n0_ := Aside0.mk (Kd.R_below (by (with_reducible repeat (first | apply Kd.R_alloc | apply Kd.R_drewN | apply Kd.R_drew)); exact HO_54.out) hb); have n1_ := Aside0.mk (below_step (by repeat (first | (with_reducible first | exact HB.out | apply below_alloc | apply pw_below_drewN | apply below_drew1) | exact HB.out)) hb); clear HO_54; clear HB; have HO_54 := n0_; have HB := n1_; clear n0_ n1_; (try clear hb); (try clear hb2); (try clear hk); (try clear hi)) | (go_at_call 18; (with_reducible refine (sheet_Kind.calls k2 a1 t300 _ A36.out).mono ?_); rintro e w38 ⟨rfl, hb⟩; have n0_ := Aside0.mk (Kd.R_below (by (with_reducible repeat (first | apply Kd.R_alloc | apply Kd.R_drewN | apply Kd.R_drew)); exact HO_54.out) hb); have n1_ := Aside0.mk (below_step (by repeat (first | (with_reducible first | exact HB.out | apply below_alloc | apply pw_below_drewN | apply below_drew1) | exact HB.out)) hb); clear HO_54; clear HB; have HO_54 := n0_; have HB := n1_; clear n0_ n1_; (try clear hb); (try clear hb2); (try clear hk); (try clear hi)))
                        go_meet
                        case rel => exact ⟨_, (((t300 != 0) == (x13_2 == 1))), (by first | rfl | (simp; done) | (simp [*]; done)), H', ⟨by have := HJ2.out; have := HK2.out; first | omega | exact Nat.le_refl _⟩, ⟨by repeat (first | (with_reducible first | exact HB.out | apply below_alloc | apply pw_below_drewN | apply below_drew1) | exact HB.out)⟩⟩
                      · rw [if_neg c35] at H
                        have c35b0 : decide (x13_2 ≤ 1) = false := decide_eq_false c35
                        clear c35
                        have H' := Aside0.mk H
                        clear H
                        go_wp2_with (first | ((with_reducible refine gate_callee (f := 18) rfl ?_); refine goesL_ (some 65) rfl rfl Try.func18 (by kernel_rfl) rfl #[.string (strOfNums y281)] rfl (by (try simp only [List.map_toArray, List.map_cons, List.map_nil]); first | done | rfl | (simp only [List.length_drop, List.length_take]; rfl) | (simp only [ByteArray.size_append, Int.natCast_add]; rfl) | (simp [ByteArray.size_append, Int.add_assoc]; done)) ?_; (with_reducible refine (sheet_Kind.calls k2 (strOfNums y281) t299 _ A33.out).mono ?_); rintro e w39 ⟨rfl, hb⟩; refine ⟨_, rfl, ?_⟩; have n0_ := Aside0.mk (Kd.R_below (by (with_reducible repeat (first | apply Kd.R_alloc | apply Kd.R_drewN | apply Kd.R_drew)); exact HO_54.out) hb); have n1_ := Aside0.mk (below_step (by repeat (first | (with_reducible first | exact HB.out | apply below_alloc | apply pw_below_drewN | apply below_drew1) | exact HB.out)) hb); clear HO_54; clear HB; have HO_54 := n0_; have HB := n1_; clear n0_ n1_; (try clear hb); (try clear hb2); (try clear hk); (try clear hi)))
                        go_meet
                        case rel => exact ⟨_, (false), (by first | rfl | (simp; done) | (simp [*]; done)), H', ⟨by have := HJ2.out; have := HK2.out; first | omega | exact Nat.le_refl _⟩, ⟨by repeat (first | (with_reducible first | exact HB.out | apply below_alloc | apply pw_below_drewN | apply below_drew1) | exact HB.out)⟩⟩
                    · rw [if_neg c34] at H
                      have c34b0 : (t299 == 0) = false := beq_eq_false_iff_ne.mpr c34
                      have c34b1 : (t299 != 0) = true := bne_iff_ne.mpr c34
                      (first | rw [c34b0] | (simp only [i64_w, i32_w]; rw [c34b0]) | skip)
                      have H' := Aside0.mk H
                      clear H
                      go_wp2_with (first | ((with_reducible refine gate_callee (f := 18) rfl ?_); refine goesL_ (some 65) rfl rfl Try.func18 (by kernel_rfl) rfl #[.string (strOfNums y281)] rfl (by (try simp only [List.map_toArray, List.map_cons, List.map_nil]); first | done | rfl | (simp only [List.length_drop, List.length_take]; rfl) | (simp only [ByteArray.size_append, Int.natCast_add]; rfl) | (simp [ByteArray.size_append, Int.add_assoc]; done)) ?_; (with_reducible refine (sheet_Kind.calls k2 (strOfNums y281) t299 _ A33.out).mono ?_); rintro e w40 ⟨rfl, hb⟩; refine ⟨_, rfl, ?_⟩; have n0_ := Aside0.mk (Kd.R_below (by (with_reducible repeat (first | apply Kd.R_alloc | apply Kd.R_drewN | apply Kd.R_drew)); exact HO_54.out) hb); have n1_ := Aside0.mk (below_step (by repeat (first | (with_reducible first | exact HB.out | apply below_alloc | apply pw_below_drewN | apply below_drew1) | exact HB.out)) hb); clear HO_54; clear HB; have HO_54 := n0_; have HB := n1_; clear n0_ n1_; (try clear hb); (try clear hb2); (try clear hk); (try clear hi)))
                      go_meet
                      case rel => exact ⟨_, (false), (by first | rfl | (simp; done) | (simp [*]; done)), H', ⟨by have := HJ2.out; have := HK2.out; first | omega | exact Nat.le_refl _⟩, ⟨by repeat (first | (with_reducible first | exact HB.out | apply below_alloc | apply pw_below_drewN | apply below_drew1) | exact HB.out)⟩⟩
                  case rest =>
                    clear HC32
                    try clear c1
                    try clear hcv1
                    try clear c2
                    try clear p2
                    try clear q2
                    try clear hx2
                    try clear c3
                    try clear q3
                    try clear c4
                    try clear c4b0
                    try clear c5
                    try clear c5b0
                    try clear c6
                    try clear c6b0
                    try clear c6b1
                    try clear p6
                    try clear c9
                    try clear c10
                    try clear c12
                    try clear c12b0
                    try clear c12b1
                    try clear c13
                    try clear c13b0
                    try clear c13b1
                    try clear c17
                    try clear c18
                    try clear hcv19
                    try clear c20
                    try clear c26
                    try clear c26b0
                    try clear c27
                    try clear c27b0
                    try clear c28
                    try clear c28b0
                    try clear p29
                    try clear q29
                    try clear hx29
                    try clear q30
                    try clear c31
                    try clear c34
                    try clear c34b0
                    try clear c34b1
                    try clear c35
                    try clear c35b0
                    try clear hx298_0
                    try clear p2
                    try clear p29
                    try clear p298
                    try clear p6
                    try clear q2
                    try clear q29
                    try clear q298
                    try clear q3
                    try clear q30
                    obtain ⟨kq, x4_31, rfl, HA, HJ31, HB⟩ := hcut
                    cases kq with
                    | zero => exact absurd HA.out (by simp [maquettelaw15_SheetKinds.j3])
                    | succ kj31 =>
                      have H := HA.out
                      clear HA
                      simp only [maquettelaw15_SheetKinds.j3] at H
                      obtain rfl := Option.some.inj H
                      go_wp2
                      go_ret
                      exact ⟨by first | rfl | (simp [errW_none, errW_some] <;> rfl) | (simp [*, errW_none, errW_some] <;> rfl), by repeat (first | (with_reducible first | exact HB.out | apply below_alloc | apply pw_below_drewN | apply below_drew1) | exact HB.out)⟩
          · rw [if_neg c13] at H
            exact absurd H (by simp)
        · rw [if_neg c12] at H
          exact absurd H (by simp)

/-- THE ONE PURE STATEMENT of maquettelaw15_SheetKinds: yours. -/
def maquettelaw15_SheetKinds.Pure : Prop := ∀ (a0 : Int) (a1 : ByteArray), (Lit.int .i64 a0).wf = true → a1.size ≤ 140737488351232 → ∃ k, maquettelaw15_SheetKinds.f k a0 a1 = some true
theorem maquettelaw15_SheetKinds.walk (P : maquettelaw15_SheetKinds.Pure) (a0 : Int) (a1 : ByteArray) (w : World) (w0 : (Lit.int .i64 a0).wf = true) (w1 : a1.size ≤ 140737488351232) :
    Calls Try.prog 6 #[.int .i64 a0, .string a1] w fun e w' => e = .returned (.bool true) ∧ Below w.heap.size w w' := by
  obtain ⟨k, h⟩ := P a0 a1 w0 w1
  refine (maquettelaw15_SheetKinds.calls k a0 a1 true w h).mono ?_
  rintro e w' ⟨rfl, hd⟩
  exact ⟨rfl, hd⟩

end Go.Proofs.Ytlgmabibcpkdmaa.PAll
