/- Of the texts that the row stands on, what it needs (part 24), put together by a program of this session. -/
import Derived.Test.YtlgmabibcpkdmaaZaT10
import Derived.Test.YtlgmabibcpkdmaaZaT23
import Derived.Test.YtlgmabibcpkdmaaZaT19
import Derived.Test.YtlgmabibcpkdmaaZaT22
section
namespace Go.Proofs.Ytlgmabibcpkdmaa.PAll
open Go.RowKit Go.Proofs.YtlgmabibcpkdmaaW.PrintWords Go.Proofs.YtlgmabibcpkdmaaW.PrintLast Go.Proofs.YtlgmabibcpkdmaaW.PrintMore
attribute [local go_sem] max2_int min2_int max_two min_two max_three min_three max_four min_four
set_option linter.unusedVariables false
set_option linter.unusedSimpArgs false
mutual
def maquetteref13_Slots.j0 : Nat → ByteArray → Bool → Option ((List (S81)) × Bool)
  | 0, _, _ => none
  | k + 1, x0, x21 => if x21 = true then (some (([] : List (S81)), false)) else (maquetteref13_Slots.l0 k x0 ([] : List (S81)) 0)
def maquetteref13_Slots.l0 : Nat → ByteArray → List (S81) → Int → Option ((List (S81)) × Bool)
  | 0, _, _, _ => none
  | k + 1, x0, x4, x5 => if 1 < (x0.size : Int) then (if x5 < (wrap64 (bt x0 1)) then (if 0 ≤ (wrap64 (2 + (wrap64 (6 * x5)))) then (if (wrap64 (2 + (wrap64 (6 * x5)))) ≤ (wrap64 (6 + (wrap64 (6 * x5)))) then (if (wrap64 (6 + (wrap64 (6 * x5)))) ≤ (x0.size : Int) then ((maquetteref13_Of.f k (x0.extract ((wrap64 (2 + (wrap64 (6 * x5)))) : Int).toNat ((wrap64 (6 + (wrap64 (6 * x5)))) : Int).toNat)).bind fun t259 => (if 0 ≤ (wrap64 (6 + (wrap64 (6 * x5)))) then (if (wrap64 (6 + (wrap64 (6 * x5)))) ≤ (wrap64 (8 + (wrap64 (6 * x5)))) then (if (wrap64 (8 + (wrap64 (6 * x5)))) ≤ (x0.size : Int) then ((maquetteref13_Of.f k (x0.extract ((wrap64 (6 + (wrap64 (6 * x5)))) : Int).toNat ((wrap64 (8 + (wrap64 (6 * x5)))) : Int).toNat)).bind fun t260 => (if x4.length < 8796093022208 then (maquetteref13_Slots.l0 k x0 (x4 ++ [(⟨t259, t260⟩ : S81)]) (wrap64 (x5 + 1))) else (none))) else (none)) else (none)) else (none))) else (none)) else (none)) else (none)) else ((maquetteref13_Index.f k x4).bind fun bt264 => (if bt264.2 = true then (if bt264.1.toList = x0.toList then (some (x4, true)) else (some (([] : List (S81)), false))) else (some (([] : List (S81)), false))))) else (none)
end
def maquetteref13_Slots.f (k : Nat) (a0 : ByteArray) : Option ((List (S81)) × Bool) := if (a0.size : Int) = 128 then (if 0 < (a0.size : Int) then (if (bt a0 0) = 73 then (if 1 < (a0.size : Int) then (maquetteref13_Slots.j0 k a0 (decide ((wrap64 (bt a0 1)) > 21))) else (none)) else (maquetteref13_Slots.j0 k a0 true)) else (none)) else (maquetteref13_Slots.j0 k a0 true)
def maquetteref13_Slots.T7 : Bool × List (List Nat × List Nat) := (true, [([], []), ([], []), ([], []), ([2], [2]), ([3], [3]), ([], []), ([5], [5]), ([6], [6]), ([1, 4, 7], [1, 4, 7]), ([8], [8]), ([], []), ([], []), ([11], [11]), ([12], [12]), ([], []), ([14], [14]), ([15], [15]), ([10, 13, 16], [10, 13, 16]), ([17, 9], [17]), ([9, 18], [9, 18]), ([19], [19]), ([0, 20, 18], [0, 20]), ([21, 21, 0, 1, 2, 3, 4, 5, 6, 7, 8, 9, 10, 11, 12, 13, 14, 15, 16, 17, 18, 19, 20, 21], [0, 21])])
def maquetteref13_Slots.B7 : List Nat := [0, 0, 0, 4, 12, 0, 32, 96, 254, 510, 0, 0, 2048, 6144, 0, 16384, 49152, 130048, 262142, 524286, 1048574, 2097151, 4194303]
theorem maquetteref13_Slots.tab7 : rtab .any (opsOf Try.f27 7) = maquetteref13_Slots.T7 := by kernel_rfl
theorem maquetteref13_Slots.bits7 : waitsOk maquetteref13_Slots.T7.2 maquetteref13_Slots.B7 = true := by kernel_rfl
set_option maxHeartbeats 8000000 in
set_option maxRecDepth 100000 in
theorem maquetteref13_Slots.calls (k : Nat) (a0 : ByteArray) (r1 : List (S81)) (r2 : Bool) (w : World) (h : maquetteref13_Slots.f k a0 = some (r1, r2)) :
    Calls Try.prog 27 #[.string a0] w fun e w' => ∃ v0_ : Value, e = .returned (.tuple #[v0_, .bool r2]) ∧ Kd.R k81 81 w' w.heap.size (fun _ => True) v0_ r1 ∧ Below w.heap.size w w' := by
  have hu81 := Try.underlying81
  have HB := Aside0.mk (Below.refl w.heap.size w)
  have H : (if (a0.size : Int) = 128 then (if 0 < (a0.size : Int) then (if (bt a0 0) = 73 then (if 1 < (a0.size : Int) then (maquetteref13_Slots.j0 k a0 (decide ((wrap64 (bt a0 1)) > 21))) else (none)) else (maquetteref13_Slots.j0 k a0 true)) else (none)) else (maquetteref13_Slots.j0 k a0 true)) = some (r1, r2) := h
  clear h
  have HC2 := Aside0.mk H
  clear H
  go_enter Try.func27, Try.ntmps27
  go_upto_region 1 with (fail)
  go_cut [21] (fun v21 wc => ∃ (kq : Nat) (x21_1 : Bool), v21 = .bool x21_1 ∧ Aside0 (maquetteref13_Slots.j0 kq a0 x21_1 = some (r1, r2)) ∧ Aside0 (kq ≤ k) ∧ Aside0 (Below w.heap.size w wc))
  case first =>
    have H := HC2.out
    clear HC2
    by_cases c3 : (a0.size : Int) = 128
    · rw [if_pos c3] at H
      have c3b0 : ((a0.size : Int) == 128) = true := beq_iff_eq.mpr c3
      have c3b1 : ((a0.size : Int) != 128) = false := bne_eq_false_iff_eq.mpr c3
      clear c3
      (first | rw [c3b0] | (simp only [i64_w, i32_w]; rw [c3b0]) | skip)
      by_cases c4 : 0 < (a0.size : Int)
      · rw [if_pos c4] at H
        have c4b0 : decide (0 < (a0.size : Int)) = true := decide_eq_true c4
        have c4b1 : decide (0 < a0.size) = true := decide_eq_true (by omega)
        clear c4
        by_cases c6 : (bt a0 0) = 73
        · rw [if_pos c6] at H
          have c6b0 : ((bt a0 0) == 73) = true := beq_iff_eq.mpr c6
          have c6b1 : ((bt a0 0) != 73) = false := bne_eq_false_iff_eq.mpr c6
          clear c6
          by_cases c7 : 1 < (a0.size : Int)
          · rw [if_pos c7] at H
            have c7b0 : decide (1 < (a0.size : Int)) = true := decide_eq_true c7
            have c7b1 : decide (1 < a0.size) = true := decide_eq_true (by omega)
            clear c7
            have H' := Aside0.mk H
            clear H
            have p5 : 0 ≤ (0 : Int) := (by omega)
            have q5 : 0 < a0.size := (by have : (0 : Int) < (a0.size : Int) := of_decide_eq_true (by first | (with_reducible assumption) | assumption); omega)
            have hx5 : ∀ h : 0 < a0.size, ((a0[0]'h).toNat : Int) = bt a0 0 := bt_at a0 0
            clear p5
            have qi5 : (0 < (a0.size : Int)) = True := eq_true (of_decide_eq_true (by first | (with_reducible assumption) | assumption))
            replace q5 := eq_true q5
            have p8 : 0 ≤ (1 : Int) := (by omega)
            have q8 : 1 < a0.size := (by have : (1 : Int) < (a0.size : Int) := of_decide_eq_true (by first | (with_reducible assumption) | assumption); omega)
            have hx8 : ∀ h : 1 < a0.size, ((a0[1]'h).toNat : Int) = bt a0 1 := bt_at a0 1
            clear p8
            have qi8 : (1 < (a0.size : Int)) = True := eq_true (of_decide_eq_true (by first | (with_reducible assumption) | assumption))
            replace q8 := eq_true q8
            go_wp2
            go_meet
            case rel => exact ⟨_, (decide ((wrap64 (bt a0 1)) > 21)), (by first | rfl | (simp; done) | (simp [*]; done)), H', ⟨by first | omega | exact Nat.le_refl _⟩, ⟨by repeat (first | (with_reducible first | exact HB.out | apply below_alloc | apply pw_below_drewN | apply below_drew1) | exact HB.out)⟩⟩
          · rw [if_neg c7] at H
            exact absurd H (by simp)
        · rw [if_neg c6] at H
          have c6b0 : ((bt a0 0) == 73) = false := beq_eq_false_iff_ne.mpr c6
          have c6b1 : ((bt a0 0) != 73) = true := bne_iff_ne.mpr c6
          have H' := Aside0.mk H
          clear H
          have p5 : 0 ≤ (0 : Int) := (by omega)
          have q5 : 0 < a0.size := (by have : (0 : Int) < (a0.size : Int) := of_decide_eq_true (by first | (with_reducible assumption) | assumption); omega)
          have hx5 : ∀ h : 0 < a0.size, ((a0[0]'h).toNat : Int) = bt a0 0 := bt_at a0 0
          clear p5
          have qi5 : (0 < (a0.size : Int)) = True := eq_true (of_decide_eq_true (by first | (with_reducible assumption) | assumption))
          replace q5 := eq_true q5
          go_wp2
          go_meet
          case rel => exact ⟨_, (true), (by first | rfl | (simp; done) | (simp [*]; done)), H', ⟨by first | omega | exact Nat.le_refl _⟩, ⟨by repeat (first | (with_reducible first | exact HB.out | apply below_alloc | apply pw_below_drewN | apply below_drew1) | exact HB.out)⟩⟩
      · rw [if_neg c4] at H
        exact absurd H (by simp)
    · rw [if_neg c3] at H
      have c3b0 : ((a0.size : Int) == 128) = false := beq_eq_false_iff_ne.mpr c3
      have c3b1 : ((a0.size : Int) != 128) = true := bne_iff_ne.mpr c3
      (first | rw [c3b0] | (simp only [i64_w, i32_w]; rw [c3b0]) | skip)
      have H' := Aside0.mk H
      clear H
      go_wp2
      go_meet
      case rel => exact ⟨_, (true), (by first | rfl | (simp; done) | (simp [*]; done)), H', ⟨by first | omega | exact Nat.le_refl _⟩, ⟨by repeat (first | (with_reducible first | exact HB.out | apply below_alloc | apply pw_below_drewN | apply below_drew1) | exact HB.out)⟩⟩
  case rest =>
    clear HC2
    try clear c2
    try clear p2
    try clear c3
    try clear c3b0
    try clear c3b1
    try clear c4
    try clear c4b0
    try clear c4b1
    try clear p5
    try clear q5
    try clear hx5
    try clear qi5
    try clear c6
    try clear c6b0
    try clear c6b1
    try clear p6
    try clear c7
    try clear c7b0
    try clear c7b1
    try clear p8
    try clear q8
    try clear hx8
    try clear qi8
    try clear p5
    try clear p8
    try clear q5
    try clear q8
    obtain ⟨kq, x21_1, rfl, HA, HJ1, HB⟩ := hcut
    cases kq with
    | zero => exact absurd HA.out (by simp [maquetteref13_Slots.j0])
    | succ kj1 =>
      have H := HA.out
      clear HA
      simp only [maquetteref13_Slots.j0] at H
      by_cases c9 : x21_1 = true
      · subst c9
        have H1 : (some (([] : List (S81)), false)) = some (r1, r2) := by rw [if_pos rfl] at H; exact H
        clear H
        have H := H1
        clear H1
        simp only [Option.some.injEq, Prod.mk.injEq] at H
        obtain ⟨rfl, rfl⟩ := H
        go_wp2
        go_ret2
        exact ⟨_, by first | rfl | (simp [errW_none, errW_some] <;> rfl) | (simp [*, errW_none, errW_some] <;> rfl), by first | exact Kd.R_nil _ _ _ _ _ | exact Kd.N_nil _ _ _ _ _ | exact Kd.V_nil _ _ _ _ _ | exact Kd.Q_nil _ _ _ _ _ | exact Kd.S_nil _ _ _ _ _, by repeat (first | (with_reducible first | exact HB.out | apply below_alloc | apply pw_below_drewN | apply below_drew1) | exact HB.out)⟩
      · replace c9 := Bool.eq_false_iff.mpr c9
        subst c9
        have H1 : (maquetteref13_Slots.l0 kj1 a0 ([] : List (S81)) 0) = some (r1, r2) := by rw [if_neg (show ¬ (false = true) by decide)] at H; exact H
        clear H
        have H := H1
        clear H1
        have H' := Aside0.mk H
        clear H
        go_wp2
        go_loopg [4, 5] kj1 (fun kq v4 v5 w' => ∃ (x4_2 : List (S81)) (x5_2 : Int), v5 = .int .i64 x5_2 ∧ Aside0 (maquetteref13_Slots.l0 kq a0 x4_2 x5_2 = some (r1, r2)) ∧ Aside0 (kq ≤ kj1) ∧ Aside0 (Kd.R k81 81 w' w.heap.size (fun _ => True) v4 x4_2) ∧ Aside0 (Below w.heap.size w w'))
        case atStart => exact ⟨(([] : List (S81))), (0), (by first | rfl | (simp; done) | (simp [*]; done)), H', ⟨Nat.le_refl _⟩, ⟨by first | exact Kd.R_nil _ _ _ _ _ | exact Kd.N_nil _ _ _ _ _ | exact Kd.V_nil _ _ _ _ _ | exact Kd.Q_nil _ _ _ _ _ | exact Kd.S_nil _ _ _ _ _⟩, ⟨by repeat (first | (with_reducible first | exact HB.out | apply below_alloc | apply pw_below_drewN | apply below_drew1) | exact HB.out)⟩⟩
        case round =>
          clear H'
          try clear c2
          try clear p2
          try clear c3
          try clear c3b0
          try clear c3b1
          try clear c4
          try clear c4b0
          try clear c4b1
          try clear p5
          try clear q5
          try clear hx5
          try clear qi5
          try clear c6
          try clear c6b0
          try clear c6b1
          try clear p6
          try clear c7
          try clear c7b0
          try clear c7b1
          try clear p8
          try clear q8
          try clear hx8
          try clear qi8
          try clear c9
          try clear p2
          try clear p5
          try clear p6
          try clear p8
          try clear q5
          try clear q8
          obtain ⟨x4_2, x5_2, rfl, HA, HK2, HO_4, HB⟩ := hrel
          cases gk with
          | zero => exact absurd HA.out (by simp [maquetteref13_Slots.l0])
          | succ k2 =>
            have H := HA.out
            clear HA
            simp only [maquetteref13_Slots.l0] at H
            by_cases c10 : 1 < (a0.size : Int)
            · rw [if_pos c10] at H
              have c10b0 : decide (1 < (a0.size : Int)) = true := decide_eq_true c10
              have c10b1 : decide (1 < a0.size) = true := decide_eq_true (by omega)
              clear c10
              by_cases c12 : x5_2 < (wrap64 (bt a0 1))
              · rw [if_pos c12] at H
                have c12b0 : decide (x5_2 < (wrap64 (bt a0 1))) = true := decide_eq_true c12
                clear c12
                obtain ⟨ji13, hji13⟩ : ∃ j_ : Int, (wrap64 (2 + (wrap64 (6 * x5_2)))) = j_ := ⟨_, rfl⟩
                replace H : (if 0 ≤ (ji13) then (if (ji13) ≤ (wrap64 (6 + (wrap64 (6 * x5_2)))) then (if (wrap64 (6 + (wrap64 (6 * x5_2)))) ≤ (a0.size : Int) then ((maquetteref13_Of.f k2 (a0.extract ((ji13) : Int).toNat ((wrap64 (6 + (wrap64 (6 * x5_2)))) : Int).toNat)).bind fun t259 => (if 0 ≤ (wrap64 (6 + (wrap64 (6 * x5_2)))) then (if (wrap64 (6 + (wrap64 (6 * x5_2)))) ≤ (wrap64 (8 + (wrap64 (6 * x5_2)))) then (if (wrap64 (8 + (wrap64 (6 * x5_2)))) ≤ (a0.size : Int) then ((maquetteref13_Of.f k2 (a0.extract ((wrap64 (6 + (wrap64 (6 * x5_2)))) : Int).toNat ((wrap64 (8 + (wrap64 (6 * x5_2)))) : Int).toNat)).bind fun t260 => (if x4_2.length < 8796093022208 then (maquetteref13_Slots.l0 k2 a0 (x4_2 ++ [(⟨t259, t260⟩ : S81)]) (wrap64 (x5_2 + 1))) else (none))) else (none)) else (none)) else (none))) else (none)) else (none)) else (none)) = some (r1, r2) := by first | (rw [hji13] at H; exact H) | (simp only [hji13] at H ⊢; exact H)
                have hji13w : (IntKind.i64.wrap (2 + (wrap64 (6 * x5_2)))) = ji13 := (i64_w _).trans hji13
                by_cases c14 : 0 ≤ (ji13)
                · rw [if_pos c14] at H
                  have c14b0 := eq_true c14
                  have c14b1 : decide (0 ≤ (ji13)) = true := decide_eq_true c14
                  clear c14
                  by_cases c15 : (ji13) ≤ (wrap64 (6 + (wrap64 (6 * x5_2))))
                  · rw [if_pos c15] at H
                    have c15b0 := eq_true c15
                    have c15b1 : decide ((ji13) ≤ (wrap64 (6 + (wrap64 (6 * x5_2))))) = true := decide_eq_true c15
                    by_cases c16 : (wrap64 (6 + (wrap64 (6 * x5_2)))) ≤ (a0.size : Int)
                    · rw [if_pos c16] at H
                      have c16b0 := eq_true c16
                      have c16b1 : decide ((wrap64 (6 + (wrap64 (6 * x5_2)))) ≤ (a0.size : Int)) = true := decide_eq_true c16
                      replace H := Option.bind_eq_some_iff.mp H
                      obtain ⟨t259, A170, H⟩ := H
                      replace H : (if 0 ≤ (wrap64 (6 + (wrap64 (6 * x5_2)))) then (if (wrap64 (6 + (wrap64 (6 * x5_2)))) ≤ (wrap64 (8 + (wrap64 (6 * x5_2)))) then (if (wrap64 (8 + (wrap64 (6 * x5_2)))) ≤ (a0.size : Int) then ((maquetteref13_Of.f k2 (a0.extract ((wrap64 (6 + (wrap64 (6 * x5_2)))) : Int).toNat ((wrap64 (8 + (wrap64 (6 * x5_2)))) : Int).toNat)).bind fun t260 => (if x4_2.length < 8796093022208 then (maquetteref13_Slots.l0 k2 a0 (x4_2 ++ [(⟨t259, t260⟩ : S81)]) (wrap64 (x5_2 + 1))) else (none))) else (none)) else (none)) else (none)) = some (r1, r2) := H
                      have A17 := Aside0.mk A170
                      clear A170
                      obtain ⟨ji18, hji18⟩ : ∃ j_ : Int, (wrap64 (6 + (wrap64 (6 * x5_2)))) = j_ := ⟨_, rfl⟩
                      replace H : (if 0 ≤ (ji18) then (if (ji18) ≤ (wrap64 (8 + (wrap64 (6 * x5_2)))) then (if (wrap64 (8 + (wrap64 (6 * x5_2)))) ≤ (a0.size : Int) then ((maquetteref13_Of.f k2 (a0.extract ((ji18) : Int).toNat ((wrap64 (8 + (wrap64 (6 * x5_2)))) : Int).toNat)).bind fun t260 => (if x4_2.length < 8796093022208 then (maquetteref13_Slots.l0 k2 a0 (x4_2 ++ [(⟨t259, t260⟩ : S81)]) (wrap64 (x5_2 + 1))) else (none))) else (none)) else (none)) else (none)) = some (r1, r2) := by first | (rw [hji18] at H; exact H) | (simp only [hji18] at H ⊢; exact H)
                      (try rw [hji18] at c15b0)
                      (try rw [hji18] at c15b1)
                      (try rw [hji18] at c15)
                      (try rw [hji18] at c16b0)
                      (try rw [hji18] at c16b1)
                      (try rw [hji18] at c16)
                      (try rw [hji18] at A17)
                      have hji18w : (IntKind.i64.wrap (6 + (wrap64 (6 * x5_2)))) = ji18 := (i64_w _).trans hji18
                      by_cases c19 : 0 ≤ (ji18)
                      · rw [if_pos c19] at H
                        have c19b0 := eq_true c19
                        have c19b1 : decide (0 ≤ (ji18)) = true := decide_eq_true c19
                        clear c19
                        by_cases c20 : (ji18) ≤ (wrap64 (8 + (wrap64 (6 * x5_2))))
                        · rw [if_pos c20] at H
                          have c20b0 := eq_true c20
                          have c20b1 : decide ((ji18) ≤ (wrap64 (8 + (wrap64 (6 * x5_2))))) = true := decide_eq_true c20
                          by_cases c21 : (wrap64 (8 + (wrap64 (6 * x5_2)))) ≤ (a0.size : Int)
                          · rw [if_pos c21] at H
                            have c21b0 := eq_true c21
                            have c21b1 : decide ((wrap64 (8 + (wrap64 (6 * x5_2)))) ≤ (a0.size : Int)) = true := decide_eq_true c21
                            replace H := Option.bind_eq_some_iff.mp H
                            obtain ⟨t260, A220, H⟩ := H
                            replace H : (if x4_2.length < 8796093022208 then (maquetteref13_Slots.l0 k2 a0 (x4_2 ++ [(⟨t259, t260⟩ : S81)]) (wrap64 (x5_2 + 1))) else (none)) = some (r1, r2) := H
                            have A22 := Aside0.mk A220
                            clear A220
                            by_cases c23 : x4_2.length < 8796093022208
                            · rw [if_pos c23] at H
                              have LMc23 := Aside0.mk c23
                              clear c23
                              obtain ⟨y261, hy261⟩ : ∃ y_ : List (S81), y_ = (x4_2 ++ [(⟨t259, t260⟩ : S81)]) := ⟨_, rfl⟩
                              replace H : (maquetteref13_Slots.l0 k2 a0 y261 (wrap64 (x5_2 + 1))) = some (r1, r2) := by first | (rw [hy261]; with_reducible exact H) | (have H2_ := (Option.bind_some _ _).symm.trans H; rw [hy261]; with_reducible exact H2_) | (have H2_ := (Option.bind_some _ _).symm.trans H; with_reducible exact H2_) | with_reducible exact H | (rw [hy261]; exact H) | exact H
                              have Ny261 := Aside0.mk hy261
                              clear hy261
                              have H' := Aside0.mk H
                              clear H
                              have p11 : 0 ≤ (1 : Int) := (by omega)
                              have q11 : 1 < a0.size := (by have : (1 : Int) < (a0.size : Int) := of_decide_eq_true (by first | (with_reducible assumption) | assumption); omega)
                              have hx11 : ∀ h : 1 < a0.size, ((a0[1]'h).toNat : Int) = bt a0 1 := bt_at a0 1
                              clear p11
                              have qi11 : (1 < (a0.size : Int)) = True := eq_true (of_decide_eq_true (by first | (with_reducible assumption) | assumption))
                              replace q11 := eq_true q11
                              try go_wp2
                              have n0_ := Aside0.mk (Kd.R_drew HO_4.out)
                              have n1_ := Aside0.mk (below_drew1 HB.out)
                              clear HO_4
                              clear HB
                              have HO_4 := n0_
                              have HB := n1_
                              clear n0_ n1_
                              refine start_ (n := 23) (S := fun w' => True) (ds := []) #[false, false, false, false, false, false, false, false, false, false, false, false, false, false, false, false, false, false, false, false, false, false, false] (by kernel_rfl) rfl rfl trivial (fun hHeld => ?_); refine with_tabW maquetteref13_Slots.tab7 maquetteref13_Slots.bits7 (fun HT_ HW_ => ?_)
                              generalize wr.drew = w24 at HO_4 HB hHeld ⊢
                              refine pure_ (i := 0) (N := some 29) (v := ?_) (a' := ?_) #[true, false, false, false, false, false, false, false, false, false, false, false, false, false, false, false, false, false, false, false, false, false, false] rfl rfl (any_of HT_.out (by kernel_rfl)) (fun _ _ _ h => h) (Or.inl ⟨by rfl, ?_⟩) ?_ ?_
                              rotate_left
                              · intro w'
                                go_simp
                                first | with_reducible rfl | (rw [if_neg (by (try simp only [ByteArray.size_append, ByteArray.size_extract, decide_eq_true_eq, eq_iff_iff, iff_true, beq_iff_eq] at *); omega)] <;> with_reducible rfl)
                              rotate_left
                              · simp only [Act.put, List.setIfInBounds_toArray, List.set_cons_zero, List.set_cons_succ, i64_w, i32_w]
                                rfl
                              refine pure_ (i := 1) (N := some 30) (v := ?_) (a' := ?_) #[true, true, false, false, false, false, false, false, false, false, false, false, false, false, false, false, false, false, false, false, false, false, false] rfl rfl (any_of HT_.out (by kernel_rfl)) (fun _ _ _ h => h) (Or.inl ⟨by rfl, ?_⟩) ?_ ?_
                              rotate_left
                              · intro w'
                                go_simp
                                first | with_reducible rfl | (rw [if_neg (by (try simp only [ByteArray.size_append, ByteArray.size_extract, decide_eq_true_eq, eq_iff_iff, iff_true, beq_iff_eq] at *); omega)] <;> with_reducible rfl)
                              rotate_left
                              · simp only [Act.put, List.setIfInBounds_toArray, List.set_cons_zero, List.set_cons_succ, i64_w, i32_w]
                                rfl
                              refine pure_ (i := 2) (N := some 31) (v := ?_) (a' := ?_) #[true, true, true, false, false, false, false, false, false, false, false, false, false, false, false, false, false, false, false, false, false, false, false] rfl rfl (any_of HT_.out (by kernel_rfl)) (fun _ _ _ h => h) (Or.inl ⟨by rfl, ?_⟩) ?_ ?_
                              rotate_left
                              · intro w'
                                go_simp
                                first | with_reducible rfl | (rw [if_neg (by (try simp only [ByteArray.size_append, ByteArray.size_extract, decide_eq_true_eq, eq_iff_iff, iff_true, beq_iff_eq] at *); omega)] <;> with_reducible rfl)
                              rotate_left
                              · simp only [Act.put, List.setIfInBounds_toArray, List.set_cons_zero, List.set_cons_succ, i64_w, i32_w]
                                rfl
                              refine pure_ (i := 3) (N := some 32) (v := ?_) (a' := ?_) #[true, true, true, true, false, false, false, false, false, false, false, false, false, false, false, false, false, false, false, false, false, false, false] rfl rfl (any_of HT_.out (by kernel_rfl)) (fun _ _ _ h => h) (Or.inl ⟨by rfl, ?_⟩) ?_ ?_
                              rotate_left
                              · intro w'
                                go_simp
                                first | with_reducible rfl | (rw [if_neg (by (try simp only [ByteArray.size_append, ByteArray.size_extract, decide_eq_true_eq, eq_iff_iff, iff_true, beq_iff_eq] at *); omega)] <;> with_reducible rfl)
                              rotate_left
                              · simp only [Act.put, List.setIfInBounds_toArray, List.set_cons_zero, List.set_cons_succ, i64_w, i32_w]
                                rfl
                              refine pure_ (i := 4) (N := some 33) (v := ?_) (a' := ?_) #[true, true, true, true, true, false, false, false, false, false, false, false, false, false, false, false, false, false, false, false, false, false, false] rfl rfl (any_of HT_.out (by kernel_rfl)) (fun _ _ _ h => h) (Or.inl ⟨by rfl, ?_⟩) ?_ ?_
                              rotate_left
                              · intro w'
                                go_simp
                                first | with_reducible rfl | (rw [if_neg (by (try simp only [ByteArray.size_append, ByteArray.size_extract, decide_eq_true_eq, eq_iff_iff, iff_true, beq_iff_eq] at *); omega)] <;> with_reducible rfl)
                              rotate_left
                              · simp only [Act.put, List.setIfInBounds_toArray, List.set_cons_zero, List.set_cons_succ, i64_w, i32_w]
                                rfl
                              refine pure_ (i := 5) (N := some 34) (v := ?_) (a' := ?_) #[true, true, true, true, true, true, false, false, false, false, false, false, false, false, false, false, false, false, false, false, false, false, false] rfl rfl (any_of HT_.out (by kernel_rfl)) (fun _ _ _ h => h) (Or.inl ⟨by rfl, ?_⟩) ?_ ?_
                              rotate_left
                              · intro w'
                                go_simp
                                first | with_reducible rfl | (rw [if_neg (by (try simp only [ByteArray.size_append, ByteArray.size_extract, decide_eq_true_eq, eq_iff_iff, iff_true, beq_iff_eq] at *); omega)] <;> with_reducible rfl)
                              rotate_left
                              · simp only [Act.put, List.setIfInBounds_toArray, List.set_cons_zero, List.set_cons_succ, i64_w, i32_w]
                                rfl
                              refine pure_ (i := 6) (N := some 35) (v := ?_) (a' := ?_) #[true, true, true, true, true, true, true, false, false, false, false, false, false, false, false, false, false, false, false, false, false, false, false] rfl rfl (any_of HT_.out (by kernel_rfl)) (fun _ _ _ h => h) (Or.inl ⟨by rfl, ?_⟩) ?_ ?_
                              rotate_left
                              · intro w'
                                go_simp
                                first | with_reducible rfl | (rw [if_neg (by (try simp only [ByteArray.size_append, ByteArray.size_extract, decide_eq_true_eq, eq_iff_iff, iff_true, beq_iff_eq] at *); omega)] <;> with_reducible rfl)
                              rotate_left
                              · simp only [Act.put, List.setIfInBounds_toArray, List.set_cons_zero, List.set_cons_succ, i64_w, i32_w]
                                rfl
                              refine pure_ (i := 7) (N := some 36) (v := ?_) (a' := ?_) #[true, true, true, true, true, true, true, true, false, false, false, false, false, false, false, false, false, false, false, false, false, false, false] rfl rfl (any_of HT_.out (by kernel_rfl)) (fun _ _ _ h => h) (Or.inl ⟨by rfl, ?_⟩) ?_ ?_
                              rotate_left
                              · intro w'
                                go_simp
                                first | with_reducible rfl | (rw [if_neg (by (try simp only [ByteArray.size_append, ByteArray.size_extract, decide_eq_true_eq, eq_iff_iff, iff_true, beq_iff_eq] at *); omega)] <;> with_reducible rfl)
                              rotate_left
                              · simp only [Act.put, List.setIfInBounds_toArray, List.set_cons_zero, List.set_cons_succ, i64_w, i32_w]
                                rfl
                              refine pure_ (i := 8) (N := some 37) (v := ?_) (a' := ?_) #[true, true, true, true, true, true, true, true, true, false, false, false, false, false, false, false, false, false, false, false, false, false, false] rfl rfl (any_of HT_.out (by kernel_rfl)) (fun _ _ _ h => h) (Or.inl ⟨by rfl, ?_⟩) ?_ ?_
                              rotate_left
                              · intro w'
                                go_simp
                                first | with_reducible rfl | (rw [if_neg (by (try simp only [ByteArray.size_append, ByteArray.size_extract, decide_eq_true_eq, eq_iff_iff, iff_true, beq_iff_eq] at *); omega)] <;> with_reducible rfl)
                              rotate_left
                              · simp only [Act.put, List.setIfInBounds_toArray, List.set_cons_zero, List.set_cons_succ, i64_w, i32_w]
                                rfl
                              refine pure_ (i := 10) (N := some 39) (v := ?_) (a' := ?_) #[true, true, true, true, true, true, true, true, true, false, true, false, false, false, false, false, false, false, false, false, false, false, false] rfl rfl (any_of HT_.out (by kernel_rfl)) (fun _ _ _ h => h) (Or.inl ⟨by rfl, ?_⟩) ?_ ?_
                              rotate_left
                              · intro w'
                                go_simp
                                first | with_reducible rfl | (rw [if_neg (by (try simp only [ByteArray.size_append, ByteArray.size_extract, decide_eq_true_eq, eq_iff_iff, iff_true, beq_iff_eq] at *); omega)] <;> with_reducible rfl)
                              rotate_left
                              · simp only [Act.put, List.setIfInBounds_toArray, List.set_cons_zero, List.set_cons_succ, i64_w, i32_w]
                                rfl
                              refine pure_ (i := 11) (N := some 40) (v := ?_) (a' := ?_) #[true, true, true, true, true, true, true, true, true, false, true, true, false, false, false, false, false, false, false, false, false, false, false] rfl rfl (any_of HT_.out (by kernel_rfl)) (fun _ _ _ h => h) (Or.inl ⟨by rfl, ?_⟩) ?_ ?_
                              rotate_left
                              · intro w'
                                go_simp
                                first | with_reducible rfl | (rw [if_neg (by (try simp only [ByteArray.size_append, ByteArray.size_extract, decide_eq_true_eq, eq_iff_iff, iff_true, beq_iff_eq] at *); omega)] <;> with_reducible rfl)
                              rotate_left
                              · simp only [Act.put, List.setIfInBounds_toArray, List.set_cons_zero, List.set_cons_succ, i64_w, i32_w]
                                rfl
                              refine pure_ (i := 12) (N := some 41) (v := ?_) (a' := ?_) #[true, true, true, true, true, true, true, true, true, false, true, true, true, false, false, false, false, false, false, false, false, false, false] rfl rfl (any_of HT_.out (by kernel_rfl)) (fun _ _ _ h => h) (Or.inl ⟨by rfl, ?_⟩) ?_ ?_
                              rotate_left
                              · intro w'
                                go_simp
                                first | with_reducible rfl | (rw [if_neg (by (try simp only [ByteArray.size_append, ByteArray.size_extract, decide_eq_true_eq, eq_iff_iff, iff_true, beq_iff_eq] at *); omega)] <;> with_reducible rfl)
                              rotate_left
                              · simp only [Act.put, List.setIfInBounds_toArray, List.set_cons_zero, List.set_cons_succ, i64_w, i32_w]
                                rfl
                              refine pure_ (i := 13) (N := some 42) (v := ?_) (a' := ?_) #[true, true, true, true, true, true, true, true, true, false, true, true, true, true, false, false, false, false, false, false, false, false, false] rfl rfl (any_of HT_.out (by kernel_rfl)) (fun _ _ _ h => h) (Or.inl ⟨by rfl, ?_⟩) ?_ ?_
                              rotate_left
                              · intro w'
                                go_simp
                                first | with_reducible rfl | (rw [if_neg (by (try simp only [ByteArray.size_append, ByteArray.size_extract, decide_eq_true_eq, eq_iff_iff, iff_true, beq_iff_eq] at *); omega)] <;> with_reducible rfl)
                              rotate_left
                              · simp only [Act.put, List.setIfInBounds_toArray, List.set_cons_zero, List.set_cons_succ, i64_w, i32_w]
                                rfl
                              refine pure_ (i := 14) (N := some 43) (v := ?_) (a' := ?_) #[true, true, true, true, true, true, true, true, true, false, true, true, true, true, true, false, false, false, false, false, false, false, false] rfl rfl (any_of HT_.out (by kernel_rfl)) (fun _ _ _ h => h) (Or.inl ⟨by rfl, ?_⟩) ?_ ?_
                              rotate_left
                              · intro w'
                                go_simp
                                first | with_reducible rfl | (rw [if_neg (by (try simp only [ByteArray.size_append, ByteArray.size_extract, decide_eq_true_eq, eq_iff_iff, iff_true, beq_iff_eq] at *); omega)] <;> with_reducible rfl)
                              rotate_left
                              · simp only [Act.put, List.setIfInBounds_toArray, List.set_cons_zero, List.set_cons_succ, i64_w, i32_w]
                                rfl
                              refine pure_ (i := 15) (N := some 44) (v := ?_) (a' := ?_) #[true, true, true, true, true, true, true, true, true, false, true, true, true, true, true, true, false, false, false, false, false, false, false] rfl rfl (any_of HT_.out (by kernel_rfl)) (fun _ _ _ h => h) (Or.inl ⟨by rfl, ?_⟩) ?_ ?_
                              rotate_left
                              · intro w'
                                go_simp
                                first | with_reducible rfl | (rw [if_neg (by (try simp only [ByteArray.size_append, ByteArray.size_extract, decide_eq_true_eq, eq_iff_iff, iff_true, beq_iff_eq] at *); omega)] <;> with_reducible rfl)
                              rotate_left
                              · simp only [Act.put, List.setIfInBounds_toArray, List.set_cons_zero, List.set_cons_succ, i64_w, i32_w]
                                rfl
                              refine pure_ (i := 16) (N := some 45) (v := ?_) (a' := ?_) #[true, true, true, true, true, true, true, true, true, false, true, true, true, true, true, true, true, false, false, false, false, false, false] rfl rfl (any_of HT_.out (by kernel_rfl)) (fun _ _ _ h => h) (Or.inl ⟨by rfl, ?_⟩) ?_ ?_
                              rotate_left
                              · intro w'
                                go_simp
                                first | with_reducible rfl | (rw [if_neg (by (try simp only [ByteArray.size_append, ByteArray.size_extract, decide_eq_true_eq, eq_iff_iff, iff_true, beq_iff_eq] at *); omega)] <;> with_reducible rfl)
                              rotate_left
                              · simp only [Act.put, List.setIfInBounds_toArray, List.set_cons_zero, List.set_cons_succ, i64_w, i32_w]
                                rfl
                              refine pure_ (i := 17) (N := some 46) (v := ?_) (a' := ?_) #[true, true, true, true, true, true, true, true, true, false, true, true, true, true, true, true, true, true, false, false, false, false, false] rfl rfl (any_of HT_.out (by kernel_rfl)) (fun _ _ _ h => h) (Or.inl ⟨by rfl, ?_⟩) ?_ ?_
                              rotate_left
                              · intro w'
                                go_simp
                                first | with_reducible rfl | (rw [if_neg (by (try simp only [ByteArray.size_append, ByteArray.size_extract, decide_eq_true_eq, eq_iff_iff, iff_true, beq_iff_eq] at *); omega)] <;> with_reducible rfl)
                              rotate_left
                              · simp only [Act.put, List.setIfInBounds_toArray, List.set_cons_zero, List.set_cons_succ, i64_w, i32_w]
                                rfl
                              refine one_ (i := 9) (N := some 38) #[true, true, true, true, true, true, true, true, true, true, true, true, true, true, true, true, true, true, false, false, false, false, false] rfl rfl (one_of HT_.out (by kernel_rfl)) (by decide) (fun K hK => ?_)
                              refine goes_ Try.func44 (by kernel_rfl) rfl #[.string (a0.extract ((ji13) : Int).toNat ((ji18) : Int).toNat)] (by rfl) rfl rfl (by (try simp only [List.map_toArray, List.map_cons, List.map_nil]); first | done | (simp only [hji13, hji18]; rfl) | rfl | (simp only [List.length_drop, List.length_take]; rfl) | (simp only [ByteArray.size_append, Int.natCast_add]; rfl) | (simp [ByteArray.size_append, Int.add_assoc]; done)) ?_
                              with_reducible refine (maquetteref13_Of.calls k2 (a0.extract ((ji13) : Int).toNat ((ji18) : Int).toNat) t259 _ A17.out).mono ?_
                              rintro e w' ⟨rfl, ⟨nd, rfl⟩⟩
                              refine ⟨_, rfl, ?_⟩
                              refine hK.out _ _ trivial (fun hHeld => ?_)
                              clear hK K
                              refine norm_ (a' := ?_) ?_ ?_
                              rotate_left
                              · show Act.put _ (some 38) _ = _
                                simp only [Act.put, List.setIfInBounds_toArray, List.set_cons_zero, List.set_cons_succ, i64_w, i32_w]
                                rfl
                              refine one_ (i := 18) (N := some 47) #[true, true, true, true, true, true, true, true, true, true, true, true, true, true, true, true, true, true, true, false, false, false, false] rfl rfl (one_of HT_.out (by kernel_rfl)) (by decide) (fun K hK => ?_)
                              refine goes_ Try.func44 (by kernel_rfl) rfl #[.string (a0.extract ((ji18) : Int).toNat ((wrap64 (8 + (wrap64 (6 * x5_2)))) : Int).toNat)] (by rfl) rfl rfl (by (try simp only [List.map_toArray, List.map_cons, List.map_nil]); first | done | (simp only [hji18]; rfl) | rfl | (simp only [List.length_drop, List.length_take]; rfl) | (simp only [ByteArray.size_append, Int.natCast_add]; rfl) | (simp [ByteArray.size_append, Int.add_assoc]; done)) ?_
                              with_reducible refine (maquetteref13_Of.calls k2 (a0.extract ((ji18) : Int).toNat ((wrap64 (8 + (wrap64 (6 * x5_2)))) : Int).toNat) t260 _ A22.out).mono ?_
                              rintro e w' ⟨rfl, ⟨nd, rfl⟩⟩
                              refine ⟨_, rfl, ?_⟩
                              refine hK.out _ _ trivial (fun hHeld => ?_)
                              clear hK K
                              refine norm_ (a' := ?_) ?_ ?_
                              rotate_left
                              · show Act.put _ (some 47) _ = _
                                simp only [Act.put, List.setIfInBounds_toArray, List.set_cons_zero, List.set_cons_succ, i64_w, i32_w]
                                rfl
                              refine pure_ (i := 19) (N := some 48) (v := ?_) (a' := ?_) #[true, true, true, true, true, true, true, true, true, true, true, true, true, true, true, true, true, true, true, true, false, false, false] rfl rfl (any_of HT_.out (by kernel_rfl)) (fun _ _ _ h => h) (Or.inl ⟨by rfl, ?_⟩) ?_ ?_
                              rotate_left
                              · intro w'
                                go_simp
                                first | with_reducible rfl | (rw [if_neg (by (try simp only [ByteArray.size_append, ByteArray.size_extract, decide_eq_true_eq, eq_iff_iff, iff_true, beq_iff_eq] at *); omega)] <;> with_reducible rfl)
                              rotate_left
                              · simp only [Act.put, List.setIfInBounds_toArray, List.set_cons_zero, List.set_cons_succ, i64_w, i32_w]
                                rfl
                              refine one_ (i := 20) (N := some 49) #[true, true, true, true, true, true, true, true, true, true, true, true, true, true, true, true, true, true, true, true, true, false, false] rfl rfl (one_of HT_.out (by kernel_rfl)) (by decide) (fun K hK => ?_)
                              refine value_ (w1 := ?_) (v := ?_) (by rfl) rfl ?_ ?_
                              rotate_left 2
                              · go_simp
                                constructor
                                · rfl
                                · rfl
                              refine hK.out _ _ trivial (fun hHeld => ?_)
                              clear hK K
                              refine norm_ (a' := ?_) ?_ ?_
                              rotate_left
                              · show Act.put _ (some 49) _ = _
                                simp only [Act.put, List.setIfInBounds_toArray, List.set_cons_zero, List.set_cons_succ, i64_w, i32_w]
                                rfl
                              refine one_ (i := 21) (N := some 50) #[true, true, true, true, true, true, true, true, true, true, true, true, true, true, true, true, true, true, true, true, true, true, false] rfl rfl (one_of HT_.out (by kernel_rfl)) (by decide) (fun K hK => ?_)
                              refine Kd.R_append_step k81 (w0 := w) w.heap.size (by rfl) (.tmp 29) (.tmp 49) 46 81 (.agg #[(.int .i64 0), (.int .i64 0)]) 16 rfl Try.underlying46 info81 rfl (by decide) (by omega) u4 x4_2 (⟨t259, t260⟩ : S81) [.int .i64 t259, .int .i64 t260] (fun _ => True) (fun _ => False) rfl rfl ?aP (fun _ hk => hk.elim) ?aF ?aO ?aB ?aS ?aL ?_
                              (case aP => exact k81_mkM _ _ _ (⟨t259, t260⟩ : S81))
                              (case aB => exact (by repeat (first | (with_reducible first | exact HB.out | apply below_alloc | apply pw_below_drewN | apply below_drew1) | exact HB.out)))
                              (case aF => exact (fun _ _ => trivial))
                              (case aO => exact (by (with_reducible repeat (first | apply Kd.R_alloc | apply Kd.R_drewN | apply Kd.R_drew)); exact HO_4.out))
                              (case aS => exact (below_size (by repeat (first | (with_reducible first | exact HB.out | apply below_alloc | apply pw_below_drewN | apply below_drew1) | exact HB.out))))
                              (case aL => have := LMc23.out; omega)
                              intro v262 w25 ho hb hg hat
                              rw [← Ny261.out] at ho
                              have n0_ := Aside0.mk (hb)
                              have n1_ := Aside0.mk (ho)
                              clear HB
                              clear HO_4
                              have HB := n0_
                              have HO263 := n1_
                              clear n0_ n1_
                              clear ho hb hg hat
                              refine hK.out _ _ trivial (fun hHeld => ?_)
                              clear hK K
                              refine norm_ (a' := ?_) ?_ ?_
                              rotate_left
                              · show Act.put _ (some 50) _ = _
                                simp only [Act.put, List.setIfInBounds_toArray, List.set_cons_zero, List.set_cons_succ, i64_w, i32_w]
                                rfl
                              refine pure_ (i := 22) (N := some 4) (v := ?_) (a' := ?_) #[true, true, true, true, true, true, true, true, true, true, true, true, true, true, true, true, true, true, true, true, true, true, true] rfl rfl (any_of HT_.out (by kernel_rfl)) (fun _ _ _ h => h) (Or.inl ⟨by rfl, ?_⟩) ?_ ?_
                              rotate_left
                              · intro w'
                                go_simp
                                first | with_reducible rfl | (rw [if_neg (by (try simp only [ByteArray.size_append, ByteArray.size_extract, decide_eq_true_eq, eq_iff_iff, iff_true, beq_iff_eq] at *); omega)] <;> with_reducible rfl)
                              rotate_left
                              · simp only [Act.put, List.setIfInBounds_toArray, List.set_cons_zero, List.set_cons_succ, i64_w, i32_w]
                                rfl
                              refine done_ (done_of HT_.out (by kernel_rfl)) ?_
                              try go_wp2
                              go_roundg k2
                              case measure => have := HJ1.out; have := HK2.out; omega
                              case rel => exact ⟨(y261), (wrap64 (x5_2 + 1)), (by first | rfl | (simp; done) | (simp [*]; done)), H', ⟨by have := HJ1.out; have := HK2.out; omega⟩, ⟨by (with_reducible repeat (first | apply Kd.R_alloc | apply Kd.R_drewN | apply Kd.R_drew)); exact HO263.out⟩, ⟨by repeat (first | (with_reducible first | exact HB.out | apply below_alloc | apply pw_below_drewN | apply below_drew1) | exact HB.out)⟩⟩
                            · rw [if_neg c23] at H
                              exact absurd H (by simp)
                          · rw [if_neg c21] at H
                            exact absurd H (by simp)
                        · rw [if_neg c20] at H
                          exact absurd H (by simp)
                      · rw [if_neg c19] at H
                        exact absurd H (by simp)
                    · rw [if_neg c16] at H
                      exact absurd H (by simp)
                  · rw [if_neg c15] at H
                    exact absurd H (by simp)
                · rw [if_neg c14] at H
                  exact absurd H (by simp)
              · rw [if_neg c12] at H
                have c12b0 : decide (x5_2 < (wrap64 (bt a0 1))) = false := decide_eq_false c12
                clear c12
                replace H := Option.bind_eq_some_iff.mp H
                obtain ⟨⟨t264, t265⟩, A260, H⟩ := H
                replace H : (if t265 = true then (if t264.toList = a0.toList then (some (x4_2, true)) else (some (([] : List (S81)), false))) else (some (([] : List (S81)), false))) = some (r1, r2) := H
                have A26 := Aside0.mk A260
                clear A260
                by_cases c27 : t265 = true
                · subst c27
                  have H1 : (if t264.toList = a0.toList then (some (x4_2, true)) else (some (([] : List (S81)), false))) = some (r1, r2) := by rw [if_pos rfl] at H; exact H
                  clear H
                  have H := H1
                  clear H1
                  by_cases c28 : t264.toList = a0.toList
                  · rw [if_pos c28] at H
                    have c28b0 : (t264.toList == a0.toList) = true := beq_iff_eq.mpr c28
                    have c28b1 : (t264.toList != a0.toList) = false := bne_eq_false_iff_eq.mpr c28
                    clear c28
                    simp only [Option.some.injEq, Prod.mk.injEq] at H
                    obtain ⟨rfl, rfl⟩ := H
                    have p11 : 0 ≤ (1 : Int) := (by omega)
                    have q11 : 1 < a0.size := (by have : (1 : Int) < (a0.size : Int) := of_decide_eq_true (by first | (with_reducible assumption) | assumption); omega)
                    have hx11 : ∀ h : 1 < a0.size, ((a0[1]'h).toNat : Int) = bt a0 1 := bt_at a0 1
                    clear p11
                    have qi11 : (1 < (a0.size : Int)) = True := eq_true (of_decide_eq_true (by first | (with_reducible assumption) | assumption))
                    replace q11 := eq_true q11
                    obtain ⟨Ao29, co29, eo29⟩ := Kd.R_slice HO_4.out
                    subst eo29
                    go_wp2_with (first | ((with_reducible refine gate_callee (f := 23) rfl ?_); refine goesL_ (some 53) rfl rfl Try.func23 (by kernel_rfl) rfl #[.slice Ao29 x4_2.length co29] rfl (by (try simp only [List.map_toArray, List.map_cons, List.map_nil]); first | done | rfl | (simp only [List.length_drop, List.length_take]; rfl) | (simp only [ByteArray.size_append, Int.natCast_add]; rfl) | (simp [ByteArray.size_append, Int.add_assoc]; done)) ?_; (with_reducible refine (maquetteref13_Index.calls k2 _ _ x4_2 t264 true _ ?side1 ?side2 A26.out).mono ?_); (case side1 => repeat (first | exact (Kd.R_reads' HO_4.out).2.2 | (with_reducible refine Kd.C_alloc ?_ _) | (with_reducible refine Kd.C_drewN ?_ _) | (with_reducible refine Kd.C_drew ?_))); (case side2 => exact (Kd.R_reads' HO_4.out).2.1); rintro e w30 ⟨rfl, hb⟩; refine ⟨_, rfl, ?_⟩; have n0_ := Aside0.mk (Kd.R_below (by (with_reducible repeat (first | apply Kd.R_alloc | apply Kd.R_drewN | apply Kd.R_drew)); exact HO_4.out) hb); have n1_ := Aside0.mk (below_step (by repeat (first | (with_reducible first | exact HB.out | apply below_alloc | apply pw_below_drewN | apply below_drew1) | exact HB.out)) hb); clear HO_4; clear HB; have HO_4 := n0_; have HB := n1_; clear n0_ n1_; (try clear hb); (try clear hb2); (try clear hk); (try clear hi)))
                    go_ret2
                    exact ⟨_, by first | rfl | (simp [errW_none, errW_some] <;> rfl) | (simp [*, errW_none, errW_some] <;> rfl), by (with_reducible repeat (first | apply Kd.R_alloc | apply Kd.R_drewN | apply Kd.R_drew)); exact HO_4.out, by repeat (first | (with_reducible first | exact HB.out | apply below_alloc | apply pw_below_drewN | apply below_drew1) | exact HB.out)⟩
                  · rw [if_neg c28] at H
                    have c28b0 : (t264.toList == a0.toList) = false := beq_eq_false_iff_ne.mpr c28
                    have c28b1 : (t264.toList != a0.toList) = true := bne_iff_ne.mpr c28
                    simp only [Option.some.injEq, Prod.mk.injEq] at H
                    obtain ⟨rfl, rfl⟩ := H
                    have p11 : 0 ≤ (1 : Int) := (by omega)
                    have q11 : 1 < a0.size := (by have : (1 : Int) < (a0.size : Int) := of_decide_eq_true (by first | (with_reducible assumption) | assumption); omega)
                    have hx11 : ∀ h : 1 < a0.size, ((a0[1]'h).toNat : Int) = bt a0 1 := bt_at a0 1
                    clear p11
                    have qi11 : (1 < (a0.size : Int)) = True := eq_true (of_decide_eq_true (by first | (with_reducible assumption) | assumption))
                    replace q11 := eq_true q11
                    obtain ⟨Ao31, co31, eo31⟩ := Kd.R_slice HO_4.out
                    subst eo31
                    go_wp2_with (first | ((with_reducible refine gate_callee (f := 23) rfl ?_); refine goesL_ (some 53) rfl rfl Try.func23 (by kernel_rfl) rfl #[.slice Ao31 x4_2.length co31] rfl (by (try simp only [List.map_toArray, List.map_cons, List.map_nil]); first | done | rfl | (simp only [List.length_drop, List.length_take]; rfl) | (simp only [ByteArray.size_append, Int.natCast_add]; rfl) | (simp [ByteArray.size_append, Int.add_assoc]; done)) ?_; (with_reducible refine (maquetteref13_Index.calls k2 _ _ x4_2 t264 true _ ?side1 ?side2 A26.out).mono ?_); (case side1 => repeat (first | exact (Kd.R_reads' HO_4.out).2.2 | (with_reducible refine Kd.C_alloc ?_ _) | (with_reducible refine Kd.C_drewN ?_ _) | (with_reducible refine Kd.C_drew ?_))); (case side2 => exact (Kd.R_reads' HO_4.out).2.1); rintro e w32 ⟨rfl, hb⟩; refine ⟨_, rfl, ?_⟩; have n0_ := Aside0.mk (Kd.R_below (by (with_reducible repeat (first | apply Kd.R_alloc | apply Kd.R_drewN | apply Kd.R_drew)); exact HO_4.out) hb); have n1_ := Aside0.mk (below_step (by repeat (first | (with_reducible first | exact HB.out | apply below_alloc | apply pw_below_drewN | apply below_drew1) | exact HB.out)) hb); clear HO_4; clear HB; have HO_4 := n0_; have HB := n1_; clear n0_ n1_; (try clear hb); (try clear hb2); (try clear hk); (try clear hi)))
                    go_ret2
                    exact ⟨_, by first | rfl | (simp [errW_none, errW_some] <;> rfl) | (simp [*, errW_none, errW_some] <;> rfl), by first | exact Kd.R_nil _ _ _ _ _ | exact Kd.N_nil _ _ _ _ _ | exact Kd.V_nil _ _ _ _ _ | exact Kd.Q_nil _ _ _ _ _ | exact Kd.S_nil _ _ _ _ _, by repeat (first | (with_reducible first | exact HB.out | apply below_alloc | apply pw_below_drewN | apply below_drew1) | exact HB.out)⟩
                · replace c27 := Bool.eq_false_iff.mpr c27
                  subst c27
                  have H1 : (some (([] : List (S81)), false)) = some (r1, r2) := by rw [if_neg (show ¬ (false = true) by decide)] at H; exact H
                  clear H
                  have H := H1
                  clear H1
                  simp only [Option.some.injEq, Prod.mk.injEq] at H
                  obtain ⟨rfl, rfl⟩ := H
                  have p11 : 0 ≤ (1 : Int) := (by omega)
                  have q11 : 1 < a0.size := (by have : (1 : Int) < (a0.size : Int) := of_decide_eq_true (by first | (with_reducible assumption) | assumption); omega)
                  have hx11 : ∀ h : 1 < a0.size, ((a0[1]'h).toNat : Int) = bt a0 1 := bt_at a0 1
                  clear p11
                  have qi11 : (1 < (a0.size : Int)) = True := eq_true (of_decide_eq_true (by first | (with_reducible assumption) | assumption))
                  replace q11 := eq_true q11
                  obtain ⟨Ao33, co33, eo33⟩ := Kd.R_slice HO_4.out
                  subst eo33
                  go_wp2_with (first | ((with_reducible refine gate_callee (f := 23) rfl ?_); refine goesL_ (some 53) rfl rfl Try.func23 (by kernel_rfl) rfl #[.slice Ao33 x4_2.length co33] rfl (by (try simp only [List.map_toArray, List.map_cons, List.map_nil]); first | done | rfl | (simp only [List.length_drop, List.length_take]; rfl) | (simp only [ByteArray.size_append, Int.natCast_add]; rfl) | (simp [ByteArray.size_append, Int.add_assoc]; done)) ?_; (with_reducible refine (maquetteref13_Index.calls k2 _ _ x4_2 t264 false _ ?side1 ?side2 A26.out).mono ?_); (case side1 => repeat (first | exact (Kd.R_reads' HO_4.out).2.2 | (with_reducible refine Kd.C_alloc ?_ _) | (with_reducible refine Kd.C_drewN ?_ _) | (with_reducible refine Kd.C_drew ?_))); (case side2 => exact (Kd.R_reads' HO_4.out).2.1); rintro e w34 ⟨rfl, hb⟩; refine ⟨_, rfl, ?_⟩; have n0_ := Aside0.mk (Kd.R_below (by (with_reducible repeat (first | apply Kd.R_alloc | apply Kd.R_drewN | apply Kd.R_drew)); exact HO_4.out) hb); have n1_ := Aside0.mk (below_step (by repeat (first | (with_reducible first | exact HB.out | apply below_alloc | apply pw_below_drewN | apply below_drew1) | exact HB.out)) hb); clear HO_4; clear HB; have HO_4 := n0_; have HB := n1_; clear n0_ n1_; (try clear hb); (try clear hb2); (try clear hk); (try clear hi)))
                  go_ret2
                  exact ⟨_, by first | rfl | (simp [errW_none, errW_some] <;> rfl) | (simp [*, errW_none, errW_some] <;> rfl), by first | exact Kd.R_nil _ _ _ _ _ | exact Kd.N_nil _ _ _ _ _ | exact Kd.V_nil _ _ _ _ _ | exact Kd.Q_nil _ _ _ _ _ | exact Kd.S_nil _ _ _ _ _, by repeat (first | (with_reducible first | exact HB.out | apply below_alloc | apply pw_below_drewN | apply below_drew1) | exact HB.out)⟩
            · rw [if_neg c10] at H
              exact absurd H (by simp)
end Go.Proofs.Ytlgmabibcpkdmaa.PAll
end
section
namespace Go.Proofs.Ytlgmabibcpkdmaa.PAll
open Go.RowKit Go.Proofs.YtlgmabibcpkdmaaW.PrintWords Go.Proofs.YtlgmabibcpkdmaaW.PrintLast Go.Proofs.YtlgmabibcpkdmaaW.PrintMore
open Go.Proofs.Ytlgmabibcpkdmaa.V (byI byL byL_length byL_snoc strOf_bytesOf strOf_append okK okP okR ahK idxV idxB idxB_snoc idxA idxB_length lfT lfV lfB lfA lfT_length okR_size all_at fullA zer)
set_option linter.unusedSimpArgs false
set_option linter.unusedVariables false
theorem rd81_map (l : List S41) (i : Int) : rd_T81 (l.map cvS) i = cvS (rd_T41 l i) := by
  unfold rd_T81 rd_T41
  simp only [List.getD, List.getElem?_map]
  cases l[i.toNat]? <;> rfl
def kyS (l : List S41) (i : Int) : Int := (rd_T41 l i).f0
def pgS (l : List S41) (i : Int) : Int := (rd_T41 l i).f1
def stS (l : List S41) (j : Nat) : Bool := okK (kyS l j) (ahK (kyS l) j) && okP (pgS l j)
theorem idxOk_iff (l : List S41) : idxOk l = true ↔ l.length ≤ 21 ∧ ∀ j, j < l.length → stS l j = true := by
  unfold idxOk idxV
  rw [Bool.and_eq_true, decide_eq_true_eq, all_at]
  rfl
theorem ridx_step (l : List S41) (s : ByteArray) (k j : Nat) (hj : j < l.length) (hl : l.length ≤ 1000) (hp : ∀ i : Nat, i < j → okK (kyS l i) (ahK (kyS l) i) = true) :
    maquetteref13_Index.l0 (k + 1) (l.map cvS) s (j : Int) = maquetteref13_Index.j1 k (l.map cvS) s (j : Int) (!(stS l j)) := by
  have hk := key_ahead (kyS l) j hp
  simp only [maquetteref13_Index.l0, List.length_map, rd81_map, rkey_f, rpage_f, Option.bind_some]
  unfold stS
  rw [hk, if_pos (by omega), if_pos (by omega)]
  show (if okQ (kyS l j) = true then (if okP (pgS l j) = true then _ else _) else _) = _
  cases h1 : okQ (kyS l j) with
  | false => rfl
  | true =>
    rw [if_pos rfl]
    cases h2 : okP (pgS l j) with
    | false => rw [if_neg (by decide), Bool.and_false]; rfl
    | true =>
      rw [if_pos rfl]
      by_cases h3 : (j : Int) > 0
      · have hw : wrap64 ((j : Int) - 1) = (j : Int) - 1 := by unfold wrap64; omega
        rw [if_pos h3, hw, if_pos (by omega), if_pos (by omega), decide_eq_true h3]
        show maquetteref13_Index.j1 k (l.map cvS) s (j : Int) (decide (kyS l ((j : Int) - 1) ≥ kyS l j)) = _
        cases decide (kyS l ((j : Int) - 1) ≥ kyS l j) <;> rfl
      · rw [if_neg h3, decide_eq_false h3]; rfl
theorem ridx_j1 (l : List S41) (k j : Nat) (hk : 6 ≤ k) (hj : j < l.length) (hl : l.length ≤ 21) :
    maquetteref13_Index.j1 (k + 1) (l.map cvS) (strOfNums (idxB (kyS l) (pgS l) l.length j)) (j : Int) false = maquetteref13_Index.l0 k (l.map cvS) (strOfNums (idxB (kyS l) (pgS l) l.length (j + 1))) ((j + 1 : Nat) : Int) := by
  simp only [maquetteref13_Index.j1, List.length_map, rd81_map]
  rw [if_neg (by decide), if_pos (by omega), if_pos (by omega), big_k _ 4 (by decide) 4 rfl k (by omega), Option.bind_some, if_pos (by rw [strOfNums_size, strOfNums_size, idxB_length, byL_length]; omega),
    big_k _ 2 (by decide) 2 rfl k (by omega), Option.bind_some, if_pos (by rw [ByteArray.size_append, strOfNums_size, strOfNums_size, strOfNums_size, idxB_length, byL_length, byL_length]; omega),
    strOf_append, strOf_append, show wrap64 ((j : Int) + 1) = ((j + 1 : Nat) : Int) from by unfold wrap64; omega, idxB_snoc, List.append_assoc]
  rfl
theorem ridx_loop (l : List S41) (hl : l.length ≤ 21) (d : Nat) : ∀ (k j : Nat), l.length - j = d → j ≤ l.length → 2 * d + 8 < k → (∀ i : Nat, i < j → stS l i = true) →
    maquetteref13_Index.l0 k (l.map cvS) (strOfNums (idxB (kyS l) (pgS l) l.length j)) (j : Int) = some (idxR l) := by
  induction d with
  | zero =>
    intro k j hd hj hk hp
    obtain ⟨k, rfl⟩ : ∃ m, k = m + 1 := ⟨k - 1, by omega⟩
    have e : j = l.length := by omega
    subst e
    simp only [maquetteref13_Index.l0]
    rw [if_neg (by rw [List.length_map]; omega), fill_k _ (by rw [idxB_length]; omega), Option.bind_some]
    unfold idxR
    rw [if_pos ((idxOk_iff l).2 ⟨hl, hp⟩), ← idxL_is]
    rfl
  | succ d ih =>
    intro k j hd hj hk hp
    obtain ⟨k, rfl⟩ : ∃ m, k = m + 2 := ⟨k - 2, by omega⟩
    rw [ridx_step l _ (k + 1) j (by omega) (by omega) (fun i hi => by have := hp i hi; unfold stS at this; rw [Bool.and_eq_true] at this; exact this.1)]
    cases h : stS l j with
    | false =>
      show maquetteref13_Index.j1 (k + 1) (l.map cvS) _ (j : Int) true = _
      simp only [maquetteref13_Index.j1]
      rw [if_pos trivial]
      unfold idxR
      rw [if_neg (fun h2 => by have := ((idxOk_iff l).1 h2).2 j (by omega); rw [h] at this; cases this)]
    | true =>
      show maquetteref13_Index.j1 (k + 1) (l.map cvS) _ (j : Int) false = _
      rw [ridx_j1 l k j (by omega) (by omega) hl]
      refine ih k (j + 1) (by omega) (by omega) (by omega) (fun i hi => ?_)
      by_cases hi2 : i = j
      · rw [hi2]; exact h
      · exact hp i (by omega)
theorem ridx_k (l : List S41) (k : Nat) (hk : 60 ≤ k) : maquetteref13_Index.f k (l.map cvS) = some (idxR l) := by
  unfold maquetteref13_Index.f
  rw [List.length_map]
  by_cases h : l.length ≤ 21
  · rw [if_neg (by omega), big_k _ 1 (by decide) 1 rfl k (by omega), Option.bind_some, if_pos (by rw [strOfNums_size, byL_length]; decide), lit73, strOf_append]
    have := ridx_loop l h l.length k 0 (by omega) (by omega) (by omega) (fun i hi => by omega)
    rw [show idxB (kyS l) (pgS l) l.length 0 = [73] ++ byL (l.length : Int) 1 1 by rw [byL1]; rfl] at this
    exact this
  · rw [if_pos (by omega)]
    unfold idxR
    rw [if_neg (fun h2 => h ((idxOk_iff l).1 h2).1)]
def gS (L : List Int) (j : Nat) : S41 := ⟨rdV ((L.drop (2 + 6 * j)).take 4), rdV ((L.drop (6 + 6 * j)).take 2)⟩
def finS (a : ByteArray) (l : List S41) : List S81 × Bool := if (idxOk l && decide (strOfNums (pad (idxL l)) = a)) = true then (l.map cvS, true) else ([], false)
theorem rslots_end (a : ByteArray) (l : List S41) (k : Nat) (hk : 60 ≤ k) :
    ((maquetteref13_Index.f k (l.map cvS)).bind fun bt264 => (if bt264.2 = true then (if bt264.1.toList = a.toList then (some (l.map cvS, true)) else (some (([] : List (S81)), false))) else (some (([] : List (S81)), false)))) = some (finS a l) := by
  rw [ridx_k l k hk, Option.bind_some]
  unfold finS idxR
  cases h : idxOk l with
  | false => rfl
  | true =>
    rw [if_pos rfl, if_pos rfl]
    by_cases h2 : strOfNums (pad (idxL l)) = a
    · rw [if_pos (toList_inj_iff.2 h2), decide_eq_true h2]; rfl
    · rw [if_neg (fun h3 => h2 (toList_inj_iff.1 h3)), decide_eq_false h2]; rfl
theorem rslots_loop {L : List Int} (hL : okB L) (hl : L.length = 128) (n : Nat) (hn : rd L 1 = n) (hn2 : n ≤ 21) (d : Nat) : ∀ (k j : Nat), n - j = d → j ≤ n → d + 200 < k →
    maquetteref13_Slots.l0 k (strOfNums L) (((List.range j).map (gS L)).map cvS) (j : Int) = some (finS (strOfNums L) ((List.range n).map (gS L))) := by
  have hb : wrap64 (bt (strOfNums L) 1) = (n : Int) := by rw [bt_strOf hL, hn]; unfold wrap64; omega
  induction d with
  | zero =>
    intro k j hd hj hk
    obtain ⟨k, rfl⟩ : ∃ m, k = m + 1 := ⟨k - 1, by omega⟩
    have e : j = n := by omega
    subst e
    simp only [maquetteref13_Slots.l0]
    rw [if_pos (by rw [strOfNums_size, hl]; decide), hb, if_neg (by omega)]
    exact rslots_end _ _ k (by omega)
  | succ d ih =>
    intro k j hd hj hk
    obtain ⟨k, rfl⟩ : ∃ m, k = m + 1 := ⟨k - 1, by omega⟩
    simp only [maquetteref13_Slots.l0]
    have w2 : wrap64 (2 + wrap64 (6 * (j : Int))) = ((2 + 6 * j : Nat) : Int) := by rw [wrap64_id (x := 6 * (j : Int)) (by omega) (by omega), wrap64_id (by omega) (by omega)]; omega
    have w6 : wrap64 (6 + wrap64 (6 * (j : Int))) = ((6 + 6 * j : Nat) : Int) := by rw [wrap64_id (x := 6 * (j : Int)) (by omega) (by omega), wrap64_id (by omega) (by omega)]; omega
    have w8 : wrap64 (8 + wrap64 (6 * (j : Int))) = ((8 + 6 * j : Nat) : Int) := by rw [wrap64_id (x := 6 * (j : Int)) (by omega) (by omega), wrap64_id (by omega) (by omega)]; omega
    have hsz : ((strOfNums L).size : Int) = 128 := by rw [strOfNums_size, hl]; rfl
    rw [hsz, hb, w2, w6, w8, if_pos (by omega), if_pos (by omega), if_pos (by omega), if_pos (by omega), if_pos (by omega), Int.toNat_natCast, Int.toNat_natCast, Int.toNat_natCast,
      of_at hL _ _ (by omega) k (by omega), Option.bind_some, if_pos (by omega), if_pos (by omega), if_pos (by omega), of_at hL _ _ (by omega) k (by omega), Option.bind_some,
      if_pos (by rw [List.length_map, List.length_map, List.length_range]; omega), show 6 + 6 * j - (2 + 6 * j) = 4 by omega, show 8 + 6 * j - (6 + 6 * j) = 2 by omega,
      show wrap64 ((j : Int) + 1) = ((j + 1 : Nat) : Int) from by unfold wrap64; omega]
    have h := ih k (j + 1) (by omega) (by omega) (by omega)
    rw [List.range_succ, List.map_append, List.map_append] at h
    exact h
theorem rslots_f {L : List Int} (hL : okB L) (k : Nat) (hk : 300 ≤ k) : maquetteref13_Slots.f k (strOfNums L) = some (if L.length = 128 ∧ rd L 0 = 73 ∧ rd L 1 ≤ 21 then finS (strOfNums L) ((List.range (rd L 1).toNat).map (gS L)) else ([], false)) := by
  obtain ⟨k, rfl⟩ : ∃ m, k = m + 1 := ⟨k - 1, by omega⟩
  unfold maquetteref13_Slots.f
  have hj : ∀ b, maquetteref13_Slots.j0 (k + 1) (strOfNums L) b = if b = true then some ([], false) else maquetteref13_Slots.l0 k (strOfNums L) [] 0 := fun b => by simp only [maquetteref13_Slots.j0]
  rw [strOfNums_size, bt_strOf hL, bt_strOf hL]
  by_cases h0 : L.length = 128
  · rw [if_pos (by omega), if_pos (by omega)]
    by_cases h1 : rd L 0 = 73
    · have hr : 0 ≤ rd L 1 ∧ rd L 1 < 256 := rd_range2 hL 1
      rw [if_pos h1, if_pos (by omega), hj, show wrap64 (rd L 1) = rd L 1 by unfold wrap64; omega]
      by_cases h2 : rd L 1 ≤ 21
      · rw [decide_eq_false (by omega), if_neg (by decide), if_pos ⟨h0, h1, h2⟩]
        exact rslots_loop hL h0 (rd L 1).toNat (by omega) (by omega) _ k 0 rfl (by omega) (by omega)
      · rw [decide_eq_true (by omega), if_pos rfl, if_neg (by omega)]
    · rw [if_neg h1, hj, if_pos rfl, if_neg (by omega)]
  · rw [if_neg (by omega), hj, if_pos rfl, if_neg (by omega)]
theorem flat_drop (l : List S41) (R : List Int) : ∀ j, (h : j < l.length) → ∃ Z, ((l.map encS).flatten ++ R).drop (6 * j) = encS l[j] ++ Z := by
  induction l with
  | nil => intro j h; cases h
  | cons x t ih =>
    intro j h
    cases j with
    | zero => exact ⟨(t.map encS).flatten ++ R, by simp [List.append_assoc]⟩
    | succ j =>
      obtain ⟨Z, e⟩ := ih j (by simpa using h)
      refine ⟨Z, ?_⟩
      have hl6 : (encS x).length = 6 := by unfold encS; rw [List.length_append, byL_length, byL_length]
      rw [List.map_cons, List.flatten_cons, List.append_assoc, List.drop_append, List.drop_of_length_le (by omega), hl6, show 6 * (j + 1) - 6 = 6 * j by omega, List.nil_append, e]
      rfl
theorem gS_at {l : List S41} (h : idxOk l = true) (j : Nat) (hj : j < l.length) : gS (pad (idxL l)) j = l[j] := by
  obtain ⟨hn, hs⟩ := (idxOk_iff l).1 h
  have hst := hs j hj
  unfold stS at hst
  rw [Bool.and_eq_true] at hst
  have hk := keys_pos (Ky := kyS l) (n := l.length) (fun i hi => by have := hs i hi; unfold stS at this; rw [Bool.and_eq_true] at this; exact this.1) j hj
  have hp := okP_range hst.2
  have e0 : kyS l (j : Int) = l[j].f0 := by unfold kyS; rw [rd41_at hj]
  have e1 : pgS l (j : Int) = l[j].f1 := by unfold pgS; rw [rd41_at hj]
  rw [e0] at hk; rw [e1] at hp
  obtain ⟨Z, e⟩ := flat_drop l (List.replicate (128 - (idxL l).length) 0) j hj
  have e2 : (pad (idxL l)).drop (2 + 6 * j) = encS l[j] ++ Z := by
    rw [← e]
    unfold pad
    show (([73, (l.length : Int) % 256] ++ (l.map encS).flatten) ++ _).drop (2 + 6 * j) = _
    rw [List.append_assoc, List.drop_append, List.drop_of_length_le (by simp), show 2 + 6 * j - ([73, (l.length : Int) % 256] : List Int).length = 6 * j by simp, List.nil_append]
  have e3 : (pad (idxL l)).drop (6 + 6 * j) = byL l[j].f1 2 2 ++ Z := by
    rw [show 6 + 6 * j = (2 + 6 * j) + 4 by omega, ← List.drop_drop, e2]
    unfold encS
    rw [List.append_assoc, List.drop_left' (byL_length _ _ _)]
  unfold gS
  rw [e2, e3, List.take_left' (byL_length _ _ _)]
  unfold encS
  rw [List.append_assoc, List.take_left' (byL_length _ _ _)]
  have r4 := rdV4 (x := l[j].f0) (by omega) (by omega)
  have r2 := rdV2 (x := l[j].f1) (by omega) (by omega)
  show S41.mk (rdV (byL l[j].f0 4 4)) (rdV (byL l[j].f1 2 2)) = l[j]
  rw [r4, r2]
theorem gS_all {l : List S41} (h : idxOk l = true) : (List.range l.length).map (gS (pad (idxL l))) = l := by
  apply List.ext_getElem
  · rw [List.length_map, List.length_range]
  · intro i h1 h2
    rw [List.getElem_map, List.getElem_range, gS_at h]
theorem slots_same (a : ByteArray) : ∃ s : List S41 × Bool, (∀ k, 300 ≤ k → sheet_Slots.f k a = some s) ∧ (∀ k, 300 ≤ k → maquetteref13_Slots.f k a = some (s.1.map cvS, s.2)) := by
  by_cases h : ∃ l, idxOk l = true ∧ strOfNums (pad (idxL l)) = a
  · obtain ⟨l, h1, h2⟩ := h
    refine ⟨(l, true), fun k hk => by rw [← h2]; exact slots_back h1 k hk, fun k hk => ?_⟩
    have hn := ((idxOk_iff l).1 h1).1
    have hL := okB_pad (okB_idxL l)
    rw [← h2, rslots_f hL k hk]
    have r1 : rd (pad (idxL l)) 1 = l.length := by
      show (l.length : Int) % 256 = _
      omega
    rw [if_pos ⟨pad_length (by rw [idxL_length]; omega), rfl, by rw [r1]; omega⟩, r1, Int.toNat_natCast, gS_all h1]
    unfold finS
    rw [h1, decide_eq_true rfl]; rfl
  · obtain ⟨bad, l, e⟩ := slots_ex a
    have e2 : slotsFin a bad l = ([], false) := by
      unfold slotsFin
      rw [if_neg]
      intro hc
      rw [Bool.and_eq_true, Bool.and_eq_true, decide_eq_true_eq] at hc
      exact h ⟨l, hc.2.1, hc.2.2⟩
    refine ⟨([], false), fun k hk => by rw [e k hk, e2], fun k hk => ?_⟩
    have hs := rslots_f (okB_bytesOf a) k hk
    rw [strOf_bytesOf] at hs
    rw [hs]
    split
    · unfold finS
      rw [if_neg]
      · rfl
      · intro hc
        rw [Bool.and_eq_true, decide_eq_true_eq] at hc
        exact h ⟨_, hc.1, hc.2⟩
    · rfl
end Go.Proofs.Ytlgmabibcpkdmaa.PAll
end
