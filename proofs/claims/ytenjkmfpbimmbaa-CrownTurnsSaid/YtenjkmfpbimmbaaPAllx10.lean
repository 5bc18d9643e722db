-- Written by a program of this session, in the manner of the kit's print; it is not the kit's own print.
import Derived.Test.YtenjkmfpbimmbaaPAllx0
import Derived.Test.YtenjkmfpbimmbaaPAllx2
import Derived.Test.YtenjkmfpbimmbaaPAllx4
namespace Go.Proofs.Ytenjkmfpbimmbaa.PAll
open Go.RowKit Go.Proofs.YtenjkmfpbimmbaaW.PrintWords Go.Proofs.YtenjkmfpbimmbaaW.PrintLast Go.Proofs.YtenjkmfpbimmbaaW.PrintMore
attribute [local go_sem] max2_int min2_int max_two min_two max_three min_three max_four min_four   -- for this text's walks alone
set_option linter.unusedVariables false
set_option linter.unusedSimpArgs false

/-! ### maquettelaw14_CrownTurns: function 5 -/
mutual
def maquettelaw14_CrownTurns.j0 : Nat → Int → Int → Int → ByteArray → Bool → Option (Bool)
  | 0, _, _, _, _, _ => none
  | k + 1, x0, x1, x2, x7, x41 => if x41 = true then ((maquettelaw14_alive.f k).bind fun t223 => (some t223)) else ((crown_Put.f k (wrap64 (x0 + 1)) x1 x2).bind fun bt224 => ((crown_Pick.f k x7 bt224.1).bind fun bt226 => ((crown_Pick.f k bt224.1 x7).bind fun bt232 => ((maquetteref13_Zeros.f 128).bind fun t238 => ((crown_Pick.f k t238 x7).bind fun bt239 => ((crown_Pick.f k t238 t238).bind fun bt245 => (if bt224.2 = true then (if bt226.2.2.2.2 = true then (if bt232.2.2.2.2 = true then (if bt226.1 = (wrap64 (x0 + 1)) then (if bt226.2.2.2.1 = 1 then (if bt232.1 = (wrap64 (x0 + 1)) then (if bt232.2.2.2.1 = 0 then (if bt239.2.2.2.2 = true then (if bt239.1 = x0 then (if bt239.2.2.2.1 = 1 then (if bt245.2.2.2.2 = true then (maquettelaw14_CrownTurns.j1 k false) else ((crown_Slot.f x0).bind fun t251 => ((crown_Slot.f (wrap64 (x0 + 1))).bind fun t252 => (maquettelaw14_CrownTurns.j1 k (t251 != t252))))) else (maquettelaw14_CrownTurns.j1 k false)) else (maquettelaw14_CrownTurns.j1 k false)) else (maquettelaw14_CrownTurns.j1 k false)) else (maquettelaw14_CrownTurns.j1 k false)) else (maquettelaw14_CrownTurns.j1 k false)) else (maquettelaw14_CrownTurns.j1 k false)) else (maquettelaw14_CrownTurns.j1 k false)) else (maquettelaw14_CrownTurns.j1 k false)) else (maquettelaw14_CrownTurns.j1 k false)) else (maquettelaw14_CrownTurns.j1 k false))))))))
def maquettelaw14_CrownTurns.j1 : Nat → Bool → Option (Bool)
  | 0, _ => none
  | k + 1, x6 => some x6
end
def maquettelaw14_CrownTurns.f (k : Nat) (a0 : Int) (a1 : Int) (a2 : Int) : Option (Bool) := (crown_Put.f k a0 a1 a2).bind fun bt220 => (if bt220.2 = true then (if a0 ≥ 4611686018427387904 then (maquettelaw14_CrownTurns.j0 k a0 a1 a2 bt220.1 true) else ((maquettelaw14_alive.f k).bind fun t222 => (maquettelaw14_CrownTurns.j0 k a0 a1 a2 bt220.1 (!t222)))) else (maquettelaw14_CrownTurns.j0 k a0 a1 a2 bt220.1 true))
theorem maquettelaw14_CrownTurns.mono_l : ∀ k, (∀ y0 y1 y2 y3 y4, LeO (maquettelaw14_CrownTurns.j0 k y0 y1 y2 y3 y4) (maquettelaw14_CrownTurns.j0 (k + 1) y0 y1 y2 y3 y4)) ∧ (∀ y0, LeO (maquettelaw14_CrownTurns.j1 k y0) (maquettelaw14_CrownTurns.j1 (k + 1) y0))
  | 0 => ⟨fun _ _ _ _ _ r h => by simp [maquettelaw14_CrownTurns.j0] at h, fun _ r h => by simp [maquettelaw14_CrownTurns.j1] at h⟩
  | k + 1 => by
    obtain ⟨ih0, ih1⟩ := maquettelaw14_CrownTurns.mono_l k
    refine ⟨?_, ?_⟩
    · intro y0 y1 y2 y3 y4
      unfold maquettelaw14_CrownTurns.j0
      repeat' first
      | (with_reducible exact ih0 _ _ _ _ _)
      | (with_reducible exact ih1 _)
      | (with_reducible exact crown_Pick.mono _ _ _)
      | (with_reducible exact crown_Put.mono _ _ _ _)
      | (with_reducible exact maquettelaw14_alive.mono _)
      | (with_reducible exact LeO.refl _)
      | (with_reducible exact LeO.none _)
      | (with_reducible refine LeO.ite ?_ ?_)
      | (with_reducible refine LeO.bind ?_ (fun _ => ?_))
      | exact ih0 _ _ _ _ _
      | exact ih1 _
      | exact crown_Pick.mono _ _ _
      | exact crown_Put.mono _ _ _ _
      | exact maquettelaw14_alive.mono _
      | exact LeO.none _
      | refine LeO.ite ?_ ?_
      | refine LeO.bind ?_ (fun _ => ?_)
    · intro y0
      unfold maquettelaw14_CrownTurns.j1
      repeat' first
      | (with_reducible exact ih0 _ _ _ _ _)
      | (with_reducible exact ih1 _)
      | (with_reducible exact crown_Pick.mono _ _ _)
      | (with_reducible exact crown_Put.mono _ _ _ _)
      | (with_reducible exact maquettelaw14_alive.mono _)
      | (with_reducible exact LeO.refl _)
      | (with_reducible exact LeO.none _)
      | (with_reducible refine LeO.ite ?_ ?_)
      | (with_reducible refine LeO.bind ?_ (fun _ => ?_))
      | exact ih0 _ _ _ _ _
      | exact ih1 _
      | exact crown_Pick.mono _ _ _
      | exact crown_Put.mono _ _ _ _
      | exact maquettelaw14_alive.mono _
      | exact LeO.none _
      | refine LeO.ite ?_ ?_
      | refine LeO.bind ?_ (fun _ => ?_)
theorem maquettelaw14_CrownTurns.mono : ∀ a0 a1 a2 k, LeO (maquettelaw14_CrownTurns.f k a0 a1 a2) (maquettelaw14_CrownTurns.f (k + 1) a0 a1 a2) := by
  intro a0 a1 a2 k
  obtain ⟨ih0, ih1⟩ := maquettelaw14_CrownTurns.mono_l k
  unfold maquettelaw14_CrownTurns.f
  repeat' first
      | (with_reducible exact ih0 _ _ _ _ _)
      | (with_reducible exact ih1 _)
      | (with_reducible exact crown_Pick.mono _ _ _)
      | (with_reducible exact crown_Put.mono _ _ _ _)
      | (with_reducible exact maquettelaw14_alive.mono _)
      | (with_reducible exact LeO.refl _)
      | (with_reducible exact LeO.none _)
      | (with_reducible refine LeO.ite ?_ ?_)
      | (with_reducible refine LeO.bind ?_ (fun _ => ?_))
      | exact ih0 _ _ _ _ _
      | exact ih1 _
      | exact crown_Pick.mono _ _ _
      | exact crown_Put.mono _ _ _ _
      | exact maquettelaw14_alive.mono _
      | exact LeO.none _
      | refine LeO.ite ?_ ?_
      | refine LeO.bind ?_ (fun _ => ?_)
set_option maxHeartbeats 8000000 in
set_option maxRecDepth 100000 in
theorem maquettelaw14_CrownTurns.calls (k : Nat) (a0 : Int) (a1 : Int) (a2 : Int) (r : Bool) (w : World) (h : maquettelaw14_CrownTurns.f k a0 a1 a2 = some r) :
    Calls Try.prog 5 #[.int .i64 a0, .int .i64 a1, .int .i64 a2] w fun e w' => e = .returned (.bool r) ∧ Below w.heap.size w w' := by
  have hu23 := Try.underlying23
  have HB := Aside0.mk (Below.refl w.heap.size w)
  have H : ((crown_Put.f k a0 a1 a2).bind fun bt220 => (if bt220.2 = true then (if a0 ≥ 4611686018427387904 then (maquettelaw14_CrownTurns.j0 k a0 a1 a2 bt220.1 true) else ((maquettelaw14_alive.f k).bind fun t222 => (maquettelaw14_CrownTurns.j0 k a0 a1 a2 bt220.1 (!t222)))) else (maquettelaw14_CrownTurns.j0 k a0 a1 a2 bt220.1 true))) = some r := h
  clear h
  replace H := Option.bind_eq_some_iff.mp H
  obtain ⟨⟨t220, t221⟩, A40, H⟩ := H
  replace H : (if t221 = true then (if a0 ≥ 4611686018427387904 then (maquettelaw14_CrownTurns.j0 k a0 a1 a2 t220 true) else ((maquettelaw14_alive.f k).bind fun t222 => (maquettelaw14_CrownTurns.j0 k a0 a1 a2 t220 (!t222)))) else (maquettelaw14_CrownTurns.j0 k a0 a1 a2 t220 true)) = some r := H
  have A4 := Aside0.mk A40
  clear A40
  have HC5 := Aside0.mk H
  clear H
  go_enter Try.func5, Try.ntmps5
  go_upto_region 2 with (first | ((with_reducible refine gate_callee (f := 10) rfl ?_); refine goesL_ (some 29) rfl rfl Try.func10 (by kernel_rfl) rfl #[.agg #[.int .i64 a0, .int .i64 a1, .int .i64 a2]] rfl (by (try simp only [List.map_toArray, List.map_cons, List.map_nil]); first | done | rfl | (simp only [List.length_drop, List.length_take]; rfl) | (simp only [ByteArray.size_append, Int.natCast_add]; rfl) | (simp [ByteArray.size_append, Int.add_assoc]; done)) ?_; (with_reducible refine (crown_Put.calls k a0 a1 a2 t220 t221 _ A4.out).mono ?_); rintro e w6 ⟨rfl, hb⟩; refine ⟨_, rfl, ?_⟩; have n0_ := Aside0.mk (below_step (by repeat (first | (with_reducible first | exact HB.out | apply below_alloc | apply pw_below_drewN | apply below_drew1) | exact HB.out)) hb); clear HB; have HB := n0_; clear n0_; (try clear hb); (try clear hb2); (try clear hk); (try clear hi)))
  (try simp only [Act.put, List.setIfInBounds_toArray, List.set_cons_zero, List.set_cons_succ])
  go_cut [41] (fun v41 wc => ∃ (kq : Nat) (x41_4 : Bool), v41 = .bool x41_4 ∧ Aside0 (maquettelaw14_CrownTurns.j0 kq a0 a1 a2 t220 x41_4 = some r) ∧ Aside0 (kq ≤ k) ∧ Aside0 (Below w.heap.size w wc))
  case first =>
    have H := HC5.out
    clear HC5
    by_cases c7 : t221 = true
    · subst c7
      have H1 : (if a0 ≥ 4611686018427387904 then (maquettelaw14_CrownTurns.j0 k a0 a1 a2 t220 true) else ((maquettelaw14_alive.f k).bind fun t222 => (maquettelaw14_CrownTurns.j0 k a0 a1 a2 t220 (!t222)))) = some r := by rw [if_pos rfl] at H; exact H
      clear H
      have H := H1
      clear H1
      by_cases c8 : a0 ≥ 4611686018427387904
      · rw [if_pos c8] at H
        have c8b0 : decide (4611686018427387904 ≤ a0) = true := decide_eq_true c8
        clear c8
        (first | rw [c8b0] | (simp only [i64_w, i32_w]; rw [c8b0]) | skip)
        have H' := Aside0.mk H
        clear H
        go_wp2
        go_meet
        case rel => exact ⟨_, (true), (by first | rfl | (simp; done) | (simp [*]; done)), H', ⟨by first | omega | exact Nat.le_refl _⟩, ⟨by repeat (first | (with_reducible first | exact HB.out | apply below_alloc | apply pw_below_drewN | apply below_drew1) | exact HB.out)⟩⟩
      · rw [if_neg c8] at H
        have c8b0 : decide (4611686018427387904 ≤ a0) = false := decide_eq_false c8
        clear c8
        (first | rw [c8b0] | (simp only [i64_w, i32_w]; rw [c8b0]) | skip)
        replace H := Option.bind_eq_some_iff.mp H
        obtain ⟨t222, A90, H⟩ := H
        replace H : (maquettelaw14_CrownTurns.j0 k a0 a1 a2 t220 (!t222)) = some r := H
        have A9 := Aside0.mk A90
        clear A90
        have H' := Aside0.mk H
        clear H
        go_wp2_with (first | (go_at_call 9; (with_reducible refine (maquettelaw14_alive.calls k  t222 _ A9.out).mono ?_); rintro e w10 ⟨rfl, hb⟩; have n0_ := Aside0.mk (below_step (by repeat (first | (with_reducible first | exact HB.out | apply below_alloc | apply pw_below_drewN | apply below_drew1) | exact HB.out)) hb); clear HB; have HB := n0_; clear n0_; (try clear hb); (try clear hb2); (try clear hk); (try clear hi)))
        go_meet
        case rel => exact ⟨_, (!t222), (by first | rfl | (simp; done) | (simp [*]; done)), H', ⟨by first | omega | exact Nat.le_refl _⟩, ⟨by repeat (first | (with_reducible first | exact HB.out | apply below_alloc | apply pw_below_drewN | apply below_drew1) | exact HB.out)⟩⟩
    · replace c7 := Bool.eq_false_iff.mpr c7
      subst c7
      have H1 : (maquettelaw14_CrownTurns.j0 k a0 a1 a2 t220 true) = some r := by rw [if_neg (show ¬ (false = true) by decide)] at H; exact H
      clear H
      have H := H1
      clear H1
      have H' := Aside0.mk H
      clear H
      go_wp2
      go_meet
      case rel => exact ⟨_, (true), (by first | rfl | (simp; done) | (simp [*]; done)), H', ⟨by first | omega | exact Nat.le_refl _⟩, ⟨by repeat (first | (with_reducible first | exact HB.out | apply below_alloc | apply pw_below_drewN | apply below_drew1) | exact HB.out)⟩⟩
  case rest =>
    clear HC5
    try clear c1
    try clear p2
    try clear c5
    try clear c7
    try clear c8
    try clear c8b0
    try clear c10
    obtain ⟨kq, x41_4, rfl, HA, HJ4, HB⟩ := hcut
    cases kq with
    | zero => exact absurd HA.out (by simp [maquettelaw14_CrownTurns.j0])
    | succ kj4 =>
      have H := HA.out
      clear HA
      simp only [maquettelaw14_CrownTurns.j0] at H
      by_cases c11 : x41_4 = true
      · subst c11
        have H1 : ((maquettelaw14_alive.f kj4).bind fun t223 => (some t223)) = some r := by rw [if_pos rfl] at H; exact H
        clear H
        have H := H1
        clear H1
        replace H := Option.bind_eq_some_iff.mp H
        obtain ⟨t223, A120, H⟩ := H
        replace H : (some t223) = some r := H
        have A12 := Aside0.mk A120
        clear A120
        obtain rfl := Option.some.inj H
        go_wp2_with (first | ((with_reducible refine gate_callee (f := 9) rfl ?_); refine goesL_ (some 42) rfl rfl Try.func9 (by kernel_rfl) rfl #[] rfl (by (try simp only [List.map_toArray, List.map_cons, List.map_nil]); first | done | rfl | (simp only [List.length_drop, List.length_take]; rfl) | (simp only [ByteArray.size_append, Int.natCast_add]; rfl) | (simp [ByteArray.size_append, Int.add_assoc]; done)) ?_; (with_reducible refine (maquettelaw14_alive.calls kj4  t223 _ A12.out).mono ?_); rintro e w13 ⟨rfl, hb⟩; refine ⟨_, rfl, ?_⟩; have n0_ := Aside0.mk (below_step (by repeat (first | (with_reducible first | exact HB.out | apply below_alloc | apply pw_below_drewN | apply below_drew1) | exact HB.out)) hb); clear HB; have HB := n0_; clear n0_; (try clear hb); (try clear hb2); (try clear hk); (try clear hi)))
        go_ret
        exact ⟨by first | rfl | (simp [errW_none, errW_some] <;> rfl) | (simp [*, errW_none, errW_some] <;> rfl), by repeat (first | (with_reducible first | exact HB.out | apply below_alloc | apply pw_below_drewN | apply below_drew1) | exact HB.out)⟩
      · replace c11 := Bool.eq_false_iff.mpr c11
        subst c11
        have H1 : ((crown_Put.f kj4 (wrap64 (a0 + 1)) a1 a2).bind fun bt224 => ((crown_Pick.f kj4 t220 bt224.1).bind fun bt226 => ((crown_Pick.f kj4 bt224.1 t220).bind fun bt232 => ((maquetteref13_Zeros.f 128).bind fun t238 => ((crown_Pick.f kj4 t238 t220).bind fun bt239 => ((crown_Pick.f kj4 t238 t238).bind fun bt245 => (if bt224.2 = true then (if bt226.2.2.2.2 = true then (if bt232.2.2.2.2 = true then (if bt226.1 = (wrap64 (a0 + 1)) then (if bt226.2.2.2.1 = 1 then (if bt232.1 = (wrap64 (a0 + 1)) then (if bt232.2.2.2.1 = 0 then (if bt239.2.2.2.2 = true then (if bt239.1 = a0 then (if bt239.2.2.2.1 = 1 then (if bt245.2.2.2.2 = true then (maquettelaw14_CrownTurns.j1 kj4 false) else ((crown_Slot.f a0).bind fun t251 => ((crown_Slot.f (wrap64 (a0 + 1))).bind fun t252 => (maquettelaw14_CrownTurns.j1 kj4 (t251 != t252))))) else (maquettelaw14_CrownTurns.j1 kj4 false)) else (maquettelaw14_CrownTurns.j1 kj4 false)) else (maquettelaw14_CrownTurns.j1 kj4 false)) else (maquettelaw14_CrownTurns.j1 kj4 false)) else (maquettelaw14_CrownTurns.j1 kj4 false)) else (maquettelaw14_CrownTurns.j1 kj4 false)) else (maquettelaw14_CrownTurns.j1 kj4 false)) else (maquettelaw14_CrownTurns.j1 kj4 false)) else (maquettelaw14_CrownTurns.j1 kj4 false)) else (maquettelaw14_CrownTurns.j1 kj4 false)))))))) = some r := by rw [if_neg (show ¬ (false = true) by decide)] at H; exact H
        clear H
        have H := H1
        clear H1
        replace H := Option.bind_eq_some_iff.mp H
        obtain ⟨⟨t224, t225⟩, A140, H⟩ := H
        replace H : ((crown_Pick.f kj4 t220 t224).bind fun bt226 => ((crown_Pick.f kj4 t224 t220).bind fun bt232 => ((maquetteref13_Zeros.f 128).bind fun t238 => ((crown_Pick.f kj4 t238 t220).bind fun bt239 => ((crown_Pick.f kj4 t238 t238).bind fun bt245 => (if t225 = true then (if bt226.2.2.2.2 = true then (if bt232.2.2.2.2 = true then (if bt226.1 = (wrap64 (a0 + 1)) then (if bt226.2.2.2.1 = 1 then (if bt232.1 = (wrap64 (a0 + 1)) then (if bt232.2.2.2.1 = 0 then (if bt239.2.2.2.2 = true then (if bt239.1 = a0 then (if bt239.2.2.2.1 = 1 then (if bt245.2.2.2.2 = true then (maquettelaw14_CrownTurns.j1 kj4 false) else ((crown_Slot.f a0).bind fun t251 => ((crown_Slot.f (wrap64 (a0 + 1))).bind fun t252 => (maquettelaw14_CrownTurns.j1 kj4 (t251 != t252))))) else (maquettelaw14_CrownTurns.j1 kj4 false)) else (maquettelaw14_CrownTurns.j1 kj4 false)) else (maquettelaw14_CrownTurns.j1 kj4 false)) else (maquettelaw14_CrownTurns.j1 kj4 false)) else (maquettelaw14_CrownTurns.j1 kj4 false)) else (maquettelaw14_CrownTurns.j1 kj4 false)) else (maquettelaw14_CrownTurns.j1 kj4 false)) else (maquettelaw14_CrownTurns.j1 kj4 false)) else (maquettelaw14_CrownTurns.j1 kj4 false)) else (maquettelaw14_CrownTurns.j1 kj4 false))))))) = some r := H
        have A14 := Aside0.mk A140
        clear A140
        replace H := Option.bind_eq_some_iff.mp H
        obtain ⟨⟨t226, t227, t228, t229, t230⟩, A150, H⟩ := H
        replace H : ((crown_Pick.f kj4 t224 t220).bind fun bt232 => ((maquetteref13_Zeros.f 128).bind fun t238 => ((crown_Pick.f kj4 t238 t220).bind fun bt239 => ((crown_Pick.f kj4 t238 t238).bind fun bt245 => (if t225 = true then (if t230 = true then (if bt232.2.2.2.2 = true then (if t226 = (wrap64 (a0 + 1)) then (if t229 = 1 then (if bt232.1 = (wrap64 (a0 + 1)) then (if bt232.2.2.2.1 = 0 then (if bt239.2.2.2.2 = true then (if bt239.1 = a0 then (if bt239.2.2.2.1 = 1 then (if bt245.2.2.2.2 = true then (maquettelaw14_CrownTurns.j1 kj4 false) else ((crown_Slot.f a0).bind fun t251 => ((crown_Slot.f (wrap64 (a0 + 1))).bind fun t252 => (maquettelaw14_CrownTurns.j1 kj4 (t251 != t252))))) else (maquettelaw14_CrownTurns.j1 kj4 false)) else (maquettelaw14_CrownTurns.j1 kj4 false)) else (maquettelaw14_CrownTurns.j1 kj4 false)) else (maquettelaw14_CrownTurns.j1 kj4 false)) else (maquettelaw14_CrownTurns.j1 kj4 false)) else (maquettelaw14_CrownTurns.j1 kj4 false)) else (maquettelaw14_CrownTurns.j1 kj4 false)) else (maquettelaw14_CrownTurns.j1 kj4 false)) else (maquettelaw14_CrownTurns.j1 kj4 false)) else (maquettelaw14_CrownTurns.j1 kj4 false)))))) = some r := H
        have A15 := Aside0.mk A150
        clear A150
        replace H := Option.bind_eq_some_iff.mp H
        obtain ⟨⟨t232, t233, t234, t235, t236⟩, A160, H⟩ := H
        replace H : ((maquetteref13_Zeros.f 128).bind fun t238 => ((crown_Pick.f kj4 t238 t220).bind fun bt239 => ((crown_Pick.f kj4 t238 t238).bind fun bt245 => (if t225 = true then (if t230 = true then (if t236 = true then (if t226 = (wrap64 (a0 + 1)) then (if t229 = 1 then (if t232 = (wrap64 (a0 + 1)) then (if t235 = 0 then (if bt239.2.2.2.2 = true then (if bt239.1 = a0 then (if bt239.2.2.2.1 = 1 then (if bt245.2.2.2.2 = true then (maquettelaw14_CrownTurns.j1 kj4 false) else ((crown_Slot.f a0).bind fun t251 => ((crown_Slot.f (wrap64 (a0 + 1))).bind fun t252 => (maquettelaw14_CrownTurns.j1 kj4 (t251 != t252))))) else (maquettelaw14_CrownTurns.j1 kj4 false)) else (maquettelaw14_CrownTurns.j1 kj4 false)) else (maquettelaw14_CrownTurns.j1 kj4 false)) else (maquettelaw14_CrownTurns.j1 kj4 false)) else (maquettelaw14_CrownTurns.j1 kj4 false)) else (maquettelaw14_CrownTurns.j1 kj4 false)) else (maquettelaw14_CrownTurns.j1 kj4 false)) else (maquettelaw14_CrownTurns.j1 kj4 false)) else (maquettelaw14_CrownTurns.j1 kj4 false)) else (maquettelaw14_CrownTurns.j1 kj4 false))))) = some r := H
        have A16 := Aside0.mk A160
        clear A160
        replace H := Option.bind_eq_some_iff.mp H
        obtain ⟨t238, A170, H⟩ := H
        replace H : ((crown_Pick.f kj4 t238 t220).bind fun bt239 => ((crown_Pick.f kj4 t238 t238).bind fun bt245 => (if t225 = true then (if t230 = true then (if t236 = true then (if t226 = (wrap64 (a0 + 1)) then (if t229 = 1 then (if t232 = (wrap64 (a0 + 1)) then (if t235 = 0 then (if bt239.2.2.2.2 = true then (if bt239.1 = a0 then (if bt239.2.2.2.1 = 1 then (if bt245.2.2.2.2 = true then (maquettelaw14_CrownTurns.j1 kj4 false) else ((crown_Slot.f a0).bind fun t251 => ((crown_Slot.f (wrap64 (a0 + 1))).bind fun t252 => (maquettelaw14_CrownTurns.j1 kj4 (t251 != t252))))) else (maquettelaw14_CrownTurns.j1 kj4 false)) else (maquettelaw14_CrownTurns.j1 kj4 false)) else (maquettelaw14_CrownTurns.j1 kj4 false)) else (maquettelaw14_CrownTurns.j1 kj4 false)) else (maquettelaw14_CrownTurns.j1 kj4 false)) else (maquettelaw14_CrownTurns.j1 kj4 false)) else (maquettelaw14_CrownTurns.j1 kj4 false)) else (maquettelaw14_CrownTurns.j1 kj4 false)) else (maquettelaw14_CrownTurns.j1 kj4 false)) else (maquettelaw14_CrownTurns.j1 kj4 false)))) = some r := H
        have A17 := Aside0.mk A170
        clear A170
        replace H := Option.bind_eq_some_iff.mp H
        obtain ⟨⟨t239, t240, t241, t242, t243⟩, A180, H⟩ := H
        replace H : ((crown_Pick.f kj4 t238 t238).bind fun bt245 => (if t225 = true then (if t230 = true then (if t236 = true then (if t226 = (wrap64 (a0 + 1)) then (if t229 = 1 then (if t232 = (wrap64 (a0 + 1)) then (if t235 = 0 then (if t243 = true then (if t239 = a0 then (if t242 = 1 then (if bt245.2.2.2.2 = true then (maquettelaw14_CrownTurns.j1 kj4 false) else ((crown_Slot.f a0).bind fun t251 => ((crown_Slot.f (wrap64 (a0 + 1))).bind fun t252 => (maquettelaw14_CrownTurns.j1 kj4 (t251 != t252))))) else (maquettelaw14_CrownTurns.j1 kj4 false)) else (maquettelaw14_CrownTurns.j1 kj4 false)) else (maquettelaw14_CrownTurns.j1 kj4 false)) else (maquettelaw14_CrownTurns.j1 kj4 false)) else (maquettelaw14_CrownTurns.j1 kj4 false)) else (maquettelaw14_CrownTurns.j1 kj4 false)) else (maquettelaw14_CrownTurns.j1 kj4 false)) else (maquettelaw14_CrownTurns.j1 kj4 false)) else (maquettelaw14_CrownTurns.j1 kj4 false)) else (maquettelaw14_CrownTurns.j1 kj4 false))) = some r := H
        have A18 := Aside0.mk A180
        clear A180
        replace H := Option.bind_eq_some_iff.mp H
        obtain ⟨⟨t245, t246, t247, t248, t249⟩, A190, H⟩ := H
        replace H : (if t225 = true then (if t230 = true then (if t236 = true then (if t226 = (wrap64 (a0 + 1)) then (if t229 = 1 then (if t232 = (wrap64 (a0 + 1)) then (if t235 = 0 then (if t243 = true then (if t239 = a0 then (if t242 = 1 then (if t249 = true then (maquettelaw14_CrownTurns.j1 kj4 false) else ((crown_Slot.f a0).bind fun t251 => ((crown_Slot.f (wrap64 (a0 + 1))).bind fun t252 => (maquettelaw14_CrownTurns.j1 kj4 (t251 != t252))))) else (maquettelaw14_CrownTurns.j1 kj4 false)) else (maquettelaw14_CrownTurns.j1 kj4 false)) else (maquettelaw14_CrownTurns.j1 kj4 false)) else (maquettelaw14_CrownTurns.j1 kj4 false)) else (maquettelaw14_CrownTurns.j1 kj4 false)) else (maquettelaw14_CrownTurns.j1 kj4 false)) else (maquettelaw14_CrownTurns.j1 kj4 false)) else (maquettelaw14_CrownTurns.j1 kj4 false)) else (maquettelaw14_CrownTurns.j1 kj4 false)) else (maquettelaw14_CrownTurns.j1 kj4 false)) = some r := H
        have A19 := Aside0.mk A190
        clear A190
        have HC20 := Aside0.mk H
        clear H
        go_upto_region 10 with (first | ((with_reducible refine gate_callee (f := 10) rfl ?_); refine goesL_ (some 49) rfl rfl Try.func10 (by kernel_rfl) rfl #[.agg #[.int .i64 (wrap64 (a0 + 1)), .int .i64 a1, .int .i64 a2]] rfl (by (try simp only [List.map_toArray, List.map_cons, List.map_nil]); first | done | rfl | (simp only [List.length_drop, List.length_take]; rfl) | (simp only [ByteArray.size_append, Int.natCast_add]; rfl) | (simp [ByteArray.size_append, Int.add_assoc]; done)) ?_; (with_reducible refine (crown_Put.calls kj4 (wrap64 (a0 + 1)) a1 a2 t224 t225 _ A14.out).mono ?_); rintro e w21 ⟨rfl, hb⟩; refine ⟨_, rfl, ?_⟩; have n0_ := Aside0.mk (below_step (by repeat (first | (with_reducible first | exact HB.out | apply below_alloc | apply pw_below_drewN | apply below_drew1) | exact HB.out)) hb); clear HB; have HB := n0_; clear n0_; (try clear hb); (try clear hb2); (try clear hk); (try clear hi)) | ((with_reducible refine gate_callee (f := 14) rfl ?_); refine goesL_ (some 55) rfl rfl Try.func14 (by kernel_rfl) rfl #[.string t220, .string t224] rfl (by (try simp only [List.map_toArray, List.map_cons, List.map_nil]); first | done | rfl | (simp only [List.length_drop, List.length_take]; rfl) | (simp only [ByteArray.size_append, Int.natCast_add]; rfl) | (simp [ByteArray.size_append, Int.add_assoc]; done)) ?_; (with_reducible refine (crown_Pick.calls kj4 t220 t224 t226 t227 t228 t229 t230 _ A15.out).mono ?_); rintro e w22 ⟨rfl, hb⟩; refine ⟨_, rfl, ?_⟩; have n0_ := Aside0.mk (below_step (by repeat (first | (with_reducible first | exact HB.out | apply below_alloc | apply pw_below_drewN | apply below_drew1) | exact HB.out)) hb); clear HB; have HB := n0_; clear n0_; (try clear hb); (try clear hb2); (try clear hk); (try clear hi)) | ((with_reducible refine gate_dst (N := 11) rfl ?_); refine box_event ?hg (N := 11) ?hd (cs := #[.int .i64 0, .int .i64 0, .int .i64 0]) (t := 23) ?hr ?_; (case hd => rfl); (case hg => rfl); (case hr => first | (go_simp; done) | (go_simp; rfl)); intro gb231 hg w23 hbox hb; have n0_ := Aside0.mk (below_step (by repeat (first | (with_reducible first | exact HB.out | apply below_alloc | apply pw_below_drewN | apply below_drew1) | exact HB.out)) hb); have n1_ := Aside0.mk (hbox); have n2_ := Aside0.mk ((by rw [hg]; exact (below_size (by repeat (first | (with_reducible first | exact HB.out | apply below_alloc | apply pw_below_drewN | apply below_drew1) | exact HB.out))) : w.heap.size ≤ gb231)); have n3_ := Aside0.mk ((by rw [hg]; exact (below_size (by repeat (first | (with_reducible first | exact HB.out | apply below_alloc | apply pw_below_drewN | apply below_drew1) | exact HB.out))) : w.heap.size ≤ gb231)); clear HB; have HB := n0_; have BK231 := n1_; have GW231 := n2_; have GE231 := n3_; clear n0_ n1_ n2_ n3_; clear hb hbox hg; have hcz24_0 : w23.cell? ⟨gb231, 0, none⟩ = some (.int .i64 0) := (blk_cell BK231.out 0).trans rfl; have hcz24_1 : w23.cell? ⟨gb231, 1, none⟩ = some (.int .i64 0) := (blk_cell BK231.out 1).trans rfl; have hcz24_2 : w23.cell? ⟨gb231, 2, none⟩ = some (.int .i64 0) := (blk_cell BK231.out 2).trans rfl; have hfz24_0 := blk_frozen BK231.out 0; have hfz24_1 := blk_frozen BK231.out 1; have hfz24_2 := blk_frozen BK231.out 2) | ((with_reducible refine gate_callee (f := 14) rfl ?_); refine goesL_ (some 62) rfl rfl Try.func14 (by kernel_rfl) rfl #[.string t224, .string t220] rfl (by (try simp only [List.map_toArray, List.map_cons, List.map_nil]); first | done | rfl | (simp only [List.length_drop, List.length_take]; rfl) | (simp only [ByteArray.size_append, Int.natCast_add]; rfl) | (simp [ByteArray.size_append, Int.add_assoc]; done)) ?_; (with_reducible refine (crown_Pick.calls kj4 t224 t220 t232 t233 t234 t235 t236 _ A16.out).mono ?_); rintro e w25 ⟨rfl, hb⟩; refine ⟨_, rfl, ?_⟩; have n0_ := Aside0.mk (blk_below (g := gb231) (o := .cells #[.int .i64 t226, .int .i64 t227, .int .i64 t228] 23 (0, 0)) (by (with_reducible repeat (first | refine blk_drewN ?_ _ | refine blk_drew ?_ | refine blk_alloc ?_ _)); refine blk_put (cs := #[.int .i64 t226, .int .i64 t227, .int .i64 0]) ?_ 2 _ rfl; (with_reducible repeat (first | refine blk_drewN ?_ _ | refine blk_drew ?_ | refine blk_alloc ?_ _)); refine blk_put (cs := #[.int .i64 t226, .int .i64 0, .int .i64 0]) ?_ 1 _ rfl; (with_reducible repeat (first | refine blk_drewN ?_ _ | refine blk_drew ?_ | refine blk_alloc ?_ _)); refine blk_put (cs := #[.int .i64 0, .int .i64 0, .int .i64 0]) ?_ 0 _ rfl; (with_reducible repeat (first | refine blk_drewN ?_ _ | refine blk_drew ?_ | refine blk_alloc ?_ _)); exact BK231.out) hb); have n1_ := Aside0.mk (below_step (by repeat (first | (with_reducible first | exact HB.out | apply below_alloc | apply pw_below_drewN | apply below_drew1 | refine below_set ?_ GE231.out) | exact HB.out)) hb); clear BK231; clear HB; have BK231 := n0_; have HB := n1_; clear n0_ n1_; (try clear hb); (try clear hb2); (try clear hk); (try clear hi)) | ((with_reducible refine gate_dst (N := 14) rfl ?_); refine box_event ?hg (N := 14) ?hd (cs := #[.int .i64 0, .int .i64 0, .int .i64 0]) (t := 23) ?hr ?_; (case hd => rfl); (case hg => rfl); (case hr => first | (go_simp; done) | (go_simp; rfl)); intro gb237 hg w26 hbox hb; have n0_ := Aside0.mk (blk_below (g := gb231) (o := .cells #[.int .i64 t226, .int .i64 t227, .int .i64 t228] 23 (0, 0)) (by (with_reducible repeat (first | refine blk_drewN ?_ _ | refine blk_drew ?_ | refine blk_alloc ?_ _)); exact BK231.out) hb); have n1_ := Aside0.mk (below_step (by repeat (first | (with_reducible first | exact HB.out | apply below_alloc | apply pw_below_drewN | apply below_drew1 | refine below_set ?_ GE231.out) | exact HB.out)) hb); have n2_ := Aside0.mk (hbox); have n3_ := Aside0.mk ((by rw [hg]; exact (below_size (by repeat (first | (with_reducible first | exact HB.out | apply below_alloc | apply pw_below_drewN | apply below_drew1 | refine below_set ?_ GE231.out) | exact HB.out))) : w.heap.size ≤ gb237)); have n4_ := Aside0.mk ((by rw [hg]; exact (below_size (by repeat (first | (with_reducible first | exact HB.out | apply below_alloc | apply pw_below_drewN | apply below_drew1 | refine below_set ?_ GE231.out) | exact HB.out))) : w.heap.size ≤ gb237)); have n5_ := Aside0.mk ((by rw [hg]; exact Nat.ne_of_lt (blk_lt (g := gb231) (o := .cells #[.int .i64 t226, .int .i64 t227, .int .i64 t228] 23 (0, 0)) (by (with_reducible repeat (first | refine blk_drewN ?_ _ | refine blk_drew ?_ | refine blk_alloc ?_ _)); exact BK231.out)) : gb231 ≠ gb237)); have n6_ := Aside0.mk ((by rw [hg]; exact Nat.ne_of_gt (blk_lt (g := gb231) (o := .cells #[.int .i64 t226, .int .i64 t227, .int .i64 t228] 23 (0, 0)) (by (with_reducible repeat (first | refine blk_drewN ?_ _ | refine blk_drew ?_ | refine blk_alloc ?_ _)); exact BK231.out)) : gb237 ≠ gb231)); clear BK231; clear HB; have BK231 := n0_; have HB := n1_; have BK237 := n2_; have GW237 := n3_; have GE237 := n4_; have NB231_237 := n5_; have NB237_231 := n6_; clear n0_ n1_ n2_ n3_ n4_ n5_ n6_; clear hb hbox hg; have hnb27 := NB237_231.out; have hnc27 := NB231_237.out; have hcz28_0 : w26.cell? ⟨gb237, 0, none⟩ = some (.int .i64 0) := (blk_cell BK237.out 0).trans rfl; have hcz28_1 : w26.cell? ⟨gb237, 1, none⟩ = some (.int .i64 0) := (blk_cell BK237.out 1).trans rfl; have hcz28_2 : w26.cell? ⟨gb237, 2, none⟩ = some (.int .i64 0) := (blk_cell BK237.out 2).trans rfl; have hfz28_0 := blk_frozen BK237.out 0; have hfz28_1 := blk_frozen BK237.out 1; have hfz28_2 := blk_frozen BK237.out 2) | ((with_reducible refine gate_callee (f := 17) rfl ?_); refine goesL_ (some 66) rfl rfl Try.func17 (by kernel_rfl) rfl #[.int .i64 128] rfl (by (try simp only [List.map_toArray, List.map_cons, List.map_nil]); first | done | rfl | (simp only [List.length_drop, List.length_take]; rfl) | (simp only [ByteArray.size_append, Int.natCast_add]; rfl) | (simp [ByteArray.size_append, Int.add_assoc]; done)) ?_; (with_reducible refine (maquetteref13_Zeros.calls 128 t238 _ A17.out).mono ?_); rintro e w29 ⟨rfl, hb⟩; refine ⟨_, rfl, ?_⟩; have n0_ := Aside0.mk (blk_below (g := gb231) (o := .cells #[.int .i64 t226, .int .i64 t227, .int .i64 t228] 23 (0, 0)) (by (with_reducible repeat (first | refine blk_drewN ?_ _ | refine blk_drew ?_ | refine blk_alloc ?_ _)); refine blk_far ?_ NB231_237.out _; (with_reducible repeat (first | refine blk_drewN ?_ _ | refine blk_drew ?_ | refine blk_alloc ?_ _)); refine blk_far ?_ NB231_237.out _; (with_reducible repeat (first | refine blk_drewN ?_ _ | refine blk_drew ?_ | refine blk_alloc ?_ _)); refine blk_far ?_ NB231_237.out _; (with_reducible repeat (first | refine blk_drewN ?_ _ | refine blk_drew ?_ | refine blk_alloc ?_ _)); exact BK231.out) hb); have n1_ := Aside0.mk (blk_below (g := gb237) (o := .cells #[.int .i64 t232, .int .i64 t233, .int .i64 t234] 23 (0, 0)) (by (with_reducible repeat (first | refine blk_drewN ?_ _ | refine blk_drew ?_ | refine blk_alloc ?_ _)); refine blk_put (cs := #[.int .i64 t232, .int .i64 t233, .int .i64 0]) ?_ 2 _ rfl; (with_reducible repeat (first | refine blk_drewN ?_ _ | refine blk_drew ?_ | refine blk_alloc ?_ _)); refine blk_put (cs := #[.int .i64 t232, .int .i64 0, .int .i64 0]) ?_ 1 _ rfl; (with_reducible repeat (first | refine blk_drewN ?_ _ | refine blk_drew ?_ | refine blk_alloc ?_ _)); refine blk_put (cs := #[.int .i64 0, .int .i64 0, .int .i64 0]) ?_ 0 _ rfl; (with_reducible repeat (first | refine blk_drewN ?_ _ | refine blk_drew ?_ | refine blk_alloc ?_ _)); exact BK237.out) hb); have n2_ := Aside0.mk (below_step (by repeat (first | (with_reducible first | exact HB.out | apply below_alloc | apply pw_below_drewN | apply below_drew1 | refine below_set ?_ GE231.out | refine below_set ?_ GE237.out) | exact HB.out)) hb); clear BK231; clear BK237; clear HB; have BK231 := n0_; have BK237 := n1_; have HB := n2_; clear n0_ n1_ n2_; (try clear hb); (try clear hb2); (try clear hk); (try clear hi)) | ((with_reducible refine gate_callee (f := 14) rfl ?_); refine goesL_ (some 70) rfl rfl Try.func14 (by kernel_rfl) rfl #[.string t238, .string t220] rfl (by (try simp only [List.map_toArray, List.map_cons, List.map_nil]); first | done | rfl | (simp only [List.length_drop, List.length_take]; rfl) | (simp only [ByteArray.size_append, Int.natCast_add]; rfl) | (simp [ByteArray.size_append, Int.add_assoc]; done)) ?_; (with_reducible refine (crown_Pick.calls kj4 t238 t220 t239 t240 t241 t242 t243 _ A18.out).mono ?_); rintro e w30 ⟨rfl, hb⟩; refine ⟨_, rfl, ?_⟩; have n0_ := Aside0.mk (blk_below (g := gb231) (o := .cells #[.int .i64 t226, .int .i64 t227, .int .i64 t228] 23 (0, 0)) (by (with_reducible repeat (first | refine blk_drewN ?_ _ | refine blk_drew ?_ | refine blk_alloc ?_ _)); exact BK231.out) hb); have n1_ := Aside0.mk (blk_below (g := gb237) (o := .cells #[.int .i64 t232, .int .i64 t233, .int .i64 t234] 23 (0, 0)) (by (with_reducible repeat (first | refine blk_drewN ?_ _ | refine blk_drew ?_ | refine blk_alloc ?_ _)); exact BK237.out) hb); have n2_ := Aside0.mk (below_step (by repeat (first | (with_reducible first | exact HB.out | apply below_alloc | apply pw_below_drewN | apply below_drew1 | refine below_set ?_ GE231.out | refine below_set ?_ GE237.out) | exact HB.out)) hb); clear BK231; clear BK237; clear HB; have BK231 := n0_; have BK237 := n1_; have HB := n2_; clear n0_ n1_ n2_; (try clear hb); (try clear hb2); (try clear hk); (try clear hi)) | ((with_reducible refine gate_dst (N := 18) rfl ?_); refine box_event ?hg (N := 18) ?hd (cs := #[.int .i64 0, .int .i64 0, .int .i64 0]) (t := 23) ?hr ?_; (case hd => rfl); (case hg => rfl); (case hr => first | (go_simp; done) | (go_simp; rfl)); intro gb244 hg w31 hbox hb; have n0_ := Aside0.mk (blk_below (g := gb231) (o := .cells #[.int .i64 t226, .int .i64 t227, .int .i64 t228] 23 (0, 0)) (by (with_reducible repeat (first | refine blk_drewN ?_ _ | refine blk_drew ?_ | refine blk_alloc ?_ _)); exact BK231.out) hb); have n1_ := Aside0.mk (blk_below (g := gb237) (o := .cells #[.int .i64 t232, .int .i64 t233, .int .i64 t234] 23 (0, 0)) (by (with_reducible repeat (first | refine blk_drewN ?_ _ | refine blk_drew ?_ | refine blk_alloc ?_ _)); exact BK237.out) hb); have n2_ := Aside0.mk (below_step (by repeat (first | (with_reducible first | exact HB.out | apply below_alloc | apply pw_below_drewN | apply below_drew1 | refine below_set ?_ GE231.out | refine below_set ?_ GE237.out) | exact HB.out)) hb); have n3_ := Aside0.mk (hbox); have n4_ := Aside0.mk ((by rw [hg]; exact (below_size (by repeat (first | (with_reducible first | exact HB.out | apply below_alloc | apply pw_below_drewN | apply below_drew1 | refine below_set ?_ GE231.out | refine below_set ?_ GE237.out) | exact HB.out))) : w.heap.size ≤ gb244)); have n5_ := Aside0.mk ((by rw [hg]; exact (below_size (by repeat (first | (with_reducible first | exact HB.out | apply below_alloc | apply pw_below_drewN | apply below_drew1 | refine below_set ?_ GE231.out | refine below_set ?_ GE237.out) | exact HB.out))) : w.heap.size ≤ gb244)); have n6_ := Aside0.mk ((by rw [hg]; exact Nat.ne_of_lt (blk_lt (g := gb231) (o := .cells #[.int .i64 t226, .int .i64 t227, .int .i64 t228] 23 (0, 0)) (by (with_reducible repeat (first | refine blk_drewN ?_ _ | refine blk_drew ?_ | refine blk_alloc ?_ _)); exact BK231.out)) : gb231 ≠ gb244)); have n7_ := Aside0.mk ((by rw [hg]; exact Nat.ne_of_gt (blk_lt (g := gb231) (o := .cells #[.int .i64 t226, .int .i64 t227, .int .i64 t228] 23 (0, 0)) (by (with_reducible repeat (first | refine blk_drewN ?_ _ | refine blk_drew ?_ | refine blk_alloc ?_ _)); exact BK231.out)) : gb244 ≠ gb231)); have n8_ := Aside0.mk ((by rw [hg]; exact Nat.ne_of_lt (blk_lt (g := gb237) (o := .cells #[.int .i64 t232, .int .i64 t233, .int .i64 t234] 23 (0, 0)) (by (with_reducible repeat (first | refine blk_drewN ?_ _ | refine blk_drew ?_ | refine blk_alloc ?_ _)); exact BK237.out)) : gb237 ≠ gb244)); have n9_ := Aside0.mk ((by rw [hg]; exact Nat.ne_of_gt (blk_lt (g := gb237) (o := .cells #[.int .i64 t232, .int .i64 t233, .int .i64 t234] 23 (0, 0)) (by (with_reducible repeat (first | refine blk_drewN ?_ _ | refine blk_drew ?_ | refine blk_alloc ?_ _)); exact BK237.out)) : gb244 ≠ gb237)); clear BK231; clear BK237; clear HB; have BK231 := n0_; have BK237 := n1_; have HB := n2_; have BK244 := n3_; have GW244 := n4_; have GE244 := n5_; have NB231_244 := n6_; have NB244_231 := n7_; have NB237_244 := n8_; have NB244_237 := n9_; clear n0_ n1_ n2_ n3_ n4_ n5_ n6_ n7_ n8_ n9_; clear hb hbox hg; have hnb32 := NB244_231.out; have hnc32 := NB231_244.out; have hnb33 := NB244_237.out; have hnc33 := NB237_244.out; have hcz34_0 : w31.cell? ⟨gb244, 0, none⟩ = some (.int .i64 0) := (blk_cell BK244.out 0).trans rfl; have hcz34_1 : w31.cell? ⟨gb244, 1, none⟩ = some (.int .i64 0) := (blk_cell BK244.out 1).trans rfl; have hcz34_2 : w31.cell? ⟨gb244, 2, none⟩ = some (.int .i64 0) := (blk_cell BK244.out 2).trans rfl; have hfz34_0 := blk_frozen BK244.out 0; have hfz34_1 := blk_frozen BK244.out 1; have hfz34_2 := blk_frozen BK244.out 2) | ((with_reducible refine gate_callee (f := 14) rfl ?_); refine goesL_ (some 77) rfl rfl Try.func14 (by kernel_rfl) rfl #[.string t238, .string t238] rfl (by (try simp only [List.map_toArray, List.map_cons, List.map_nil]); first | done | rfl | (simp only [List.length_drop, List.length_take]; rfl) | (simp only [ByteArray.size_append, Int.natCast_add]; rfl) | (simp [ByteArray.size_append, Int.add_assoc]; done)) ?_; (with_reducible refine (crown_Pick.calls kj4 t238 t238 t245 t246 t247 t248 t249 _ A19.out).mono ?_); rintro e w35 ⟨rfl, hb⟩; refine ⟨_, rfl, ?_⟩; have n0_ := Aside0.mk (blk_below (g := gb231) (o := .cells #[.int .i64 t226, .int .i64 t227, .int .i64 t228] 23 (0, 0)) (by (with_reducible repeat (first | refine blk_drewN ?_ _ | refine blk_drew ?_ | refine blk_alloc ?_ _)); refine blk_far ?_ NB231_244.out _; (with_reducible repeat (first | refine blk_drewN ?_ _ | refine blk_drew ?_ | refine blk_alloc ?_ _)); refine blk_far ?_ NB231_244.out _; (with_reducible repeat (first | refine blk_drewN ?_ _ | refine blk_drew ?_ | refine blk_alloc ?_ _)); refine blk_far ?_ NB231_244.out _; (with_reducible repeat (first | refine blk_drewN ?_ _ | refine blk_drew ?_ | refine blk_alloc ?_ _)); exact BK231.out) hb); have n1_ := Aside0.mk (blk_below (g := gb237) (o := .cells #[.int .i64 t232, .int .i64 t233, .int .i64 t234] 23 (0, 0)) (by (with_reducible repeat (first | refine blk_drewN ?_ _ | refine blk_drew ?_ | refine blk_alloc ?_ _)); refine blk_far ?_ NB237_244.out _; (with_reducible repeat (first | refine blk_drewN ?_ _ | refine blk_drew ?_ | refine blk_alloc ?_ _)); refine blk_far ?_ NB237_244.out _; (with_reducible repeat (first | refine blk_drewN ?_ _ | refine blk_drew ?_ | refine blk_alloc ?_ _)); refine blk_far ?_ NB237_244.out _; (with_reducible repeat (first | refine blk_drewN ?_ _ | refine blk_drew ?_ | refine blk_alloc ?_ _)); exact BK237.out) hb); have n2_ := Aside0.mk (blk_below (g := gb244) (o := .cells #[.int .i64 t239, .int .i64 t240, .int .i64 t241] 23 (0, 0)) (by (with_reducible repeat (first | refine blk_drewN ?_ _ | refine blk_drew ?_ | refine blk_alloc ?_ _)); refine blk_put (cs := #[.int .i64 t239, .int .i64 t240, .int .i64 0]) ?_ 2 _ rfl; (with_reducible repeat (first | refine blk_drewN ?_ _ | refine blk_drew ?_ | refine blk_alloc ?_ _)); refine blk_put (cs := #[.int .i64 t239, .int .i64 0, .int .i64 0]) ?_ 1 _ rfl; (with_reducible repeat (first | refine blk_drewN ?_ _ | refine blk_drew ?_ | refine blk_alloc ?_ _)); refine blk_put (cs := #[.int .i64 0, .int .i64 0, .int .i64 0]) ?_ 0 _ rfl; (with_reducible repeat (first | refine blk_drewN ?_ _ | refine blk_drew ?_ | refine blk_alloc ?_ _)); exact BK244.out) hb); have n3_ := Aside0.mk (below_step (by repeat (first | (with_reducible first | exact HB.out | apply below_alloc | apply pw_below_drewN | apply below_drew1 | refine below_set ?_ GE231.out | refine below_set ?_ GE237.out | refine below_set ?_ GE244.out) | exact HB.out)) hb); clear BK231; clear BK237; clear BK244; clear HB; have BK231 := n0_; have BK237 := n1_; have BK244 := n2_; have HB := n3_; clear n0_ n1_ n2_ n3_; (try clear hb); (try clear hb2); (try clear hk); (try clear hi)) | ((with_reducible refine gate_dst (N := 21) rfl ?_); refine box_event ?hg (N := 21) ?hd (cs := #[.int .i64 0, .int .i64 0, .int .i64 0]) (t := 23) ?hr ?_; (case hd => rfl); (case hg => rfl); (case hr => first | (go_simp; done) | (go_simp; rfl)); intro gb250 hg w36 hbox hb; have n0_ := Aside0.mk (blk_below (g := gb231) (o := .cells #[.int .i64 t226, .int .i64 t227, .int .i64 t228] 23 (0, 0)) (by (with_reducible repeat (first | refine blk_drewN ?_ _ | refine blk_drew ?_ | refine blk_alloc ?_ _)); exact BK231.out) hb); have n1_ := Aside0.mk (blk_below (g := gb237) (o := .cells #[.int .i64 t232, .int .i64 t233, .int .i64 t234] 23 (0, 0)) (by (with_reducible repeat (first | refine blk_drewN ?_ _ | refine blk_drew ?_ | refine blk_alloc ?_ _)); exact BK237.out) hb); have n2_ := Aside0.mk (blk_below (g := gb244) (o := .cells #[.int .i64 t239, .int .i64 t240, .int .i64 t241] 23 (0, 0)) (by (with_reducible repeat (first | refine blk_drewN ?_ _ | refine blk_drew ?_ | refine blk_alloc ?_ _)); exact BK244.out) hb); have n3_ := Aside0.mk (below_step (by repeat (first | (with_reducible first | exact HB.out | apply below_alloc | apply pw_below_drewN | apply below_drew1 | refine below_set ?_ GE231.out | refine below_set ?_ GE237.out | refine below_set ?_ GE244.out) | exact HB.out)) hb); have n4_ := Aside0.mk (hbox); have n5_ := Aside0.mk ((by rw [hg]; exact (below_size (by repeat (first | (with_reducible first | exact HB.out | apply below_alloc | apply pw_below_drewN | apply below_drew1 | refine below_set ?_ GE231.out | refine below_set ?_ GE237.out | refine below_set ?_ GE244.out) | exact HB.out))) : w.heap.size ≤ gb250)); have n6_ := Aside0.mk ((by rw [hg]; exact (below_size (by repeat (first | (with_reducible first | exact HB.out | apply below_alloc | apply pw_below_drewN | apply below_drew1 | refine below_set ?_ GE231.out | refine below_set ?_ GE237.out | refine below_set ?_ GE244.out) | exact HB.out))) : w.heap.size ≤ gb250)); have n7_ := Aside0.mk ((by rw [hg]; exact Nat.ne_of_lt (blk_lt (g := gb231) (o := .cells #[.int .i64 t226, .int .i64 t227, .int .i64 t228] 23 (0, 0)) (by (with_reducible repeat (first | refine blk_drewN ?_ _ | refine blk_drew ?_ | refine blk_alloc ?_ _)); exact BK231.out)) : gb231 ≠ gb250)); have n8_ := Aside0.mk ((by rw [hg]; exact Nat.ne_of_gt (blk_lt (g := gb231) (o := .cells #[.int .i64 t226, .int .i64 t227, .int .i64 t228] 23 (0, 0)) (by (with_reducible repeat (first | refine blk_drewN ?_ _ | refine blk_drew ?_ | refine blk_alloc ?_ _)); exact BK231.out)) : gb250 ≠ gb231)); have n9_ := Aside0.mk ((by rw [hg]; exact Nat.ne_of_lt (blk_lt (g := gb237) (o := .cells #[.int .i64 t232, .int .i64 t233, .int .i64 t234] 23 (0, 0)) (by (with_reducible repeat (first | refine blk_drewN ?_ _ | refine blk_drew ?_ | refine blk_alloc ?_ _)); exact BK237.out)) : gb237 ≠ gb250)); have n10_ := Aside0.mk ((by rw [hg]; exact Nat.ne_of_gt (blk_lt (g := gb237) (o := .cells #[.int .i64 t232, .int .i64 t233, .int .i64 t234] 23 (0, 0)) (by (with_reducible repeat (first | refine blk_drewN ?_ _ | refine blk_drew ?_ | refine blk_alloc ?_ _)); exact BK237.out)) : gb250 ≠ gb237)); have n11_ := Aside0.mk ((by rw [hg]; exact Nat.ne_of_lt (blk_lt (g := gb244) (o := .cells #[.int .i64 t239, .int .i64 t240, .int .i64 t241] 23 (0, 0)) (by (with_reducible repeat (first | refine blk_drewN ?_ _ | refine blk_drew ?_ | refine blk_alloc ?_ _)); exact BK244.out)) : gb244 ≠ gb250)); have n12_ := Aside0.mk ((by rw [hg]; exact Nat.ne_of_gt (blk_lt (g := gb244) (o := .cells #[.int .i64 t239, .int .i64 t240, .int .i64 t241] 23 (0, 0)) (by (with_reducible repeat (first | refine blk_drewN ?_ _ | refine blk_drew ?_ | refine blk_alloc ?_ _)); exact BK244.out)) : gb250 ≠ gb244)); clear BK231; clear BK237; clear BK244; clear HB; have BK231 := n0_; have BK237 := n1_; have BK244 := n2_; have HB := n3_; have BK250 := n4_; have GW250 := n5_; have GE250 := n6_; have NB231_250 := n7_; have NB250_231 := n8_; have NB237_250 := n9_; have NB250_237 := n10_; have NB244_250 := n11_; have NB250_244 := n12_; clear n0_ n1_ n2_ n3_ n4_ n5_ n6_ n7_ n8_ n9_ n10_ n11_ n12_; clear hb hbox hg; have hnb37 := NB250_231.out; have hnc37 := NB231_250.out; have hnb38 := NB250_237.out; have hnc38 := NB237_250.out; have hnb39 := NB250_244.out; have hnc39 := NB244_250.out; have hcz40_0 : w36.cell? ⟨gb250, 0, none⟩ = some (.int .i64 0) := (blk_cell BK250.out 0).trans rfl; have hcz40_1 : w36.cell? ⟨gb250, 1, none⟩ = some (.int .i64 0) := (blk_cell BK250.out 1).trans rfl; have hcz40_2 : w36.cell? ⟨gb250, 2, none⟩ = some (.int .i64 0) := (blk_cell BK250.out 2).trans rfl; have hfz40_0 := blk_frozen BK250.out 0; have hfz40_1 := blk_frozen BK250.out 1; have hfz40_2 := blk_frozen BK250.out 2))
        (try simp only [Act.put, List.setIfInBounds_toArray, List.set_cons_zero, List.set_cons_succ])
        go_cut [6] (fun v6 wc => ∃ (kq : Nat) (x6_19 : Bool), v6 = .bool x6_19 ∧ Aside0 (maquettelaw14_CrownTurns.j1 kq x6_19 = some r) ∧ Aside0 (kq ≤ kj4) ∧ Aside0 (wc.heap[gb231]? = some (.cells #[.int .i64 t226, .int .i64 t227, .int .i64 t228] 23 (0, 0))) ∧ Aside0 (wc.heap[gb237]? = some (.cells #[.int .i64 t232, .int .i64 t233, .int .i64 t234] 23 (0, 0))) ∧ Aside0 (wc.heap[gb244]? = some (.cells #[.int .i64 t239, .int .i64 t240, .int .i64 t241] 23 (0, 0))) ∧ Aside0 (wc.heap[gb250]? = some (.cells #[.int .i64 t245, .int .i64 t246, .int .i64 t247] 23 (0, 0))) ∧ Aside0 (Below w.heap.size w wc))
        case first =>
          have H := HC20.out
          clear HC20
          by_cases c41 : t225 = true
          · subst c41
            have H1 : (if t230 = true then (if t236 = true then (if t226 = (wrap64 (a0 + 1)) then (if t229 = 1 then (if t232 = (wrap64 (a0 + 1)) then (if t235 = 0 then (if t243 = true then (if t239 = a0 then (if t242 = 1 then (if t249 = true then (maquettelaw14_CrownTurns.j1 kj4 false) else ((crown_Slot.f a0).bind fun t251 => ((crown_Slot.f (wrap64 (a0 + 1))).bind fun t252 => (maquettelaw14_CrownTurns.j1 kj4 (t251 != t252))))) else (maquettelaw14_CrownTurns.j1 kj4 false)) else (maquettelaw14_CrownTurns.j1 kj4 false)) else (maquettelaw14_CrownTurns.j1 kj4 false)) else (maquettelaw14_CrownTurns.j1 kj4 false)) else (maquettelaw14_CrownTurns.j1 kj4 false)) else (maquettelaw14_CrownTurns.j1 kj4 false)) else (maquettelaw14_CrownTurns.j1 kj4 false)) else (maquettelaw14_CrownTurns.j1 kj4 false)) else (maquettelaw14_CrownTurns.j1 kj4 false)) = some r := by rw [if_pos rfl] at H; exact H
            clear H
            have H := H1
            clear H1
            by_cases c42 : t230 = true
            · subst c42
              have H1 : (if t236 = true then (if t226 = (wrap64 (a0 + 1)) then (if t229 = 1 then (if t232 = (wrap64 (a0 + 1)) then (if t235 = 0 then (if t243 = true then (if t239 = a0 then (if t242 = 1 then (if t249 = true then (maquettelaw14_CrownTurns.j1 kj4 false) else ((crown_Slot.f a0).bind fun t251 => ((crown_Slot.f (wrap64 (a0 + 1))).bind fun t252 => (maquettelaw14_CrownTurns.j1 kj4 (t251 != t252))))) else (maquettelaw14_CrownTurns.j1 kj4 false)) else (maquettelaw14_CrownTurns.j1 kj4 false)) else (maquettelaw14_CrownTurns.j1 kj4 false)) else (maquettelaw14_CrownTurns.j1 kj4 false)) else (maquettelaw14_CrownTurns.j1 kj4 false)) else (maquettelaw14_CrownTurns.j1 kj4 false)) else (maquettelaw14_CrownTurns.j1 kj4 false)) else (maquettelaw14_CrownTurns.j1 kj4 false)) = some r := by rw [if_pos rfl] at H; exact H
              clear H
              have H := H1
              clear H1
              by_cases c43 : t236 = true
              · subst c43
                have H1 : (if t226 = (wrap64 (a0 + 1)) then (if t229 = 1 then (if t232 = (wrap64 (a0 + 1)) then (if t235 = 0 then (if t243 = true then (if t239 = a0 then (if t242 = 1 then (if t249 = true then (maquettelaw14_CrownTurns.j1 kj4 false) else ((crown_Slot.f a0).bind fun t251 => ((crown_Slot.f (wrap64 (a0 + 1))).bind fun t252 => (maquettelaw14_CrownTurns.j1 kj4 (t251 != t252))))) else (maquettelaw14_CrownTurns.j1 kj4 false)) else (maquettelaw14_CrownTurns.j1 kj4 false)) else (maquettelaw14_CrownTurns.j1 kj4 false)) else (maquettelaw14_CrownTurns.j1 kj4 false)) else (maquettelaw14_CrownTurns.j1 kj4 false)) else (maquettelaw14_CrownTurns.j1 kj4 false)) else (maquettelaw14_CrownTurns.j1 kj4 false)) = some r := by rw [if_pos rfl] at H; exact H
                clear H
                have H := H1
                clear H1
                by_cases c44 : t226 = (wrap64 (a0 + 1))
                · rw [if_pos c44] at H
                  have c44b0 : (t226 == (wrap64 (a0 + 1))) = true := beq_iff_eq.mpr c44
                  have c44b1 : (t226 != (wrap64 (a0 + 1))) = false := bne_eq_false_iff_eq.mpr c44
                  clear c44
                  (first | rw [c44b0] | (simp only [i64_w, i32_w]; rw [c44b0]) | skip)
                  by_cases c45 : t229 = 1
                  · rw [if_pos c45] at H
                    have c45b0 : (t229 == 1) = true := beq_iff_eq.mpr c45
                    have c45b1 : (t229 != 1) = false := bne_eq_false_iff_eq.mpr c45
                    clear c45
                    by_cases c46 : t232 = (wrap64 (a0 + 1))
                    · rw [if_pos c46] at H
                      have c46b0 : (t232 == (wrap64 (a0 + 1))) = true := beq_iff_eq.mpr c46
                      have c46b1 : (t232 != (wrap64 (a0 + 1))) = false := bne_eq_false_iff_eq.mpr c46
                      clear c46
                      by_cases c47 : t235 = 0
                      · rw [if_pos c47] at H
                        have c47b0 : (t235 == 0) = true := beq_iff_eq.mpr c47
                        have c47b1 : (t235 != 0) = false := bne_eq_false_iff_eq.mpr c47
                        clear c47
                        by_cases c48 : t243 = true
                        · subst c48
                          have H1 : (if t239 = a0 then (if t242 = 1 then (if t249 = true then (maquettelaw14_CrownTurns.j1 kj4 false) else ((crown_Slot.f a0).bind fun t251 => ((crown_Slot.f (wrap64 (a0 + 1))).bind fun t252 => (maquettelaw14_CrownTurns.j1 kj4 (t251 != t252))))) else (maquettelaw14_CrownTurns.j1 kj4 false)) else (maquettelaw14_CrownTurns.j1 kj4 false)) = some r := by rw [if_pos rfl] at H; exact H
                          clear H
                          have H := H1
                          clear H1
                          by_cases c49 : t239 = a0
                          · rw [if_pos c49] at H
                            have c49b0 : (t239 == a0) = true := beq_iff_eq.mpr c49
                            have c49b1 : (t239 != a0) = false := bne_eq_false_iff_eq.mpr c49
                            clear c49
                            by_cases c50 : t242 = 1
                            · rw [if_pos c50] at H
                              have c50b0 : (t242 == 1) = true := beq_iff_eq.mpr c50
                              have c50b1 : (t242 != 1) = false := bne_eq_false_iff_eq.mpr c50
                              clear c50
                              by_cases c51 : t249 = true
                              · subst c51
                                have H1 : (maquettelaw14_CrownTurns.j1 kj4 false) = some r := by rw [if_pos rfl] at H; exact H
                                clear H
                                have H := H1
                                clear H1
                                have H' := Aside0.mk H
                                clear H
                                have hnb52 := NB231_237.out
                                have hnc52 := NB237_231.out
                                have hnb53 := NB231_244.out
                                have hnc53 := NB244_231.out
                                have hnb54 := NB231_250.out
                                have hnc54 := NB250_231.out
                                have hcz55_0 : w36.cell? ⟨gb231, 0, none⟩ = some (.int .i64 t226) := (blk_cell BK231.out 0).trans rfl
                                have hcz55_1 : w36.cell? ⟨gb231, 1, none⟩ = some (.int .i64 t227) := (blk_cell BK231.out 1).trans rfl
                                have hcz55_2 : w36.cell? ⟨gb231, 2, none⟩ = some (.int .i64 t228) := (blk_cell BK231.out 2).trans rfl
                                have hfz55_0 := blk_frozen BK231.out 0
                                have hfz55_1 := blk_frozen BK231.out 1
                                have hfz55_2 := blk_frozen BK231.out 2
                                have hnb56 := NB237_244.out
                                have hnc56 := NB244_237.out
                                have hnb57 := NB237_250.out
                                have hnc57 := NB250_237.out
                                have hcz58_0 : w36.cell? ⟨gb237, 0, none⟩ = some (.int .i64 t232) := (blk_cell BK237.out 0).trans rfl
                                have hcz58_1 : w36.cell? ⟨gb237, 1, none⟩ = some (.int .i64 t233) := (blk_cell BK237.out 1).trans rfl
                                have hcz58_2 : w36.cell? ⟨gb237, 2, none⟩ = some (.int .i64 t234) := (blk_cell BK237.out 2).trans rfl
                                have hfz58_0 := blk_frozen BK237.out 0
                                have hfz58_1 := blk_frozen BK237.out 1
                                have hfz58_2 := blk_frozen BK237.out 2
                                have hnb59 := NB244_250.out
                                have hnc59 := NB250_244.out
                                have hcz60_0 : w36.cell? ⟨gb244, 0, none⟩ = some (.int .i64 t239) := (blk_cell BK244.out 0).trans rfl
                                have hcz60_1 : w36.cell? ⟨gb244, 1, none⟩ = some (.int .i64 t240) := (blk_cell BK244.out 1).trans rfl
                                have hcz60_2 : w36.cell? ⟨gb244, 2, none⟩ = some (.int .i64 t241) := (blk_cell BK244.out 2).trans rfl
                                have hfz60_0 := blk_frozen BK244.out 0
                                have hfz60_1 := blk_frozen BK244.out 1
                                have hfz60_2 := blk_frozen BK244.out 2
                                go_wp2
                                go_meet
                                case rel => exact ⟨_, (false), (by first | rfl | (simp; done) | (simp [*]; done)), H', ⟨by have := HJ4.out; first | omega | exact Nat.le_refl _⟩, ⟨by (with_reducible repeat (first | refine blk_drewN ?_ _ | refine blk_drew ?_ | refine blk_alloc ?_ _)); refine blk_far ?_ NB231_250.out _; (with_reducible repeat (first | refine blk_drewN ?_ _ | refine blk_drew ?_ | refine blk_alloc ?_ _)); refine blk_far ?_ NB231_250.out _; (with_reducible repeat (first | refine blk_drewN ?_ _ | refine blk_drew ?_ | refine blk_alloc ?_ _)); refine blk_far ?_ NB231_250.out _; (with_reducible repeat (first | refine blk_drewN ?_ _ | refine blk_drew ?_ | refine blk_alloc ?_ _)); exact BK231.out⟩, ⟨by (with_reducible repeat (first | refine blk_drewN ?_ _ | refine blk_drew ?_ | refine blk_alloc ?_ _)); refine blk_far ?_ NB237_250.out _; (with_reducible repeat (first | refine blk_drewN ?_ _ | refine blk_drew ?_ | refine blk_alloc ?_ _)); refine blk_far ?_ NB237_250.out _; (with_reducible repeat (first | refine blk_drewN ?_ _ | refine blk_drew ?_ | refine blk_alloc ?_ _)); refine blk_far ?_ NB237_250.out _; (with_reducible repeat (first | refine blk_drewN ?_ _ | refine blk_drew ?_ | refine blk_alloc ?_ _)); exact BK237.out⟩, ⟨by (with_reducible repeat (first | refine blk_drewN ?_ _ | refine blk_drew ?_ | refine blk_alloc ?_ _)); refine blk_far ?_ NB244_250.out _; (with_reducible repeat (first | refine blk_drewN ?_ _ | refine blk_drew ?_ | refine blk_alloc ?_ _)); refine blk_far ?_ NB244_250.out _; (with_reducible repeat (first | refine blk_drewN ?_ _ | refine blk_drew ?_ | refine blk_alloc ?_ _)); refine blk_far ?_ NB244_250.out _; (with_reducible repeat (first | refine blk_drewN ?_ _ | refine blk_drew ?_ | refine blk_alloc ?_ _)); exact BK244.out⟩, ⟨by (with_reducible repeat (first | refine blk_drewN ?_ _ | refine blk_drew ?_ | refine blk_alloc ?_ _)); refine blk_put (cs := #[.int .i64 t245, .int .i64 t246, .int .i64 0]) ?_ 2 _ rfl; (with_reducible repeat (first | refine blk_drewN ?_ _ | refine blk_drew ?_ | refine blk_alloc ?_ _)); refine blk_put (cs := #[.int .i64 t245, .int .i64 0, .int .i64 0]) ?_ 1 _ rfl; (with_reducible repeat (first | refine blk_drewN ?_ _ | refine blk_drew ?_ | refine blk_alloc ?_ _)); refine blk_put (cs := #[.int .i64 0, .int .i64 0, .int .i64 0]) ?_ 0 _ rfl; (with_reducible repeat (first | refine blk_drewN ?_ _ | refine blk_drew ?_ | refine blk_alloc ?_ _)); exact BK250.out⟩, ⟨by repeat (first | (with_reducible first | exact HB.out | apply below_alloc | apply pw_below_drewN | apply below_drew1 | refine below_set ?_ GE231.out | refine below_set ?_ GE237.out | refine below_set ?_ GE244.out | refine below_set ?_ GE250.out) | exact HB.out)⟩⟩
                              · replace c51 := Bool.eq_false_iff.mpr c51
                                subst c51
                                have H1 : ((crown_Slot.f a0).bind fun t251 => ((crown_Slot.f (wrap64 (a0 + 1))).bind fun t252 => (maquettelaw14_CrownTurns.j1 kj4 (t251 != t252)))) = some r := by rw [if_neg (show ¬ (false = true) by decide)] at H; exact H
                                clear H
                                have H := H1
                                clear H1
                                replace H := Option.bind_eq_some_iff.mp H
                                obtain ⟨t251, A610, H⟩ := H
                                replace H : ((crown_Slot.f (wrap64 (a0 + 1))).bind fun t252 => (maquettelaw14_CrownTurns.j1 kj4 (t251 != t252))) = some r := H
                                have A61 := Aside0.mk A610
                                clear A610
                                replace H := Option.bind_eq_some_iff.mp H
                                obtain ⟨t252, A620, H⟩ := H
                                replace H : (maquettelaw14_CrownTurns.j1 kj4 (t251 != t252)) = some r := H
                                have A62 := Aside0.mk A620
                                clear A620
                                have H' := Aside0.mk H
                                clear H
                                have hnb63 := NB231_237.out
                                have hnc63 := NB237_231.out
                                have hnb64 := NB231_244.out
                                have hnc64 := NB244_231.out
                                have hnb65 := NB231_250.out
                                have hnc65 := NB250_231.out
                                have hcz66_0 : w36.cell? ⟨gb231, 0, none⟩ = some (.int .i64 t226) := (blk_cell BK231.out 0).trans rfl
                                have hcz66_1 : w36.cell? ⟨gb231, 1, none⟩ = some (.int .i64 t227) := (blk_cell BK231.out 1).trans rfl
                                have hcz66_2 : w36.cell? ⟨gb231, 2, none⟩ = some (.int .i64 t228) := (blk_cell BK231.out 2).trans rfl
                                have hfz66_0 := blk_frozen BK231.out 0
                                have hfz66_1 := blk_frozen BK231.out 1
                                have hfz66_2 := blk_frozen BK231.out 2
                                have hnb67 := NB237_244.out
                                have hnc67 := NB244_237.out
                                have hnb68 := NB237_250.out
                                have hnc68 := NB250_237.out
                                have hcz69_0 : w36.cell? ⟨gb237, 0, none⟩ = some (.int .i64 t232) := (blk_cell BK237.out 0).trans rfl
                                have hcz69_1 : w36.cell? ⟨gb237, 1, none⟩ = some (.int .i64 t233) := (blk_cell BK237.out 1).trans rfl
                                have hcz69_2 : w36.cell? ⟨gb237, 2, none⟩ = some (.int .i64 t234) := (blk_cell BK237.out 2).trans rfl
                                have hfz69_0 := blk_frozen BK237.out 0
                                have hfz69_1 := blk_frozen BK237.out 1
                                have hfz69_2 := blk_frozen BK237.out 2
                                have hnb70 := NB244_250.out
                                have hnc70 := NB250_244.out
                                have hcz71_0 : w36.cell? ⟨gb244, 0, none⟩ = some (.int .i64 t239) := (blk_cell BK244.out 0).trans rfl
                                have hcz71_1 : w36.cell? ⟨gb244, 1, none⟩ = some (.int .i64 t240) := (blk_cell BK244.out 1).trans rfl
                                have hcz71_2 : w36.cell? ⟨gb244, 2, none⟩ = some (.int .i64 t241) := (blk_cell BK244.out 2).trans rfl
                                have hfz71_0 := blk_frozen BK244.out 0
                                have hfz71_1 := blk_frozen BK244.out 1
                                have hfz71_2 := blk_frozen BK244.out 2
                                go_wp2_with (first | (go_at_call 16; (with_reducible refine (crown_Slot.calls a0 t251 _ A61.out).mono ?_); rintro e w' ⟨rfl, ⟨nd, rfl⟩⟩) | (go_at_call 16; (with_reducible refine (crown_Slot.calls (wrap64 (a0 + 1)) t252 _ A62.out).mono ?_); rintro e w' ⟨rfl, ⟨nd, rfl⟩⟩))
                                go_meet
                                case rel => exact ⟨_, ((t251 != t252)), (by first | rfl | (simp; done) | (simp [*]; done)), H', ⟨by have := HJ4.out; first | omega | exact Nat.le_refl _⟩, ⟨by (with_reducible repeat (first | refine blk_drewN ?_ _ | refine blk_drew ?_ | refine blk_alloc ?_ _)); refine blk_far ?_ NB231_250.out _; (with_reducible repeat (first | refine blk_drewN ?_ _ | refine blk_drew ?_ | refine blk_alloc ?_ _)); refine blk_far ?_ NB231_250.out _; (with_reducible repeat (first | refine blk_drewN ?_ _ | refine blk_drew ?_ | refine blk_alloc ?_ _)); refine blk_far ?_ NB231_250.out _; (with_reducible repeat (first | refine blk_drewN ?_ _ | refine blk_drew ?_ | refine blk_alloc ?_ _)); exact BK231.out⟩, ⟨by (with_reducible repeat (first | refine blk_drewN ?_ _ | refine blk_drew ?_ | refine blk_alloc ?_ _)); refine blk_far ?_ NB237_250.out _; (with_reducible repeat (first | refine blk_drewN ?_ _ | refine blk_drew ?_ | refine blk_alloc ?_ _)); refine blk_far ?_ NB237_250.out _; (with_reducible repeat (first | refine blk_drewN ?_ _ | refine blk_drew ?_ | refine blk_alloc ?_ _)); refine blk_far ?_ NB237_250.out _; (with_reducible repeat (first | refine blk_drewN ?_ _ | refine blk_drew ?_ | refine blk_alloc ?_ _)); exact BK237.out⟩, ⟨by (with_reducible repeat (first | refine blk_drewN ?_ _ | refine blk_drew ?_ | refine blk_alloc ?_ _)); refine blk_far ?_ NB244_250.out _; (with_reducible repeat (first | refine blk_drewN ?_ _ | refine blk_drew ?_ | refine blk_alloc ?_ _)); refine blk_far ?_ NB244_250.out _; (with_reducible repeat (first | refine blk_drewN ?_ _ | refine blk_drew ?_ | refine blk_alloc ?_ _)); refine blk_far ?_ NB244_250.out _; (with_reducible repeat (first | refine blk_drewN ?_ _ | refine blk_drew ?_ | refine blk_alloc ?_ _)); exact BK244.out⟩, ⟨by (with_reducible repeat (first | refine blk_drewN ?_ _ | refine blk_drew ?_ | refine blk_alloc ?_ _)); refine blk_put (cs := #[.int .i64 t245, .int .i64 t246, .int .i64 0]) ?_ 2 _ rfl; (with_reducible repeat (first | refine blk_drewN ?_ _ | refine blk_drew ?_ | refine blk_alloc ?_ _)); refine blk_put (cs := #[.int .i64 t245, .int .i64 0, .int .i64 0]) ?_ 1 _ rfl; (with_reducible repeat (first | refine blk_drewN ?_ _ | refine blk_drew ?_ | refine blk_alloc ?_ _)); refine blk_put (cs := #[.int .i64 0, .int .i64 0, .int .i64 0]) ?_ 0 _ rfl; (with_reducible repeat (first | refine blk_drewN ?_ _ | refine blk_drew ?_ | refine blk_alloc ?_ _)); exact BK250.out⟩, ⟨by repeat (first | (with_reducible first | exact HB.out | apply below_alloc | apply pw_below_drewN | apply below_drew1 | refine below_set ?_ GE231.out | refine below_set ?_ GE237.out | refine below_set ?_ GE244.out | refine below_set ?_ GE250.out) | exact HB.out)⟩⟩
                            · rw [if_neg c50] at H
                              have c50b0 : (t242 == 1) = false := beq_eq_false_iff_ne.mpr c50
                              have c50b1 : (t242 != 1) = true := bne_iff_ne.mpr c50
                              have H' := Aside0.mk H
                              clear H
                              have hnb72 := NB231_237.out
                              have hnc72 := NB237_231.out
                              have hnb73 := NB231_244.out
                              have hnc73 := NB244_231.out
                              have hnb74 := NB231_250.out
                              have hnc74 := NB250_231.out
                              have hcz75_0 : w36.cell? ⟨gb231, 0, none⟩ = some (.int .i64 t226) := (blk_cell BK231.out 0).trans rfl
                              have hcz75_1 : w36.cell? ⟨gb231, 1, none⟩ = some (.int .i64 t227) := (blk_cell BK231.out 1).trans rfl
                              have hcz75_2 : w36.cell? ⟨gb231, 2, none⟩ = some (.int .i64 t228) := (blk_cell BK231.out 2).trans rfl
                              have hfz75_0 := blk_frozen BK231.out 0
                              have hfz75_1 := blk_frozen BK231.out 1
                              have hfz75_2 := blk_frozen BK231.out 2
                              have hnb76 := NB237_244.out
                              have hnc76 := NB244_237.out
                              have hnb77 := NB237_250.out
                              have hnc77 := NB250_237.out
                              have hcz78_0 : w36.cell? ⟨gb237, 0, none⟩ = some (.int .i64 t232) := (blk_cell BK237.out 0).trans rfl
                              have hcz78_1 : w36.cell? ⟨gb237, 1, none⟩ = some (.int .i64 t233) := (blk_cell BK237.out 1).trans rfl
                              have hcz78_2 : w36.cell? ⟨gb237, 2, none⟩ = some (.int .i64 t234) := (blk_cell BK237.out 2).trans rfl
                              have hfz78_0 := blk_frozen BK237.out 0
                              have hfz78_1 := blk_frozen BK237.out 1
                              have hfz78_2 := blk_frozen BK237.out 2
                              have hnb79 := NB244_250.out
                              have hnc79 := NB250_244.out
                              have hcz80_0 : w36.cell? ⟨gb244, 0, none⟩ = some (.int .i64 t239) := (blk_cell BK244.out 0).trans rfl
                              have hcz80_1 : w36.cell? ⟨gb244, 1, none⟩ = some (.int .i64 t240) := (blk_cell BK244.out 1).trans rfl
                              have hcz80_2 : w36.cell? ⟨gb244, 2, none⟩ = some (.int .i64 t241) := (blk_cell BK244.out 2).trans rfl
                              have hfz80_0 := blk_frozen BK244.out 0
                              have hfz80_1 := blk_frozen BK244.out 1
                              have hfz80_2 := blk_frozen BK244.out 2
                              go_wp2
                              go_meet
                              case rel => exact ⟨_, (false), (by first | rfl | (simp; done) | (simp [*]; done)), H', ⟨by have := HJ4.out; first | omega | exact Nat.le_refl _⟩, ⟨by (with_reducible repeat (first | refine blk_drewN ?_ _ | refine blk_drew ?_ | refine blk_alloc ?_ _)); refine blk_far ?_ NB231_250.out _; (with_reducible repeat (first | refine blk_drewN ?_ _ | refine blk_drew ?_ | refine blk_alloc ?_ _)); refine blk_far ?_ NB231_250.out _; (with_reducible repeat (first | refine blk_drewN ?_ _ | refine blk_drew ?_ | refine blk_alloc ?_ _)); refine blk_far ?_ NB231_250.out _; (with_reducible repeat (first | refine blk_drewN ?_ _ | refine blk_drew ?_ | refine blk_alloc ?_ _)); exact BK231.out⟩, ⟨by (with_reducible repeat (first | refine blk_drewN ?_ _ | refine blk_drew ?_ | refine blk_alloc ?_ _)); refine blk_far ?_ NB237_250.out _; (with_reducible repeat (first | refine blk_drewN ?_ _ | refine blk_drew ?_ | refine blk_alloc ?_ _)); refine blk_far ?_ NB237_250.out _; (with_reducible repeat (first | refine blk_drewN ?_ _ | refine blk_drew ?_ | refine blk_alloc ?_ _)); refine blk_far ?_ NB237_250.out _; (with_reducible repeat (first | refine blk_drewN ?_ _ | refine blk_drew ?_ | refine blk_alloc ?_ _)); exact BK237.out⟩, ⟨by (with_reducible repeat (first | refine blk_drewN ?_ _ | refine blk_drew ?_ | refine blk_alloc ?_ _)); refine blk_far ?_ NB244_250.out _; (with_reducible repeat (first | refine blk_drewN ?_ _ | refine blk_drew ?_ | refine blk_alloc ?_ _)); refine blk_far ?_ NB244_250.out _; (with_reducible repeat (first | refine blk_drewN ?_ _ | refine blk_drew ?_ | refine blk_alloc ?_ _)); refine blk_far ?_ NB244_250.out _; (with_reducible repeat (first | refine blk_drewN ?_ _ | refine blk_drew ?_ | refine blk_alloc ?_ _)); exact BK244.out⟩, ⟨by (with_reducible repeat (first | refine blk_drewN ?_ _ | refine blk_drew ?_ | refine blk_alloc ?_ _)); refine blk_put (cs := #[.int .i64 t245, .int .i64 t246, .int .i64 0]) ?_ 2 _ rfl; (with_reducible repeat (first | refine blk_drewN ?_ _ | refine blk_drew ?_ | refine blk_alloc ?_ _)); refine blk_put (cs := #[.int .i64 t245, .int .i64 0, .int .i64 0]) ?_ 1 _ rfl; (with_reducible repeat (first | refine blk_drewN ?_ _ | refine blk_drew ?_ | refine blk_alloc ?_ _)); refine blk_put (cs := #[.int .i64 0, .int .i64 0, .int .i64 0]) ?_ 0 _ rfl; (with_reducible repeat (first | refine blk_drewN ?_ _ | refine blk_drew ?_ | refine blk_alloc ?_ _)); exact BK250.out⟩, ⟨by repeat (first | (with_reducible first | exact HB.out | apply below_alloc | apply pw_below_drewN | apply below_drew1 | refine below_set ?_ GE231.out | refine below_set ?_ GE237.out | refine below_set ?_ GE244.out | refine below_set ?_ GE250.out) | exact HB.out)⟩⟩
                          · rw [if_neg c49] at H
                            have c49b0 : (t239 == a0) = false := beq_eq_false_iff_ne.mpr c49
                            have c49b1 : (t239 != a0) = true := bne_iff_ne.mpr c49
                            have H' := Aside0.mk H
                            clear H
                            have hnb81 := NB231_237.out
                            have hnc81 := NB237_231.out
                            have hnb82 := NB231_244.out
                            have hnc82 := NB244_231.out
                            have hnb83 := NB231_250.out
                            have hnc83 := NB250_231.out
                            have hcz84_0 : w36.cell? ⟨gb231, 0, none⟩ = some (.int .i64 t226) := (blk_cell BK231.out 0).trans rfl
                            have hcz84_1 : w36.cell? ⟨gb231, 1, none⟩ = some (.int .i64 t227) := (blk_cell BK231.out 1).trans rfl
                            have hcz84_2 : w36.cell? ⟨gb231, 2, none⟩ = some (.int .i64 t228) := (blk_cell BK231.out 2).trans rfl
                            have hfz84_0 := blk_frozen BK231.out 0
                            have hfz84_1 := blk_frozen BK231.out 1
                            have hfz84_2 := blk_frozen BK231.out 2
                            have hnb85 := NB237_244.out
                            have hnc85 := NB244_237.out
                            have hnb86 := NB237_250.out
                            have hnc86 := NB250_237.out
                            have hcz87_0 : w36.cell? ⟨gb237, 0, none⟩ = some (.int .i64 t232) := (blk_cell BK237.out 0).trans rfl
                            have hcz87_1 : w36.cell? ⟨gb237, 1, none⟩ = some (.int .i64 t233) := (blk_cell BK237.out 1).trans rfl
                            have hcz87_2 : w36.cell? ⟨gb237, 2, none⟩ = some (.int .i64 t234) := (blk_cell BK237.out 2).trans rfl
                            have hfz87_0 := blk_frozen BK237.out 0
                            have hfz87_1 := blk_frozen BK237.out 1
                            have hfz87_2 := blk_frozen BK237.out 2
                            have hnb88 := NB244_250.out
                            have hnc88 := NB250_244.out
                            have hcz89_0 : w36.cell? ⟨gb244, 0, none⟩ = some (.int .i64 t239) := (blk_cell BK244.out 0).trans rfl
                            have hcz89_1 : w36.cell? ⟨gb244, 1, none⟩ = some (.int .i64 t240) := (blk_cell BK244.out 1).trans rfl
                            have hcz89_2 : w36.cell? ⟨gb244, 2, none⟩ = some (.int .i64 t241) := (blk_cell BK244.out 2).trans rfl
                            have hfz89_0 := blk_frozen BK244.out 0
                            have hfz89_1 := blk_frozen BK244.out 1
                            have hfz89_2 := blk_frozen BK244.out 2
                            go_wp2
                            go_meet
                            case rel => exact ⟨_, (false), (by first | rfl | (simp; done) | (simp [*]; done)), H', ⟨by have := HJ4.out; first | omega | exact Nat.le_refl _⟩, ⟨by (with_reducible repeat (first | refine blk_drewN ?_ _ | refine blk_drew ?_ | refine blk_alloc ?_ _)); refine blk_far ?_ NB231_250.out _; (with_reducible repeat (first | refine blk_drewN ?_ _ | refine blk_drew ?_ | refine blk_alloc ?_ _)); refine blk_far ?_ NB231_250.out _; (with_reducible repeat (first | refine blk_drewN ?_ _ | refine blk_drew ?_ | refine blk_alloc ?_ _)); refine blk_far ?_ NB231_250.out _; (with_reducible repeat (first | refine blk_drewN ?_ _ | refine blk_drew ?_ | refine blk_alloc ?_ _)); exact BK231.out⟩, ⟨by (with_reducible repeat (first | refine blk_drewN ?_ _ | refine blk_drew ?_ | refine blk_alloc ?_ _)); refine blk_far ?_ NB237_250.out _; (with_reducible repeat (first | refine blk_drewN ?_ _ | refine blk_drew ?_ | refine blk_alloc ?_ _)); refine blk_far ?_ NB237_250.out _; (with_reducible repeat (first | refine blk_drewN ?_ _ | refine blk_drew ?_ | refine blk_alloc ?_ _)); refine blk_far ?_ NB237_250.out _; (with_reducible repeat (first | refine blk_drewN ?_ _ | refine blk_drew ?_ | refine blk_alloc ?_ _)); exact BK237.out⟩, ⟨by (with_reducible repeat (first | refine blk_drewN ?_ _ | refine blk_drew ?_ | refine blk_alloc ?_ _)); refine blk_far ?_ NB244_250.out _; (with_reducible repeat (first | refine blk_drewN ?_ _ | refine blk_drew ?_ | refine blk_alloc ?_ _)); refine blk_far ?_ NB244_250.out _; (with_reducible repeat (first | refine blk_drewN ?_ _ | refine blk_drew ?_ | refine blk_alloc ?_ _)); refine blk_far ?_ NB244_250.out _; (with_reducible repeat (first | refine blk_drewN ?_ _ | refine blk_drew ?_ | refine blk_alloc ?_ _)); exact BK244.out⟩, ⟨by (with_reducible repeat (first | refine blk_drewN ?_ _ | refine blk_drew ?_ | refine blk_alloc ?_ _)); refine blk_put (cs := #[.int .i64 t245, .int .i64 t246, .int .i64 0]) ?_ 2 _ rfl; (with_reducible repeat (first | refine blk_drewN ?_ _ | refine blk_drew ?_ | refine blk_alloc ?_ _)); refine blk_put (cs := #[.int .i64 t245, .int .i64 0, .int .i64 0]) ?_ 1 _ rfl; (with_reducible repeat (first | refine blk_drewN ?_ _ | refine blk_drew ?_ | refine blk_alloc ?_ _)); refine blk_put (cs := #[.int .i64 0, .int .i64 0, .int .i64 0]) ?_ 0 _ rfl; (with_reducible repeat (first | refine blk_drewN ?_ _ | refine blk_drew ?_ | refine blk_alloc ?_ _)); exact BK250.out⟩, ⟨by repeat (first | (with_reducible first | exact HB.out | apply below_alloc | apply pw_below_drewN | apply below_drew1 | refine below_set ?_ GE231.out | refine below_set ?_ GE237.out | refine below_set ?_ GE244.out | refine below_set ?_ GE250.out) | exact HB.out)⟩⟩
                        · replace c48 := Bool.eq_false_iff.mpr c48
                          subst c48
                          have H1 : (maquettelaw14_CrownTurns.j1 kj4 false) = some r := by rw [if_neg (show ¬ (false = true) by decide)] at H; exact H
                          clear H
                          have H := H1
                          clear H1
                          have H' := Aside0.mk H
                          clear H
                          have hnb90 := NB231_237.out
                          have hnc90 := NB237_231.out
                          have hnb91 := NB231_244.out
                          have hnc91 := NB244_231.out
                          have hnb92 := NB231_250.out
                          have hnc92 := NB250_231.out
                          have hcz93_0 : w36.cell? ⟨gb231, 0, none⟩ = some (.int .i64 t226) := (blk_cell BK231.out 0).trans rfl
                          have hcz93_1 : w36.cell? ⟨gb231, 1, none⟩ = some (.int .i64 t227) := (blk_cell BK231.out 1).trans rfl
                          have hcz93_2 : w36.cell? ⟨gb231, 2, none⟩ = some (.int .i64 t228) := (blk_cell BK231.out 2).trans rfl
                          have hfz93_0 := blk_frozen BK231.out 0
                          have hfz93_1 := blk_frozen BK231.out 1
                          have hfz93_2 := blk_frozen BK231.out 2
                          have hnb94 := NB237_244.out
                          have hnc94 := NB244_237.out
                          have hnb95 := NB237_250.out
                          have hnc95 := NB250_237.out
                          have hcz96_0 : w36.cell? ⟨gb237, 0, none⟩ = some (.int .i64 t232) := (blk_cell BK237.out 0).trans rfl
                          have hcz96_1 : w36.cell? ⟨gb237, 1, none⟩ = some (.int .i64 t233) := (blk_cell BK237.out 1).trans rfl
                          have hcz96_2 : w36.cell? ⟨gb237, 2, none⟩ = some (.int .i64 t234) := (blk_cell BK237.out 2).trans rfl
                          have hfz96_0 := blk_frozen BK237.out 0
                          have hfz96_1 := blk_frozen BK237.out 1
                          have hfz96_2 := blk_frozen BK237.out 2
                          go_wp2
                          go_meet
                          case rel => exact ⟨_, (false), (by first | rfl | (simp; done) | (simp [*]; done)), H', ⟨by have := HJ4.out; first | omega | exact Nat.le_refl _⟩, ⟨by (with_reducible repeat (first | refine blk_drewN ?_ _ | refine blk_drew ?_ | refine blk_alloc ?_ _)); refine blk_far ?_ NB231_250.out _; (with_reducible repeat (first | refine blk_drewN ?_ _ | refine blk_drew ?_ | refine blk_alloc ?_ _)); refine blk_far ?_ NB231_250.out _; (with_reducible repeat (first | refine blk_drewN ?_ _ | refine blk_drew ?_ | refine blk_alloc ?_ _)); refine blk_far ?_ NB231_250.out _; (with_reducible repeat (first | refine blk_drewN ?_ _ | refine blk_drew ?_ | refine blk_alloc ?_ _)); exact BK231.out⟩, ⟨by (with_reducible repeat (first | refine blk_drewN ?_ _ | refine blk_drew ?_ | refine blk_alloc ?_ _)); refine blk_far ?_ NB237_250.out _; (with_reducible repeat (first | refine blk_drewN ?_ _ | refine blk_drew ?_ | refine blk_alloc ?_ _)); refine blk_far ?_ NB237_250.out _; (with_reducible repeat (first | refine blk_drewN ?_ _ | refine blk_drew ?_ | refine blk_alloc ?_ _)); refine blk_far ?_ NB237_250.out _; (with_reducible repeat (first | refine blk_drewN ?_ _ | refine blk_drew ?_ | refine blk_alloc ?_ _)); exact BK237.out⟩, ⟨by (with_reducible repeat (first | refine blk_drewN ?_ _ | refine blk_drew ?_ | refine blk_alloc ?_ _)); refine blk_far ?_ NB244_250.out _; (with_reducible repeat (first | refine blk_drewN ?_ _ | refine blk_drew ?_ | refine blk_alloc ?_ _)); refine blk_far ?_ NB244_250.out _; (with_reducible repeat (first | refine blk_drewN ?_ _ | refine blk_drew ?_ | refine blk_alloc ?_ _)); refine blk_far ?_ NB244_250.out _; (with_reducible repeat (first | refine blk_drewN ?_ _ | refine blk_drew ?_ | refine blk_alloc ?_ _)); exact BK244.out⟩, ⟨by (with_reducible repeat (first | refine blk_drewN ?_ _ | refine blk_drew ?_ | refine blk_alloc ?_ _)); refine blk_put (cs := #[.int .i64 t245, .int .i64 t246, .int .i64 0]) ?_ 2 _ rfl; (with_reducible repeat (first | refine blk_drewN ?_ _ | refine blk_drew ?_ | refine blk_alloc ?_ _)); refine blk_put (cs := #[.int .i64 t245, .int .i64 0, .int .i64 0]) ?_ 1 _ rfl; (with_reducible repeat (first | refine blk_drewN ?_ _ | refine blk_drew ?_ | refine blk_alloc ?_ _)); refine blk_put (cs := #[.int .i64 0, .int .i64 0, .int .i64 0]) ?_ 0 _ rfl; (with_reducible repeat (first | refine blk_drewN ?_ _ | refine blk_drew ?_ | refine blk_alloc ?_ _)); exact BK250.out⟩, ⟨by repeat (first | (with_reducible first | exact HB.out | apply below_alloc | apply pw_below_drewN | apply below_drew1 | refine below_set ?_ GE231.out | refine below_set ?_ GE237.out | refine below_set ?_ GE244.out | refine below_set ?_ GE250.out) | exact HB.out)⟩⟩
                      · rw [if_neg c47] at H
                        have c47b0 : (t235 == 0) = false := beq_eq_false_iff_ne.mpr c47
                        have c47b1 : (t235 != 0) = true := bne_iff_ne.mpr c47
                        have H' := Aside0.mk H
                        clear H
                        have hnb97 := NB231_237.out
                        have hnc97 := NB237_231.out
                        have hnb98 := NB231_244.out
                        have hnc98 := NB244_231.out
                        have hnb99 := NB231_250.out
                        have hnc99 := NB250_231.out
                        have hcz100_0 : w36.cell? ⟨gb231, 0, none⟩ = some (.int .i64 t226) := (blk_cell BK231.out 0).trans rfl
                        have hcz100_1 : w36.cell? ⟨gb231, 1, none⟩ = some (.int .i64 t227) := (blk_cell BK231.out 1).trans rfl
                        have hcz100_2 : w36.cell? ⟨gb231, 2, none⟩ = some (.int .i64 t228) := (blk_cell BK231.out 2).trans rfl
                        have hfz100_0 := blk_frozen BK231.out 0
                        have hfz100_1 := blk_frozen BK231.out 1
                        have hfz100_2 := blk_frozen BK231.out 2
                        have hnb101 := NB237_244.out
                        have hnc101 := NB244_237.out
                        have hnb102 := NB237_250.out
                        have hnc102 := NB250_237.out
                        have hcz103_0 : w36.cell? ⟨gb237, 0, none⟩ = some (.int .i64 t232) := (blk_cell BK237.out 0).trans rfl
                        have hcz103_1 : w36.cell? ⟨gb237, 1, none⟩ = some (.int .i64 t233) := (blk_cell BK237.out 1).trans rfl
                        have hcz103_2 : w36.cell? ⟨gb237, 2, none⟩ = some (.int .i64 t234) := (blk_cell BK237.out 2).trans rfl
                        have hfz103_0 := blk_frozen BK237.out 0
                        have hfz103_1 := blk_frozen BK237.out 1
                        have hfz103_2 := blk_frozen BK237.out 2
                        go_wp2
                        go_meet
                        case rel => exact ⟨_, (false), (by first | rfl | (simp; done) | (simp [*]; done)), H', ⟨by have := HJ4.out; first | omega | exact Nat.le_refl _⟩, ⟨by (with_reducible repeat (first | refine blk_drewN ?_ _ | refine blk_drew ?_ | refine blk_alloc ?_ _)); refine blk_far ?_ NB231_250.out _; (with_reducible repeat (first | refine blk_drewN ?_ _ | refine blk_drew ?_ | refine blk_alloc ?_ _)); refine blk_far ?_ NB231_250.out _; (with_reducible repeat (first | refine blk_drewN ?_ _ | refine blk_drew ?_ | refine blk_alloc ?_ _)); refine blk_far ?_ NB231_250.out _; (with_reducible repeat (first | refine blk_drewN ?_ _ | refine blk_drew ?_ | refine blk_alloc ?_ _)); exact BK231.out⟩, ⟨by (with_reducible repeat (first | refine blk_drewN ?_ _ | refine blk_drew ?_ | refine blk_alloc ?_ _)); refine blk_far ?_ NB237_250.out _; (with_reducible repeat (first | refine blk_drewN ?_ _ | refine blk_drew ?_ | refine blk_alloc ?_ _)); refine blk_far ?_ NB237_250.out _; (with_reducible repeat (first | refine blk_drewN ?_ _ | refine blk_drew ?_ | refine blk_alloc ?_ _)); refine blk_far ?_ NB237_250.out _; (with_reducible repeat (first | refine blk_drewN ?_ _ | refine blk_drew ?_ | refine blk_alloc ?_ _)); exact BK237.out⟩, ⟨by (with_reducible repeat (first | refine blk_drewN ?_ _ | refine blk_drew ?_ | refine blk_alloc ?_ _)); refine blk_far ?_ NB244_250.out _; (with_reducible repeat (first | refine blk_drewN ?_ _ | refine blk_drew ?_ | refine blk_alloc ?_ _)); refine blk_far ?_ NB244_250.out _; (with_reducible repeat (first | refine blk_drewN ?_ _ | refine blk_drew ?_ | refine blk_alloc ?_ _)); refine blk_far ?_ NB244_250.out _; (with_reducible repeat (first | refine blk_drewN ?_ _ | refine blk_drew ?_ | refine blk_alloc ?_ _)); exact BK244.out⟩, ⟨by (with_reducible repeat (first | refine blk_drewN ?_ _ | refine blk_drew ?_ | refine blk_alloc ?_ _)); refine blk_put (cs := #[.int .i64 t245, .int .i64 t246, .int .i64 0]) ?_ 2 _ rfl; (with_reducible repeat (first | refine blk_drewN ?_ _ | refine blk_drew ?_ | refine blk_alloc ?_ _)); refine blk_put (cs := #[.int .i64 t245, .int .i64 0, .int .i64 0]) ?_ 1 _ rfl; (with_reducible repeat (first | refine blk_drewN ?_ _ | refine blk_drew ?_ | refine blk_alloc ?_ _)); refine blk_put (cs := #[.int .i64 0, .int .i64 0, .int .i64 0]) ?_ 0 _ rfl; (with_reducible repeat (first | refine blk_drewN ?_ _ | refine blk_drew ?_ | refine blk_alloc ?_ _)); exact BK250.out⟩, ⟨by repeat (first | (with_reducible first | exact HB.out | apply below_alloc | apply pw_below_drewN | apply below_drew1 | refine below_set ?_ GE231.out | refine below_set ?_ GE237.out | refine below_set ?_ GE244.out | refine below_set ?_ GE250.out) | exact HB.out)⟩⟩
                    · rw [if_neg c46] at H
                      have c46b0 : (t232 == (wrap64 (a0 + 1))) = false := beq_eq_false_iff_ne.mpr c46
                      have c46b1 : (t232 != (wrap64 (a0 + 1))) = true := bne_iff_ne.mpr c46
                      have H' := Aside0.mk H
                      clear H
                      have hnb104 := NB231_237.out
                      have hnc104 := NB237_231.out
                      have hnb105 := NB231_244.out
                      have hnc105 := NB244_231.out
                      have hnb106 := NB231_250.out
                      have hnc106 := NB250_231.out
                      have hcz107_0 : w36.cell? ⟨gb231, 0, none⟩ = some (.int .i64 t226) := (blk_cell BK231.out 0).trans rfl
                      have hcz107_1 : w36.cell? ⟨gb231, 1, none⟩ = some (.int .i64 t227) := (blk_cell BK231.out 1).trans rfl
                      have hcz107_2 : w36.cell? ⟨gb231, 2, none⟩ = some (.int .i64 t228) := (blk_cell BK231.out 2).trans rfl
                      have hfz107_0 := blk_frozen BK231.out 0
                      have hfz107_1 := blk_frozen BK231.out 1
                      have hfz107_2 := blk_frozen BK231.out 2
                      have hnb108 := NB237_244.out
                      have hnc108 := NB244_237.out
                      have hnb109 := NB237_250.out
                      have hnc109 := NB250_237.out
                      have hcz110_0 : w36.cell? ⟨gb237, 0, none⟩ = some (.int .i64 t232) := (blk_cell BK237.out 0).trans rfl
                      have hcz110_1 : w36.cell? ⟨gb237, 1, none⟩ = some (.int .i64 t233) := (blk_cell BK237.out 1).trans rfl
                      have hcz110_2 : w36.cell? ⟨gb237, 2, none⟩ = some (.int .i64 t234) := (blk_cell BK237.out 2).trans rfl
                      have hfz110_0 := blk_frozen BK237.out 0
                      have hfz110_1 := blk_frozen BK237.out 1
                      have hfz110_2 := blk_frozen BK237.out 2
                      go_wp2
                      go_meet
                      case rel => exact ⟨_, (false), (by first | rfl | (simp; done) | (simp [*]; done)), H', ⟨by have := HJ4.out; first | omega | exact Nat.le_refl _⟩, ⟨by (with_reducible repeat (first | refine blk_drewN ?_ _ | refine blk_drew ?_ | refine blk_alloc ?_ _)); refine blk_far ?_ NB231_250.out _; (with_reducible repeat (first | refine blk_drewN ?_ _ | refine blk_drew ?_ | refine blk_alloc ?_ _)); refine blk_far ?_ NB231_250.out _; (with_reducible repeat (first | refine blk_drewN ?_ _ | refine blk_drew ?_ | refine blk_alloc ?_ _)); refine blk_far ?_ NB231_250.out _; (with_reducible repeat (first | refine blk_drewN ?_ _ | refine blk_drew ?_ | refine blk_alloc ?_ _)); exact BK231.out⟩, ⟨by (with_reducible repeat (first | refine blk_drewN ?_ _ | refine blk_drew ?_ | refine blk_alloc ?_ _)); refine blk_far ?_ NB237_250.out _; (with_reducible repeat (first | refine blk_drewN ?_ _ | refine blk_drew ?_ | refine blk_alloc ?_ _)); refine blk_far ?_ NB237_250.out _; (with_reducible repeat (first | refine blk_drewN ?_ _ | refine blk_drew ?_ | refine blk_alloc ?_ _)); refine blk_far ?_ NB237_250.out _; (with_reducible repeat (first | refine blk_drewN ?_ _ | refine blk_drew ?_ | refine blk_alloc ?_ _)); exact BK237.out⟩, ⟨by (with_reducible repeat (first | refine blk_drewN ?_ _ | refine blk_drew ?_ | refine blk_alloc ?_ _)); refine blk_far ?_ NB244_250.out _; (with_reducible repeat (first | refine blk_drewN ?_ _ | refine blk_drew ?_ | refine blk_alloc ?_ _)); refine blk_far ?_ NB244_250.out _; (with_reducible repeat (first | refine blk_drewN ?_ _ | refine blk_drew ?_ | refine blk_alloc ?_ _)); refine blk_far ?_ NB244_250.out _; (with_reducible repeat (first | refine blk_drewN ?_ _ | refine blk_drew ?_ | refine blk_alloc ?_ _)); exact BK244.out⟩, ⟨by (with_reducible repeat (first | refine blk_drewN ?_ _ | refine blk_drew ?_ | refine blk_alloc ?_ _)); refine blk_put (cs := #[.int .i64 t245, .int .i64 t246, .int .i64 0]) ?_ 2 _ rfl; (with_reducible repeat (first | refine blk_drewN ?_ _ | refine blk_drew ?_ | refine blk_alloc ?_ _)); refine blk_put (cs := #[.int .i64 t245, .int .i64 0, .int .i64 0]) ?_ 1 _ rfl; (with_reducible repeat (first | refine blk_drewN ?_ _ | refine blk_drew ?_ | refine blk_alloc ?_ _)); refine blk_put (cs := #[.int .i64 0, .int .i64 0, .int .i64 0]) ?_ 0 _ rfl; (with_reducible repeat (first | refine blk_drewN ?_ _ | refine blk_drew ?_ | refine blk_alloc ?_ _)); exact BK250.out⟩, ⟨by repeat (first | (with_reducible first | exact HB.out | apply below_alloc | apply pw_below_drewN | apply below_drew1 | refine below_set ?_ GE231.out | refine below_set ?_ GE237.out | refine below_set ?_ GE244.out | refine below_set ?_ GE250.out) | exact HB.out)⟩⟩
                  · rw [if_neg c45] at H
                    have c45b0 : (t229 == 1) = false := beq_eq_false_iff_ne.mpr c45
                    have c45b1 : (t229 != 1) = true := bne_iff_ne.mpr c45
                    have H' := Aside0.mk H
                    clear H
                    have hnb111 := NB231_237.out
                    have hnc111 := NB237_231.out
                    have hnb112 := NB231_244.out
                    have hnc112 := NB244_231.out
                    have hnb113 := NB231_250.out
                    have hnc113 := NB250_231.out
                    have hcz114_0 : w36.cell? ⟨gb231, 0, none⟩ = some (.int .i64 t226) := (blk_cell BK231.out 0).trans rfl
                    have hcz114_1 : w36.cell? ⟨gb231, 1, none⟩ = some (.int .i64 t227) := (blk_cell BK231.out 1).trans rfl
                    have hcz114_2 : w36.cell? ⟨gb231, 2, none⟩ = some (.int .i64 t228) := (blk_cell BK231.out 2).trans rfl
                    have hfz114_0 := blk_frozen BK231.out 0
                    have hfz114_1 := blk_frozen BK231.out 1
                    have hfz114_2 := blk_frozen BK231.out 2
                    go_wp2
                    go_meet
                    case rel => exact ⟨_, (false), (by first | rfl | (simp; done) | (simp [*]; done)), H', ⟨by have := HJ4.out; first | omega | exact Nat.le_refl _⟩, ⟨by (with_reducible repeat (first | refine blk_drewN ?_ _ | refine blk_drew ?_ | refine blk_alloc ?_ _)); refine blk_far ?_ NB231_250.out _; (with_reducible repeat (first | refine blk_drewN ?_ _ | refine blk_drew ?_ | refine blk_alloc ?_ _)); refine blk_far ?_ NB231_250.out _; (with_reducible repeat (first | refine blk_drewN ?_ _ | refine blk_drew ?_ | refine blk_alloc ?_ _)); refine blk_far ?_ NB231_250.out _; (with_reducible repeat (first | refine blk_drewN ?_ _ | refine blk_drew ?_ | refine blk_alloc ?_ _)); exact BK231.out⟩, ⟨by (with_reducible repeat (first | refine blk_drewN ?_ _ | refine blk_drew ?_ | refine blk_alloc ?_ _)); refine blk_far ?_ NB237_250.out _; (with_reducible repeat (first | refine blk_drewN ?_ _ | refine blk_drew ?_ | refine blk_alloc ?_ _)); refine blk_far ?_ NB237_250.out _; (with_reducible repeat (first | refine blk_drewN ?_ _ | refine blk_drew ?_ | refine blk_alloc ?_ _)); refine blk_far ?_ NB237_250.out _; (with_reducible repeat (first | refine blk_drewN ?_ _ | refine blk_drew ?_ | refine blk_alloc ?_ _)); exact BK237.out⟩, ⟨by (with_reducible repeat (first | refine blk_drewN ?_ _ | refine blk_drew ?_ | refine blk_alloc ?_ _)); refine blk_far ?_ NB244_250.out _; (with_reducible repeat (first | refine blk_drewN ?_ _ | refine blk_drew ?_ | refine blk_alloc ?_ _)); refine blk_far ?_ NB244_250.out _; (with_reducible repeat (first | refine blk_drewN ?_ _ | refine blk_drew ?_ | refine blk_alloc ?_ _)); refine blk_far ?_ NB244_250.out _; (with_reducible repeat (first | refine blk_drewN ?_ _ | refine blk_drew ?_ | refine blk_alloc ?_ _)); exact BK244.out⟩, ⟨by (with_reducible repeat (first | refine blk_drewN ?_ _ | refine blk_drew ?_ | refine blk_alloc ?_ _)); refine blk_put (cs := #[.int .i64 t245, .int .i64 t246, .int .i64 0]) ?_ 2 _ rfl; (with_reducible repeat (first | refine blk_drewN ?_ _ | refine blk_drew ?_ | refine blk_alloc ?_ _)); refine blk_put (cs := #[.int .i64 t245, .int .i64 0, .int .i64 0]) ?_ 1 _ rfl; (with_reducible repeat (first | refine blk_drewN ?_ _ | refine blk_drew ?_ | refine blk_alloc ?_ _)); refine blk_put (cs := #[.int .i64 0, .int .i64 0, .int .i64 0]) ?_ 0 _ rfl; (with_reducible repeat (first | refine blk_drewN ?_ _ | refine blk_drew ?_ | refine blk_alloc ?_ _)); exact BK250.out⟩, ⟨by repeat (first | (with_reducible first | exact HB.out | apply below_alloc | apply pw_below_drewN | apply below_drew1 | refine below_set ?_ GE231.out | refine below_set ?_ GE237.out | refine below_set ?_ GE244.out | refine below_set ?_ GE250.out) | exact HB.out)⟩⟩
                · rw [if_neg c44] at H
                  have c44b0 : (t226 == (wrap64 (a0 + 1))) = false := beq_eq_false_iff_ne.mpr c44
                  have c44b1 : (t226 != (wrap64 (a0 + 1))) = true := bne_iff_ne.mpr c44
                  (first | rw [c44b0] | (simp only [i64_w, i32_w]; rw [c44b0]) | skip)
                  have H' := Aside0.mk H
                  clear H
                  have hnb115 := NB231_237.out
                  have hnc115 := NB237_231.out
                  have hnb116 := NB231_244.out
                  have hnc116 := NB244_231.out
                  have hnb117 := NB231_250.out
                  have hnc117 := NB250_231.out
                  have hcz118_0 : w36.cell? ⟨gb231, 0, none⟩ = some (.int .i64 t226) := (blk_cell BK231.out 0).trans rfl
                  have hcz118_1 : w36.cell? ⟨gb231, 1, none⟩ = some (.int .i64 t227) := (blk_cell BK231.out 1).trans rfl
                  have hcz118_2 : w36.cell? ⟨gb231, 2, none⟩ = some (.int .i64 t228) := (blk_cell BK231.out 2).trans rfl
                  have hfz118_0 := blk_frozen BK231.out 0
                  have hfz118_1 := blk_frozen BK231.out 1
                  have hfz118_2 := blk_frozen BK231.out 2
                  go_wp2
                  go_meet
                  case rel => exact ⟨_, (false), (by first | rfl | (simp; done) | (simp [*]; done)), H', ⟨by have := HJ4.out; first | omega | exact Nat.le_refl _⟩, ⟨by (with_reducible repeat (first | refine blk_drewN ?_ _ | refine blk_drew ?_ | refine blk_alloc ?_ _)); refine blk_far ?_ NB231_250.out _; (with_reducible repeat (first | refine blk_drewN ?_ _ | refine blk_drew ?_ | refine blk_alloc ?_ _)); refine blk_far ?_ NB231_250.out _; (with_reducible repeat (first | refine blk_drewN ?_ _ | refine blk_drew ?_ | refine blk_alloc ?_ _)); refine blk_far ?_ NB231_250.out _; (with_reducible repeat (first | refine blk_drewN ?_ _ | refine blk_drew ?_ | refine blk_alloc ?_ _)); exact BK231.out⟩, ⟨by (with_reducible repeat (first | refine blk_drewN ?_ _ | refine blk_drew ?_ | refine blk_alloc ?_ _)); refine blk_far ?_ NB237_250.out _; (with_reducible repeat (first | refine blk_drewN ?_ _ | refine blk_drew ?_ | refine blk_alloc ?_ _)); refine blk_far ?_ NB237_250.out _; (with_reducible repeat (first | refine blk_drewN ?_ _ | refine blk_drew ?_ | refine blk_alloc ?_ _)); refine blk_far ?_ NB237_250.out _; (with_reducible repeat (first | refine blk_drewN ?_ _ | refine blk_drew ?_ | refine blk_alloc ?_ _)); exact BK237.out⟩, ⟨by (with_reducible repeat (first | refine blk_drewN ?_ _ | refine blk_drew ?_ | refine blk_alloc ?_ _)); refine blk_far ?_ NB244_250.out _; (with_reducible repeat (first | refine blk_drewN ?_ _ | refine blk_drew ?_ | refine blk_alloc ?_ _)); refine blk_far ?_ NB244_250.out _; (with_reducible repeat (first | refine blk_drewN ?_ _ | refine blk_drew ?_ | refine blk_alloc ?_ _)); refine blk_far ?_ NB244_250.out _; (with_reducible repeat (first | refine blk_drewN ?_ _ | refine blk_drew ?_ | refine blk_alloc ?_ _)); exact BK244.out⟩, ⟨by (with_reducible repeat (first | refine blk_drewN ?_ _ | refine blk_drew ?_ | refine blk_alloc ?_ _)); refine blk_put (cs := #[.int .i64 t245, .int .i64 t246, .int .i64 0]) ?_ 2 _ rfl; (with_reducible repeat (first | refine blk_drewN ?_ _ | refine blk_drew ?_ | refine blk_alloc ?_ _)); refine blk_put (cs := #[.int .i64 t245, .int .i64 0, .int .i64 0]) ?_ 1 _ rfl; (with_reducible repeat (first | refine blk_drewN ?_ _ | refine blk_drew ?_ | refine blk_alloc ?_ _)); refine blk_put (cs := #[.int .i64 0, .int .i64 0, .int .i64 0]) ?_ 0 _ rfl; (with_reducible repeat (first | refine blk_drewN ?_ _ | refine blk_drew ?_ | refine blk_alloc ?_ _)); exact BK250.out⟩, ⟨by repeat (first | (with_reducible first | exact HB.out | apply below_alloc | apply pw_below_drewN | apply below_drew1 | refine below_set ?_ GE231.out | refine below_set ?_ GE237.out | refine below_set ?_ GE244.out | refine below_set ?_ GE250.out) | exact HB.out)⟩⟩
              · replace c43 := Bool.eq_false_iff.mpr c43
                subst c43
                have H1 : (maquettelaw14_CrownTurns.j1 kj4 false) = some r := by rw [if_neg (show ¬ (false = true) by decide)] at H; exact H
                clear H
                have H := H1
                clear H1
                have H' := Aside0.mk H
                clear H
                go_wp2
                go_meet
                case rel => exact ⟨_, (false), (by first | rfl | (simp; done) | (simp [*]; done)), H', ⟨by have := HJ4.out; first | omega | exact Nat.le_refl _⟩, ⟨by (with_reducible repeat (first | refine blk_drewN ?_ _ | refine blk_drew ?_ | refine blk_alloc ?_ _)); refine blk_far ?_ NB231_250.out _; (with_reducible repeat (first | refine blk_drewN ?_ _ | refine blk_drew ?_ | refine blk_alloc ?_ _)); refine blk_far ?_ NB231_250.out _; (with_reducible repeat (first | refine blk_drewN ?_ _ | refine blk_drew ?_ | refine blk_alloc ?_ _)); refine blk_far ?_ NB231_250.out _; (with_reducible repeat (first | refine blk_drewN ?_ _ | refine blk_drew ?_ | refine blk_alloc ?_ _)); exact BK231.out⟩, ⟨by (with_reducible repeat (first | refine blk_drewN ?_ _ | refine blk_drew ?_ | refine blk_alloc ?_ _)); refine blk_far ?_ NB237_250.out _; (with_reducible repeat (first | refine blk_drewN ?_ _ | refine blk_drew ?_ | refine blk_alloc ?_ _)); refine blk_far ?_ NB237_250.out _; (with_reducible repeat (first | refine blk_drewN ?_ _ | refine blk_drew ?_ | refine blk_alloc ?_ _)); refine blk_far ?_ NB237_250.out _; (with_reducible repeat (first | refine blk_drewN ?_ _ | refine blk_drew ?_ | refine blk_alloc ?_ _)); exact BK237.out⟩, ⟨by (with_reducible repeat (first | refine blk_drewN ?_ _ | refine blk_drew ?_ | refine blk_alloc ?_ _)); refine blk_far ?_ NB244_250.out _; (with_reducible repeat (first | refine blk_drewN ?_ _ | refine blk_drew ?_ | refine blk_alloc ?_ _)); refine blk_far ?_ NB244_250.out _; (with_reducible repeat (first | refine blk_drewN ?_ _ | refine blk_drew ?_ | refine blk_alloc ?_ _)); refine blk_far ?_ NB244_250.out _; (with_reducible repeat (first | refine blk_drewN ?_ _ | refine blk_drew ?_ | refine blk_alloc ?_ _)); exact BK244.out⟩, ⟨by (with_reducible repeat (first | refine blk_drewN ?_ _ | refine blk_drew ?_ | refine blk_alloc ?_ _)); refine blk_put (cs := #[.int .i64 t245, .int .i64 t246, .int .i64 0]) ?_ 2 _ rfl; (with_reducible repeat (first | refine blk_drewN ?_ _ | refine blk_drew ?_ | refine blk_alloc ?_ _)); refine blk_put (cs := #[.int .i64 t245, .int .i64 0, .int .i64 0]) ?_ 1 _ rfl; (with_reducible repeat (first | refine blk_drewN ?_ _ | refine blk_drew ?_ | refine blk_alloc ?_ _)); refine blk_put (cs := #[.int .i64 0, .int .i64 0, .int .i64 0]) ?_ 0 _ rfl; (with_reducible repeat (first | refine blk_drewN ?_ _ | refine blk_drew ?_ | refine blk_alloc ?_ _)); exact BK250.out⟩, ⟨by repeat (first | (with_reducible first | exact HB.out | apply below_alloc | apply pw_below_drewN | apply below_drew1 | refine below_set ?_ GE231.out | refine below_set ?_ GE237.out | refine below_set ?_ GE244.out | refine below_set ?_ GE250.out) | exact HB.out)⟩⟩
            · replace c42 := Bool.eq_false_iff.mpr c42
              subst c42
              have H1 : (maquettelaw14_CrownTurns.j1 kj4 false) = some r := by rw [if_neg (show ¬ (false = true) by decide)] at H; exact H
              clear H
              have H := H1
              clear H1
              have H' := Aside0.mk H
              clear H
              go_wp2
              go_meet
              case rel => exact ⟨_, (false), (by first | rfl | (simp; done) | (simp [*]; done)), H', ⟨by have := HJ4.out; first | omega | exact Nat.le_refl _⟩, ⟨by (with_reducible repeat (first | refine blk_drewN ?_ _ | refine blk_drew ?_ | refine blk_alloc ?_ _)); refine blk_far ?_ NB231_250.out _; (with_reducible repeat (first | refine blk_drewN ?_ _ | refine blk_drew ?_ | refine blk_alloc ?_ _)); refine blk_far ?_ NB231_250.out _; (with_reducible repeat (first | refine blk_drewN ?_ _ | refine blk_drew ?_ | refine blk_alloc ?_ _)); refine blk_far ?_ NB231_250.out _; (with_reducible repeat (first | refine blk_drewN ?_ _ | refine blk_drew ?_ | refine blk_alloc ?_ _)); exact BK231.out⟩, ⟨by (with_reducible repeat (first | refine blk_drewN ?_ _ | refine blk_drew ?_ | refine blk_alloc ?_ _)); refine blk_far ?_ NB237_250.out _; (with_reducible repeat (first | refine blk_drewN ?_ _ | refine blk_drew ?_ | refine blk_alloc ?_ _)); refine blk_far ?_ NB237_250.out _; (with_reducible repeat (first | refine blk_drewN ?_ _ | refine blk_drew ?_ | refine blk_alloc ?_ _)); refine blk_far ?_ NB237_250.out _; (with_reducible repeat (first | refine blk_drewN ?_ _ | refine blk_drew ?_ | refine blk_alloc ?_ _)); exact BK237.out⟩, ⟨by (with_reducible repeat (first | refine blk_drewN ?_ _ | refine blk_drew ?_ | refine blk_alloc ?_ _)); refine blk_far ?_ NB244_250.out _; (with_reducible repeat (first | refine blk_drewN ?_ _ | refine blk_drew ?_ | refine blk_alloc ?_ _)); refine blk_far ?_ NB244_250.out _; (with_reducible repeat (first | refine blk_drewN ?_ _ | refine blk_drew ?_ | refine blk_alloc ?_ _)); refine blk_far ?_ NB244_250.out _; (with_reducible repeat (first | refine blk_drewN ?_ _ | refine blk_drew ?_ | refine blk_alloc ?_ _)); exact BK244.out⟩, ⟨by (with_reducible repeat (first | refine blk_drewN ?_ _ | refine blk_drew ?_ | refine blk_alloc ?_ _)); refine blk_put (cs := #[.int .i64 t245, .int .i64 t246, .int .i64 0]) ?_ 2 _ rfl; (with_reducible repeat (first | refine blk_drewN ?_ _ | refine blk_drew ?_ | refine blk_alloc ?_ _)); refine blk_put (cs := #[.int .i64 t245, .int .i64 0, .int .i64 0]) ?_ 1 _ rfl; (with_reducible repeat (first | refine blk_drewN ?_ _ | refine blk_drew ?_ | refine blk_alloc ?_ _)); refine blk_put (cs := #[.int .i64 0, .int .i64 0, .int .i64 0]) ?_ 0 _ rfl; (with_reducible repeat (first | refine blk_drewN ?_ _ | refine blk_drew ?_ | refine blk_alloc ?_ _)); exact BK250.out⟩, ⟨by repeat (first | (with_reducible first | exact HB.out | apply below_alloc | apply pw_below_drewN | apply below_drew1 | refine below_set ?_ GE231.out | refine below_set ?_ GE237.out | refine below_set ?_ GE244.out | refine below_set ?_ GE250.out) | exact HB.out)⟩⟩
          · replace c41 := Bool.eq_false_iff.mpr c41
            subst c41
            have H1 : (maquettelaw14_CrownTurns.j1 kj4 false) = some r := by rw [if_neg (show ¬ (false = true) by decide)] at H; exact H
            clear H
            have H := H1
            clear H1
            have H' := Aside0.mk H
            clear H
            go_wp2
            go_meet
            case rel => exact ⟨_, (false), (by first | rfl | (simp; done) | (simp [*]; done)), H', ⟨by have := HJ4.out; first | omega | exact Nat.le_refl _⟩, ⟨by (with_reducible repeat (first | refine blk_drewN ?_ _ | refine blk_drew ?_ | refine blk_alloc ?_ _)); refine blk_far ?_ NB231_250.out _; (with_reducible repeat (first | refine blk_drewN ?_ _ | refine blk_drew ?_ | refine blk_alloc ?_ _)); refine blk_far ?_ NB231_250.out _; (with_reducible repeat (first | refine blk_drewN ?_ _ | refine blk_drew ?_ | refine blk_alloc ?_ _)); refine blk_far ?_ NB231_250.out _; (with_reducible repeat (first | refine blk_drewN ?_ _ | refine blk_drew ?_ | refine blk_alloc ?_ _)); exact BK231.out⟩, ⟨by (with_reducible repeat (first | refine blk_drewN ?_ _ | refine blk_drew ?_ | refine blk_alloc ?_ _)); refine blk_far ?_ NB237_250.out _; (with_reducible repeat (first | refine blk_drewN ?_ _ | refine blk_drew ?_ | refine blk_alloc ?_ _)); refine blk_far ?_ NB237_250.out _; (with_reducible repeat (first | refine blk_drewN ?_ _ | refine blk_drew ?_ | refine blk_alloc ?_ _)); refine blk_far ?_ NB237_250.out _; (with_reducible repeat (first | refine blk_drewN ?_ _ | refine blk_drew ?_ | refine blk_alloc ?_ _)); exact BK237.out⟩, ⟨by (with_reducible repeat (first | refine blk_drewN ?_ _ | refine blk_drew ?_ | refine blk_alloc ?_ _)); refine blk_far ?_ NB244_250.out _; (with_reducible repeat (first | refine blk_drewN ?_ _ | refine blk_drew ?_ | refine blk_alloc ?_ _)); refine blk_far ?_ NB244_250.out _; (with_reducible repeat (first | refine blk_drewN ?_ _ | refine blk_drew ?_ | refine blk_alloc ?_ _)); refine blk_far ?_ NB244_250.out _; (with_reducible repeat (first | refine blk_drewN ?_ _ | refine blk_drew ?_ | refine blk_alloc ?_ _)); exact BK244.out⟩, ⟨by (with_reducible repeat (first | refine blk_drewN ?_ _ | refine blk_drew ?_ | refine blk_alloc ?_ _)); refine blk_put (cs := #[.int .i64 t245, .int .i64 t246, .int .i64 0]) ?_ 2 _ rfl; (with_reducible repeat (first | refine blk_drewN ?_ _ | refine blk_drew ?_ | refine blk_alloc ?_ _)); refine blk_put (cs := #[.int .i64 t245, .int .i64 0, .int .i64 0]) ?_ 1 _ rfl; (with_reducible repeat (first | refine blk_drewN ?_ _ | refine blk_drew ?_ | refine blk_alloc ?_ _)); refine blk_put (cs := #[.int .i64 0, .int .i64 0, .int .i64 0]) ?_ 0 _ rfl; (with_reducible repeat (first | refine blk_drewN ?_ _ | refine blk_drew ?_ | refine blk_alloc ?_ _)); exact BK250.out⟩, ⟨by repeat (first | (with_reducible first | exact HB.out | apply below_alloc | apply pw_below_drewN | apply below_drew1 | refine below_set ?_ GE231.out | refine below_set ?_ GE237.out | refine below_set ?_ GE244.out | refine below_set ?_ GE250.out) | exact HB.out)⟩⟩
        case rest =>
          clear HC20
          try clear c1
          try clear c2
          try clear p2
          try clear c3
          try clear c4
          try clear c5
          try clear c6
          try clear p6
          try clear c7
          try clear c8
          try clear c8b0
          try clear c9
          try clear c10
          try clear c11
          try clear c14
          try clear c17
          try clear c27
          try clear c32
          try clear c33
          try clear c37
          try clear c38
          try clear c39
          try clear c41
          try clear c42
          try clear c43
          try clear c44
          try clear c44b0
          try clear c44b1
          try clear c45
          try clear c45b0
          try clear c45b1
          try clear c46
          try clear c46b0
          try clear c46b1
          try clear c47
          try clear c47b0
          try clear c47b1
          try clear c48
          try clear c49
          try clear c49b0
          try clear c49b1
          try clear c50
          try clear c50b0
          try clear c50b1
          try clear c51
          try clear c52
          try clear c53
          try clear c54
          try clear c56
          try clear c57
          try clear c59
          try clear c63
          try clear c64
          try clear p64
          try clear c65
          try clear c67
          try clear c68
          try clear c70
          try clear c72
          try clear c73
          try clear c74
          try clear c76
          try clear c77
          try clear c79
          try clear c81
          try clear c82
          try clear c83
          try clear c85
          try clear c86
          try clear c88
          try clear c90
          try clear c91
          try clear c92
          try clear c94
          try clear c95
          try clear c97
          try clear c98
          try clear c99
          try clear c101
          try clear c102
          try clear c104
          try clear c105
          try clear c106
          try clear c108
          try clear c109
          try clear c111
          try clear c112
          try clear c113
          try clear c115
          try clear c116
          try clear c117
          try clear hcz100_0
          try clear hcz100_1
          try clear hcz100_2
          try clear hcz103_0
          try clear hcz103_1
          try clear hcz103_2
          try clear hcz107_0
          try clear hcz107_1
          try clear hcz107_2
          try clear hcz110_0
          try clear hcz110_1
          try clear hcz110_2
          try clear hcz114_0
          try clear hcz114_1
          try clear hcz114_2
          try clear hcz118_0
          try clear hcz118_1
          try clear hcz118_2
          try clear hcz24_0
          try clear hcz24_1
          try clear hcz24_2
          try clear hcz28_0
          try clear hcz28_1
          try clear hcz28_2
          try clear hcz34_0
          try clear hcz34_1
          try clear hcz34_2
          try clear hcz40_0
          try clear hcz40_1
          try clear hcz40_2
          try clear hcz55_0
          try clear hcz55_1
          try clear hcz55_2
          try clear hcz58_0
          try clear hcz58_1
          try clear hcz58_2
          try clear hcz60_0
          try clear hcz60_1
          try clear hcz60_2
          try clear hcz66_0
          try clear hcz66_1
          try clear hcz66_2
          try clear hcz69_0
          try clear hcz69_1
          try clear hcz69_2
          try clear hcz71_0
          try clear hcz71_1
          try clear hcz71_2
          try clear hcz75_0
          try clear hcz75_1
          try clear hcz75_2
          try clear hcz78_0
          try clear hcz78_1
          try clear hcz78_2
          try clear hcz80_0
          try clear hcz80_1
          try clear hcz80_2
          try clear hcz84_0
          try clear hcz84_1
          try clear hcz84_2
          try clear hcz87_0
          try clear hcz87_1
          try clear hcz87_2
          try clear hcz89_0
          try clear hcz89_1
          try clear hcz89_2
          try clear hcz93_0
          try clear hcz93_1
          try clear hcz93_2
          try clear hcz96_0
          try clear hcz96_1
          try clear hcz96_2
          try clear hfz100_0
          try clear hfz100_1
          try clear hfz100_2
          try clear hfz103_0
          try clear hfz103_1
          try clear hfz103_2
          try clear hfz107_0
          try clear hfz107_1
          try clear hfz107_2
          try clear hfz110_0
          try clear hfz110_1
          try clear hfz110_2
          try clear hfz114_0
          try clear hfz114_1
          try clear hfz114_2
          try clear hfz118_0
          try clear hfz118_1
          try clear hfz118_2
          try clear hfz24_0
          try clear hfz24_1
          try clear hfz24_2
          try clear hfz28_0
          try clear hfz28_1
          try clear hfz28_2
          try clear hfz34_0
          try clear hfz34_1
          try clear hfz34_2
          try clear hfz40_0
          try clear hfz40_1
          try clear hfz40_2
          try clear hfz55_0
          try clear hfz55_1
          try clear hfz55_2
          try clear hfz58_0
          try clear hfz58_1
          try clear hfz58_2
          try clear hfz60_0
          try clear hfz60_1
          try clear hfz60_2
          try clear hfz66_0
          try clear hfz66_1
          try clear hfz66_2
          try clear hfz69_0
          try clear hfz69_1
          try clear hfz69_2
          try clear hfz71_0
          try clear hfz71_1
          try clear hfz71_2
          try clear hfz75_0
          try clear hfz75_1
          try clear hfz75_2
          try clear hfz78_0
          try clear hfz78_1
          try clear hfz78_2
          try clear hfz80_0
          try clear hfz80_1
          try clear hfz80_2
          try clear hfz84_0
          try clear hfz84_1
          try clear hfz84_2
          try clear hfz87_0
          try clear hfz87_1
          try clear hfz87_2
          try clear hfz89_0
          try clear hfz89_1
          try clear hfz89_2
          try clear hfz93_0
          try clear hfz93_1
          try clear hfz93_2
          try clear hfz96_0
          try clear hfz96_1
          try clear hfz96_2
          try clear p2
          obtain ⟨kq, x6_19, rfl, HA, HJ19, BK231, BK237, BK244, BK250, HB⟩ := hcut
          cases kq with
          | zero => exact absurd HA.out (by simp [maquettelaw14_CrownTurns.j1])
          | succ kj19 =>
            have H := HA.out
            clear HA
            simp only [maquettelaw14_CrownTurns.j1] at H
            obtain rfl := Option.some.inj H
            go_wp2
            go_ret
            exact ⟨by first | rfl | (simp [errW_none, errW_some] <;> rfl) | (simp [*, errW_none, errW_some] <;> rfl), by repeat (first | (with_reducible first | exact HB.out | apply below_alloc | apply pw_below_drewN | apply below_drew1 | refine below_set ?_ GE231.out | refine below_set ?_ GE237.out | refine below_set ?_ GE244.out | refine below_set ?_ GE250.out) | exact HB.out)⟩

/-- THE ONE PURE STATEMENT of maquettelaw14_CrownTurns: yours. -/
def maquettelaw14_CrownTurns.Pure : Prop := ∀ (a0 : Int) (a1 : Int) (a2 : Int), (Lit.int .i64 a0).wf = true → (Lit.int .i64 a1).wf = true → (Lit.int .i64 a2).wf = true → ∃ k, maquettelaw14_CrownTurns.f k a0 a1 a2 = some true
theorem maquettelaw14_CrownTurns.walk (P : maquettelaw14_CrownTurns.Pure) (a0 : Int) (a1 : Int) (a2 : Int) (w : World) (w0 : (Lit.int .i64 a0).wf = true) (w1 : (Lit.int .i64 a1).wf = true) (w2 : (Lit.int .i64 a2).wf = true) :
    Calls Try.prog 5 #[.int .i64 a0, .int .i64 a1, .int .i64 a2] w fun e w' => e = .returned (.bool true) ∧ Below w.heap.size w w' := by
  obtain ⟨k, h⟩ := P a0 a1 a2 w0 w1 w2
  refine (maquettelaw14_CrownTurns.calls k a0 a1 a2 true w h).mono ?_
  rintro e w' ⟨rfl, hd⟩
  exact ⟨rfl, hd⟩

end Go.Proofs.Ytenjkmfpbimmbaa.PAll
