-- Written by a program of this session, in the manner of the kit's print; it is not the kit's own print.
import Derived.Test.YtbjknbfagadhfaaQPAllx0
import Derived.Test.YtbjknbfagadhfaaQPAllx1
import Derived.Test.YtbjknbfagadhfaaQPAllx5
import Derived.Test.YtbjknbfagadhfaaQPAllx10
namespace Go.Proofs.Ytbjknbfagadhfaa.PAll
open Go.RowKit Go.Proofs.YtbjknbfagadhfaaW.PrintWords Go.Proofs.YtbjknbfagadhfaaW.PrintLast Go.Proofs.YtbjknbfagadhfaaW.PrintMore
attribute [local go_sem] max2_int min2_int max_two min_two max_three min_three max_four min_four   -- for this text's walks alone
set_option linter.unusedVariables false
set_option linter.unusedSimpArgs false

attribute [local go_sem high] eqA24
/-! ### clay_RightEntry: function 29 -/
mutual
def clay_RightEntry.l0 : Nat → Int → List (S73) → Int → Int → List (S73) → Bool → Int → Int → Int → Int → Int → Int → Option (Bool)
  | 0, _, _, _, _, _, _, _, _, _, _, _, _ => none
  | k + 1, x3, x9, x10, x11, x210000, x210001, x210002, x210003, x210004, x210005, x210006, x210007 => if x11 < x10 then (if 0 ≤ x11 then (if x11 < (x9.length : Int) then (if ((rd_T73 x9 x11).f0) ≤ x3 then (clay_RightEntry.j1 k x9 x10 x11 true x210000 x210001 x210002 x210003 x210004 x210005 x210006 x210007 ((rd_T73 x9 x11).f0) ((rd_T73 x9 x11).f1) ((rd_T73 x9 x11).f2)) else ((clay_id.f ((rd_T73 x9 x11).f0)).bind fun t212 => (if t212 = true then (if ((rd_T73 x9 x11).f1).toList = ((rd_T73 x9 x11).f2).toList then (clay_RightEntry.j1 k x9 x10 x11 true x210000 x210001 x210002 x210003 x210004 x210005 x210006 x210007 ((rd_T73 x9 x11).f0) ((rd_T73 x9 x11).f1) ((rd_T73 x9 x11).f2)) else ((clay_side.f k ((rd_T73 x9 x11).f0) ((rd_T73 x9 x11).f1) ((rd_T73 x9 x11).f2) ((rd_T73 x9 x11).f1)).bind fun t213 => (if t213 = true then ((clay_side.f k ((rd_T73 x9 x11).f0) ((rd_T73 x9 x11).f1) ((rd_T73 x9 x11).f2) ((rd_T73 x9 x11).f2)).bind fun t214 => (clay_RightEntry.j1 k x9 x10 x11 (!t214) x210000 x210001 x210002 x210003 x210004 x210005 x210006 x210007 ((rd_T73 x9 x11).f0) ((rd_T73 x9 x11).f1) ((rd_T73 x9 x11).f2))) else (clay_RightEntry.j1 k x9 x10 x11 true x210000 x210001 x210002 x210003 x210004 x210005 x210006 x210007 ((rd_T73 x9 x11).f0) ((rd_T73 x9 x11).f1) ((rd_T73 x9 x11).f2))))) else (clay_RightEntry.j1 k x9 x10 x11 true x210000 x210001 x210002 x210003 x210004 x210005 x210006 x210007 ((rd_T73 x9 x11).f0) ((rd_T73 x9 x11).f1) ((rd_T73 x9 x11).f2))))) else (none)) else (none)) else (if (x210000.length : Int) > 40 then (clay_RightEntry.j2 k true x210000 x210001 x210002 x210003 x210004 x210005 x210006 x210007) else (clay_RightEntry.j2 k (x210001 != (!(x210002 == x210004) || (!(x210003 == x210005)))) x210000 x210001 x210002 x210003 x210004 x210005 x210006 x210007))
def clay_RightEntry.j1 : Nat → List (S73) → Int → Int → Bool → List (S73) → Bool → Int → Int → Int → Int → Int → Int → Int → ByteArray → ByteArray → Option (Bool)
  | 0, _, _, _, _, _, _, _, _, _, _, _, _, _, _, _ => none
  | k + 1, x9, x10, x11, x45, x210000, x210001, x210002, x210003, x210004, x210005, x210006, x210007, x212000, x212001, x212002 => if x45 = true then (some false) else (clay_RightEntry.l0 k x212000 x9 x10 (wrap64 (x11 + 1)) x210000 x210001 x210002 x210003 x210004 x210005 x210006 x210007)
def clay_RightEntry.j2 : Nat → Bool → List (S73) → Bool → Int → Int → Int → Int → Int → Int → Option (Bool)
  | 0, _, _, _, _, _, _, _, _, _ => none
  | k + 1, x49, x210000, x210001, x210002, x210003, x210004, x210005, x210006, x210007 => if x49 = true then (some false) else (if x210001 = true then (clay_RightEntry.j3 k false x210000 x210001 x210002 x210003 x210004 x210005 x210006 x210007) else (clay_RightEntry.j3 k (!(x210002 == 0) || (!(x210003 == 0))) x210000 x210001 x210002 x210003 x210004 x210005 x210006 x210007))
def clay_RightEntry.j3 : Nat → Bool → List (S73) → Bool → Int → Int → Int → Int → Int → Int → Option (Bool)
  | 0, _, _, _, _, _, _, _, _, _ => none
  | k + 1, x64, x210000, x210001, x210002, x210003, x210004, x210005, x210006, x210007 => if x64 = true then (some false) else (if (mn x210006 x210007) < 1 then (some false) else (if (mx x210006 x210007) > 1000001 then (some false) else ((world_Right.f k x210002 x210003 ([] : List (S26)) ([] : List (S28))).bind fun t217 => (if t217 = true then ((world_Right.f k x210004 x210005 ([] : List (S26)) ([] : List (S28))).bind fun t218 => (if t218 = true then (if (x210000.length : Int) > 0 then (clay_RightEntry.j4 k true) else (if x210001 = true then (clay_RightEntry.j4 k true) else (clay_RightEntry.j4 k (x210006 != x210007)))) else (clay_RightEntry.j4 k false))) else (clay_RightEntry.j4 k false)))))
def clay_RightEntry.j4 : Nat → Bool → Option (Bool)
  | 0, _ => none
  | k + 1, x2 => some x2
end
def clay_RightEntry.f (k : Nat) (l0_0 : List (S73)) (a0_1 : Bool) (a0_2 : Int) (a0_3 : Int) (a0_4 : Int) (a0_5 : Int) (a0_6 : Int) (a0_7 : Int) : Option (Bool) := clay_RightEntry.l0 k 0 l0_0 (l0_0.length : Int) 0 l0_0 a0_1 a0_2 a0_3 a0_4 a0_5 a0_6 a0_7
theorem clay_RightEntry.mono_l : ∀ k, (∀ y0 y1 y2 y3 y4 y5 y6 y7 y8 y9 y10 y11, LeO (clay_RightEntry.l0 k y0 y1 y2 y3 y4 y5 y6 y7 y8 y9 y10 y11) (clay_RightEntry.l0 (k + 1) y0 y1 y2 y3 y4 y5 y6 y7 y8 y9 y10 y11)) ∧ (∀ y0 y1 y2 y3 y4 y5 y6 y7 y8 y9 y10 y11 y12 y13 y14, LeO (clay_RightEntry.j1 k y0 y1 y2 y3 y4 y5 y6 y7 y8 y9 y10 y11 y12 y13 y14) (clay_RightEntry.j1 (k + 1) y0 y1 y2 y3 y4 y5 y6 y7 y8 y9 y10 y11 y12 y13 y14)) ∧ (∀ y0 y1 y2 y3 y4 y5 y6 y7 y8, LeO (clay_RightEntry.j2 k y0 y1 y2 y3 y4 y5 y6 y7 y8) (clay_RightEntry.j2 (k + 1) y0 y1 y2 y3 y4 y5 y6 y7 y8)) ∧ (∀ y0 y1 y2 y3 y4 y5 y6 y7 y8, LeO (clay_RightEntry.j3 k y0 y1 y2 y3 y4 y5 y6 y7 y8) (clay_RightEntry.j3 (k + 1) y0 y1 y2 y3 y4 y5 y6 y7 y8)) ∧ (∀ y0, LeO (clay_RightEntry.j4 k y0) (clay_RightEntry.j4 (k + 1) y0))
  | 0 => ⟨fun _ _ _ _ _ _ _ _ _ _ _ _ r h => by simp [clay_RightEntry.l0] at h, fun _ _ _ _ _ _ _ _ _ _ _ _ _ _ _ r h => by simp [clay_RightEntry.j1] at h, fun _ _ _ _ _ _ _ _ _ r h => by simp [clay_RightEntry.j2] at h, fun _ _ _ _ _ _ _ _ _ r h => by simp [clay_RightEntry.j3] at h, fun _ r h => by simp [clay_RightEntry.j4] at h⟩
  | k + 1 => by
    obtain ⟨ih0, ih1, ih2, ih3, ih4⟩ := clay_RightEntry.mono_l k
    refine ⟨?_, ?_, ?_, ?_, ?_⟩
    · intro y0 y1 y2 y3 y4 y5 y6 y7 y8 y9 y10 y11
      unfold clay_RightEntry.l0
      repeat' first
      | (with_reducible exact ih0 _ _ _ _ _ _ _ _ _ _ _ _)
      | (with_reducible exact ih1 _ _ _ _ _ _ _ _ _ _ _ _ _ _ _)
      | (with_reducible exact ih2 _ _ _ _ _ _ _ _ _)
      | (with_reducible exact ih3 _ _ _ _ _ _ _ _ _)
      | (with_reducible exact ih4 _)
      | (with_reducible exact clay_side.mono _ _ _ _ _)
      | (with_reducible exact world_Right.mono _ _ _ _ _)
      | (with_reducible exact LeO.refl _)
      | (with_reducible exact LeO.none _)
      | (with_reducible refine LeO.ite ?_ ?_)
      | (with_reducible refine LeO.bind ?_ (fun _ => ?_))
      | exact ih0 _ _ _ _ _ _ _ _ _ _ _ _
      | exact ih1 _ _ _ _ _ _ _ _ _ _ _ _ _ _ _
      | exact ih2 _ _ _ _ _ _ _ _ _
      | exact ih3 _ _ _ _ _ _ _ _ _
      | exact ih4 _
      | exact clay_side.mono _ _ _ _ _
      | exact world_Right.mono _ _ _ _ _
      | exact LeO.none _
      | refine LeO.ite ?_ ?_
      | refine LeO.bind ?_ (fun _ => ?_)
    · intro y0 y1 y2 y3 y4 y5 y6 y7 y8 y9 y10 y11 y12 y13 y14
      unfold clay_RightEntry.j1
      repeat' first
      | (with_reducible exact ih0 _ _ _ _ _ _ _ _ _ _ _ _)
      | (with_reducible exact ih1 _ _ _ _ _ _ _ _ _ _ _ _ _ _ _)
      | (with_reducible exact ih2 _ _ _ _ _ _ _ _ _)
      | (with_reducible exact ih3 _ _ _ _ _ _ _ _ _)
      | (with_reducible exact ih4 _)
      | (with_reducible exact clay_side.mono _ _ _ _ _)
      | (with_reducible exact world_Right.mono _ _ _ _ _)
      | (with_reducible exact LeO.refl _)
      | (with_reducible exact LeO.none _)
      | (with_reducible refine LeO.ite ?_ ?_)
      | (with_reducible refine LeO.bind ?_ (fun _ => ?_))
      | exact ih0 _ _ _ _ _ _ _ _ _ _ _ _
      | exact ih1 _ _ _ _ _ _ _ _ _ _ _ _ _ _ _
      | exact ih2 _ _ _ _ _ _ _ _ _
      | exact ih3 _ _ _ _ _ _ _ _ _
      | exact ih4 _
      | exact clay_side.mono _ _ _ _ _
      | exact world_Right.mono _ _ _ _ _
      | exact LeO.none _
      | refine LeO.ite ?_ ?_
      | refine LeO.bind ?_ (fun _ => ?_)
    · intro y0 y1 y2 y3 y4 y5 y6 y7 y8
      unfold clay_RightEntry.j2
      repeat' first
      | (with_reducible exact ih0 _ _ _ _ _ _ _ _ _ _ _ _)
      | (with_reducible exact ih1 _ _ _ _ _ _ _ _ _ _ _ _ _ _ _)
      | (with_reducible exact ih2 _ _ _ _ _ _ _ _ _)
      | (with_reducible exact ih3 _ _ _ _ _ _ _ _ _)
      | (with_reducible exact ih4 _)
      | (with_reducible exact clay_side.mono _ _ _ _ _)
      | (with_reducible exact world_Right.mono _ _ _ _ _)
      | (with_reducible exact LeO.refl _)
      | (with_reducible exact LeO.none _)
      | (with_reducible refine LeO.ite ?_ ?_)
      | (with_reducible refine LeO.bind ?_ (fun _ => ?_))
      | exact ih0 _ _ _ _ _ _ _ _ _ _ _ _
      | exact ih1 _ _ _ _ _ _ _ _ _ _ _ _ _ _ _
      | exact ih2 _ _ _ _ _ _ _ _ _
      | exact ih3 _ _ _ _ _ _ _ _ _
      | exact ih4 _
      | exact clay_side.mono _ _ _ _ _
      | exact world_Right.mono _ _ _ _ _
      | exact LeO.none _
      | refine LeO.ite ?_ ?_
      | refine LeO.bind ?_ (fun _ => ?_)
    · intro y0 y1 y2 y3 y4 y5 y6 y7 y8
      unfold clay_RightEntry.j3
      repeat' first
      | (with_reducible exact ih0 _ _ _ _ _ _ _ _ _ _ _ _)
      | (with_reducible exact ih1 _ _ _ _ _ _ _ _ _ _ _ _ _ _ _)
      | (with_reducible exact ih2 _ _ _ _ _ _ _ _ _)
      | (with_reducible exact ih3 _ _ _ _ _ _ _ _ _)
      | (with_reducible exact ih4 _)
      | (with_reducible exact clay_side.mono _ _ _ _ _)
      | (with_reducible exact world_Right.mono _ _ _ _ _)
      | (with_reducible exact LeO.refl _)
      | (with_reducible exact LeO.none _)
      | (with_reducible refine LeO.ite ?_ ?_)
      | (with_reducible refine LeO.bind ?_ (fun _ => ?_))
      | exact ih0 _ _ _ _ _ _ _ _ _ _ _ _
      | exact ih1 _ _ _ _ _ _ _ _ _ _ _ _ _ _ _
      | exact ih2 _ _ _ _ _ _ _ _ _
      | exact ih3 _ _ _ _ _ _ _ _ _
      | exact ih4 _
      | exact clay_side.mono _ _ _ _ _
      | exact world_Right.mono _ _ _ _ _
      | exact LeO.none _
      | refine LeO.ite ?_ ?_
      | refine LeO.bind ?_ (fun _ => ?_)
    · intro y0
      unfold clay_RightEntry.j4
      repeat' first
      | (with_reducible exact ih0 _ _ _ _ _ _ _ _ _ _ _ _)
      | (with_reducible exact ih1 _ _ _ _ _ _ _ _ _ _ _ _ _ _ _)
      | (with_reducible exact ih2 _ _ _ _ _ _ _ _ _)
      | (with_reducible exact ih3 _ _ _ _ _ _ _ _ _)
      | (with_reducible exact ih4 _)
      | (with_reducible exact clay_side.mono _ _ _ _ _)
      | (with_reducible exact world_Right.mono _ _ _ _ _)
      | (with_reducible exact LeO.refl _)
      | (with_reducible exact LeO.none _)
      | (with_reducible refine LeO.ite ?_ ?_)
      | (with_reducible refine LeO.bind ?_ (fun _ => ?_))
      | exact ih0 _ _ _ _ _ _ _ _ _ _ _ _
      | exact ih1 _ _ _ _ _ _ _ _ _ _ _ _ _ _ _
      | exact ih2 _ _ _ _ _ _ _ _ _
      | exact ih3 _ _ _ _ _ _ _ _ _
      | exact ih4 _
      | exact clay_side.mono _ _ _ _ _
      | exact world_Right.mono _ _ _ _ _
      | exact LeO.none _
      | refine LeO.ite ?_ ?_
      | refine LeO.bind ?_ (fun _ => ?_)
theorem clay_RightEntry.mono : ∀ a0 a1 a2 a3 a4 a5 a6 a7 k, LeO (clay_RightEntry.f k a0 a1 a2 a3 a4 a5 a6 a7) (clay_RightEntry.f (k + 1) a0 a1 a2 a3 a4 a5 a6 a7) := by
  intro a0 a1 a2 a3 a4 a5 a6 a7 k
  obtain ⟨ih0, ih1, ih2, ih3, ih4⟩ := clay_RightEntry.mono_l k
  unfold clay_RightEntry.f
  repeat' first
      | (with_reducible exact ih0 _ _ _ _ _ _ _ _ _ _ _ _)
      | (with_reducible exact ih1 _ _ _ _ _ _ _ _ _ _ _ _ _ _ _)
      | (with_reducible exact ih2 _ _ _ _ _ _ _ _ _)
      | (with_reducible exact ih3 _ _ _ _ _ _ _ _ _)
      | (with_reducible exact ih4 _)
      | (with_reducible exact clay_side.mono _ _ _ _ _)
      | (with_reducible exact world_Right.mono _ _ _ _ _)
      | (with_reducible exact LeO.refl _)
      | (with_reducible exact LeO.none _)
      | (with_reducible refine LeO.ite ?_ ?_)
      | (with_reducible refine LeO.bind ?_ (fun _ => ?_))
      | exact ih0 _ _ _ _ _ _ _ _ _ _ _ _
      | exact ih1 _ _ _ _ _ _ _ _ _ _ _ _ _ _ _
      | exact ih2 _ _ _ _ _ _ _ _ _
      | exact ih3 _ _ _ _ _ _ _ _ _
      | exact ih4 _
      | exact clay_side.mono _ _ _ _ _
      | exact world_Right.mono _ _ _ _ _
      | exact LeO.none _
      | refine LeO.ite ?_ ?_
      | refine LeO.bind ?_ (fun _ => ?_)
def clay_RightEntry.T9 : Bool × List (List Nat × List Nat) := (true, [([], []), ([0], [0]), ([1], [1]), ([2], [2]), ([3], [3]), ([4], [4]), ([5, 4], [4, 5]), ([4], [4]), ([7, 4], [4, 7]), ([4], [4]), ([9, 4], [4, 9]), ([8, 10, 4], [4, 8, 10]), ([6, 11, 4], [4, 6, 11]), ([4, 12], [4, 12]), ([13, 4], [13])])
def clay_RightEntry.B9 : List Nat := [0, 1, 3, 7, 15, 31, 63, 31, 159, 31, 543, 1951, 4095, 8191, 16383]
theorem clay_RightEntry.tab9 : rtab .any (opsOf Try.f29 9) = clay_RightEntry.T9 := by kernel_rfl
theorem clay_RightEntry.bits9 : waitsOk clay_RightEntry.T9.2 clay_RightEntry.B9 = true := by kernel_rfl
def clay_RightEntry.T15 : Bool × List (List Nat × List Nat) := (true, [([], []), ([0], [0]), ([1], [1]), ([], []), ([3], [3]), ([4], [4]), ([], []), ([], []), ([6, 2, 0, 1, 2, 6, 7], [2, 6]), ([7, 5, 8, 0, 1, 2, 3, 4, 5, 6, 7, 8], [5, 7])])
def clay_RightEntry.B15 : List Nat := [0, 1, 3, 0, 8, 24, 0, 0, 199, 511]
theorem clay_RightEntry.tab15 : rtab .any (opsOf Try.f29 15) = clay_RightEntry.T15 := by kernel_rfl
theorem clay_RightEntry.bits15 : waitsOk clay_RightEntry.T15.2 clay_RightEntry.B15 = true := by kernel_rfl
set_option maxHeartbeats 8000000 in
set_option maxRecDepth 100000 in
theorem clay_RightEntry.calls (k : Nat) (A0_0 : Option Addr) (c0_0 : Nat) (l0_0 : List (S73)) (a0_1 : Bool) (a0_2 : Int) (a0_3 : Int) (a0_4 : Int) (a0_5 : Int) (a0_6 : Int) (a0_7 : Int) (r : Bool) (w : World) (hr0_0 : Kd.C k73 w A0_0 l0_0.length l0_0) (hc0_0 : l0_0.length ≤ c0_0) (h : clay_RightEntry.f k l0_0 a0_1 a0_2 a0_3 a0_4 a0_5 a0_6 a0_7 = some r) :
    Calls Try.prog 29 #[.agg #[.slice A0_0 l0_0.length c0_0,.bool a0_1,.int .i64 a0_2,.int .i64 a0_3,.int .i64 a0_4,.int .i64 a0_5,.int .i64 a0_6,.int .i64 a0_7]] w fun e w' => e = .returned (.bool r) ∧ Below w.heap.size w w':=by
 have hu55:=Try.underlying55
 have hu73:=Try.underlying73
 have hu24:=Try.underlying24
 have hu114:=Try.underlying114
 have HR0_0:=Aside0.mk hr0_0
 have HC0_0:=Aside0.mk hc0_0
 clear hr0_0 hc0_0
 have HB:=Aside0.mk (Below.refl w.heap.size w)
 have H : (clay_RightEntry.l0 k 0 l0_0 (l0_0.length : Int) 0 l0_0 a0_1 a0_2 a0_3 a0_4 a0_5 a0_6 a0_7) = some r:=h
 clear h
 have H':=Aside0.mk H
 clear H
 go_enter Try.func29,Try.ntmps29
 go_wp2_with (first | ((with_reducible refine gate_dst (N:=1) rfl ?_); (try (refine gate_guard (by rfl) ?_; dsimp only)); refine box_event ?hg (N:=1) ?hd (cs:=#[.slice A0_0 l0_0.length c0_0,.bool a0_1,.int .i64 a0_2,.int .i64 a0_3,.int .i64 a0_4,.int .i64 a0_5,.int .i64 a0_6,.int .i64 a0_7]) (t:=55) ?hr ?_; (case hd => rfl); (case hg => rfl); (case hr => first | (go_simp; done) | (go_simp; rfl)); intro gb209 hg w2 hbox hb; have n0_:=Aside0.mk (below_step (by repeat (first | (with_reducible first | exact HB.out | apply below_alloc | apply pw_below_drewN | apply below_drew1) | exact HB.out)) hb); have n1_:=Aside0.mk (hbox); have n2_:=Aside0.mk ((by rw [hg]; exact (below_size (by repeat (first | (with_reducible first | exact HB.out | apply below_alloc | apply pw_below_drewN | apply below_drew1) | exact HB.out))) : w.heap.size ≤ gb209)); have n3_:=Aside0.mk ((by rw [hg]; exact (below_size (by repeat (first | (with_reducible first | exact HB.out | apply below_alloc | apply pw_below_drewN | apply below_drew1) | exact HB.out))) : w.heap.size ≤ gb209)); clear HB; have HB:=n0_; have BK209:=n1_; have GW209:=n2_; have GE209:=n3_; clear n0_ n1_ n2_ n3_; clear hb hbox hg; obtain ⟨hcz3_0,hcz3_1,hcz3_2,hcz3_3,hcz3_4,hcz3_5,hcz3_6,hcz3_7⟩:=cl8 BK209.out; obtain ⟨hfz3_0,hfz3_1,hfz3_2,hfz3_3,hfz3_4,hfz3_5,hfz3_6,hfz3_7⟩:=fz8 BK209.out))
 go_loopg [3,11] k (fun kq v3 v11 w' => ∃ (x3_1 : Int) (x11_1 : Int),v3 = .int .i64 x3_1 ∧ v11 = .int .i64 x11_1 ∧ Aside0 (clay_RightEntry.l0 kq x3_1 l0_0 (l0_0.length : Int) x11_1 l0_0 a0_1 a0_2 a0_3 a0_4 a0_5 a0_6 a0_7 = some r) ∧ Aside0 (kq ≤ k) ∧ Aside0 (w'.heap[gb209]? = some (.cells #[(.slice A0_0 l0_0.length c0_0),.bool a0_1,.int .i64 a0_2,.int .i64 a0_3,.int .i64 a0_4,.int .i64 a0_5,.int .i64 a0_6,.int .i64 a0_7] 55 (0,0))) ∧ Aside0 (Below w.heap.size w w'))
 case atStart => exact ⟨(0),(0),(by first | rfl | (simp; done) | (simp [*]; done)),(by first | rfl | (simp; done) | (simp [*]; done)),H',⟨Nat.le_refl _⟩,⟨by (with_reducible repeat (first | refine blk_drewN ?_ _ | refine blk_drew ?_ | refine blk_alloc ?_ _)); exact BK209.out⟩,⟨by repeat (first | (with_reducible first | exact HB.out | apply below_alloc | apply pw_below_drewN | apply below_drew1 | refine below_set ?_ GE209.out) | exact HB.out)⟩⟩
 clear H'
 (try clear c2); (try clear p2); (try clear hcz3_0); (try clear hcz3_1); (try clear hcz3_2); (try clear hcz3_3); (try clear hcz3_4); (try clear hcz3_5); (try clear hcz3_6); (try clear hcz3_7); (try clear hfz3_0); (try clear hfz3_1); (try clear hfz3_2); (try clear hfz3_3); (try clear hfz3_4); (try clear hfz3_5); (try clear hfz3_6); (try clear hfz3_7)
 obtain ⟨x3_1,x11_1,rfl,rfl,HA,HK1,BK209,HB⟩:=hrel
 cases gk with
 | zero => exact absurd HA.out (by simp [clay_RightEntry.l0])
 | succ k1 =>
  have H:=HA.out
  clear HA
  simp only [clay_RightEntry.l0] at H
  by_cases c4 : x11_1 < (l0_0.length : Int)
  ·rw [if_pos c4] at H
   have c4b0 : decide (x11_1 < (l0_0.length : Int)) = true:=decide_eq_true c4
   clear c4
   by_cases c5 : 0 ≤ x11_1
   ·rw [if_pos c5] at H
    have c5b0 : decide (0 ≤ x11_1) = true:=decide_eq_true c5
    clear c5
    by_cases c6 : x11_1 < (l0_0.length : Int)
    ·rw [if_pos c6] at H
     have c6b0 : decide (x11_1 < (l0_0.length : Int)) = true:=decide_eq_true c6
     clear c6
     have HC7:=Aside0.mk H
     clear H
     have p210 : 0 ≤ (x11_1 : Int):=of_decide_eq_true (by first | (with_reducible assumption) | assumption)
     have q210 : x11_1 < (l0_0.length : Int):=of_decide_eq_true (by first | (with_reducible assumption) | assumption)
     obtain ⟨ad210,e210,hx210_0,hx210_1,hx210_2⟩:=at_T73 HR0_0.out x11_1 p210 q210
     cases e210
     replace hx210_0:=(HB.out.cell (World.block_lt_of_cell? w _ hx210_0)).trans hx210_0
     replace hx210_1:=(HB.out.cell (World.block_lt_of_cell? w _ hx210_1)).trans hx210_1
     replace hx210_2:=(HB.out.cell (World.block_lt_of_cell? w _ hx210_2)).trans hx210_2
     replace p210:=eq_true p210
     replace q210:=eq_true q210
     go_upto_region 5 with (first | ((with_reducible refine gate_dst (N:=5) rfl ?_); (try (refine gate_guard (by rfl) ?_; dsimp only)); refine box_event ?hg (N:=5) ?hd (cs:=#[.int .i64 0,.string (⟨#[]⟩ : ByteArray),.string (⟨#[]⟩ : ByteArray)]) (t:=73) ?hr ?_; (case hd => rfl); (case hg => rfl); (case hr => first | (go_simp; done) | (go_simp; rfl)); intro gb211 hg w8 hbox hb; have n0_:=Aside0.mk (blk_below (g:=gb209) (o:=.cells #[.slice (some ad210) l0_0.length c0_0,.bool a0_1,.int .i64 a0_2,.int .i64 a0_3,.int .i64 a0_4,.int .i64 a0_5,.int .i64 a0_6,.int .i64 a0_7] 55 (0,0)) (by (with_reducible repeat (first | refine blk_drewN ?_ _ | refine blk_drew ?_ | refine blk_alloc ?_ _)); exact BK209.out) hb); have n1_:=Aside0.mk (below_step (by repeat (first | (with_reducible first | exact HB.out | apply below_alloc | apply pw_below_drewN | apply below_drew1 | refine below_set ?_ GE209.out) | exact HB.out)) hb); have n2_:=Aside0.mk (hbox); have n3_:=Aside0.mk ((by rw [hg]; exact (below_size (by repeat (first | (with_reducible first | exact HB.out | apply below_alloc | apply pw_below_drewN | apply below_drew1 | refine below_set ?_ GE209.out) | exact HB.out))) : w.heap.size ≤ gb211)); have n4_:=Aside0.mk ((by rw [hg]; exact (below_size (by repeat (first | (with_reducible first | exact HB.out | apply below_alloc | apply pw_below_drewN | apply below_drew1 | refine below_set ?_ GE209.out) | exact HB.out))) : w.heap.size ≤ gb211)); have n5_:=Aside0.mk ((by rw [hg]; exact Nat.ne_of_lt (blk_lt (g:=gb209) (o:=.cells #[.slice (some ad210) l0_0.length c0_0,.bool a0_1,.int .i64 a0_2,.int .i64 a0_3,.int .i64 a0_4,.int .i64 a0_5,.int .i64 a0_6,.int .i64 a0_7] 55 (0,0)) (by (with_reducible repeat (first | refine blk_drewN ?_ _ | refine blk_drew ?_ | refine blk_alloc ?_ _)); exact BK209.out)) : gb209 ≠ gb211)); have n6_:=Aside0.mk ((by rw [hg]; exact Nat.ne_of_gt (blk_lt (g:=gb209) (o:=.cells #[.slice (some ad210) l0_0.length c0_0,.bool a0_1,.int .i64 a0_2,.int .i64 a0_3,.int .i64 a0_4,.int .i64 a0_5,.int .i64 a0_6,.int .i64 a0_7] 55 (0,0)) (by (with_reducible repeat (first | refine blk_drewN ?_ _ | refine blk_drew ?_ | refine blk_alloc ?_ _)); exact BK209.out)) : gb211 ≠ gb209)); clear BK209; clear HB; have BK209:=n0_; have HB:=n1_; have BK211:=n2_; have GW211:=n3_; have GE211:=n4_; have NB209_211:=n5_; have NB211_209:=n6_; clear n0_ n1_ n2_ n3_ n4_ n5_ n6_; clear hb hbox hg; have hnb9:=NB211_209.out; have hnc9:=NB209_211.out; obtain ⟨hcz10_0,hcz10_1,hcz10_2⟩:=cl3 BK211.out; obtain ⟨hfz10_0,hfz10_1,hfz10_2⟩:=fz3 BK211.out))
     (try simp only [Act.put,List.setIfInBounds_toArray,List.set_cons_zero,List.set_cons_succ])
     go_cut [45] (fun v45 wc => ∃ (kq : Nat) (x45_6 : Bool),v45 = .bool x45_6 ∧ Aside0 (clay_RightEntry.j1 kq l0_0 (l0_0.length : Int) x11_1 x45_6 l0_0 a0_1 a0_2 a0_3 a0_4 a0_5 a0_6 a0_7 ((rd_T73 l0_0 x11_1).f0) ((rd_T73 l0_0 x11_1).f1) ((rd_T73 l0_0 x11_1).f2) = some r) ∧ Aside0 (kq ≤ k1) ∧ Aside0 (wc.heap[gb209]? = some (.cells #[(.slice (some ad210) l0_0.length c0_0),.bool a0_1,.int .i64 a0_2,.int .i64 a0_3,.int .i64 a0_4,.int .i64 a0_5,.int .i64 a0_6,.int .i64 a0_7] 55 (0,0))) ∧ Aside0 (wc.heap[gb211]? = some (.cells #[.int .i64 ((rd_T73 l0_0 x11_1).f0),.string ((rd_T73 l0_0 x11_1).f1),.string ((rd_T73 l0_0 x11_1).f2)] 73 (0,0))) ∧ Aside0 (Below w.heap.size w wc))
     case first =>
      have H:=HC7.out
      clear HC7
      by_cases c11 : ((rd_T73 l0_0 x11_1).f0) ≤ x3_1
      ·rw [if_pos c11] at H
       have c11b0 : decide (((rd_T73 l0_0 x11_1).f0) ≤ x3_1) = true:=decide_eq_true c11
       clear c11
       (first | rw [c11b0] | (simp only [i64_w,i32_w]; rw [c11b0]) | skip)
       have H':=Aside0.mk H
       clear H
       have hnb12:=NB211_209.out
       have hnc12:=NB209_211.out
       obtain ⟨hcz13_0,hcz13_1,hcz13_2⟩:=cl3 BK211.out
       obtain ⟨hfz13_0,hfz13_1,hfz13_2⟩:=fz3 BK211.out
       go_wp2
       go_meet
       case rel => exact ⟨_,(true),(by first | rfl | (simp; done) | (simp [*]; done)),H',⟨by have:=HK1.out; first | omega | exact Nat.le_refl _⟩,⟨by (with_reducible repeat (first | refine blk_drewN ?_ _ | refine blk_drew ?_ | refine blk_alloc ?_ _)); refine blk_far ?_ NB209_211.out _; (with_reducible repeat (first | refine blk_drewN ?_ _ | refine blk_drew ?_ | refine blk_alloc ?_ _)); refine blk_far ?_ NB209_211.out _; (with_reducible repeat (first | refine blk_drewN ?_ _ | refine blk_drew ?_ | refine blk_alloc ?_ _)); refine blk_far ?_ NB209_211.out _; (with_reducible repeat (first | refine blk_drewN ?_ _ | refine blk_drew ?_ | refine blk_alloc ?_ _)); exact BK209.out⟩,⟨by (with_reducible repeat (first | refine blk_drewN ?_ _ | refine blk_drew ?_ | refine blk_alloc ?_ _)); refine blk_put (cs:=#[.int .i64 ((rd_T73 l0_0 x11_1).f0),.string ((rd_T73 l0_0 x11_1).f1),.string (⟨#[]⟩ : ByteArray)]) ?_ 2 _ rfl; (with_reducible repeat (first | refine blk_drewN ?_ _ | refine blk_drew ?_ | refine blk_alloc ?_ _)); refine blk_put (cs:=#[.int .i64 ((rd_T73 l0_0 x11_1).f0),.string (⟨#[]⟩ : ByteArray),.string (⟨#[]⟩ : ByteArray)]) ?_ 1 _ rfl; (with_reducible repeat (first | refine blk_drewN ?_ _ | refine blk_drew ?_ | refine blk_alloc ?_ _)); refine blk_put (cs:=#[.int .i64 0,.string (⟨#[]⟩ : ByteArray),.string (⟨#[]⟩ : ByteArray)]) ?_ 0 _ rfl; (with_reducible repeat (first | refine blk_drewN ?_ _ | refine blk_drew ?_ | refine blk_alloc ?_ _)); exact BK211.out⟩,⟨by repeat (first | (with_reducible first | exact HB.out | apply below_alloc | apply pw_below_drewN | apply below_drew1 | refine below_set ?_ GE209.out | refine below_set ?_ GE211.out) | exact HB.out)⟩⟩
      rw [if_neg c11] at H
      have c11b0 : decide (((rd_T73 l0_0 x11_1).f0) ≤ x3_1) = false:=decide_eq_false c11
      clear c11
      (first | rw [c11b0] | (simp only [i64_w,i32_w]; rw [c11b0]) | skip)
      replace H:=Option.bind_eq_some_iff.mp H
      obtain ⟨t212,A140,H⟩:=H
      replace H : (if t212 = true then (if ((rd_T73 l0_0 x11_1).f1).toList = ((rd_T73 l0_0 x11_1).f2).toList then (clay_RightEntry.j1 k1 l0_0 (l0_0.length : Int) x11_1 true l0_0 a0_1 a0_2 a0_3 a0_4 a0_5 a0_6 a0_7 ((rd_T73 l0_0 x11_1).f0) ((rd_T73 l0_0 x11_1).f1) ((rd_T73 l0_0 x11_1).f2)) else ((clay_side.f k1 ((rd_T73 l0_0 x11_1).f0) ((rd_T73 l0_0 x11_1).f1) ((rd_T73 l0_0 x11_1).f2) ((rd_T73 l0_0 x11_1).f1)).bind fun t213 => (if t213 = true then ((clay_side.f k1 ((rd_T73 l0_0 x11_1).f0) ((rd_T73 l0_0 x11_1).f1) ((rd_T73 l0_0 x11_1).f2) ((rd_T73 l0_0 x11_1).f2)).bind fun t214 => (clay_RightEntry.j1 k1 l0_0 (l0_0.length : Int) x11_1 (!t214) l0_0 a0_1 a0_2 a0_3 a0_4 a0_5 a0_6 a0_7 ((rd_T73 l0_0 x11_1).f0) ((rd_T73 l0_0 x11_1).f1) ((rd_T73 l0_0 x11_1).f2))) else (clay_RightEntry.j1 k1 l0_0 (l0_0.length : Int) x11_1 true l0_0 a0_1 a0_2 a0_3 a0_4 a0_5 a0_6 a0_7 ((rd_T73 l0_0 x11_1).f0) ((rd_T73 l0_0 x11_1).f1) ((rd_T73 l0_0 x11_1).f2))))) else (clay_RightEntry.j1 k1 l0_0 (l0_0.length : Int) x11_1 true l0_0 a0_1 a0_2 a0_3 a0_4 a0_5 a0_6 a0_7 ((rd_T73 l0_0 x11_1).f0) ((rd_T73 l0_0 x11_1).f1) ((rd_T73 l0_0 x11_1).f2))) = some r:=H
      have A14:=Aside0.mk A140
      clear A140
      by_cases c15 : t212 = true
      ·subst c15
       have H1 : (if ((rd_T73 l0_0 x11_1).f1).toList = ((rd_T73 l0_0 x11_1).f2).toList then (clay_RightEntry.j1 k1 l0_0 (l0_0.length : Int) x11_1 true l0_0 a0_1 a0_2 a0_3 a0_4 a0_5 a0_6 a0_7 ((rd_T73 l0_0 x11_1).f0) ((rd_T73 l0_0 x11_1).f1) ((rd_T73 l0_0 x11_1).f2)) else ((clay_side.f k1 ((rd_T73 l0_0 x11_1).f0) ((rd_T73 l0_0 x11_1).f1) ((rd_T73 l0_0 x11_1).f2) ((rd_T73 l0_0 x11_1).f1)).bind fun t213 => (if t213 = true then ((clay_side.f k1 ((rd_T73 l0_0 x11_1).f0) ((rd_T73 l0_0 x11_1).f1) ((rd_T73 l0_0 x11_1).f2) ((rd_T73 l0_0 x11_1).f2)).bind fun t214 => (clay_RightEntry.j1 k1 l0_0 (l0_0.length : Int) x11_1 (!t214) l0_0 a0_1 a0_2 a0_3 a0_4 a0_5 a0_6 a0_7 ((rd_T73 l0_0 x11_1).f0) ((rd_T73 l0_0 x11_1).f1) ((rd_T73 l0_0 x11_1).f2))) else (clay_RightEntry.j1 k1 l0_0 (l0_0.length : Int) x11_1 true l0_0 a0_1 a0_2 a0_3 a0_4 a0_5 a0_6 a0_7 ((rd_T73 l0_0 x11_1).f0) ((rd_T73 l0_0 x11_1).f1) ((rd_T73 l0_0 x11_1).f2))))) = some r:=by rw [if_pos rfl] at H; exact H
       clear H
       have H:=H1
       clear H1
       by_cases c16 : ((rd_T73 l0_0 x11_1).f1).toList = ((rd_T73 l0_0 x11_1).f2).toList
       ·rw [if_pos c16] at H
        have c16b0 : (((rd_T73 l0_0 x11_1).f1).toList == ((rd_T73 l0_0 x11_1).f2).toList) = true:=beq_iff_eq.mpr c16
        have c16b1 : (((rd_T73 l0_0 x11_1).f1).toList != ((rd_T73 l0_0 x11_1).f2).toList) = false:=bne_eq_false_iff_eq.mpr c16
        clear c16
        have H':=Aside0.mk H
        clear H
        have hnb17:=NB211_209.out
        have hnc17:=NB209_211.out
        obtain ⟨hcz18_0,hcz18_1,hcz18_2⟩:=cl3 BK211.out
        obtain ⟨hfz18_0,hfz18_1,hfz18_2⟩:=fz3 BK211.out
        go_wp2_with (first | (go_at_call 45; (with_reducible refine (clay_id.calls ((rd_T73 l0_0 x11_1).f0) true _ A14.out).mono ?_); rintro e w' ⟨rfl,⟨nd,rfl⟩⟩))
        go_meet
        case rel => exact ⟨_,(true),(by first | rfl | (simp; done) | (simp [*]; done)),H',⟨by have:=HK1.out; first | omega | exact Nat.le_refl _⟩,⟨by (with_reducible repeat (first | refine blk_drewN ?_ _ | refine blk_drew ?_ | refine blk_alloc ?_ _)); refine blk_far ?_ NB209_211.out _; (with_reducible repeat (first | refine blk_drewN ?_ _ | refine blk_drew ?_ | refine blk_alloc ?_ _)); refine blk_far ?_ NB209_211.out _; (with_reducible repeat (first | refine blk_drewN ?_ _ | refine blk_drew ?_ | refine blk_alloc ?_ _)); refine blk_far ?_ NB209_211.out _; (with_reducible repeat (first | refine blk_drewN ?_ _ | refine blk_drew ?_ | refine blk_alloc ?_ _)); exact BK209.out⟩,⟨by (with_reducible repeat (first | refine blk_drewN ?_ _ | refine blk_drew ?_ | refine blk_alloc ?_ _)); refine blk_put (cs:=#[.int .i64 ((rd_T73 l0_0 x11_1).f0),.string ((rd_T73 l0_0 x11_1).f1),.string (⟨#[]⟩ : ByteArray)]) ?_ 2 _ rfl; (with_reducible repeat (first | refine blk_drewN ?_ _ | refine blk_drew ?_ | refine blk_alloc ?_ _)); refine blk_put (cs:=#[.int .i64 ((rd_T73 l0_0 x11_1).f0),.string (⟨#[]⟩ : ByteArray),.string (⟨#[]⟩ : ByteArray)]) ?_ 1 _ rfl; (with_reducible repeat (first | refine blk_drewN ?_ _ | refine blk_drew ?_ | refine blk_alloc ?_ _)); refine blk_put (cs:=#[.int .i64 0,.string (⟨#[]⟩ : ByteArray),.string (⟨#[]⟩ : ByteArray)]) ?_ 0 _ rfl; (with_reducible repeat (first | refine blk_drewN ?_ _ | refine blk_drew ?_ | refine blk_alloc ?_ _)); exact BK211.out⟩,⟨by repeat (first | (with_reducible first | exact HB.out | apply below_alloc | apply pw_below_drewN | apply below_drew1 | refine below_set ?_ GE209.out | refine below_set ?_ GE211.out) | exact HB.out)⟩⟩
       rw [if_neg c16] at H
       have c16b0 : (((rd_T73 l0_0 x11_1).f1).toList == ((rd_T73 l0_0 x11_1).f2).toList) = false:=beq_eq_false_iff_ne.mpr c16
       have c16b1 : (((rd_T73 l0_0 x11_1).f1).toList != ((rd_T73 l0_0 x11_1).f2).toList) = true:=bne_iff_ne.mpr c16
       replace H:=Option.bind_eq_some_iff.mp H
       obtain ⟨t213,A190,H⟩:=H
       replace H : (if t213 = true then ((clay_side.f k1 ((rd_T73 l0_0 x11_1).f0) ((rd_T73 l0_0 x11_1).f1) ((rd_T73 l0_0 x11_1).f2) ((rd_T73 l0_0 x11_1).f2)).bind fun t214 => (clay_RightEntry.j1 k1 l0_0 (l0_0.length : Int) x11_1 (!t214) l0_0 a0_1 a0_2 a0_3 a0_4 a0_5 a0_6 a0_7 ((rd_T73 l0_0 x11_1).f0) ((rd_T73 l0_0 x11_1).f1) ((rd_T73 l0_0 x11_1).f2))) else (clay_RightEntry.j1 k1 l0_0 (l0_0.length : Int) x11_1 true l0_0 a0_1 a0_2 a0_3 a0_4 a0_5 a0_6 a0_7 ((rd_T73 l0_0 x11_1).f0) ((rd_T73 l0_0 x11_1).f1) ((rd_T73 l0_0 x11_1).f2))) = some r:=H
       have A19:=Aside0.mk A190
       clear A190
       by_cases c20 : t213 = true
       ·subst c20
        have H1 : ((clay_side.f k1 ((rd_T73 l0_0 x11_1).f0) ((rd_T73 l0_0 x11_1).f1) ((rd_T73 l0_0 x11_1).f2) ((rd_T73 l0_0 x11_1).f2)).bind fun t214 => (clay_RightEntry.j1 k1 l0_0 (l0_0.length : Int) x11_1 (!t214) l0_0 a0_1 a0_2 a0_3 a0_4 a0_5 a0_6 a0_7 ((rd_T73 l0_0 x11_1).f0) ((rd_T73 l0_0 x11_1).f1) ((rd_T73 l0_0 x11_1).f2))) = some r:=by rw [if_pos rfl] at H; exact H
        clear H
        have H:=H1
        clear H1
        replace H:=Option.bind_eq_some_iff.mp H
        obtain ⟨t214,A210,H⟩:=H
        replace H : (clay_RightEntry.j1 k1 l0_0 (l0_0.length : Int) x11_1 (!t214) l0_0 a0_1 a0_2 a0_3 a0_4 a0_5 a0_6 a0_7 ((rd_T73 l0_0 x11_1).f0) ((rd_T73 l0_0 x11_1).f1) ((rd_T73 l0_0 x11_1).f2)) = some r:=H
        have A21:=Aside0.mk A210
        clear A210
        have H':=Aside0.mk H
        clear H
        have hnb22:=NB211_209.out
        have hnc22:=NB209_211.out
        obtain ⟨hcz23_0,hcz23_1,hcz23_2⟩:=cl3 BK211.out
        obtain ⟨hfz23_0,hfz23_1,hfz23_2⟩:=fz3 BK211.out
        go_wp2_with (first | (go_at_call 45; (with_reducible refine (clay_id.calls ((rd_T73 l0_0 x11_1).f0) true _ A14.out).mono ?_); rintro e w' ⟨rfl,⟨nd,rfl⟩⟩) | (go_at_call 83; (with_reducible refine (clay_side.calls k1 ((rd_T73 l0_0 x11_1).f0) ((rd_T73 l0_0 x11_1).f1) ((rd_T73 l0_0 x11_1).f2) ((rd_T73 l0_0 x11_1).f1) true _ A19.out).mono ?_); rintro e w24 ⟨rfl,hb⟩; have n0_:=Aside0.mk (blk_below (g:=gb209) (o:=.cells #[.slice (some ad210) l0_0.length c0_0,.bool a0_1,.int .i64 a0_2,.int .i64 a0_3,.int .i64 a0_4,.int .i64 a0_5,.int .i64 a0_6,.int .i64 a0_7] 55 (0,0)) (by (with_reducible repeat (first | refine blk_drewN ?_ _ | refine blk_drew ?_ | refine blk_alloc ?_ _)); refine blk_far ?_ NB209_211.out _; (with_reducible repeat (first | refine blk_drewN ?_ _ | refine blk_drew ?_ | refine blk_alloc ?_ _)); refine blk_far ?_ NB209_211.out _; (with_reducible repeat (first | refine blk_drewN ?_ _ | refine blk_drew ?_ | refine blk_alloc ?_ _)); refine blk_far ?_ NB209_211.out _; (with_reducible repeat (first | refine blk_drewN ?_ _ | refine blk_drew ?_ | refine blk_alloc ?_ _)); exact BK209.out) hb); have n1_:=Aside0.mk (blk_below (g:=gb211) (o:=.cells #[.int .i64 ((rd_T73 l0_0 x11_1).f0),.string ((rd_T73 l0_0 x11_1).f1),.string ((rd_T73 l0_0 x11_1).f2)] 73 (0,0)) (by (with_reducible repeat (first | refine blk_drewN ?_ _ | refine blk_drew ?_ | refine blk_alloc ?_ _)); refine blk_put (cs:=#[.int .i64 ((rd_T73 l0_0 x11_1).f0),.string ((rd_T73 l0_0 x11_1).f1),.string (⟨#[]⟩ : ByteArray)]) ?_ 2 _ rfl; (with_reducible repeat (first | refine blk_drewN ?_ _ | refine blk_drew ?_ | refine blk_alloc ?_ _)); refine blk_put (cs:=#[.int .i64 ((rd_T73 l0_0 x11_1).f0),.string (⟨#[]⟩ : ByteArray),.string (⟨#[]⟩ : ByteArray)]) ?_ 1 _ rfl; (with_reducible repeat (first | refine blk_drewN ?_ _ | refine blk_drew ?_ | refine blk_alloc ?_ _)); refine blk_put (cs:=#[.int .i64 0,.string (⟨#[]⟩ : ByteArray),.string (⟨#[]⟩ : ByteArray)]) ?_ 0 _ rfl; (with_reducible repeat (first | refine blk_drewN ?_ _ | refine blk_drew ?_ | refine blk_alloc ?_ _)); exact BK211.out) hb); have n2_:=Aside0.mk (below_step (by repeat (first | (with_reducible first | exact HB.out | apply below_alloc | apply pw_below_drewN | apply below_drew1 | refine below_set ?_ GE209.out | refine below_set ?_ GE211.out) | exact HB.out)) hb); clear BK209; clear BK211; clear HB; have BK209:=n0_; have BK211:=n1_; have HB:=n2_; clear n0_ n1_ n2_; (try clear hb); (try clear hb2); (try clear hk); (try clear hi); obtain ⟨hcz25_0,hcz25_1,hcz25_2⟩:=cl3 BK211.out; obtain ⟨hfz25_0,hfz25_1,hfz25_2⟩:=fz3 BK211.out) | (go_at_call 83; (with_reducible refine (clay_side.calls k1 ((rd_T73 l0_0 x11_1).f0) ((rd_T73 l0_0 x11_1).f1) ((rd_T73 l0_0 x11_1).f2) ((rd_T73 l0_0 x11_1).f2) t214 _ A21.out).mono ?_); rintro e w26 ⟨rfl,hb⟩; have n0_:=Aside0.mk (blk_below (g:=gb209) (o:=.cells #[.slice (some ad210) l0_0.length c0_0,.bool a0_1,.int .i64 a0_2,.int .i64 a0_3,.int .i64 a0_4,.int .i64 a0_5,.int .i64 a0_6,.int .i64 a0_7] 55 (0,0)) (by (with_reducible repeat (first | refine blk_drewN ?_ _ | refine blk_drew ?_ | refine blk_alloc ?_ _)); exact BK209.out) hb); have n1_:=Aside0.mk (blk_below (g:=gb211) (o:=.cells #[.int .i64 ((rd_T73 l0_0 x11_1).f0),.string ((rd_T73 l0_0 x11_1).f1),.string ((rd_T73 l0_0 x11_1).f2)] 73 (0,0)) (by (with_reducible repeat (first | refine blk_drewN ?_ _ | refine blk_drew ?_ | refine blk_alloc ?_ _)); exact BK211.out) hb); have n2_:=Aside0.mk (below_step (by repeat (first | (with_reducible first | exact HB.out | apply below_alloc | apply pw_below_drewN | apply below_drew1 | refine below_set ?_ GE209.out | refine below_set ?_ GE211.out) | exact HB.out)) hb); clear BK209; clear BK211; clear HB; have BK209:=n0_; have BK211:=n1_; have HB:=n2_; clear n0_ n1_ n2_; (try clear hb); (try clear hb2); (try clear hk); (try clear hi)))
        go_meet
        case rel => exact ⟨_,(!t214),(by first | rfl | (simp; done) | (simp [*]; done)),H',⟨by have:=HK1.out; first | omega | exact Nat.le_refl _⟩,⟨by (with_reducible repeat (first | refine blk_drewN ?_ _ | refine blk_drew ?_ | refine blk_alloc ?_ _)); exact BK209.out⟩,⟨by (with_reducible repeat (first | refine blk_drewN ?_ _ | refine blk_drew ?_ | refine blk_alloc ?_ _)); exact BK211.out⟩,⟨by repeat (first | (with_reducible first | exact HB.out | apply below_alloc | apply pw_below_drewN | apply below_drew1 | refine below_set ?_ GE209.out | refine below_set ?_ GE211.out) | exact HB.out)⟩⟩
       replace c20:=Bool.eq_false_iff.mpr c20
       subst c20
       have H1 : (clay_RightEntry.j1 k1 l0_0 (l0_0.length : Int) x11_1 true l0_0 a0_1 a0_2 a0_3 a0_4 a0_5 a0_6 a0_7 ((rd_T73 l0_0 x11_1).f0) ((rd_T73 l0_0 x11_1).f1) ((rd_T73 l0_0 x11_1).f2)) = some r:=by rw [if_neg (show ¬ (false = true) by decide)] at H; exact H
       clear H
       have H:=H1
       clear H1
       have H':=Aside0.mk H
       clear H
       have hnb27:=NB211_209.out
       have hnc27:=NB209_211.out
       obtain ⟨hcz28_0,hcz28_1,hcz28_2⟩:=cl3 BK211.out
       obtain ⟨hfz28_0,hfz28_1,hfz28_2⟩:=fz3 BK211.out
       go_wp2_with (first | (go_at_call 45; (with_reducible refine (clay_id.calls ((rd_T73 l0_0 x11_1).f0) true _ A14.out).mono ?_); rintro e w' ⟨rfl,⟨nd,rfl⟩⟩) | (go_at_call 83; (with_reducible refine (clay_side.calls k1 ((rd_T73 l0_0 x11_1).f0) ((rd_T73 l0_0 x11_1).f1) ((rd_T73 l0_0 x11_1).f2) ((rd_T73 l0_0 x11_1).f1) false _ A19.out).mono ?_); rintro e w29 ⟨rfl,hb⟩; have n0_:=Aside0.mk (blk_below (g:=gb209) (o:=.cells #[.slice (some ad210) l0_0.length c0_0,.bool a0_1,.int .i64 a0_2,.int .i64 a0_3,.int .i64 a0_4,.int .i64 a0_5,.int .i64 a0_6,.int .i64 a0_7] 55 (0,0)) (by (with_reducible repeat (first | refine blk_drewN ?_ _ | refine blk_drew ?_ | refine blk_alloc ?_ _)); refine blk_far ?_ NB209_211.out _; (with_reducible repeat (first | refine blk_drewN ?_ _ | refine blk_drew ?_ | refine blk_alloc ?_ _)); refine blk_far ?_ NB209_211.out _; (with_reducible repeat (first | refine blk_drewN ?_ _ | refine blk_drew ?_ | refine blk_alloc ?_ _)); refine blk_far ?_ NB209_211.out _; (with_reducible repeat (first | refine blk_drewN ?_ _ | refine blk_drew ?_ | refine blk_alloc ?_ _)); exact BK209.out) hb); have n1_:=Aside0.mk (blk_below (g:=gb211) (o:=.cells #[.int .i64 ((rd_T73 l0_0 x11_1).f0),.string ((rd_T73 l0_0 x11_1).f1),.string ((rd_T73 l0_0 x11_1).f2)] 73 (0,0)) (by (with_reducible repeat (first | refine blk_drewN ?_ _ | refine blk_drew ?_ | refine blk_alloc ?_ _)); refine blk_put (cs:=#[.int .i64 ((rd_T73 l0_0 x11_1).f0),.string ((rd_T73 l0_0 x11_1).f1),.string (⟨#[]⟩ : ByteArray)]) ?_ 2 _ rfl; (with_reducible repeat (first | refine blk_drewN ?_ _ | refine blk_drew ?_ | refine blk_alloc ?_ _)); refine blk_put (cs:=#[.int .i64 ((rd_T73 l0_0 x11_1).f0),.string (⟨#[]⟩ : ByteArray),.string (⟨#[]⟩ : ByteArray)]) ?_ 1 _ rfl; (with_reducible repeat (first | refine blk_drewN ?_ _ | refine blk_drew ?_ | refine blk_alloc ?_ _)); refine blk_put (cs:=#[.int .i64 0,.string (⟨#[]⟩ : ByteArray),.string (⟨#[]⟩ : ByteArray)]) ?_ 0 _ rfl; (with_reducible repeat (first | refine blk_drewN ?_ _ | refine blk_drew ?_ | refine blk_alloc ?_ _)); exact BK211.out) hb); have n2_:=Aside0.mk (below_step (by repeat (first | (with_reducible first | exact HB.out | apply below_alloc | apply pw_below_drewN | apply below_drew1 | refine below_set ?_ GE209.out | refine below_set ?_ GE211.out) | exact HB.out)) hb); clear BK209; clear BK211; clear HB; have BK209:=n0_; have BK211:=n1_; have HB:=n2_; clear n0_ n1_ n2_; (try clear hb); (try clear hb2); (try clear hk); (try clear hi)))
       go_meet
       case rel => exact ⟨_,(true),(by first | rfl | (simp; done) | (simp [*]; done)),H',⟨by have:=HK1.out; first | omega | exact Nat.le_refl _⟩,⟨by (with_reducible repeat (first | refine blk_drewN ?_ _ | refine blk_drew ?_ | refine blk_alloc ?_ _)); exact BK209.out⟩,⟨by (with_reducible repeat (first | refine blk_drewN ?_ _ | refine blk_drew ?_ | refine blk_alloc ?_ _)); exact BK211.out⟩,⟨by repeat (first | (with_reducible first | exact HB.out | apply below_alloc | apply pw_below_drewN | apply below_drew1 | refine below_set ?_ GE209.out | refine below_set ?_ GE211.out) | exact HB.out)⟩⟩
      replace c15:=Bool.eq_false_iff.mpr c15
      subst c15
      have H1 : (clay_RightEntry.j1 k1 l0_0 (l0_0.length : Int) x11_1 true l0_0 a0_1 a0_2 a0_3 a0_4 a0_5 a0_6 a0_7 ((rd_T73 l0_0 x11_1).f0) ((rd_T73 l0_0 x11_1).f1) ((rd_T73 l0_0 x11_1).f2)) = some r:=by rw [if_neg (show ¬ (false = true) by decide)] at H; exact H
      clear H
      have H:=H1
      clear H1
      have H':=Aside0.mk H
      clear H
      have hnb30:=NB211_209.out
      have hnc30:=NB209_211.out
      obtain ⟨hcz31_0,hcz31_1,hcz31_2⟩:=cl3 BK211.out
      obtain ⟨hfz31_0,hfz31_1,hfz31_2⟩:=fz3 BK211.out
      go_wp2_with (first | (go_at_call 45; (with_reducible refine (clay_id.calls ((rd_T73 l0_0 x11_1).f0) false _ A14.out).mono ?_); rintro e w' ⟨rfl,⟨nd,rfl⟩⟩))
      go_meet
      case rel => exact ⟨_,(true),(by first | rfl | (simp; done) | (simp [*]; done)),H',⟨by have:=HK1.out; first | omega | exact Nat.le_refl _⟩,⟨by (with_reducible repeat (first | refine blk_drewN ?_ _ | refine blk_drew ?_ | refine blk_alloc ?_ _)); refine blk_far ?_ NB209_211.out _; (with_reducible repeat (first | refine blk_drewN ?_ _ | refine blk_drew ?_ | refine blk_alloc ?_ _)); refine blk_far ?_ NB209_211.out _; (with_reducible repeat (first | refine blk_drewN ?_ _ | refine blk_drew ?_ | refine blk_alloc ?_ _)); refine blk_far ?_ NB209_211.out _; (with_reducible repeat (first | refine blk_drewN ?_ _ | refine blk_drew ?_ | refine blk_alloc ?_ _)); exact BK209.out⟩,⟨by (with_reducible repeat (first | refine blk_drewN ?_ _ | refine blk_drew ?_ | refine blk_alloc ?_ _)); refine blk_put (cs:=#[.int .i64 ((rd_T73 l0_0 x11_1).f0),.string ((rd_T73 l0_0 x11_1).f1),.string (⟨#[]⟩ : ByteArray)]) ?_ 2 _ rfl; (with_reducible repeat (first | refine blk_drewN ?_ _ | refine blk_drew ?_ | refine blk_alloc ?_ _)); refine blk_put (cs:=#[.int .i64 ((rd_T73 l0_0 x11_1).f0),.string (⟨#[]⟩ : ByteArray),.string (⟨#[]⟩ : ByteArray)]) ?_ 1 _ rfl; (with_reducible repeat (first | refine blk_drewN ?_ _ | refine blk_drew ?_ | refine blk_alloc ?_ _)); refine blk_put (cs:=#[.int .i64 0,.string (⟨#[]⟩ : ByteArray),.string (⟨#[]⟩ : ByteArray)]) ?_ 0 _ rfl; (with_reducible repeat (first | refine blk_drewN ?_ _ | refine blk_drew ?_ | refine blk_alloc ?_ _)); exact BK211.out⟩,⟨by repeat (first | (with_reducible first | exact HB.out | apply below_alloc | apply pw_below_drewN | apply below_drew1 | refine below_set ?_ GE209.out | refine below_set ?_ GE211.out) | exact HB.out)⟩⟩
     clear HC7
     (try clear c1); (try clear c2); (try clear p2); (try clear q2); (try clear hx2); (try clear c3); (try clear c4); (try clear c4b0); (try clear c5); (try clear c5b0); (try clear c6); (try clear c6b0); (try clear c9); (try clear c11); (try clear c11b0); (try clear c12); (try clear c15); (try clear c16); (try clear c16b0); (try clear c16b1); (try clear c17); (try clear c20); (try clear p21); (try clear q21); (try clear hx21); (try clear c22); (try clear c27); (try clear c29); (try clear c30); (try clear hcz10_0); (try clear hcz10_1); (try clear hcz10_2); (try clear hcz13_0); (try clear hcz13_1); (try clear hcz13_2); (try clear hcz18_0); (try clear hcz18_1); (try clear hcz18_2); (try clear hcz23_0); (try clear hcz23_1); (try clear hcz23_2); (try clear hcz25_0); (try clear hcz25_1); (try clear hcz25_2); (try clear hcz28_0); (try clear hcz28_1); (try clear hcz28_2); (try clear hcz31_0); (try clear hcz31_1); (try clear hcz31_2); (try clear hcz3_0); (try clear hcz3_1); (try clear hcz3_2); (try clear hcz3_3); (try clear hcz3_4); (try clear hcz3_5); (try clear hcz3_6); (try clear hcz3_7); (try clear hfz10_0); (try clear hfz10_1); (try clear hfz10_2); (try clear hfz13_0); (try clear hfz13_1); (try clear hfz13_2); (try clear hfz18_0); (try clear hfz18_1); (try clear hfz18_2); (try clear hfz23_0); (try clear hfz23_1); (try clear hfz23_2); (try clear hfz25_0); (try clear hfz25_1); (try clear hfz25_2); (try clear hfz28_0); (try clear hfz28_1); (try clear hfz28_2); (try clear hfz31_0); (try clear hfz31_1); (try clear hfz31_2); (try clear hfz3_0); (try clear hfz3_1); (try clear hfz3_2); (try clear hfz3_3); (try clear hfz3_4); (try clear hfz3_5); (try clear hfz3_6); (try clear hfz3_7); (try clear hx210_0); (try clear hx210_1); (try clear hx210_2); (try clear p2); (try clear p210); (try clear q210)
     obtain ⟨kq,x45_6,rfl,HA,HJ6,BK209,BK211,HB⟩:=hcut
     cases kq with
     | zero => exact absurd HA.out (by simp [clay_RightEntry.j1])
     | succ kj6 =>
      have H:=HA.out
      clear HA
      simp only [clay_RightEntry.j1] at H
      by_cases c32 : x45_6 = true
      ·subst c32
       have H1 : (some false) = some r:=by rw [if_pos rfl] at H; exact H
       clear H
       have H:=H1
       clear H1
       obtain rfl:=Option.some.inj H
       go_wp2
       go_ret
       exact ⟨by first | rfl | (simp [errW_none,errW_some] <;> rfl) | (simp [*,errW_none,errW_some] <;> rfl),by repeat (first | (with_reducible first | exact HB.out | apply below_alloc | apply pw_below_drewN | apply below_drew1 | refine below_set ?_ GE209.out | refine below_set ?_ GE211.out) | exact HB.out)⟩
      replace c32:=Bool.eq_false_iff.mpr c32
      subst c32
      have H1 : (clay_RightEntry.l0 kj6 ((rd_T73 l0_0 x11_1).f0) l0_0 (l0_0.length : Int) (wrap64 (x11_1 + 1)) l0_0 a0_1 a0_2 a0_3 a0_4 a0_5 a0_6 a0_7) = some r:=by rw [if_neg (show ¬ (false = true) by decide)] at H; exact H
      clear H
      have H:=H1
      clear H1
      have H':=Aside0.mk H
      clear H
      have hnb33:=NB211_209.out
      have hnc33:=NB209_211.out
      obtain ⟨hcz34_0,hcz34_1,hcz34_2⟩:=cl3 BK211.out
      obtain ⟨hfz34_0,hfz34_1,hfz34_2⟩:=fz3 BK211.out
      go_wp2
      go_roundg kj6
      case measure => have:=HK1.out; have:=HJ6.out; omega
      case rel => exact ⟨(((rd_T73 l0_0 x11_1).f0)),(wrap64 (x11_1 + 1)),(by first | rfl | (simp; done) | (simp [*]; done)),(by first | rfl | (simp; done) | (simp [*]; done)),H',⟨by have:=HK1.out; have:=HJ6.out; omega⟩,⟨by (with_reducible repeat (first | refine blk_drewN ?_ _ | refine blk_drew ?_ | refine blk_alloc ?_ _)); exact BK209.out⟩,⟨by repeat (first | (with_reducible first | exact HB.out | apply below_alloc | apply pw_below_drewN | apply below_drew1 | refine below_set ?_ GE209.out | refine below_set ?_ GE211.out) | exact HB.out)⟩⟩
    rw [if_neg c6] at H
    exact absurd H (by simp)
   rw [if_neg c5] at H
   exact absurd H (by simp)
  rw [if_neg c4] at H
  have c4b0 : decide (x11_1 < (l0_0.length : Int)) = false:=decide_eq_false c4
  clear c4
  have HC35:=Aside0.mk H
  clear H
  go_upto_region 9 with (fail)
  go_cut [49] (fun v49 wc => ∃ (kq : Nat) (x49_34 : Bool),v49 = .bool x49_34 ∧ Aside0 (clay_RightEntry.j2 kq x49_34 l0_0 a0_1 a0_2 a0_3 a0_4 a0_5 a0_6 a0_7 = some r) ∧ Aside0 (kq ≤ k1) ∧ Aside0 (wc.heap[gb209]? = some (.cells #[(.slice A0_0 l0_0.length c0_0),.bool a0_1,.int .i64 a0_2,.int .i64 a0_3,.int .i64 a0_4,.int .i64 a0_5,.int .i64 a0_6,.int .i64 a0_7] 55 (0,0))) ∧ Aside0 (Below w.heap.size w wc))
  case first =>
   have H:=HC35.out
   clear HC35
   by_cases c36 : (l0_0.length : Int) > 40
   ·rw [if_pos c36] at H
    have c36b0 : decide (40 < (l0_0.length : Int)) = true:=decide_eq_true c36
    have c36b1 : decide (40 < l0_0.length) = true:=decide_eq_true (by omega)
    clear c36
    (first | rw [c36b0] | (simp only [i64_w,i32_w]; rw [c36b0]) | skip)
    have H':=Aside0.mk H
    clear H
    try go_wp2
    have n0_:=Aside0.mk (blk_drew BK209.out)
    have n1_:=Aside0.mk (below_drew1 HB.out)
    clear BK209
    clear HB
    have BK209:=n0_
    have HB:=n1_
    clear n0_ n1_
    refine start_ (n:=15) (S:=fun w' => w'.cell? ⟨gb209,0,none⟩ = some (.slice A0_0 l0_0.length c0_0) ∧ w'.cell? ⟨gb209,1,none⟩ = some (.bool a0_1) ∧ w'.cell? ⟨gb209,2,none⟩ = some (.int .i64 a0_2) ∧ w'.cell? ⟨gb209,3,none⟩ = some (.int .i64 a0_3) ∧ w'.cell? ⟨gb209,4,none⟩ = some (.int .i64 a0_4) ∧ w'.cell? ⟨gb209,5,none⟩ = some (.int .i64 a0_5) ∧ w'.cell? ⟨gb209,6,none⟩ = some (.int .i64 a0_6) ∧ w'.cell? ⟨gb209,7,none⟩ = some (.int .i64 a0_7)) (ds:=[]) #[false,false,false,false,false,false,false,false,false,false,false,false,false,false,false] (by kernel_rfl) rfl rfl ⟨(blk_cell BK209.out 0).trans rfl,(blk_cell BK209.out 1).trans rfl,(blk_cell BK209.out 2).trans rfl,(blk_cell BK209.out 3).trans rfl,(blk_cell BK209.out 4).trans rfl,(blk_cell BK209.out 5).trans rfl,(blk_cell BK209.out 6).trans rfl,(blk_cell BK209.out 7).trans rfl⟩ (fun hHeld => ?_); refine with_tabW clay_RightEntry.tab9 clay_RightEntry.bits9 (fun HT_ HW_ => ?_)
    generalize wr.drew = w37 at BK209 HB hHeld ⊢
    refine pure_ (i:=0) (N:=some 50) (v:=?_) (a':=?_) #[true,false,false,false,false,false,false,false,false,false,false,false,false,false,false] rfl rfl (any_of HT_.out (by kernel_rfl)) (fun _ _ _ h => h) (Or.inl ⟨by rfl,?_⟩) ?_ ?_
    rotate_left
    ·intro w'
     go_simp
     first | with_reducible rfl | (rw [if_neg (by (try simp only [ByteArray.size_append,ByteArray.size_extract,decide_eq_true_eq,eq_iff_iff,iff_true,beq_iff_eq] at *); omega)] <;> with_reducible rfl)
    rotate_left
    ·simp only [Act.put,List.setIfInBounds_toArray,List.set_cons_zero,List.set_cons_succ,i64_w,i32_w]
     rfl
    refine take_ (i:=1) (N:=some 51) (v:=?_) (a':=?_) #[true,true,false,false,false,false,false,false,false,false,false,false,false,false,false] rfl rfl (take_ofW HT_.out HW_.out (by kernel_rfl)) (fun _ _ _ h => h) (Or.inl ⟨by rfl,?_⟩) hHeld ?_ ?_
    rotate_left
    ·rintro w' ⟨s0,s1,s2,s3,s4,s5,s6,s7⟩
     go_simp
     first | with_reducible rfl | (rw [if_neg (by (try simp only [ByteArray.size_append,ByteArray.size_extract,decide_eq_true_eq,eq_iff_iff,iff_true,beq_iff_eq] at *); omega)] <;> with_reducible rfl)
    rotate_left
    ·simp only [Act.put,List.setIfInBounds_toArray,List.set_cons_zero,List.set_cons_succ,i64_w,i32_w]
     rfl
    refine pure_ (i:=2) (N:=some 52) (v:=?_) (a':=?_) #[true,true,true,false,false,false,false,false,false,false,false,false,false,false,false] rfl rfl (any_of HT_.out (by kernel_rfl)) (fun _ _ _ h => h) (Or.inl ⟨by rfl,?_⟩) ?_ ?_
    rotate_left
    ·intro w'
     go_simp
     first | with_reducible rfl | (rw [if_neg (by (try simp only [ByteArray.size_append,ByteArray.size_extract,decide_eq_true_eq,eq_iff_iff,iff_true,beq_iff_eq] at *); omega)] <;> with_reducible rfl)
    rotate_left
    ·simp only [Act.put,List.setIfInBounds_toArray,List.set_cons_zero,List.set_cons_succ,i64_w,i32_w]
     rfl
    refine pure_ (i:=3) (N:=some 53) (v:=?_) (a':=?_) #[true,true,true,true,false,false,false,false,false,false,false,false,false,false,false] rfl rfl (any_of HT_.out (by kernel_rfl)) (fun _ _ _ h => h) (Or.inl ⟨by rfl,?_⟩) ?_ ?_
    rotate_left
    ·intro w'
     go_simp
     first | with_reducible rfl | (rw [if_neg (by (try simp only [ByteArray.size_append,ByteArray.size_extract,decide_eq_true_eq,eq_iff_iff,iff_true,beq_iff_eq] at *); omega)] <;> with_reducible rfl)
    rotate_left
    ·simp only [Act.put,List.setIfInBounds_toArray,List.set_cons_zero,List.set_cons_succ,i64_w,i32_w]
     rfl
    refine pure_ (i:=4) (N:=some 54) (v:=?_) (a':=?_) #[true,true,true,true,true,false,false,false,false,false,false,false,false,false,false] rfl rfl (any_of HT_.out (by kernel_rfl)) (fun _ _ _ h => h) (Or.inl ⟨by rfl,?_⟩) ?_ ?_
    rotate_left
    ·intro w'
     go_simp
     first | with_reducible rfl | (rw [if_neg (by (try simp only [ByteArray.size_append,ByteArray.size_extract,decide_eq_true_eq,eq_iff_iff,iff_true,beq_iff_eq] at *); omega)] <;> with_reducible rfl)
    rotate_left
    ·simp only [Act.put,List.setIfInBounds_toArray,List.set_cons_zero,List.set_cons_succ,i64_w,i32_w]
     rfl
    refine pure_ (i:=5) (N:=some 55) (v:=undef) (a':=?_) #[true,true,true,true,true,true,false,false,false,false,false,false,false,false,false] rfl rfl (any_of HT_.out (by kernel_rfl)) (fun _ _ _ h => h) (Or.inr ⟨by rfl,rfl⟩) ?_ ?_
    rotate_left
    ·simp only [Act.put,List.setIfInBounds_toArray,List.set_cons_zero,List.set_cons_succ,i64_w,i32_w]
     rfl
    refine pure_ (i:=6) (N:=some 56) (v:=undef) (a':=?_) #[true,true,true,true,true,true,true,false,false,false,false,false,false,false,false] rfl rfl (any_of HT_.out (by kernel_rfl)) (fun _ _ _ h => h) (Or.inr ⟨by rfl,rfl⟩) ?_ ?_
    rotate_left
    ·simp only [Act.put,List.setIfInBounds_toArray,List.set_cons_zero,List.set_cons_succ,i64_w,i32_w]
     rfl
    refine pure_ (i:=7) (N:=some 57) (v:=undef) (a':=?_) #[true,true,true,true,true,true,true,true,false,false,false,false,false,false,false] rfl rfl (any_of HT_.out (by kernel_rfl)) (fun _ _ _ h => h) (Or.inr ⟨by rfl,rfl⟩) ?_ ?_
    rotate_left
    ·simp only [Act.put,List.setIfInBounds_toArray,List.set_cons_zero,List.set_cons_succ,i64_w,i32_w]
     rfl
    refine pure_ (i:=8) (N:=some 58) (v:=undef) (a':=?_) #[true,true,true,true,true,true,true,true,true,false,false,false,false,false,false] rfl rfl (any_of HT_.out (by kernel_rfl)) (fun _ _ _ h => h) (Or.inr ⟨by rfl,rfl⟩) ?_ ?_
    rotate_left
    ·simp only [Act.put,List.setIfInBounds_toArray,List.set_cons_zero,List.set_cons_succ,i64_w,i32_w]
     rfl
    refine pure_ (i:=9) (N:=some 59) (v:=undef) (a':=?_) #[true,true,true,true,true,true,true,true,true,true,false,false,false,false,false] rfl rfl (any_of HT_.out (by kernel_rfl)) (fun _ _ _ h => h) (Or.inr ⟨by rfl,rfl⟩) ?_ ?_
    rotate_left
    ·simp only [Act.put,List.setIfInBounds_toArray,List.set_cons_zero,List.set_cons_succ,i64_w,i32_w]
     rfl
    refine pure_ (i:=10) (N:=some 60) (v:=undef) (a':=?_) #[true,true,true,true,true,true,true,true,true,true,true,false,false,false,false] rfl rfl (any_of HT_.out (by kernel_rfl)) (fun _ _ _ h => h) (Or.inr ⟨by rfl,rfl⟩) ?_ ?_
    rotate_left
    ·simp only [Act.put,List.setIfInBounds_toArray,List.set_cons_zero,List.set_cons_succ,i64_w,i32_w]
     rfl
    refine pure_ (i:=11) (N:=some 61) (v:=undef) (a':=?_) #[true,true,true,true,true,true,true,true,true,true,true,true,false,false,false] rfl rfl (any_of HT_.out (by kernel_rfl)) (fun _ _ _ h => h) (Or.inr ⟨by rfl,rfl⟩) ?_ ?_
    rotate_left
    ·simp only [Act.put,List.setIfInBounds_toArray,List.set_cons_zero,List.set_cons_succ,i64_w,i32_w]
     rfl
    refine pure_ (i:=12) (N:=some 62) (v:=undef) (a':=?_) #[true,true,true,true,true,true,true,true,true,true,true,true,true,false,false] rfl rfl (any_of HT_.out (by kernel_rfl)) (fun _ _ _ h => h) (Or.inr ⟨by rfl,rfl⟩) ?_ ?_
    rotate_left
    ·simp only [Act.put,List.setIfInBounds_toArray,List.set_cons_zero,List.set_cons_succ,i64_w,i32_w]
     rfl
    refine pure_ (i:=13) (N:=some 63) (v:=?_) (a':=?_) #[true,true,true,true,true,true,true,true,true,true,true,true,true,true,false] rfl rfl (any_of HT_.out (by kernel_rfl)) (fun _ _ _ h => h) (Or.inl ⟨by rfl,?_⟩) ?_ ?_
    rotate_left
    ·intro w'
     go_simp
     first | with_reducible rfl | (rw [if_neg (by (try simp only [ByteArray.size_append,ByteArray.size_extract,decide_eq_true_eq,eq_iff_iff,iff_true,beq_iff_eq] at *); omega)] <;> with_reducible rfl)
    rotate_left
    ·simp only [Act.put,List.setIfInBounds_toArray,List.set_cons_zero,List.set_cons_succ,i64_w,i32_w]
     rfl
    refine pure_ (i:=14) (N:=some 49) (v:=?_) (a':=?_) #[true,true,true,true,true,true,true,true,true,true,true,true,true,true,true] rfl rfl (any_of HT_.out (by kernel_rfl)) (fun _ _ _ h => h) (Or.inl ⟨by rfl,?_⟩) ?_ ?_
    rotate_left
    ·intro w'
     go_simp
     first | with_reducible rfl | (rw [if_neg (by (try simp only [ByteArray.size_append,ByteArray.size_extract,decide_eq_true_eq,eq_iff_iff,iff_true,beq_iff_eq] at *); omega)] <;> with_reducible rfl)
    rotate_left
    ·simp only [Act.put,List.setIfInBounds_toArray,List.set_cons_zero,List.set_cons_succ,i64_w,i32_w]
     rfl
    refine done_ (done_of HT_.out (by kernel_rfl)) ?_
    try go_wp2
    go_meet
    case rel => exact ⟨_,(true),(by first | rfl | (simp; done) | (simp [*]; done)),H',⟨by have:=HK1.out; first | omega | exact Nat.le_refl _⟩,⟨by (with_reducible repeat (first | refine blk_drewN ?_ _ | refine blk_drew ?_ | refine blk_alloc ?_ _)); exact BK209.out⟩,⟨by repeat (first | (with_reducible first | exact HB.out | apply below_alloc | apply pw_below_drewN | apply below_drew1 | refine below_set ?_ GE209.out) | exact HB.out)⟩⟩
   rw [if_neg c36] at H
   have c36b0 : decide (40 < (l0_0.length : Int)) = false:=decide_eq_false c36
   have c36b1 : decide (40 < l0_0.length) = false:=decide_eq_false (by omega)
   clear c36
   (first | rw [c36b0] | (simp only [i64_w,i32_w]; rw [c36b0]) | skip)
   have H':=Aside0.mk H
   clear H
   try go_wp2
   have n0_:=Aside0.mk (blk_drew BK209.out)
   have n1_:=Aside0.mk (below_drew1 HB.out)
   clear BK209
   clear HB
   have BK209:=n0_
   have HB:=n1_
   clear n0_ n1_
   refine start_ (n:=15) (S:=fun w' => w'.cell? ⟨gb209,0,none⟩ = some (.slice A0_0 l0_0.length c0_0) ∧ w'.cell? ⟨gb209,1,none⟩ = some (.bool a0_1) ∧ w'.cell? ⟨gb209,2,none⟩ = some (.int .i64 a0_2) ∧ w'.cell? ⟨gb209,3,none⟩ = some (.int .i64 a0_3) ∧ w'.cell? ⟨gb209,4,none⟩ = some (.int .i64 a0_4) ∧ w'.cell? ⟨gb209,5,none⟩ = some (.int .i64 a0_5) ∧ w'.cell? ⟨gb209,6,none⟩ = some (.int .i64 a0_6) ∧ w'.cell? ⟨gb209,7,none⟩ = some (.int .i64 a0_7)) (ds:=[]) #[false,false,false,false,false,false,false,false,false,false,false,false,false,false,false] (by kernel_rfl) rfl rfl ⟨(blk_cell BK209.out 0).trans rfl,(blk_cell BK209.out 1).trans rfl,(blk_cell BK209.out 2).trans rfl,(blk_cell BK209.out 3).trans rfl,(blk_cell BK209.out 4).trans rfl,(blk_cell BK209.out 5).trans rfl,(blk_cell BK209.out 6).trans rfl,(blk_cell BK209.out 7).trans rfl⟩ (fun hHeld => ?_); refine with_tabW clay_RightEntry.tab9 clay_RightEntry.bits9 (fun HT_ HW_ => ?_)
   generalize wr.drew = w38 at BK209 HB hHeld ⊢
   refine pure_ (i:=0) (N:=some 50) (v:=?_) (a':=?_) #[true,false,false,false,false,false,false,false,false,false,false,false,false,false,false] rfl rfl (any_of HT_.out (by kernel_rfl)) (fun _ _ _ h => h) (Or.inl ⟨by rfl,?_⟩) ?_ ?_
   rotate_left
   ·intro w'
    go_simp
    first | with_reducible rfl | (rw [if_neg (by (try simp only [ByteArray.size_append,ByteArray.size_extract,decide_eq_true_eq,eq_iff_iff,iff_true,beq_iff_eq] at *); omega)] <;> with_reducible rfl)
   rotate_left
   ·simp only [Act.put,List.setIfInBounds_toArray,List.set_cons_zero,List.set_cons_succ,i64_w,i32_w]
    rfl
   refine take_ (i:=1) (N:=some 51) (v:=?_) (a':=?_) #[true,true,false,false,false,false,false,false,false,false,false,false,false,false,false] rfl rfl (take_ofW HT_.out HW_.out (by kernel_rfl)) (fun _ _ _ h => h) (Or.inl ⟨by rfl,?_⟩) hHeld ?_ ?_
   rotate_left
   ·rintro w' ⟨s0,s1,s2,s3,s4,s5,s6,s7⟩
    go_simp
    first | with_reducible rfl | (rw [if_neg (by (try simp only [ByteArray.size_append,ByteArray.size_extract,decide_eq_true_eq,eq_iff_iff,iff_true,beq_iff_eq] at *); omega)] <;> with_reducible rfl)
   rotate_left
   ·simp only [Act.put,List.setIfInBounds_toArray,List.set_cons_zero,List.set_cons_succ,i64_w,i32_w]
    rfl
   refine pure_ (i:=2) (N:=some 52) (v:=?_) (a':=?_) #[true,true,true,false,false,false,false,false,false,false,false,false,false,false,false] rfl rfl (any_of HT_.out (by kernel_rfl)) (fun _ _ _ h => h) (Or.inl ⟨by rfl,?_⟩) ?_ ?_
   rotate_left
   ·intro w'
    go_simp
    first | with_reducible rfl | (rw [if_neg (by (try simp only [ByteArray.size_append,ByteArray.size_extract,decide_eq_true_eq,eq_iff_iff,iff_true,beq_iff_eq] at *); omega)] <;> with_reducible rfl)
   rotate_left
   ·simp only [Act.put,List.setIfInBounds_toArray,List.set_cons_zero,List.set_cons_succ,i64_w,i32_w]
    rfl
   refine pure_ (i:=3) (N:=some 53) (v:=?_) (a':=?_) #[true,true,true,true,false,false,false,false,false,false,false,false,false,false,false] rfl rfl (any_of HT_.out (by kernel_rfl)) (fun _ _ _ h => h) (Or.inl ⟨by rfl,?_⟩) ?_ ?_
   rotate_left
   ·intro w'
    go_simp
    first | with_reducible rfl | (rw [if_neg (by (try simp only [ByteArray.size_append,ByteArray.size_extract,decide_eq_true_eq,eq_iff_iff,iff_true,beq_iff_eq] at *); omega)] <;> with_reducible rfl)
   rotate_left
   ·simp only [Act.put,List.setIfInBounds_toArray,List.set_cons_zero,List.set_cons_succ,i64_w,i32_w]
    rfl
   refine pure_ (i:=4) (N:=some 54) (v:=?_) (a':=?_) #[true,true,true,true,true,false,false,false,false,false,false,false,false,false,false] rfl rfl (any_of HT_.out (by kernel_rfl)) (fun _ _ _ h => h) (Or.inl ⟨by rfl,?_⟩) ?_ ?_
   rotate_left
   ·intro w'
    go_simp
    first | with_reducible rfl | (rw [if_neg (by (try simp only [ByteArray.size_append,ByteArray.size_extract,decide_eq_true_eq,eq_iff_iff,iff_true,beq_iff_eq] at *); omega)] <;> with_reducible rfl)
   rotate_left
   ·simp only [Act.put,List.setIfInBounds_toArray,List.set_cons_zero,List.set_cons_succ,i64_w,i32_w]
    rfl
   refine pure_ (i:=5) (N:=some 55) (v:=?_) (a':=?_) #[true,true,true,true,true,true,false,false,false,false,false,false,false,false,false] rfl rfl (any_of HT_.out (by kernel_rfl)) (fun _ _ _ h => h) (Or.inl ⟨by rfl,?_⟩) ?_ ?_
   rotate_left
   ·intro w'
    go_simp
    first | with_reducible rfl | (rw [if_neg (by (try simp only [ByteArray.size_append,ByteArray.size_extract,decide_eq_true_eq,eq_iff_iff,iff_true,beq_iff_eq] at *); omega)] <;> with_reducible rfl)
   rotate_left
   ·simp only [Act.put,List.setIfInBounds_toArray,List.set_cons_zero,List.set_cons_succ,i64_w,i32_w]
    rfl
   refine pure_ (i:=7) (N:=some 57) (v:=?_) (a':=?_) #[true,true,true,true,true,true,false,true,false,false,false,false,false,false,false] rfl rfl (any_of HT_.out (by kernel_rfl)) (fun _ _ _ h => h) (Or.inl ⟨by rfl,?_⟩) ?_ ?_
   rotate_left
   ·intro w'
    go_simp
    first | with_reducible rfl | (rw [if_neg (by (try simp only [ByteArray.size_append,ByteArray.size_extract,decide_eq_true_eq,eq_iff_iff,iff_true,beq_iff_eq] at *); omega)] <;> with_reducible rfl)
   rotate_left
   ·simp only [Act.put,List.setIfInBounds_toArray,List.set_cons_zero,List.set_cons_succ,i64_w,i32_w]
    rfl
   refine pure_ (i:=9) (N:=some 59) (v:=?_) (a':=?_) #[true,true,true,true,true,true,false,true,false,true,false,false,false,false,false] rfl rfl (any_of HT_.out (by kernel_rfl)) (fun _ _ _ h => h) (Or.inl ⟨by rfl,?_⟩) ?_ ?_
   rotate_left
   ·intro w'
    go_simp
    first | with_reducible rfl | (rw [if_neg (by (try simp only [ByteArray.size_append,ByteArray.size_extract,decide_eq_true_eq,eq_iff_iff,iff_true,beq_iff_eq] at *); omega)] <;> with_reducible rfl)
   rotate_left
   ·simp only [Act.put,List.setIfInBounds_toArray,List.set_cons_zero,List.set_cons_succ,i64_w,i32_w]
    rfl
   refine take_ (i:=6) (N:=some 56) (v:=?_) (a':=?_) #[true,true,true,true,true,true,true,true,false,true,false,false,false,false,false] rfl rfl (take_ofW HT_.out HW_.out (by kernel_rfl)) (fun _ _ _ h => h) (Or.inl ⟨by rfl,?_⟩) hHeld ?_ ?_
   rotate_left
   ·rintro w' ⟨s0,s1,s2,s3,s4,s5,s6,s7⟩
    go_simp
    first | with_reducible rfl | (rw [if_neg (by (try simp only [ByteArray.size_append,ByteArray.size_extract,decide_eq_true_eq,eq_iff_iff,iff_true,beq_iff_eq] at *); omega)] <;> with_reducible rfl)
   rotate_left
   ·simp only [Act.put,List.setIfInBounds_toArray,List.set_cons_zero,List.set_cons_succ,i64_w,i32_w]
    rfl
   refine take_ (i:=8) (N:=some 58) (v:=?_) (a':=?_) #[true,true,true,true,true,true,true,true,true,true,false,false,false,false,false] rfl rfl (take_ofW HT_.out HW_.out (by kernel_rfl)) (fun _ _ _ h => h) (Or.inl ⟨by rfl,?_⟩) hHeld ?_ ?_
   rotate_left
   ·rintro w' ⟨s0,s1,s2,s3,s4,s5,s6,s7⟩
    go_simp
    first | with_reducible rfl | (rw [if_neg (by (try simp only [ByteArray.size_append,ByteArray.size_extract,decide_eq_true_eq,eq_iff_iff,iff_true,beq_iff_eq] at *); omega)] <;> with_reducible rfl)
   rotate_left
   ·simp only [Act.put,List.setIfInBounds_toArray,List.set_cons_zero,List.set_cons_succ,i64_w,i32_w]
    rfl
   refine take_ (i:=10) (N:=some 60) (v:=?_) (a':=?_) #[true,true,true,true,true,true,true,true,true,true,true,false,false,false,false] rfl rfl (take_ofW HT_.out HW_.out (by kernel_rfl)) (fun _ _ _ h => h) (Or.inl ⟨by rfl,?_⟩) hHeld ?_ ?_
   rotate_left
   ·rintro w' ⟨s0,s1,s2,s3,s4,s5,s6,s7⟩
    go_simp
    first | with_reducible rfl | (rw [if_neg (by (try simp only [ByteArray.size_append,ByteArray.size_extract,decide_eq_true_eq,eq_iff_iff,iff_true,beq_iff_eq] at *); omega)] <;> with_reducible rfl)
   rotate_left
   ·simp only [Act.put,List.setIfInBounds_toArray,List.set_cons_zero,List.set_cons_succ,i64_w,i32_w]
    rfl
   refine pure_ (i:=11) (N:=some 61) (v:=?_) (a':=?_) #[true,true,true,true,true,true,true,true,true,true,true,true,false,false,false] rfl rfl (any_of HT_.out (by kernel_rfl)) (fun _ _ _ h => h) (Or.inl ⟨by rfl,?_⟩) ?_ ?_
   rotate_left
   ·intro w'
    go_simp
    first | with_reducible rfl | (rw [if_neg (by (try simp only [ByteArray.size_append,ByteArray.size_extract,decide_eq_true_eq,eq_iff_iff,iff_true,beq_iff_eq] at *); omega)] <;> with_reducible rfl)
   rotate_left
   ·simp only [Act.put,List.setIfInBounds_toArray,List.set_cons_zero,List.set_cons_succ,i64_w,i32_w]
    rfl
   refine pure_ (i:=12) (N:=some 62) (v:=?_) (a':=?_) #[true,true,true,true,true,true,true,true,true,true,true,true,true,false,false] rfl rfl (any_of HT_.out (by kernel_rfl)) (fun _ _ _ h => h) (Or.inl ⟨by rfl,?_⟩) ?_ ?_
   rotate_left
   ·intro w'
    go_simp
    first | with_reducible rfl | (rw [if_neg (by (try simp only [ByteArray.size_append,ByteArray.size_extract,decide_eq_true_eq,eq_iff_iff,iff_true,beq_iff_eq] at *); omega)] <;> with_reducible rfl)
   rotate_left
   ·simp only [Act.put,List.setIfInBounds_toArray,List.set_cons_zero,List.set_cons_succ,i64_w,i32_w]
    rfl
   refine pure_ (i:=13) (N:=some 63) (v:=?_) (a':=?_) #[true,true,true,true,true,true,true,true,true,true,true,true,true,true,false] rfl rfl (any_of HT_.out (by kernel_rfl)) (fun _ _ _ h => h) (Or.inl ⟨by rfl,?_⟩) ?_ ?_
   rotate_left
   ·intro w'
    go_simp
    first | with_reducible rfl | (rw [if_neg (by (try simp only [ByteArray.size_append,ByteArray.size_extract,decide_eq_true_eq,eq_iff_iff,iff_true,beq_iff_eq] at *); omega)] <;> with_reducible rfl)
   rotate_left
   ·simp only [Act.put,List.setIfInBounds_toArray,List.set_cons_zero,List.set_cons_succ,i64_w,i32_w]
    rfl
   refine pure_ (i:=14) (N:=some 49) (v:=?_) (a':=?_) #[true,true,true,true,true,true,true,true,true,true,true,true,true,true,true] rfl rfl (any_of HT_.out (by kernel_rfl)) (fun _ _ _ h => h) (Or.inl ⟨by rfl,?_⟩) ?_ ?_
   rotate_left
   ·intro w'
    go_simp
    first | with_reducible rfl | (rw [if_neg (by (try simp only [ByteArray.size_append,ByteArray.size_extract,decide_eq_true_eq,eq_iff_iff,iff_true,beq_iff_eq] at *); omega)] <;> with_reducible rfl)
   rotate_left
   ·simp only [Act.put,List.setIfInBounds_toArray,List.set_cons_zero,List.set_cons_succ,i64_w,i32_w]
    rfl
   refine done_ (done_of HT_.out (by kernel_rfl)) ?_
   try go_wp2
   go_meet
   case rel => exact ⟨_,((a0_1 != (!(a0_2 == a0_4) || (!(a0_3 == a0_5))))),(by first | rfl | (simp; done) | (simp [*]; done)),H',⟨by have:=HK1.out; first | omega | exact Nat.le_refl _⟩,⟨by (with_reducible repeat (first | refine blk_drewN ?_ _ | refine blk_drew ?_ | refine blk_alloc ?_ _)); exact BK209.out⟩,⟨by repeat (first | (with_reducible first | exact HB.out | apply below_alloc | apply pw_below_drewN | apply below_drew1 | refine below_set ?_ GE209.out) | exact HB.out)⟩⟩
  clear HC35
  (try clear c1); (try clear c2); (try clear p2); (try clear q2); (try clear hx2); (try clear c3); (try clear c4); (try clear c4b0); (try clear c5); (try clear c5b0); (try clear c6); (try clear c6b0); (try clear p6); (try clear c9); (try clear c11); (try clear c11b0); (try clear c12); (try clear c15); (try clear c16); (try clear c16b0); (try clear c16b1); (try clear c17); (try clear c20); (try clear p21); (try clear q21); (try clear hx21); (try clear c22); (try clear c27); (try clear c29); (try clear c30); (try clear c32); (try clear c33); (try clear c36); (try clear c36b0); (try clear c36b1); (try clear hcz10_0); (try clear hcz10_1); (try clear hcz10_2); (try clear hcz13_0); (try clear hcz13_1); (try clear hcz13_2); (try clear hcz18_0); (try clear hcz18_1); (try clear hcz18_2); (try clear hcz23_0); (try clear hcz23_1); (try clear hcz23_2); (try clear hcz25_0); (try clear hcz25_1); (try clear hcz25_2); (try clear hcz28_0); (try clear hcz28_1); (try clear hcz28_2); (try clear hcz31_0); (try clear hcz31_1); (try clear hcz31_2); (try clear hcz34_0); (try clear hcz34_1); (try clear hcz34_2); (try clear hcz3_0); (try clear hcz3_1); (try clear hcz3_2); (try clear hcz3_3); (try clear hcz3_4); (try clear hcz3_5); (try clear hcz3_6); (try clear hcz3_7); (try clear hfz10_0); (try clear hfz10_1); (try clear hfz10_2); (try clear hfz13_0); (try clear hfz13_1); (try clear hfz13_2); (try clear hfz18_0); (try clear hfz18_1); (try clear hfz18_2); (try clear hfz23_0); (try clear hfz23_1); (try clear hfz23_2); (try clear hfz25_0); (try clear hfz25_1); (try clear hfz25_2); (try clear hfz28_0); (try clear hfz28_1); (try clear hfz28_2); (try clear hfz31_0); (try clear hfz31_1); (try clear hfz31_2); (try clear hfz34_0); (try clear hfz34_1); (try clear hfz34_2); (try clear hfz3_0); (try clear hfz3_1); (try clear hfz3_2); (try clear hfz3_3); (try clear hfz3_4); (try clear hfz3_5); (try clear hfz3_6); (try clear hfz3_7); (try clear hx210_0); (try clear hx210_1); (try clear hx210_2); (try clear p2); (try clear p21); (try clear p210); (try clear q2); (try clear q21); (try clear q210)
  obtain ⟨kq,x49_34,rfl,HA,HJ34,BK209,HB⟩:=hcut
  cases kq with
  | zero => exact absurd HA.out (by simp [clay_RightEntry.j2])
  | succ kj34 =>
   have H:=HA.out
   clear HA
   simp only [clay_RightEntry.j2] at H
   by_cases c39 : x49_34 = true
   ·subst c39
    have H1 : (some false) = some r:=by rw [if_pos rfl] at H; exact H
    clear H
    have H:=H1
    clear H1
    obtain rfl:=Option.some.inj H
    go_wp2
    go_ret
    exact ⟨by first | rfl | (simp [errW_none,errW_some] <;> rfl) | (simp [*,errW_none,errW_some] <;> rfl),by repeat (first | (with_reducible first | exact HB.out | apply below_alloc | apply pw_below_drewN | apply below_drew1 | refine below_set ?_ GE209.out) | exact HB.out)⟩
   replace c39:=Bool.eq_false_iff.mpr c39
   subst c39
   have H1 : (if a0_1 = true then (clay_RightEntry.j3 kj34 false l0_0 a0_1 a0_2 a0_3 a0_4 a0_5 a0_6 a0_7) else (clay_RightEntry.j3 kj34 (!(a0_2 == 0) || (!(a0_3 == 0))) l0_0 a0_1 a0_2 a0_3 a0_4 a0_5 a0_6 a0_7)) = some r:=by rw [if_neg (show ¬ (false = true) by decide)] at H; exact H
   clear H
   have H:=H1
   clear H1
   have HC40:=Aside0.mk H
   clear H
   go_upto_region 11 with (fail)
   go_cut [64] (fun v64 wc => ∃ (kq : Nat) (x64_39 : Bool),v64 = .bool x64_39 ∧ Aside0 (clay_RightEntry.j3 kq x64_39 l0_0 a0_1 a0_2 a0_3 a0_4 a0_5 a0_6 a0_7 = some r) ∧ Aside0 (kq ≤ kj34) ∧ Aside0 (wc.heap[gb209]? = some (.cells #[(.slice A0_0 l0_0.length c0_0),.bool a0_1,.int .i64 a0_2,.int .i64 a0_3,.int .i64 a0_4,.int .i64 a0_5,.int .i64 a0_6,.int .i64 a0_7] 55 (0,0))) ∧ Aside0 (Below w.heap.size w wc))
   case first =>
    have H:=HC40.out
    clear HC40
    by_cases c41 : a0_1 = true
    ·subst c41
     have H1 : (clay_RightEntry.j3 kj34 false l0_0 true a0_2 a0_3 a0_4 a0_5 a0_6 a0_7) = some r:=by rw [if_pos rfl] at H; exact H
     clear H
     have H:=H1
     clear H1
     have H':=Aside0.mk H
     clear H
     obtain ⟨hcz42_0,hcz42_1,hcz42_2,hcz42_3,hcz42_4,hcz42_5,hcz42_6,hcz42_7⟩:=cl8 BK209.out
     obtain ⟨hfz42_0,hfz42_1,hfz42_2,hfz42_3,hfz42_4,hfz42_5,hfz42_6,hfz42_7⟩:=fz8 BK209.out
     go_wp2
     go_meet
     case rel => exact ⟨_,(false),(by first | rfl | (simp; done) | (simp [*]; done)),H',⟨by have:=HK1.out; have:=HJ34.out; first | omega | exact Nat.le_refl _⟩,⟨by (with_reducible repeat (first | refine blk_drewN ?_ _ | refine blk_drew ?_ | refine blk_alloc ?_ _)); exact BK209.out⟩,⟨by repeat (first | (with_reducible first | exact HB.out | apply below_alloc | apply pw_below_drewN | apply below_drew1 | refine below_set ?_ GE209.out) | exact HB.out)⟩⟩
    replace c41:=Bool.eq_false_iff.mpr c41
    subst c41
    have H1 : (clay_RightEntry.j3 kj34 (!(a0_2 == 0) || (!(a0_3 == 0))) l0_0 false a0_2 a0_3 a0_4 a0_5 a0_6 a0_7) = some r:=by rw [if_neg (show ¬ (false = true) by decide)] at H; exact H
    clear H
    have H:=H1
    clear H1
    have H':=Aside0.mk H
    clear H
    obtain ⟨hcz43_0,hcz43_1,hcz43_2,hcz43_3,hcz43_4,hcz43_5,hcz43_6,hcz43_7⟩:=cl8 BK209.out
    obtain ⟨hfz43_0,hfz43_1,hfz43_2,hfz43_3,hfz43_4,hfz43_5,hfz43_6,hfz43_7⟩:=fz8 BK209.out
    go_wp2
    go_meet
    case rel => exact ⟨_,((!(a0_2 == 0) || (!(a0_3 == 0)))),(by first | rfl | (simp; done) | (simp [*]; done)),H',⟨by have:=HK1.out; have:=HJ34.out; first | omega | exact Nat.le_refl _⟩,⟨by (with_reducible repeat (first | refine blk_drewN ?_ _ | refine blk_drew ?_ | refine blk_alloc ?_ _)); exact BK209.out⟩,⟨by repeat (first | (with_reducible first | exact HB.out | apply below_alloc | apply pw_below_drewN | apply below_drew1 | refine below_set ?_ GE209.out) | exact HB.out)⟩⟩
   clear HC40
   (try clear c1); (try clear c2); (try clear p2); (try clear q2); (try clear hx2); (try clear c3); (try clear c4); (try clear c4b0); (try clear c5); (try clear c5b0); (try clear c6); (try clear c6b0); (try clear p6); (try clear c9); (try clear c11); (try clear c11b0); (try clear c12); (try clear c15); (try clear c16); (try clear c16b0); (try clear c16b1); (try clear c17); (try clear c20); (try clear p21); (try clear q21); (try clear hx21); (try clear c22); (try clear c27); (try clear c29); (try clear c30); (try clear c32); (try clear c33); (try clear c36); (try clear c36b0); (try clear c36b1); (try clear c39); (try clear c41); (try clear hcz10_0); (try clear hcz10_1); (try clear hcz10_2); (try clear hcz13_0); (try clear hcz13_1); (try clear hcz13_2); (try clear hcz18_0); (try clear hcz18_1); (try clear hcz18_2); (try clear hcz23_0); (try clear hcz23_1); (try clear hcz23_2); (try clear hcz25_0); (try clear hcz25_1); (try clear hcz25_2); (try clear hcz28_0); (try clear hcz28_1); (try clear hcz28_2); (try clear hcz31_0); (try clear hcz31_1); (try clear hcz31_2); (try clear hcz34_0); (try clear hcz34_1); (try clear hcz34_2); (try clear hcz3_0); (try clear hcz3_1); (try clear hcz3_2); (try clear hcz3_3); (try clear hcz3_4); (try clear hcz3_5); (try clear hcz3_6); (try clear hcz3_7); (try clear hcz42_0); (try clear hcz42_1); (try clear hcz42_2); (try clear hcz42_3); (try clear hcz42_4); (try clear hcz42_5); (try clear hcz42_6); (try clear hcz42_7); (try clear hcz43_0); (try clear hcz43_1); (try clear hcz43_2); (try clear hcz43_3); (try clear hcz43_4); (try clear hcz43_5); (try clear hcz43_6); (try clear hcz43_7); (try clear hfz10_0); (try clear hfz10_1); (try clear hfz10_2); (try clear hfz13_0); (try clear hfz13_1); (try clear hfz13_2); (try clear hfz18_0); (try clear hfz18_1); (try clear hfz18_2); (try clear hfz23_0); (try clear hfz23_1); (try clear hfz23_2); (try clear hfz25_0); (try clear hfz25_1); (try clear hfz25_2); (try clear hfz28_0); (try clear hfz28_1); (try clear hfz28_2); (try clear hfz31_0); (try clear hfz31_1); (try clear hfz31_2); (try clear hfz34_0); (try clear hfz34_1); (try clear hfz34_2); (try clear hfz3_0); (try clear hfz3_1); (try clear hfz3_2); (try clear hfz3_3); (try clear hfz3_4); (try clear hfz3_5); (try clear hfz3_6); (try clear hfz3_7); (try clear hfz42_0); (try clear hfz42_1); (try clear hfz42_2); (try clear hfz42_3); (try clear hfz42_4); (try clear hfz42_5); (try clear hfz42_6); (try clear hfz42_7); (try clear hfz43_0); (try clear hfz43_1); (try clear hfz43_2); (try clear hfz43_3); (try clear hfz43_4); (try clear hfz43_5); (try clear hfz43_6); (try clear hfz43_7); (try clear hx210_0); (try clear hx210_1); (try clear hx210_2); (try clear p2); (try clear p21); (try clear p210); (try clear p6); (try clear q2); (try clear q21); (try clear q210)
   obtain ⟨kq,x64_39,rfl,HA,HJ39,BK209,HB⟩:=hcut
   cases kq with
   | zero => exact absurd HA.out (by simp [clay_RightEntry.j3])
   | succ kj39 =>
    have H:=HA.out
    clear HA
    simp only [clay_RightEntry.j3] at H
    by_cases c44 : x64_39 = true
    ·subst c44
     have H1 : (some false) = some r:=by rw [if_pos rfl] at H; exact H
     clear H
     have H:=H1
     clear H1
     obtain rfl:=Option.some.inj H
     go_wp2
     go_ret
     exact ⟨by first | rfl | (simp [errW_none,errW_some] <;> rfl) | (simp [*,errW_none,errW_some] <;> rfl),by repeat (first | (with_reducible first | exact HB.out | apply below_alloc | apply pw_below_drewN | apply below_drew1 | refine below_set ?_ GE209.out) | exact HB.out)⟩
    replace c44:=Bool.eq_false_iff.mpr c44
    subst c44
    have H1 : (if (mn a0_6 a0_7) < 1 then (some false) else (if (mx a0_6 a0_7) > 1000001 then (some false) else ((world_Right.f kj39 a0_2 a0_3 ([] : List (S26)) ([] : List (S28))).bind fun t217 => (if t217 = true then ((world_Right.f kj39 a0_4 a0_5 ([] : List (S26)) ([] : List (S28))).bind fun t218 => (if t218 = true then (if (l0_0.length : Int) > 0 then (clay_RightEntry.j4 kj39 true) else (if a0_1 = true then (clay_RightEntry.j4 kj39 true) else (clay_RightEntry.j4 kj39 (a0_6 != a0_7)))) else (clay_RightEntry.j4 kj39 false))) else (clay_RightEntry.j4 kj39 false))))) = some r:=by rw [if_neg (show ¬ (false = true) by decide)] at H; exact H
    clear H
    have H:=H1
    clear H1
    obtain ⟨ji45,hji45⟩ : ∃ j_ : Int,(mn a0_6 a0_7) = j_:=⟨_,rfl⟩
    replace H : (if (ji45) < 1 then (some false) else (if (mx a0_6 a0_7) > 1000001 then (some false) else ((world_Right.f kj39 a0_2 a0_3 ([] : List (S26)) ([] : List (S28))).bind fun t217 => (if t217 = true then ((world_Right.f kj39 a0_4 a0_5 ([] : List (S26)) ([] : List (S28))).bind fun t218 => (if t218 = true then (if (l0_0.length : Int) > 0 then (clay_RightEntry.j4 kj39 true) else (if a0_1 = true then (clay_RightEntry.j4 kj39 true) else (clay_RightEntry.j4 kj39 (a0_6 != a0_7)))) else (clay_RightEntry.j4 kj39 false))) else (clay_RightEntry.j4 kj39 false))))) = some r:=by first | (rw [hji45] at H; exact H) | (simp only [hji45] at H ⊢; exact H)
    have hji45_ : (if a0_7 < a0_6 then a0_7 else a0_6) = ji45:=hji45
    by_cases c46 : (ji45) < 1
    ·rw [if_pos c46] at H
     have c46b0 : decide ((ji45) < 1) = true:=decide_eq_true c46
     clear c46
     obtain rfl:=Option.some.inj H
     obtain ⟨hcz47_0,hcz47_1,hcz47_2,hcz47_3,hcz47_4,hcz47_5,hcz47_6,hcz47_7⟩:=cl8 BK209.out
     obtain ⟨hfz47_0,hfz47_1,hfz47_2,hfz47_3,hfz47_4,hfz47_5,hfz47_6,hfz47_7⟩:=fz8 BK209.out
     go_wp2
     go_ret
     exact ⟨by first | rfl | (simp [errW_none,errW_some] <;> rfl) | (simp only [← hji45]; first | rfl | (simp [errW_none,errW_some] <;> rfl)) | (simp [*,errW_none,errW_some] <;> rfl),by repeat (first | (with_reducible first | exact HB.out | apply below_alloc | apply pw_below_drewN | apply below_drew1 | refine below_set ?_ GE209.out) | exact HB.out)⟩
    rw [if_neg c46] at H
    have c46b0 : decide ((ji45) < 1) = false:=decide_eq_false c46
    clear c46
    obtain ⟨ji48,hji48⟩ : ∃ j_ : Int,(mx a0_6 a0_7) = j_:=⟨_,rfl⟩
    replace H : (if (ji48) > 1000001 then (some false) else ((world_Right.f kj39 a0_2 a0_3 ([] : List (S26)) ([] : List (S28))).bind fun t217 => (if t217 = true then ((world_Right.f kj39 a0_4 a0_5 ([] : List (S26)) ([] : List (S28))).bind fun t218 => (if t218 = true then (if (l0_0.length : Int) > 0 then (clay_RightEntry.j4 kj39 true) else (if a0_1 = true then (clay_RightEntry.j4 kj39 true) else (clay_RightEntry.j4 kj39 (a0_6 != a0_7)))) else (clay_RightEntry.j4 kj39 false))) else (clay_RightEntry.j4 kj39 false)))) = some r:=by first | (rw [hji48] at H; exact H) | (simp only [hji48] at H ⊢; exact H)
    have hji48_ : (if a0_6 < a0_7 then a0_7 else a0_6) = ji48:=hji48
    by_cases c49 : (ji48) > 1000001
    ·rw [if_pos c49] at H
     have c49b0 : decide (1000001 < (ji48)) = true:=decide_eq_true c49
     clear c49
     obtain rfl:=Option.some.inj H
     obtain ⟨hcz50_0,hcz50_1,hcz50_2,hcz50_3,hcz50_4,hcz50_5,hcz50_6,hcz50_7⟩:=cl8 BK209.out
     obtain ⟨hfz50_0,hfz50_1,hfz50_2,hfz50_3,hfz50_4,hfz50_5,hfz50_6,hfz50_7⟩:=fz8 BK209.out
     go_wp2
     go_ret
     exact ⟨by first | rfl | (simp [errW_none,errW_some] <;> rfl) | (simp only [← hji45,← hji48]; first | rfl | (simp [errW_none,errW_some] <;> rfl)) | (simp [*,errW_none,errW_some] <;> rfl),by repeat (first | (with_reducible first | exact HB.out | apply below_alloc | apply pw_below_drewN | apply below_drew1 | refine below_set ?_ GE209.out) | exact HB.out)⟩
    rw [if_neg c49] at H
    have c49b0 : decide (1000001 < (ji48)) = false:=decide_eq_false c49
    clear c49
    have HC51:=Aside0.mk H
    clear H
    obtain ⟨hcz52_0,hcz52_1,hcz52_2,hcz52_3,hcz52_4,hcz52_5,hcz52_6,hcz52_7⟩:=cl8 BK209.out
    obtain ⟨hfz52_0,hfz52_1,hfz52_2,hfz52_3,hfz52_4,hfz52_5,hfz52_6,hfz52_7⟩:=fz8 BK209.out
    try go_wp2
    have n0_:=Aside0.mk (blk_drew BK209.out)
    have n1_:=Aside0.mk (below_drew1 HB.out)
    clear BK209
    clear HB
    have BK209:=n0_
    have HB:=n1_
    clear n0_ n1_
    refine start_ (n:=10) (S:=fun w' => w'.cell? ⟨gb209,0,none⟩ = some (.slice A0_0 l0_0.length c0_0) ∧ w'.cell? ⟨gb209,1,none⟩ = some (.bool a0_1) ∧ w'.cell? ⟨gb209,2,none⟩ = some (.int .i64 a0_2) ∧ w'.cell? ⟨gb209,3,none⟩ = some (.int .i64 a0_3) ∧ w'.cell? ⟨gb209,4,none⟩ = some (.int .i64 a0_4) ∧ w'.cell? ⟨gb209,5,none⟩ = some (.int .i64 a0_5) ∧ w'.cell? ⟨gb209,6,none⟩ = some (.int .i64 a0_6) ∧ w'.cell? ⟨gb209,7,none⟩ = some (.int .i64 a0_7)) (ds:=[]) #[false,false,false,false,false,false,false,false,false,false] (by kernel_rfl) rfl rfl ⟨(blk_cell BK209.out 0).trans rfl,(blk_cell BK209.out 1).trans rfl,(blk_cell BK209.out 2).trans rfl,(blk_cell BK209.out 3).trans rfl,(blk_cell BK209.out 4).trans rfl,(blk_cell BK209.out 5).trans rfl,(blk_cell BK209.out 6).trans rfl,(blk_cell BK209.out 7).trans rfl⟩ (fun hHeld => ?_); refine with_tabW clay_RightEntry.tab15 clay_RightEntry.bits15 (fun HT_ HW_ => ?_)
    generalize wc.drew = w53 at BK209 HB hHeld ⊢
    refine pure_ (i:=0) (N:=some 89) (v:=?_) (a':=?_) #[true,false,false,false,false,false,false,false,false,false] rfl rfl (any_of HT_.out (by kernel_rfl)) (fun _ _ _ h => h) (Or.inl ⟨by rfl,?_⟩) ?_ ?_
    rotate_left
    ·intro w'
     go_simp
     first | with_reducible rfl | (rw [if_neg (by (try simp only [ByteArray.size_append,ByteArray.size_extract,decide_eq_true_eq,eq_iff_iff,iff_true,beq_iff_eq] at *); omega)] <;> with_reducible rfl)
    rotate_left
    ·simp only [Act.put,List.setIfInBounds_toArray,List.set_cons_zero,List.set_cons_succ,i64_w,i32_w]
     rfl
    refine pure_ (i:=3) (N:=some 92) (v:=?_) (a':=?_) #[true,false,false,true,false,false,false,false,false,false] rfl rfl (any_of HT_.out (by kernel_rfl)) (fun _ _ _ h => h) (Or.inl ⟨by rfl,?_⟩) ?_ ?_
    rotate_left
    ·intro w'
     go_simp
     first | with_reducible rfl | (rw [if_neg (by (try simp only [ByteArray.size_append,ByteArray.size_extract,decide_eq_true_eq,eq_iff_iff,iff_true,beq_iff_eq] at *); omega)] <;> with_reducible rfl)
    rotate_left
    ·simp only [Act.put,List.setIfInBounds_toArray,List.set_cons_zero,List.set_cons_succ,i64_w,i32_w]
     rfl
    refine take_ (i:=1) (N:=some 90) (v:=?_) (a':=?_) #[true,true,false,true,false,false,false,false,false,false] rfl rfl (take_ofW HT_.out HW_.out (by kernel_rfl)) (fun _ _ _ h => h) (Or.inl ⟨by rfl,?_⟩) hHeld ?_ ?_
    rotate_left
    ·rintro w' ⟨s0,s1,s2,s3,s4,s5,s6,s7⟩
     go_simp
     first | with_reducible rfl | (rw [if_neg (by (try simp only [ByteArray.size_append,ByteArray.size_extract,decide_eq_true_eq,eq_iff_iff,iff_true,beq_iff_eq] at *); omega)] <;> with_reducible rfl)
    rotate_left
    ·simp only [Act.put,List.setIfInBounds_toArray,List.set_cons_zero,List.set_cons_succ,i64_w,i32_w]
     rfl
    refine pure_ (i:=2) (N:=some 91) (v:=?_) (a':=?_) #[true,true,true,true,false,false,false,false,false,false] rfl rfl (any_of HT_.out (by kernel_rfl)) (fun _ _ _ h => h) (Or.inl ⟨by rfl,?_⟩) ?_ ?_
    rotate_left
    ·intro w'
     go_simp
     first | with_reducible rfl | (rw [if_neg (by (try simp only [ByteArray.size_append,ByteArray.size_extract,decide_eq_true_eq,eq_iff_iff,iff_true,beq_iff_eq] at *); omega)] <;> with_reducible rfl)
    rotate_left
    ·simp only [Act.put,List.setIfInBounds_toArray,List.set_cons_zero,List.set_cons_succ,i64_w,i32_w]
     rfl
    refine take_ (i:=4) (N:=some 93) (v:=?_) (a':=?_) #[true,true,true,true,true,false,false,false,false,false] rfl rfl (take_ofW HT_.out HW_.out (by kernel_rfl)) (fun _ _ _ h => h) (Or.inl ⟨by rfl,?_⟩) hHeld ?_ ?_
    rotate_left
    ·rintro w' ⟨s0,s1,s2,s3,s4,s5,s6,s7⟩
     go_simp
     first | with_reducible rfl | (rw [if_neg (by (try simp only [ByteArray.size_append,ByteArray.size_extract,decide_eq_true_eq,eq_iff_iff,iff_true,beq_iff_eq] at *); omega)] <;> with_reducible rfl)
    rotate_left
    ·simp only [Act.put,List.setIfInBounds_toArray,List.set_cons_zero,List.set_cons_succ,i64_w,i32_w]
     rfl
    refine pure_ (i:=5) (N:=some 94) (v:=?_) (a':=?_) #[true,true,true,true,true,true,false,false,false,false] rfl rfl (any_of HT_.out (by kernel_rfl)) (fun _ _ _ h => h) (Or.inl ⟨by rfl,?_⟩) ?_ ?_
    rotate_left
    ·intro w'
     go_simp
     first | with_reducible rfl | (rw [if_neg (by (try simp only [ByteArray.size_append,ByteArray.size_extract,decide_eq_true_eq,eq_iff_iff,iff_true,beq_iff_eq] at *); omega)] <;> with_reducible rfl)
    rotate_left
    ·simp only [Act.put,List.setIfInBounds_toArray,List.set_cons_zero,List.set_cons_succ,i64_w,i32_w]
     rfl
    refine join_ (σ:=Nat × Nat) 2 #[true,true,true,true,true,true,true,true,false,false] (fun s_ => [(6,.pointer (some ⟨s_.1,0,none⟩)),(7,.pointer (some ⟨s_.2,0,none⟩))]) (fun s_ w' => (w'.cell? ⟨gb209,0,none⟩ = some (.slice A0_0 l0_0.length c0_0) ∧ w'.cell? ⟨gb209,1,none⟩ = some (.bool a0_1) ∧ w'.cell? ⟨gb209,2,none⟩ = some (.int .i64 a0_2) ∧ w'.cell? ⟨gb209,3,none⟩ = some (.int .i64 a0_3) ∧ w'.cell? ⟨gb209,4,none⟩ = some (.int .i64 a0_4) ∧ w'.cell? ⟨gb209,5,none⟩ = some (.int .i64 a0_5) ∧ w'.cell? ⟨gb209,6,none⟩ = some (.int .i64 a0_6) ∧ w'.cell? ⟨gb209,7,none⟩ = some (.int .i64 a0_7)) ∧ (w'.heap[gb209]? = some (.cells #[.slice A0_0 l0_0.length c0_0,.bool a0_1,.int .i64 a0_2,.int .i64 a0_3,.int .i64 a0_4,.int .i64 a0_5,.int .i64 a0_6,.int .i64 a0_7] 55 (0,0))) ∧ (w'.heap[s_.1]? = some (.cells #[.int .i64 0,.int .i64 0,.slice none 0 0,.slice none 0 0] 114 (0,0))) ∧ (w'.heap[s_.2]? = some (.cells #[.int .i64 0,.int .i64 0,.slice none 0 0,.slice none 0 0] 114 (0,0))) ∧ (w.heap.size ≤ s_.1) ∧ (w.heap.size ≤ s_.1) ∧ (gb209 ≠ s_.1) ∧ (s_.1 ≠ gb209) ∧ (s_.2 ≠ s_.1) ∧ (s_.1 ≠ s_.2) ∧ (w.heap.size ≤ s_.2) ∧ (w.heap.size ≤ s_.2) ∧ (gb209 ≠ s_.2) ∧ (s_.2 ≠ gb209) ∧ (Below w.heap.size w w')) ?_ ?_
    rotate_left
    ·intro hCont
     refine two_ (i:=6) (j:=7) (Ni:=some 6) (Nj:=some 7) #[true,true,true,true,true,true,true,false,false,false] #[true,true,true,true,true,true,false,true,false,false] rfl rfl rfl rfl (two_of HT_.out (by kernel_rfl)) (by decide) (by decide) (fun K hK => ?_) (fun K hK => ?_)
     ·skip
      refine box_step ?hg (N:=6) ?hd (cs:=#[.int .i64 0,.int .i64 0,.slice none 0 0,.slice none 0 0]) (t:=114) ?hr ?_; (case hd => rfl); (case hg => rfl); (case hr => first | (go_simp; done) | (go_simp; rfl))
      intro gb215 hg w54 hbox hb
      have n0_:=Aside0.mk (blk_below (g:=gb209) (o:=.cells #[.slice A0_0 l0_0.length c0_0,.bool a0_1,.int .i64 a0_2,.int .i64 a0_3,.int .i64 a0_4,.int .i64 a0_5,.int .i64 a0_6,.int .i64 a0_7] 55 (0,0)) (by (with_reducible repeat (first | refine blk_drewN ?_ _ | refine blk_drew ?_ | refine blk_alloc ?_ _)); exact BK209.out) hb)
      have n1_:=Aside0.mk (below_step (by repeat (first | (with_reducible first | exact HB.out | apply below_alloc | apply pw_below_drewN | apply below_drew1 | refine below_set ?_ GE209.out) | exact HB.out)) hb)
      have n2_:=Aside0.mk (hbox)
      have n3_:=Aside0.mk ((by rw [hg]; exact (below_size (by repeat (first | (with_reducible first | exact HB.out | apply below_alloc | apply pw_below_drewN | apply below_drew1 | refine below_set ?_ GE209.out) | exact HB.out))) : w.heap.size ≤ gb215))
      have n4_:=Aside0.mk ((by rw [hg]; exact (below_size (by repeat (first | (with_reducible first | exact HB.out | apply below_alloc | apply pw_below_drewN | apply below_drew1 | refine below_set ?_ GE209.out) | exact HB.out))) : w.heap.size ≤ gb215))
      have n5_:=Aside0.mk ((by rw [hg]; exact Nat.ne_of_lt (blk_lt (g:=gb209) (o:=.cells #[.slice A0_0 l0_0.length c0_0,.bool a0_1,.int .i64 a0_2,.int .i64 a0_3,.int .i64 a0_4,.int .i64 a0_5,.int .i64 a0_6,.int .i64 a0_7] 55 (0,0)) (by (with_reducible repeat (first | refine blk_drewN ?_ _ | refine blk_drew ?_ | refine blk_alloc ?_ _)); exact BK209.out)) : gb209 ≠ gb215))
      have n6_:=Aside0.mk ((by rw [hg]; exact Nat.ne_of_gt (blk_lt (g:=gb209) (o:=.cells #[.slice A0_0 l0_0.length c0_0,.bool a0_1,.int .i64 a0_2,.int .i64 a0_3,.int .i64 a0_4,.int .i64 a0_5,.int .i64 a0_6,.int .i64 a0_7] 55 (0,0)) (by (with_reducible repeat (first | refine blk_drewN ?_ _ | refine blk_drew ?_ | refine blk_alloc ?_ _)); exact BK209.out)) : gb215 ≠ gb209))
      clear BK209
      clear HB
      have BK209:=n0_
      have HB:=n1_
      have BK215:=n2_
      have GW215:=n3_
      have GE215:=n4_
      have NB209_215:=n5_
      have NB215_209:=n6_
      clear n0_ n1_ n2_ n3_ n4_ n5_ n6_
      clear hb hbox hg
      refine hK.out _ _ ⟨(blk_cell BK209.out 0).trans rfl,(blk_cell BK209.out 1).trans rfl,(blk_cell BK209.out 2).trans rfl,(blk_cell BK209.out 3).trans rfl,(blk_cell BK209.out 4).trans rfl,(blk_cell BK209.out 5).trans rfl,(blk_cell BK209.out 6).trans rfl,(blk_cell BK209.out 7).trans rfl⟩ (fun hHeld => ?_)
      clear hK K
      refine norm_ (a':=?_) ?_ ?_
      rotate_left
      ·show Act.put _ (some 6) _ = _
       simp only [Act.put,List.setIfInBounds_toArray,List.set_cons_zero,List.set_cons_succ,i64_w,i32_w]
       rfl
      refine one_ (i:=7) (N:=some 7) #[true,true,true,true,true,true,true,true,false,false] rfl rfl (one_of HT_.out (by kernel_rfl)) (by decide) (fun K hK => ?_)
      refine box_step ?hg (N:=7) ?hd (cs:=#[.int .i64 0,.int .i64 0,.slice none 0 0,.slice none 0 0]) (t:=114) ?hr ?_; (case hd => rfl); (case hg => rfl); (case hr => first | (go_simp; done) | (go_simp; rfl))
      intro gb216 hg w55 hbox hb
      have n0_:=Aside0.mk (blk_below (g:=gb209) (o:=.cells #[.slice A0_0 l0_0.length c0_0,.bool a0_1,.int .i64 a0_2,.int .i64 a0_3,.int .i64 a0_4,.int .i64 a0_5,.int .i64 a0_6,.int .i64 a0_7] 55 (0,0)) (by (with_reducible repeat (first | refine blk_drewN ?_ _ | refine blk_drew ?_ | refine blk_alloc ?_ _)); exact BK209.out) hb)
      have n1_:=Aside0.mk (blk_below (g:=gb215) (o:=.cells #[.int .i64 0,.int .i64 0,.slice none 0 0,.slice none 0 0] 114 (0,0)) (by (with_reducible repeat (first | refine blk_drewN ?_ _ | refine blk_drew ?_ | refine blk_alloc ?_ _)); exact BK215.out) hb)
      have n2_:=Aside0.mk (below_step (by repeat (first | (with_reducible first | exact HB.out | apply below_alloc | apply pw_below_drewN | apply below_drew1 | refine below_set ?_ GE209.out | refine below_set ?_ GE215.out) | exact HB.out)) hb)
      have n3_:=Aside0.mk (hbox)
      have n4_:=Aside0.mk ((by rw [hg]; exact (below_size (by repeat (first | (with_reducible first | exact HB.out | apply below_alloc | apply pw_below_drewN | apply below_drew1 | refine below_set ?_ GE209.out | refine below_set ?_ GE215.out) | exact HB.out))) : w.heap.size ≤ gb216))
      have n5_:=Aside0.mk ((by rw [hg]; exact (below_size (by repeat (first | (with_reducible first | exact HB.out | apply below_alloc | apply pw_below_drewN | apply below_drew1 | refine below_set ?_ GE209.out | refine below_set ?_ GE215.out) | exact HB.out))) : w.heap.size ≤ gb216))
      have n6_:=Aside0.mk ((by rw [hg]; exact Nat.ne_of_lt (blk_lt (g:=gb209) (o:=.cells #[.slice A0_0 l0_0.length c0_0,.bool a0_1,.int .i64 a0_2,.int .i64 a0_3,.int .i64 a0_4,.int .i64 a0_5,.int .i64 a0_6,.int .i64 a0_7] 55 (0,0)) (by (with_reducible repeat (first | refine blk_drewN ?_ _ | refine blk_drew ?_ | refine blk_alloc ?_ _)); exact BK209.out)) : gb209 ≠ gb216))
      have n7_:=Aside0.mk ((by rw [hg]; exact Nat.ne_of_gt (blk_lt (g:=gb209) (o:=.cells #[.slice A0_0 l0_0.length c0_0,.bool a0_1,.int .i64 a0_2,.int .i64 a0_3,.int .i64 a0_4,.int .i64 a0_5,.int .i64 a0_6,.int .i64 a0_7] 55 (0,0)) (by (with_reducible repeat (first | refine blk_drewN ?_ _ | refine blk_drew ?_ | refine blk_alloc ?_ _)); exact BK209.out)) : gb216 ≠ gb209))
      have n8_:=Aside0.mk ((by rw [hg]; exact Nat.ne_of_lt (blk_lt (g:=gb215) (o:=.cells #[.int .i64 0,.int .i64 0,.slice none 0 0,.slice none 0 0] 114 (0,0)) (by (with_reducible repeat (first | refine blk_drewN ?_ _ | refine blk_drew ?_ | refine blk_alloc ?_ _)); exact BK215.out)) : gb215 ≠ gb216))
      have n9_:=Aside0.mk ((by rw [hg]; exact Nat.ne_of_gt (blk_lt (g:=gb215) (o:=.cells #[.int .i64 0,.int .i64 0,.slice none 0 0,.slice none 0 0] 114 (0,0)) (by (with_reducible repeat (first | refine blk_drewN ?_ _ | refine blk_drew ?_ | refine blk_alloc ?_ _)); exact BK215.out)) : gb216 ≠ gb215))
      clear BK209
      clear BK215
      clear HB
      have BK209:=n0_
      have BK215:=n1_
      have HB:=n2_
      have BK216:=n3_
      have GW216:=n4_
      have GE216:=n5_
      have NB209_216:=n6_
      have NB216_209:=n7_
      have NB215_216:=n8_
      have NB216_215:=n9_
      clear n0_ n1_ n2_ n3_ n4_ n5_ n6_ n7_ n8_ n9_
      clear hb hbox hg
      refine hK.out _ _ ⟨(blk_cell BK209.out 0).trans rfl,(blk_cell BK209.out 1).trans rfl,(blk_cell BK209.out 2).trans rfl,(blk_cell BK209.out 3).trans rfl,(blk_cell BK209.out 4).trans rfl,(blk_cell BK209.out 5).trans rfl,(blk_cell BK209.out 6).trans rfl,(blk_cell BK209.out 7).trans rfl⟩ (fun hHeld => ?_)
      clear hK K
      refine norm_ (a':=?_) ?_ ?_
      rotate_left
      ·show Act.put _ (some 7) _ = _
       simp only [Act.put,List.setIfInBounds_toArray,List.set_cons_zero,List.set_cons_succ,i64_w,i32_w]
       rfl
      exact norm_ (by simp only [putAll,Act.put,List.setIfInBounds_toArray,List.set_cons_zero,List.set_cons_succ]) (hCont (gb215,gb216) _ ⟨hHeld,(by (with_reducible repeat (first | refine blk_drewN ?_ _ | refine blk_drew ?_ | refine blk_alloc ?_ _)); exact BK209.out),(by (with_reducible repeat (first | refine blk_drewN ?_ _ | refine blk_drew ?_ | refine blk_alloc ?_ _)); exact BK215.out),(by (with_reducible repeat (first | refine blk_drewN ?_ _ | refine blk_drew ?_ | refine blk_alloc ?_ _)); exact BK216.out),GW215.out,GE215.out,NB209_215.out,NB215_209.out,NB216_215.out,NB215_216.out,GW216.out,GE216.out,NB209_216.out,NB216_209.out,(by repeat (first | (with_reducible first | exact HB.out | apply below_alloc | apply pw_below_drewN | apply below_drew1 | refine below_set ?_ GE209.out | refine below_set ?_ GE215.out | refine below_set ?_ GE216.out) | exact HB.out))⟩)
     skip
     refine box_step ?hg (N:=7) ?hd (cs:=#[.int .i64 0,.int .i64 0,.slice none 0 0,.slice none 0 0]) (t:=114) ?hr ?_; (case hd => rfl); (case hg => rfl); (case hr => first | (go_simp; done) | (go_simp; rfl))
     intro gb216 hg w54 hbox hb
     have n0_:=Aside0.mk (blk_below (g:=gb209) (o:=.cells #[.slice A0_0 l0_0.length c0_0,.bool a0_1,.int .i64 a0_2,.int .i64 a0_3,.int .i64 a0_4,.int .i64 a0_5,.int .i64 a0_6,.int .i64 a0_7] 55 (0,0)) (by (with_reducible repeat (first | refine blk_drewN ?_ _ | refine blk_drew ?_ | refine blk_alloc ?_ _)); exact BK209.out) hb)
     have n1_:=Aside0.mk (below_step (by repeat (first | (with_reducible first | exact HB.out | apply below_alloc | apply pw_below_drewN | apply below_drew1 | refine below_set ?_ GE209.out) | exact HB.out)) hb)
     have n2_:=Aside0.mk (hbox)
     have n3_:=Aside0.mk ((by rw [hg]; exact (below_size (by repeat (first | (with_reducible first | exact HB.out | apply below_alloc | apply pw_below_drewN | apply below_drew1 | refine below_set ?_ GE209.out) | exact HB.out))) : w.heap.size ≤ gb216))
     have n4_:=Aside0.mk ((by rw [hg]; exact (below_size (by repeat (first | (with_reducible first | exact HB.out | apply below_alloc | apply pw_below_drewN | apply below_drew1 | refine below_set ?_ GE209.out) | exact HB.out))) : w.heap.size ≤ gb216))
     have n5_:=Aside0.mk ((by rw [hg]; exact Nat.ne_of_lt (blk_lt (g:=gb209) (o:=.cells #[.slice A0_0 l0_0.length c0_0,.bool a0_1,.int .i64 a0_2,.int .i64 a0_3,.int .i64 a0_4,.int .i64 a0_5,.int .i64 a0_6,.int .i64 a0_7] 55 (0,0)) (by (with_reducible repeat (first | refine blk_drewN ?_ _ | refine blk_drew ?_ | refine blk_alloc ?_ _)); exact BK209.out)) : gb209 ≠ gb216))
     have n6_:=Aside0.mk ((by rw [hg]; exact Nat.ne_of_gt (blk_lt (g:=gb209) (o:=.cells #[.slice A0_0 l0_0.length c0_0,.bool a0_1,.int .i64 a0_2,.int .i64 a0_3,.int .i64 a0_4,.int .i64 a0_5,.int .i64 a0_6,.int .i64 a0_7] 55 (0,0)) (by (with_reducible repeat (first | refine blk_drewN ?_ _ | refine blk_drew ?_ | refine blk_alloc ?_ _)); exact BK209.out)) : gb216 ≠ gb209))
     clear BK209
     clear HB
     have BK209:=n0_
     have HB:=n1_
     have BK216:=n2_
     have GW216:=n3_
     have GE216:=n4_
     have NB209_216:=n5_
     have NB216_209:=n6_
     clear n0_ n1_ n2_ n3_ n4_ n5_ n6_
     clear hb hbox hg
     refine hK.out _ _ ⟨(blk_cell BK209.out 0).trans rfl,(blk_cell BK209.out 1).trans rfl,(blk_cell BK209.out 2).trans rfl,(blk_cell BK209.out 3).trans rfl,(blk_cell BK209.out 4).trans rfl,(blk_cell BK209.out 5).trans rfl,(blk_cell BK209.out 6).trans rfl,(blk_cell BK209.out 7).trans rfl⟩ (fun hHeld => ?_)
     clear hK K
     refine norm_ (a':=?_) ?_ ?_
     rotate_left
     ·show Act.put _ (some 7) _ = _
      simp only [Act.put,List.setIfInBounds_toArray,List.set_cons_zero,List.set_cons_succ,i64_w,i32_w]
      rfl
     refine one_ (i:=6) (N:=some 6) #[true,true,true,true,true,true,true,true,false,false] rfl rfl (one_of HT_.out (by kernel_rfl)) (by decide) (fun K hK => ?_)
     refine box_step ?hg (N:=6) ?hd (cs:=#[.int .i64 0,.int .i64 0,.slice none 0 0,.slice none 0 0]) (t:=114) ?hr ?_; (case hd => rfl); (case hg => rfl); (case hr => first | (go_simp; done) | (go_simp; rfl))
     intro gb215 hg w55 hbox hb
     have n0_:=Aside0.mk (blk_below (g:=gb209) (o:=.cells #[.slice A0_0 l0_0.length c0_0,.bool a0_1,.int .i64 a0_2,.int .i64 a0_3,.int .i64 a0_4,.int .i64 a0_5,.int .i64 a0_6,.int .i64 a0_7] 55 (0,0)) (by (with_reducible repeat (first | refine blk_drewN ?_ _ | refine blk_drew ?_ | refine blk_alloc ?_ _)); exact BK209.out) hb)
     have n1_:=Aside0.mk (blk_below (g:=gb216) (o:=.cells #[.int .i64 0,.int .i64 0,.slice none 0 0,.slice none 0 0] 114 (0,0)) (by (with_reducible repeat (first | refine blk_drewN ?_ _ | refine blk_drew ?_ | refine blk_alloc ?_ _)); exact BK216.out) hb)
     have n2_:=Aside0.mk (below_step (by repeat (first | (with_reducible first | exact HB.out | apply below_alloc | apply pw_below_drewN | apply below_drew1 | refine below_set ?_ GE209.out | refine below_set ?_ GE216.out) | exact HB.out)) hb)
     have n3_:=Aside0.mk (hbox)
     have n4_:=Aside0.mk ((by rw [hg]; exact (below_size (by repeat (first | (with_reducible first | exact HB.out | apply below_alloc | apply pw_below_drewN | apply below_drew1 | refine below_set ?_ GE209.out | refine below_set ?_ GE216.out) | exact HB.out))) : w.heap.size ≤ gb215))
     have n5_:=Aside0.mk ((by rw [hg]; exact (below_size (by repeat (first | (with_reducible first | exact HB.out | apply below_alloc | apply pw_below_drewN | apply below_drew1 | refine below_set ?_ GE209.out | refine below_set ?_ GE216.out) | exact HB.out))) : w.heap.size ≤ gb215))
     have n6_:=Aside0.mk ((by rw [hg]; exact Nat.ne_of_lt (blk_lt (g:=gb209) (o:=.cells #[.slice A0_0 l0_0.length c0_0,.bool a0_1,.int .i64 a0_2,.int .i64 a0_3,.int .i64 a0_4,.int .i64 a0_5,.int .i64 a0_6,.int .i64 a0_7] 55 (0,0)) (by (with_reducible repeat (first | refine blk_drewN ?_ _ | refine blk_drew ?_ | refine blk_alloc ?_ _)); exact BK209.out)) : gb209 ≠ gb215))
     have n7_:=Aside0.mk ((by rw [hg]; exact Nat.ne_of_gt (blk_lt (g:=gb209) (o:=.cells #[.slice A0_0 l0_0.length c0_0,.bool a0_1,.int .i64 a0_2,.int .i64 a0_3,.int .i64 a0_4,.int .i64 a0_5,.int .i64 a0_6,.int .i64 a0_7] 55 (0,0)) (by (with_reducible repeat (first | refine blk_drewN ?_ _ | refine blk_drew ?_ | refine blk_alloc ?_ _)); exact BK209.out)) : gb215 ≠ gb209))
     have n8_:=Aside0.mk ((by rw [hg]; exact Nat.ne_of_lt (blk_lt (g:=gb216) (o:=.cells #[.int .i64 0,.int .i64 0,.slice none 0 0,.slice none 0 0] 114 (0,0)) (by (with_reducible repeat (first | refine blk_drewN ?_ _ | refine blk_drew ?_ | refine blk_alloc ?_ _)); exact BK216.out)) : gb216 ≠ gb215))
     have n9_:=Aside0.mk ((by rw [hg]; exact Nat.ne_of_gt (blk_lt (g:=gb216) (o:=.cells #[.int .i64 0,.int .i64 0,.slice none 0 0,.slice none 0 0] 114 (0,0)) (by (with_reducible repeat (first | refine blk_drewN ?_ _ | refine blk_drew ?_ | refine blk_alloc ?_ _)); exact BK216.out)) : gb215 ≠ gb216))
     clear BK209
     clear BK216
     clear HB
     have BK209:=n0_
     have BK216:=n1_
     have HB:=n2_
     have BK215:=n3_
     have GW215:=n4_
     have GE215:=n5_
     have NB209_215:=n6_
     have NB215_209:=n7_
     have NB216_215:=n8_
     have NB215_216:=n9_
     clear n0_ n1_ n2_ n3_ n4_ n5_ n6_ n7_ n8_ n9_
     clear hb hbox hg
     refine hK.out _ _ ⟨(blk_cell BK209.out 0).trans rfl,(blk_cell BK209.out 1).trans rfl,(blk_cell BK209.out 2).trans rfl,(blk_cell BK209.out 3).trans rfl,(blk_cell BK209.out 4).trans rfl,(blk_cell BK209.out 5).trans rfl,(blk_cell BK209.out 6).trans rfl,(blk_cell BK209.out 7).trans rfl⟩ (fun hHeld => ?_)
     clear hK K
     refine norm_ (a':=?_) ?_ ?_
     rotate_left
     ·show Act.put _ (some 6) _ = _
      simp only [Act.put,List.setIfInBounds_toArray,List.set_cons_zero,List.set_cons_succ,i64_w,i32_w]
      rfl
     exact norm_ (by simp only [putAll,Act.put,List.setIfInBounds_toArray,List.set_cons_zero,List.set_cons_succ]) (hCont (gb215,gb216) _ ⟨hHeld,(by (with_reducible repeat (first | refine blk_drewN ?_ _ | refine blk_drew ?_ | refine blk_alloc ?_ _)); exact BK209.out),(by (with_reducible repeat (first | refine blk_drewN ?_ _ | refine blk_drew ?_ | refine blk_alloc ?_ _)); exact BK215.out),(by (with_reducible repeat (first | refine blk_drewN ?_ _ | refine blk_drew ?_ | refine blk_alloc ?_ _)); exact BK216.out),GW215.out,GE215.out,NB209_215.out,NB215_209.out,NB216_215.out,NB215_216.out,GW216.out,GE216.out,NB209_216.out,NB216_209.out,(by repeat (first | (with_reducible first | exact HB.out | apply below_alloc | apply pw_below_drewN | apply below_drew1 | refine below_set ?_ GE209.out | refine below_set ?_ GE216.out | refine below_set ?_ GE215.out) | exact HB.out))⟩)
    rintro ⟨gb215,gb216⟩ w56 ⟨hS_,h0_,h1_,h2_,h3_,h4_,h5_,h6_,h7_,h8_,h9_,h10_,h11_,h12_,h13_⟩
    have n0_ : Aside0 (w56.heap[gb209]? = some (.cells #[.slice A0_0 l0_0.length c0_0,.bool a0_1,.int .i64 a0_2,.int .i64 a0_3,.int .i64 a0_4,.int .i64 a0_5,.int .i64 a0_6,.int .i64 a0_7] 55 (0,0))):=⟨h0_⟩
    have n1_ : Aside0 (w56.heap[gb215]? = some (.cells #[.int .i64 0,.int .i64 0,.slice none 0 0,.slice none 0 0] 114 (0,0))):=⟨h1_⟩
    have n2_ : Aside0 (w56.heap[gb216]? = some (.cells #[.int .i64 0,.int .i64 0,.slice none 0 0,.slice none 0 0] 114 (0,0))):=⟨h2_⟩
    have n3_ : Aside0 (w.heap.size ≤ gb215):=⟨h3_⟩
    have n4_ : Aside0 (w.heap.size ≤ gb215):=⟨h4_⟩
    have n5_ : Aside0 (gb209 ≠ gb215):=⟨h5_⟩
    have n6_ : Aside0 (gb215 ≠ gb209):=⟨h6_⟩
    have n7_ : Aside0 (gb216 ≠ gb215):=⟨h7_⟩
    have n8_ : Aside0 (gb215 ≠ gb216):=⟨h8_⟩
    have n9_ : Aside0 (w.heap.size ≤ gb216):=⟨h9_⟩
    have n10_ : Aside0 (w.heap.size ≤ gb216):=⟨h10_⟩
    have n11_ : Aside0 (gb209 ≠ gb216):=⟨h11_⟩
    have n12_ : Aside0 (gb216 ≠ gb209):=⟨h12_⟩
    have n13_ : Aside0 (Below w.heap.size w w56):=⟨h13_⟩
    clear BK209
    clear HB
    clear h0_ h1_ h2_ h3_ h4_ h5_ h6_ h7_ h8_ h9_ h10_ h11_ h12_ h13_
    have BK209:=n0_
    have BK215:=n1_
    have BK216:=n2_
    have GW215:=n3_
    have GE215:=n4_
    have NB209_215:=n5_
    have NB215_209:=n6_
    have NB216_215:=n7_
    have NB215_216:=n8_
    have GW216:=n9_
    have GE216:=n10_
    have NB209_216:=n11_
    have NB216_209:=n12_
    have HB:=n13_
    clear n0_ n1_ n2_ n3_ n4_ n5_ n6_ n7_ n8_ n9_ n10_ n11_ n12_ n13_
    have hHeld : w56.cell? ⟨gb209,0,none⟩ = some (.slice A0_0 l0_0.length c0_0) ∧ w56.cell? ⟨gb209,1,none⟩ = some (.bool a0_1) ∧ w56.cell? ⟨gb209,2,none⟩ = some (.int .i64 a0_2) ∧ w56.cell? ⟨gb209,3,none⟩ = some (.int .i64 a0_3) ∧ w56.cell? ⟨gb209,4,none⟩ = some (.int .i64 a0_4) ∧ w56.cell? ⟨gb209,5,none⟩ = some (.int .i64 a0_5) ∧ w56.cell? ⟨gb209,6,none⟩ = some (.int .i64 a0_6) ∧ w56.cell? ⟨gb209,7,none⟩ = some (.int .i64 a0_7):=hS_
    refine norm_ (a':=?_) ?_ ?_
    rotate_left
    ·simp only [putAll,Act.put,List.setIfInBounds_toArray,List.set_cons_zero,List.set_cons_succ]
     rfl
    refine one_ (i:=8) (N:=none) #[true,true,true,true,true,true,true,true,true,false] rfl rfl (one_of HT_.out (by kernel_rfl)) (by decide) (fun K hK => ?_)
    have hs57 : w56.cell? ⟨gb215,0,none⟩ = some (.int .i64 0):=(blk_cell BK215.out 0).trans rfl
    have hfs57:=blk_frozen BK215.out 0
    have hns57_0:=NB209_215.out
    have hns57_2:=NB216_215.out
    have hms57_0:=NB215_209.out
    have hms57_2:=NB215_216.out
    have hs58 : w56.cell? ⟨gb215,1,none⟩ = some (.int .i64 0):=(blk_cell BK215.out 1).trans rfl
    have hfs58:=blk_frozen BK215.out 1
    have hns58_0:=NB209_215.out
    have hns58_2:=NB216_215.out
    have hms58_0:=NB215_209.out
    have hms58_2:=NB215_216.out
    have hs59 : w56.cell? ⟨gb215,2,none⟩ = some (.slice none 0 0):=(blk_cell BK215.out 2).trans rfl
    have hfs59:=blk_frozen BK215.out 2
    have hns59_0:=NB209_215.out
    have hns59_2:=NB216_215.out
    have hms59_0:=NB215_209.out
    have hms59_2:=NB215_216.out
    have hs60 : w56.cell? ⟨gb215,3,none⟩ = some (.slice none 0 0):=(blk_cell BK215.out 3).trans rfl
    have hfs60:=blk_frozen BK215.out 3
    have hns60_0:=NB209_215.out
    have hns60_2:=NB216_215.out
    have hms60_0:=NB215_209.out
    have hms60_2:=NB215_216.out
    refine skip_ (w1:=?_) (by rfl) rfl ?_ ?_
    rotate_left
    ·go_simp
     rfl
    refine hK.out _ _ ⟨((cell_far (p:=⟨gb215,_,none⟩) NB209_215.out _).trans (((cell_far (p:=⟨gb215,_,none⟩) NB209_215.out _).trans (((cell_far (p:=⟨gb215,_,none⟩) NB209_215.out _).trans (((cell_far (p:=⟨gb215,_,none⟩) NB209_215.out _).trans (hHeld.1)))))))),((cell_far (p:=⟨gb215,_,none⟩) NB209_215.out _).trans (((cell_far (p:=⟨gb215,_,none⟩) NB209_215.out _).trans (((cell_far (p:=⟨gb215,_,none⟩) NB209_215.out _).trans (((cell_far (p:=⟨gb215,_,none⟩) NB209_215.out _).trans (hHeld.2.1)))))))),((cell_far (p:=⟨gb215,_,none⟩) NB209_215.out _).trans (((cell_far (p:=⟨gb215,_,none⟩) NB209_215.out _).trans (((cell_far (p:=⟨gb215,_,none⟩) NB209_215.out _).trans (((cell_far (p:=⟨gb215,_,none⟩) NB209_215.out _).trans (hHeld.2.2.1)))))))),((cell_far (p:=⟨gb215,_,none⟩) NB209_215.out _).trans (((cell_far (p:=⟨gb215,_,none⟩) NB209_215.out _).trans (((cell_far (p:=⟨gb215,_,none⟩) NB209_215.out _).trans (((cell_far (p:=⟨gb215,_,none⟩) NB209_215.out _).trans (hHeld.2.2.2.1)))))))),((cell_far (p:=⟨gb215,_,none⟩) NB209_215.out _).trans (((cell_far (p:=⟨gb215,_,none⟩) NB209_215.out _).trans (((cell_far (p:=⟨gb215,_,none⟩) NB209_215.out _).trans (((cell_far (p:=⟨gb215,_,none⟩) NB209_215.out _).trans (hHeld.2.2.2.2.1)))))))),((cell_far (p:=⟨gb215,_,none⟩) NB209_215.out _).trans (((cell_far (p:=⟨gb215,_,none⟩) NB209_215.out _).trans (((cell_far (p:=⟨gb215,_,none⟩) NB209_215.out _).trans (((cell_far (p:=⟨gb215,_,none⟩) NB209_215.out _).trans (hHeld.2.2.2.2.2.1)))))))),((cell_far (p:=⟨gb215,_,none⟩) NB209_215.out _).trans (((cell_far (p:=⟨gb215,_,none⟩) NB209_215.out _).trans (((cell_far (p:=⟨gb215,_,none⟩) NB209_215.out _).trans (((cell_far (p:=⟨gb215,_,none⟩) NB209_215.out _).trans (hHeld.2.2.2.2.2.2.1)))))))),((cell_far (p:=⟨gb215,_,none⟩) NB209_215.out _).trans (((cell_far (p:=⟨gb215,_,none⟩) NB209_215.out _).trans (((cell_far (p:=⟨gb215,_,none⟩) NB209_215.out _).trans (((cell_far (p:=⟨gb215,_,none⟩) NB209_215.out _).trans (hHeld.2.2.2.2.2.2.2))))))))⟩ (fun hHeld => ?_)
    clear hK K
    refine one_ (i:=9) (N:=none) #[true,true,true,true,true,true,true,true,true,true] rfl rfl (one_of HT_.out (by kernel_rfl)) (by decide) (fun K hK => ?_)
    have hs61 : w56.cell? ⟨gb216,0,none⟩ = some (.int .i64 0):=(blk_cell BK216.out 0).trans rfl
    have hfs61:=blk_frozen BK216.out 0
    have hns61_0:=NB209_216.out
    have hns61_1:=NB215_216.out
    have hms61_0:=NB216_209.out
    have hms61_1:=NB216_215.out
    have hs62 : w56.cell? ⟨gb216,1,none⟩ = some (.int .i64 0):=(blk_cell BK216.out 1).trans rfl
    have hfs62:=blk_frozen BK216.out 1
    have hns62_0:=NB209_216.out
    have hns62_1:=NB215_216.out
    have hms62_0:=NB216_209.out
    have hms62_1:=NB216_215.out
    have hs63 : w56.cell? ⟨gb216,2,none⟩ = some (.slice none 0 0):=(blk_cell BK216.out 2).trans rfl
    have hfs63:=blk_frozen BK216.out 2
    have hns63_0:=NB209_216.out
    have hns63_1:=NB215_216.out
    have hms63_0:=NB216_209.out
    have hms63_1:=NB216_215.out
    have hs64 : w56.cell? ⟨gb216,3,none⟩ = some (.slice none 0 0):=(blk_cell BK216.out 3).trans rfl
    have hfs64:=blk_frozen BK216.out 3
    have hns64_0:=NB209_216.out
    have hns64_1:=NB215_216.out
    have hms64_0:=NB216_209.out
    have hms64_1:=NB216_215.out
    refine skip_ (w1:=?_) (by rfl) rfl ?_ ?_
    rotate_left
    ·go_simp
     rfl
    refine hK.out _ _ ⟨((cell_far (p:=⟨gb216,_,none⟩) NB209_216.out _).trans (((cell_far (p:=⟨gb216,_,none⟩) NB209_216.out _).trans (((cell_far (p:=⟨gb216,_,none⟩) NB209_216.out _).trans (((cell_far (p:=⟨gb216,_,none⟩) NB209_216.out _).trans (hHeld.1)))))))),((cell_far (p:=⟨gb216,_,none⟩) NB209_216.out _).trans (((cell_far (p:=⟨gb216,_,none⟩) NB209_216.out _).trans (((cell_far (p:=⟨gb216,_,none⟩) NB209_216.out _).trans (((cell_far (p:=⟨gb216,_,none⟩) NB209_216.out _).trans (hHeld.2.1)))))))),((cell_far (p:=⟨gb216,_,none⟩) NB209_216.out _).trans (((cell_far (p:=⟨gb216,_,none⟩) NB209_216.out _).trans (((cell_far (p:=⟨gb216,_,none⟩) NB209_216.out _).trans (((cell_far (p:=⟨gb216,_,none⟩) NB209_216.out _).trans (hHeld.2.2.1)))))))),((cell_far (p:=⟨gb216,_,none⟩) NB209_216.out _).trans (((cell_far (p:=⟨gb216,_,none⟩) NB209_216.out _).trans (((cell_far (p:=⟨gb216,_,none⟩) NB209_216.out _).trans (((cell_far (p:=⟨gb216,_,none⟩) NB209_216.out _).trans (hHeld.2.2.2.1)))))))),((cell_far (p:=⟨gb216,_,none⟩) NB209_216.out _).trans (((cell_far (p:=⟨gb216,_,none⟩) NB209_216.out _).trans (((cell_far (p:=⟨gb216,_,none⟩) NB209_216.out _).trans (((cell_far (p:=⟨gb216,_,none⟩) NB209_216.out _).trans (hHeld.2.2.2.2.1)))))))),((cell_far (p:=⟨gb216,_,none⟩) NB209_216.out _).trans (((cell_far (p:=⟨gb216,_,none⟩) NB209_216.out _).trans (((cell_far (p:=⟨gb216,_,none⟩) NB209_216.out _).trans (((cell_far (p:=⟨gb216,_,none⟩) NB209_216.out _).trans (hHeld.2.2.2.2.2.1)))))))),((cell_far (p:=⟨gb216,_,none⟩) NB209_216.out _).trans (((cell_far (p:=⟨gb216,_,none⟩) NB209_216.out _).trans (((cell_far (p:=⟨gb216,_,none⟩) NB209_216.out _).trans (((cell_far (p:=⟨gb216,_,none⟩) NB209_216.out _).trans (hHeld.2.2.2.2.2.2.1)))))))),((cell_far (p:=⟨gb216,_,none⟩) NB209_216.out _).trans (((cell_far (p:=⟨gb216,_,none⟩) NB209_216.out _).trans (((cell_far (p:=⟨gb216,_,none⟩) NB209_216.out _).trans (((cell_far (p:=⟨gb216,_,none⟩) NB209_216.out _).trans (hHeld.2.2.2.2.2.2.2))))))))⟩ (fun hHeld => ?_)
    clear hK K
    refine done_ (done_of HT_.out (by kernel_rfl)) ?_
    go_upto_region 16 with (fail)
    go_cut [2] (fun v2 wc => ∃ (kq : Nat) (x2_50 : Bool),v2 = .bool x2_50 ∧ Aside0 (clay_RightEntry.j4 kq x2_50 = some r) ∧ Aside0 (kq ≤ kj39) ∧ Aside0 (wc.heap[gb209]? = some (.cells #[(.slice A0_0 l0_0.length c0_0),.bool a0_1,.int .i64 a0_2,.int .i64 a0_3,.int .i64 a0_4,.int .i64 a0_5,.int .i64 a0_6,.int .i64 a0_7] 55 (0,0))) ∧ Aside0 (wc.heap[gb215]? = some (.cells #[.int .i64 a0_2,.int .i64 a0_3,(.slice none 0 0),(.slice none 0 0)] 114 (0,0))) ∧ Aside0 (wc.heap[gb216]? = some (.cells #[.int .i64 a0_4,.int .i64 a0_5,(.slice none 0 0),(.slice none 0 0)] 114 (0,0))) ∧ Aside0 (Below w.heap.size w wc))
    case first =>
     have H:=HC51.out
     clear HC51
     replace H:=Option.bind_eq_some_iff.mp H
     obtain ⟨t217,A650,H⟩:=H
     replace H : (if t217 = true then ((world_Right.f kj39 a0_4 a0_5 ([] : List (S26)) ([] : List (S28))).bind fun t218 => (if t218 = true then (if (l0_0.length : Int) > 0 then (clay_RightEntry.j4 kj39 true) else (if a0_1 = true then (clay_RightEntry.j4 kj39 true) else (clay_RightEntry.j4 kj39 (a0_6 != a0_7)))) else (clay_RightEntry.j4 kj39 false))) else (clay_RightEntry.j4 kj39 false)) = some r:=H
     have A65:=Aside0.mk A650
     clear A650
     by_cases c66 : t217 = true
     ·subst c66
      have H1 : ((world_Right.f kj39 a0_4 a0_5 ([] : List (S26)) ([] : List (S28))).bind fun t218 => (if t218 = true then (if (l0_0.length : Int) > 0 then (clay_RightEntry.j4 kj39 true) else (if a0_1 = true then (clay_RightEntry.j4 kj39 true) else (clay_RightEntry.j4 kj39 (a0_6 != a0_7)))) else (clay_RightEntry.j4 kj39 false))) = some r:=by rw [if_pos rfl] at H; exact H
      clear H
      have H:=H1
      clear H1
      replace H:=Option.bind_eq_some_iff.mp H
      obtain ⟨t218,A670,H⟩:=H
      replace H : (if t218 = true then (if (l0_0.length : Int) > 0 then (clay_RightEntry.j4 kj39 true) else (if a0_1 = true then (clay_RightEntry.j4 kj39 true) else (clay_RightEntry.j4 kj39 (a0_6 != a0_7)))) else (clay_RightEntry.j4 kj39 false)) = some r:=H
      have A67:=Aside0.mk A670
      clear A670
      by_cases c68 : t218 = true
      ·subst c68
       have H1 : (if (l0_0.length : Int) > 0 then (clay_RightEntry.j4 kj39 true) else (if a0_1 = true then (clay_RightEntry.j4 kj39 true) else (clay_RightEntry.j4 kj39 (a0_6 != a0_7)))) = some r:=by rw [if_pos rfl] at H; exact H
       clear H
       have H:=H1
       clear H1
       by_cases c69 : (l0_0.length : Int) > 0
       ·rw [if_pos c69] at H
        have c69b0 : decide (0 < (l0_0.length : Int)) = true:=decide_eq_true c69
        have c69b1 : decide (0 < l0_0.length) = true:=decide_eq_true (by omega)
        clear c69
        (first | rw [c69b0] | (simp only [i64_w,i32_w]; rw [c69b0]) | skip)
        have H':=Aside0.mk H
        clear H
        have hnb70:=NB215_209.out
        have hnc70:=NB209_215.out
        have hnb71:=NB215_216.out
        have hnc71:=NB216_215.out
        have hcz72_0 : w56.cell? ⟨gb215,0,none⟩ = some (.int .i64 0):=(blk_cell BK215.out 0).trans rfl
        have hcz72_1 : w56.cell? ⟨gb215,1,none⟩ = some (.int .i64 0):=(blk_cell BK215.out 1).trans rfl
        have hcz72_2 : w56.cell? ⟨gb215,2,none⟩ = some (.slice none 0 0):=(blk_cell BK215.out 2).trans rfl
        have hcz72_3 : w56.cell? ⟨gb215,3,none⟩ = some (.slice none 0 0):=(blk_cell BK215.out 3).trans rfl
        have hfz72_0:=blk_frozen BK215.out 0
        have hfz72_1:=blk_frozen BK215.out 1
        have hfz72_2:=blk_frozen BK215.out 2
        have hfz72_3:=blk_frozen BK215.out 3
        go_wp2_with (first | ((with_reducible refine gate_callee (f:=84) rfl ?_); refine goesL_ (some 96) rfl rfl Try.func84 (by kernel_rfl) rfl #[.agg #[.int .i64 a0_2,.int .i64 a0_3,.slice none 0 0,.slice none 0 0]] rfl (by (try simp only [List.map_toArray,List.map_cons,List.map_nil]); first | done | rfl | (simp only [List.length_drop,List.length_take]; rfl) | (simp only [ByteArray.size_append,Int.natCast_add]; rfl) | (simp [ByteArray.size_append,Int.add_assoc]; done)) ?_; (refine (world_Right.calls kj39 a0_2 a0_3 _ _ ([] : List (S26)) _ _ ([] : List (S28)) true _ ?side1 ?side2 ?side3 ?side4 A65.out).mono ?_); (case side1 => exact Kd.C_nil _ _); (case side2 => exact Nat.le_refl _); (case side3 => exact Kd.C_nil _ _); (case side4 => exact Nat.le_refl _); rintro e w73 ⟨rfl,hb⟩; refine ⟨_,rfl,?_⟩; have n0_:=Aside0.mk (blk_below (g:=gb209) (o:=.cells #[.slice A0_0 l0_0.length c0_0,.bool a0_1,.int .i64 a0_2,.int .i64 a0_3,.int .i64 a0_4,.int .i64 a0_5,.int .i64 a0_6,.int .i64 a0_7] 55 (0,0)) (by (with_reducible repeat (first | refine blk_drewN ?_ _ | refine blk_drew ?_ | refine blk_alloc ?_ _)); refine blk_far ?_ NB209_216.out _; (with_reducible repeat (first | refine blk_drewN ?_ _ | refine blk_drew ?_ | refine blk_alloc ?_ _)); refine blk_far ?_ NB209_216.out _; (with_reducible repeat (first | refine blk_drewN ?_ _ | refine blk_drew ?_ | refine blk_alloc ?_ _)); refine blk_far ?_ NB209_216.out _; (with_reducible repeat (first | refine blk_drewN ?_ _ | refine blk_drew ?_ | refine blk_alloc ?_ _)); refine blk_far ?_ NB209_216.out _; (with_reducible repeat (first | refine blk_drewN ?_ _ | refine blk_drew ?_ | refine blk_alloc ?_ _)); refine blk_far ?_ NB209_215.out _; (with_reducible repeat (first | refine blk_drewN ?_ _ | refine blk_drew ?_ | refine blk_alloc ?_ _)); refine blk_far ?_ NB209_215.out _; (with_reducible repeat (first | refine blk_drewN ?_ _ | refine blk_drew ?_ | refine blk_alloc ?_ _)); refine blk_far ?_ NB209_215.out _; (with_reducible repeat (first | refine blk_drewN ?_ _ | refine blk_drew ?_ | refine blk_alloc ?_ _)); refine blk_far ?_ NB209_215.out _; (with_reducible repeat (first | refine blk_drewN ?_ _ | refine blk_drew ?_ | refine blk_alloc ?_ _)); exact BK209.out) hb); have n1_:=Aside0.mk (blk_below (g:=gb215) (o:=.cells #[.int .i64 a0_2,.int .i64 a0_3,.slice none 0 0,.slice none 0 0] 114 (0,0)) (by (with_reducible repeat (first | refine blk_drewN ?_ _ | refine blk_drew ?_ | refine blk_alloc ?_ _)); refine blk_far ?_ NB215_216.out _; (with_reducible repeat (first | refine blk_drewN ?_ _ | refine blk_drew ?_ | refine blk_alloc ?_ _)); refine blk_far ?_ NB215_216.out _; (with_reducible repeat (first | refine blk_drewN ?_ _ | refine blk_drew ?_ | refine blk_alloc ?_ _)); refine blk_far ?_ NB215_216.out _; (with_reducible repeat (first | refine blk_drewN ?_ _ | refine blk_drew ?_ | refine blk_alloc ?_ _)); refine blk_far ?_ NB215_216.out _; (with_reducible repeat (first | refine blk_drewN ?_ _ | refine blk_drew ?_ | refine blk_alloc ?_ _)); refine blk_put (cs:=#[.int .i64 a0_2,.int .i64 a0_3,.slice none 0 0,.slice none 0 0]) ?_ 3 _ rfl; (with_reducible repeat (first | refine blk_drewN ?_ _ | refine blk_drew ?_ | refine blk_alloc ?_ _)); refine blk_put (cs:=#[.int .i64 a0_2,.int .i64 a0_3,.slice none 0 0,.slice none 0 0]) ?_ 2 _ rfl; (with_reducible repeat (first | refine blk_drewN ?_ _ | refine blk_drew ?_ | refine blk_alloc ?_ _)); refine blk_put (cs:=#[.int .i64 a0_2,.int .i64 0,.slice none 0 0,.slice none 0 0]) ?_ 1 _ rfl; (with_reducible repeat (first | refine blk_drewN ?_ _ | refine blk_drew ?_ | refine blk_alloc ?_ _)); refine blk_put (cs:=#[.int .i64 0,.int .i64 0,.slice none 0 0,.slice none 0 0]) ?_ 0 _ rfl; (with_reducible repeat (first | refine blk_drewN ?_ _ | refine blk_drew ?_ | refine blk_alloc ?_ _)); exact BK215.out) hb); have n2_:=Aside0.mk (blk_below (g:=gb216) (o:=.cells #[.int .i64 a0_4,.int .i64 a0_5,.slice none 0 0,.slice none 0 0] 114 (0,0)) (by (with_reducible repeat (first | refine blk_drewN ?_ _ | refine blk_drew ?_ | refine blk_alloc ?_ _)); refine blk_put (cs:=#[.int .i64 a0_4,.int .i64 a0_5,.slice none 0 0,.slice none 0 0]) ?_ 3 _ rfl; (with_reducible repeat (first | refine blk_drewN ?_ _ | refine blk_drew ?_ | refine blk_alloc ?_ _)); refine blk_put (cs:=#[.int .i64 a0_4,.int .i64 a0_5,.slice none 0 0,.slice none 0 0]) ?_ 2 _ rfl; (with_reducible repeat (first | refine blk_drewN ?_ _ | refine blk_drew ?_ | refine blk_alloc ?_ _)); refine blk_put (cs:=#[.int .i64 a0_4,.int .i64 0,.slice none 0 0,.slice none 0 0]) ?_ 1 _ rfl; (with_reducible repeat (first | refine blk_drewN ?_ _ | refine blk_drew ?_ | refine blk_alloc ?_ _)); refine blk_put (cs:=#[.int .i64 0,.int .i64 0,.slice none 0 0,.slice none 0 0]) ?_ 0 _ rfl; (with_reducible repeat (first | refine blk_drewN ?_ _ | refine blk_drew ?_ | refine blk_alloc ?_ _)); refine blk_far ?_ NB216_215.out _; (with_reducible repeat (first | refine blk_drewN ?_ _ | refine blk_drew ?_ | refine blk_alloc ?_ _)); refine blk_far ?_ NB216_215.out _; (with_reducible repeat (first | refine blk_drewN ?_ _ | refine blk_drew ?_ | refine blk_alloc ?_ _)); refine blk_far ?_ NB216_215.out _; (with_reducible repeat (first | refine blk_drewN ?_ _ | refine blk_drew ?_ | refine blk_alloc ?_ _)); refine blk_far ?_ NB216_215.out _; (with_reducible repeat (first | refine blk_drewN ?_ _ | refine blk_drew ?_ | refine blk_alloc ?_ _)); exact BK216.out) hb); have n3_:=Aside0.mk (below_step (by repeat (first | (with_reducible first | exact HB.out | apply below_alloc | apply pw_below_drewN | apply below_drew1 | refine below_set ?_ GE209.out | refine below_set ?_ GE215.out | refine below_set ?_ GE216.out) | exact HB.out)) hb); clear BK209; clear BK215; clear BK216; clear HB; have BK209:=n0_; have BK215:=n1_; have BK216:=n2_; have HB:=n3_; clear n0_ n1_ n2_ n3_; (try clear hb); (try clear hb2); (try clear hk); (try clear hi); have hnb74:=NB216_209.out; have hnc74:=NB209_216.out; have hcz75_0 : w73.cell? ⟨gb216,0,none⟩ = some (.int .i64 a0_4):=(blk_cell BK216.out 0).trans rfl; have hcz75_1 : w73.cell? ⟨gb216,1,none⟩ = some (.int .i64 a0_5):=(blk_cell BK216.out 1).trans rfl; have hcz75_2 : w73.cell? ⟨gb216,2,none⟩ = some (.slice none 0 0):=(blk_cell BK216.out 2).trans rfl; have hcz75_3 : w73.cell? ⟨gb216,3,none⟩ = some (.slice none 0 0):=(blk_cell BK216.out 3).trans rfl; have hfz75_0:=blk_frozen BK216.out 0; have hfz75_1:=blk_frozen BK216.out 1; have hfz75_2:=blk_frozen BK216.out 2; have hfz75_3:=blk_frozen BK216.out 3) | (go_at_call 84; (refine (world_Right.calls kj39 a0_4 a0_5 _ _ ([] : List (S26)) _ _ ([] : List (S28)) true _ ?side1 ?side2 ?side3 ?side4 A67.out).mono ?_); (case side1 => exact Kd.C_nil _ _); (case side2 => exact Nat.le_refl _); (case side3 => exact Kd.C_nil _ _); (case side4 => exact Nat.le_refl _); rintro e w76 ⟨rfl,hb⟩; have n0_:=Aside0.mk (blk_below (g:=gb209) (o:=.cells #[.slice A0_0 l0_0.length c0_0,.bool a0_1,.int .i64 a0_2,.int .i64 a0_3,.int .i64 a0_4,.int .i64 a0_5,.int .i64 a0_6,.int .i64 a0_7] 55 (0,0)) (by (with_reducible repeat (first | refine blk_drewN ?_ _ | refine blk_drew ?_ | refine blk_alloc ?_ _)); exact BK209.out) hb); have n1_:=Aside0.mk (blk_below (g:=gb215) (o:=.cells #[.int .i64 a0_2,.int .i64 a0_3,.slice none 0 0,.slice none 0 0] 114 (0,0)) (by (with_reducible repeat (first | refine blk_drewN ?_ _ | refine blk_drew ?_ | refine blk_alloc ?_ _)); exact BK215.out) hb); have n2_:=Aside0.mk (blk_below (g:=gb216) (o:=.cells #[.int .i64 a0_4,.int .i64 a0_5,.slice none 0 0,.slice none 0 0] 114 (0,0)) (by (with_reducible repeat (first | refine blk_drewN ?_ _ | refine blk_drew ?_ | refine blk_alloc ?_ _)); exact BK216.out) hb); have n3_:=Aside0.mk (below_step (by repeat (first | (with_reducible first | exact HB.out | apply below_alloc | apply pw_below_drewN | apply below_drew1 | refine below_set ?_ GE209.out | refine below_set ?_ GE215.out | refine below_set ?_ GE216.out) | exact HB.out)) hb); clear BK209; clear BK215; clear BK216; clear HB; have BK209:=n0_; have BK215:=n1_; have BK216:=n2_; have HB:=n3_; clear n0_ n1_ n2_ n3_; (try clear hb); (try clear hb2); (try clear hk); (try clear hi); obtain ⟨hcz77_0,hcz77_1,hcz77_2,hcz77_3,hcz77_4,hcz77_5,hcz77_6,hcz77_7⟩:=cl8 BK209.out; obtain ⟨hfz77_0,hfz77_1,hfz77_2,hfz77_3,hfz77_4,hfz77_5,hfz77_6,hfz77_7⟩:=fz8 BK209.out))
        go_meet
        case rel => exact ⟨_,(true),(by first | rfl | (simp; done) | (simp [*]; done)),H',⟨by have:=HK1.out; have:=HJ34.out; have:=HJ39.out; first | omega | exact Nat.le_refl _⟩,⟨by (with_reducible repeat (first | refine blk_drewN ?_ _ | refine blk_drew ?_ | refine blk_alloc ?_ _)); exact BK209.out⟩,⟨by (with_reducible repeat (first | refine blk_drewN ?_ _ | refine blk_drew ?_ | refine blk_alloc ?_ _)); exact BK215.out⟩,⟨by (with_reducible repeat (first | refine blk_drewN ?_ _ | refine blk_drew ?_ | refine blk_alloc ?_ _)); exact BK216.out⟩,⟨by repeat (first | (with_reducible first | exact HB.out | apply below_alloc | apply pw_below_drewN | apply below_drew1 | refine below_set ?_ GE209.out | refine below_set ?_ GE215.out | refine below_set ?_ GE216.out) | exact HB.out)⟩⟩
       rw [if_neg c69] at H
       have c69b0 : decide (0 < (l0_0.length : Int)) = false:=decide_eq_false c69
       have c69b1 : decide (0 < l0_0.length) = false:=decide_eq_false (by omega)
       clear c69
       (first | rw [c69b0] | (simp only [i64_w,i32_w]; rw [c69b0]) | skip)
       by_cases c78 : a0_1 = true
       ·subst c78
        have H1 : (clay_RightEntry.j4 kj39 true) = some r:=by rw [if_pos rfl] at H; exact H
        clear H
        have H:=H1
        clear H1
        have H':=Aside0.mk H
        clear H
        have hnb79:=NB215_209.out
        have hnc79:=NB209_215.out
        have hnb80:=NB215_216.out
        have hnc80:=NB216_215.out
        have hcz81_0 : w56.cell? ⟨gb215,0,none⟩ = some (.int .i64 0):=(blk_cell BK215.out 0).trans rfl
        have hcz81_1 : w56.cell? ⟨gb215,1,none⟩ = some (.int .i64 0):=(blk_cell BK215.out 1).trans rfl
        have hcz81_2 : w56.cell? ⟨gb215,2,none⟩ = some (.slice none 0 0):=(blk_cell BK215.out 2).trans rfl
        have hcz81_3 : w56.cell? ⟨gb215,3,none⟩ = some (.slice none 0 0):=(blk_cell BK215.out 3).trans rfl
        have hfz81_0:=blk_frozen BK215.out 0
        have hfz81_1:=blk_frozen BK215.out 1
        have hfz81_2:=blk_frozen BK215.out 2
        have hfz81_3:=blk_frozen BK215.out 3
        go_wp2_with (first | ((with_reducible refine gate_callee (f:=84) rfl ?_); refine goesL_ (some 96) rfl rfl Try.func84 (by kernel_rfl) rfl #[.agg #[.int .i64 a0_2,.int .i64 a0_3,.slice none 0 0,.slice none 0 0]] rfl (by (try simp only [List.map_toArray,List.map_cons,List.map_nil]); first | done | rfl | (simp only [List.length_drop,List.length_take]; rfl) | (simp only [ByteArray.size_append,Int.natCast_add]; rfl) | (simp [ByteArray.size_append,Int.add_assoc]; done)) ?_; (refine (world_Right.calls kj39 a0_2 a0_3 _ _ ([] : List (S26)) _ _ ([] : List (S28)) true _ ?side1 ?side2 ?side3 ?side4 A65.out).mono ?_); (case side1 => exact Kd.C_nil _ _); (case side2 => exact Nat.le_refl _); (case side3 => exact Kd.C_nil _ _); (case side4 => exact Nat.le_refl _); rintro e w82 ⟨rfl,hb⟩; refine ⟨_,rfl,?_⟩; have n0_:=Aside0.mk (blk_below (g:=gb209) (o:=.cells #[.slice A0_0 l0_0.length c0_0,.bool true,.int .i64 a0_2,.int .i64 a0_3,.int .i64 a0_4,.int .i64 a0_5,.int .i64 a0_6,.int .i64 a0_7] 55 (0,0)) (by (with_reducible repeat (first | refine blk_drewN ?_ _ | refine blk_drew ?_ | refine blk_alloc ?_ _)); refine blk_far ?_ NB209_216.out _; (with_reducible repeat (first | refine blk_drewN ?_ _ | refine blk_drew ?_ | refine blk_alloc ?_ _)); refine blk_far ?_ NB209_216.out _; (with_reducible repeat (first | refine blk_drewN ?_ _ | refine blk_drew ?_ | refine blk_alloc ?_ _)); refine blk_far ?_ NB209_216.out _; (with_reducible repeat (first | refine blk_drewN ?_ _ | refine blk_drew ?_ | refine blk_alloc ?_ _)); refine blk_far ?_ NB209_216.out _; (with_reducible repeat (first | refine blk_drewN ?_ _ | refine blk_drew ?_ | refine blk_alloc ?_ _)); refine blk_far ?_ NB209_215.out _; (with_reducible repeat (first | refine blk_drewN ?_ _ | refine blk_drew ?_ | refine blk_alloc ?_ _)); refine blk_far ?_ NB209_215.out _; (with_reducible repeat (first | refine blk_drewN ?_ _ | refine blk_drew ?_ | refine blk_alloc ?_ _)); refine blk_far ?_ NB209_215.out _; (with_reducible repeat (first | refine blk_drewN ?_ _ | refine blk_drew ?_ | refine blk_alloc ?_ _)); refine blk_far ?_ NB209_215.out _; (with_reducible repeat (first | refine blk_drewN ?_ _ | refine blk_drew ?_ | refine blk_alloc ?_ _)); exact BK209.out) hb); have n1_:=Aside0.mk (blk_below (g:=gb215) (o:=.cells #[.int .i64 a0_2,.int .i64 a0_3,.slice none 0 0,.slice none 0 0] 114 (0,0)) (by (with_reducible repeat (first | refine blk_drewN ?_ _ | refine blk_drew ?_ | refine blk_alloc ?_ _)); refine blk_far ?_ NB215_216.out _; (with_reducible repeat (first | refine blk_drewN ?_ _ | refine blk_drew ?_ | refine blk_alloc ?_ _)); refine blk_far ?_ NB215_216.out _; (with_reducible repeat (first | refine blk_drewN ?_ _ | refine blk_drew ?_ | refine blk_alloc ?_ _)); refine blk_far ?_ NB215_216.out _; (with_reducible repeat (first | refine blk_drewN ?_ _ | refine blk_drew ?_ | refine blk_alloc ?_ _)); refine blk_far ?_ NB215_216.out _; (with_reducible repeat (first | refine blk_drewN ?_ _ | refine blk_drew ?_ | refine blk_alloc ?_ _)); refine blk_put (cs:=#[.int .i64 a0_2,.int .i64 a0_3,.slice none 0 0,.slice none 0 0]) ?_ 3 _ rfl; (with_reducible repeat (first | refine blk_drewN ?_ _ | refine blk_drew ?_ | refine blk_alloc ?_ _)); refine blk_put (cs:=#[.int .i64 a0_2,.int .i64 a0_3,.slice none 0 0,.slice none 0 0]) ?_ 2 _ rfl; (with_reducible repeat (first | refine blk_drewN ?_ _ | refine blk_drew ?_ | refine blk_alloc ?_ _)); refine blk_put (cs:=#[.int .i64 a0_2,.int .i64 0,.slice none 0 0,.slice none 0 0]) ?_ 1 _ rfl; (with_reducible repeat (first | refine blk_drewN ?_ _ | refine blk_drew ?_ | refine blk_alloc ?_ _)); refine blk_put (cs:=#[.int .i64 0,.int .i64 0,.slice none 0 0,.slice none 0 0]) ?_ 0 _ rfl; (with_reducible repeat (first | refine blk_drewN ?_ _ | refine blk_drew ?_ | refine blk_alloc ?_ _)); exact BK215.out) hb); have n2_:=Aside0.mk (blk_below (g:=gb216) (o:=.cells #[.int .i64 a0_4,.int .i64 a0_5,.slice none 0 0,.slice none 0 0] 114 (0,0)) (by (with_reducible repeat (first | refine blk_drewN ?_ _ | refine blk_drew ?_ | refine blk_alloc ?_ _)); refine blk_put (cs:=#[.int .i64 a0_4,.int .i64 a0_5,.slice none 0 0,.slice none 0 0]) ?_ 3 _ rfl; (with_reducible repeat (first | refine blk_drewN ?_ _ | refine blk_drew ?_ | refine blk_alloc ?_ _)); refine blk_put (cs:=#[.int .i64 a0_4,.int .i64 a0_5,.slice none 0 0,.slice none 0 0]) ?_ 2 _ rfl; (with_reducible repeat (first | refine blk_drewN ?_ _ | refine blk_drew ?_ | refine blk_alloc ?_ _)); refine blk_put (cs:=#[.int .i64 a0_4,.int .i64 0,.slice none 0 0,.slice none 0 0]) ?_ 1 _ rfl; (with_reducible repeat (first | refine blk_drewN ?_ _ | refine blk_drew ?_ | refine blk_alloc ?_ _)); refine blk_put (cs:=#[.int .i64 0,.int .i64 0,.slice none 0 0,.slice none 0 0]) ?_ 0 _ rfl; (with_reducible repeat (first | refine blk_drewN ?_ _ | refine blk_drew ?_ | refine blk_alloc ?_ _)); refine blk_far ?_ NB216_215.out _; (with_reducible repeat (first | refine blk_drewN ?_ _ | refine blk_drew ?_ | refine blk_alloc ?_ _)); refine blk_far ?_ NB216_215.out _; (with_reducible repeat (first | refine blk_drewN ?_ _ | refine blk_drew ?_ | refine blk_alloc ?_ _)); refine blk_far ?_ NB216_215.out _; (with_reducible repeat (first | refine blk_drewN ?_ _ | refine blk_drew ?_ | refine blk_alloc ?_ _)); refine blk_far ?_ NB216_215.out _; (with_reducible repeat (first | refine blk_drewN ?_ _ | refine blk_drew ?_ | refine blk_alloc ?_ _)); exact BK216.out) hb); have n3_:=Aside0.mk (below_step (by repeat (first | (with_reducible first | exact HB.out | apply below_alloc | apply pw_below_drewN | apply below_drew1 | refine below_set ?_ GE209.out | refine below_set ?_ GE215.out | refine below_set ?_ GE216.out) | exact HB.out)) hb); clear BK209; clear BK215; clear BK216; clear HB; have BK209:=n0_; have BK215:=n1_; have BK216:=n2_; have HB:=n3_; clear n0_ n1_ n2_ n3_; (try clear hb); (try clear hb2); (try clear hk); (try clear hi); have hnb83:=NB216_209.out; have hnc83:=NB209_216.out; have hcz84_0 : w82.cell? ⟨gb216,0,none⟩ = some (.int .i64 a0_4):=(blk_cell BK216.out 0).trans rfl; have hcz84_1 : w82.cell? ⟨gb216,1,none⟩ = some (.int .i64 a0_5):=(blk_cell BK216.out 1).trans rfl; have hcz84_2 : w82.cell? ⟨gb216,2,none⟩ = some (.slice none 0 0):=(blk_cell BK216.out 2).trans rfl; have hcz84_3 : w82.cell? ⟨gb216,3,none⟩ = some (.slice none 0 0):=(blk_cell BK216.out 3).trans rfl; have hfz84_0:=blk_frozen BK216.out 0; have hfz84_1:=blk_frozen BK216.out 1; have hfz84_2:=blk_frozen BK216.out 2; have hfz84_3:=blk_frozen BK216.out 3) | (go_at_call 84; (refine (world_Right.calls kj39 a0_4 a0_5 _ _ ([] : List (S26)) _ _ ([] : List (S28)) true _ ?side1 ?side2 ?side3 ?side4 A67.out).mono ?_); (case side1 => exact Kd.C_nil _ _); (case side2 => exact Nat.le_refl _); (case side3 => exact Kd.C_nil _ _); (case side4 => exact Nat.le_refl _); rintro e w85 ⟨rfl,hb⟩; have n0_:=Aside0.mk (blk_below (g:=gb209) (o:=.cells #[.slice A0_0 l0_0.length c0_0,.bool true,.int .i64 a0_2,.int .i64 a0_3,.int .i64 a0_4,.int .i64 a0_5,.int .i64 a0_6,.int .i64 a0_7] 55 (0,0)) (by (with_reducible repeat (first | refine blk_drewN ?_ _ | refine blk_drew ?_ | refine blk_alloc ?_ _)); exact BK209.out) hb); have n1_:=Aside0.mk (blk_below (g:=gb215) (o:=.cells #[.int .i64 a0_2,.int .i64 a0_3,.slice none 0 0,.slice none 0 0] 114 (0,0)) (by (with_reducible repeat (first | refine blk_drewN ?_ _ | refine blk_drew ?_ | refine blk_alloc ?_ _)); exact BK215.out) hb); have n2_:=Aside0.mk (blk_below (g:=gb216) (o:=.cells #[.int .i64 a0_4,.int .i64 a0_5,.slice none 0 0,.slice none 0 0] 114 (0,0)) (by (with_reducible repeat (first | refine blk_drewN ?_ _ | refine blk_drew ?_ | refine blk_alloc ?_ _)); exact BK216.out) hb); have n3_:=Aside0.mk (below_step (by repeat (first | (with_reducible first | exact HB.out | apply below_alloc | apply pw_below_drewN | apply below_drew1 | refine below_set ?_ GE209.out | refine below_set ?_ GE215.out | refine below_set ?_ GE216.out) | exact HB.out)) hb); clear BK209; clear BK215; clear BK216; clear HB; have BK209:=n0_; have BK215:=n1_; have BK216:=n2_; have HB:=n3_; clear n0_ n1_ n2_ n3_; (try clear hb); (try clear hb2); (try clear hk); (try clear hi); obtain ⟨hcz86_0,hcz86_1,hcz86_2,hcz86_3,hcz86_4,hcz86_5,hcz86_6,hcz86_7⟩:=cl8 BK209.out; obtain ⟨hfz86_0,hfz86_1,hfz86_2,hfz86_3,hfz86_4,hfz86_5,hfz86_6,hfz86_7⟩:=fz8 BK209.out))
        go_meet
        case rel => exact ⟨_,(true),(by first | rfl | (simp; done) | (simp [*]; done)),H',⟨by have:=HK1.out; have:=HJ34.out; have:=HJ39.out; first | omega | exact Nat.le_refl _⟩,⟨by (with_reducible repeat (first | refine blk_drewN ?_ _ | refine blk_drew ?_ | refine blk_alloc ?_ _)); exact BK209.out⟩,⟨by (with_reducible repeat (first | refine blk_drewN ?_ _ | refine blk_drew ?_ | refine blk_alloc ?_ _)); exact BK215.out⟩,⟨by (with_reducible repeat (first | refine blk_drewN ?_ _ | refine blk_drew ?_ | refine blk_alloc ?_ _)); exact BK216.out⟩,⟨by repeat (first | (with_reducible first | exact HB.out | apply below_alloc | apply pw_below_drewN | apply below_drew1 | refine below_set ?_ GE209.out | refine below_set ?_ GE215.out | refine below_set ?_ GE216.out) | exact HB.out)⟩⟩
       replace c78:=Bool.eq_false_iff.mpr c78
       subst c78
       have H1 : (clay_RightEntry.j4 kj39 (a0_6 != a0_7)) = some r:=by rw [if_neg (show ¬ (false = true) by decide)] at H; exact H
       clear H
       have H:=H1
       clear H1
       have H':=Aside0.mk H
       clear H
       have hnb87:=NB215_209.out
       have hnc87:=NB209_215.out
       have hnb88:=NB215_216.out
       have hnc88:=NB216_215.out
       have hcz89_0 : w56.cell? ⟨gb215,0,none⟩ = some (.int .i64 0):=(blk_cell BK215.out 0).trans rfl
       have hcz89_1 : w56.cell? ⟨gb215,1,none⟩ = some (.int .i64 0):=(blk_cell BK215.out 1).trans rfl
       have hcz89_2 : w56.cell? ⟨gb215,2,none⟩ = some (.slice none 0 0):=(blk_cell BK215.out 2).trans rfl
       have hcz89_3 : w56.cell? ⟨gb215,3,none⟩ = some (.slice none 0 0):=(blk_cell BK215.out 3).trans rfl
       have hfz89_0:=blk_frozen BK215.out 0
       have hfz89_1:=blk_frozen BK215.out 1
       have hfz89_2:=blk_frozen BK215.out 2
       have hfz89_3:=blk_frozen BK215.out 3
       go_wp2_with (first | ((with_reducible refine gate_callee (f:=84) rfl ?_); refine goesL_ (some 96) rfl rfl Try.func84 (by kernel_rfl) rfl #[.agg #[.int .i64 a0_2,.int .i64 a0_3,.slice none 0 0,.slice none 0 0]] rfl (by (try simp only [List.map_toArray,List.map_cons,List.map_nil]); first | done | rfl | (simp only [List.length_drop,List.length_take]; rfl) | (simp only [ByteArray.size_append,Int.natCast_add]; rfl) | (simp [ByteArray.size_append,Int.add_assoc]; done)) ?_; (refine (world_Right.calls kj39 a0_2 a0_3 _ _ ([] : List (S26)) _ _ ([] : List (S28)) true _ ?side1 ?side2 ?side3 ?side4 A65.out).mono ?_); (case side1 => exact Kd.C_nil _ _); (case side2 => exact Nat.le_refl _); (case side3 => exact Kd.C_nil _ _); (case side4 => exact Nat.le_refl _); rintro e w90 ⟨rfl,hb⟩; refine ⟨_,rfl,?_⟩; have n0_:=Aside0.mk (blk_below (g:=gb209) (o:=.cells #[.slice A0_0 l0_0.length c0_0,.bool false,.int .i64 a0_2,.int .i64 a0_3,.int .i64 a0_4,.int .i64 a0_5,.int .i64 a0_6,.int .i64 a0_7] 55 (0,0)) (by (with_reducible repeat (first | refine blk_drewN ?_ _ | refine blk_drew ?_ | refine blk_alloc ?_ _)); refine blk_far ?_ NB209_216.out _; (with_reducible repeat (first | refine blk_drewN ?_ _ | refine blk_drew ?_ | refine blk_alloc ?_ _)); refine blk_far ?_ NB209_216.out _; (with_reducible repeat (first | refine blk_drewN ?_ _ | refine blk_drew ?_ | refine blk_alloc ?_ _)); refine blk_far ?_ NB209_216.out _; (with_reducible repeat (first | refine blk_drewN ?_ _ | refine blk_drew ?_ | refine blk_alloc ?_ _)); refine blk_far ?_ NB209_216.out _; (with_reducible repeat (first | refine blk_drewN ?_ _ | refine blk_drew ?_ | refine blk_alloc ?_ _)); refine blk_far ?_ NB209_215.out _; (with_reducible repeat (first | refine blk_drewN ?_ _ | refine blk_drew ?_ | refine blk_alloc ?_ _)); refine blk_far ?_ NB209_215.out _; (with_reducible repeat (first | refine blk_drewN ?_ _ | refine blk_drew ?_ | refine blk_alloc ?_ _)); refine blk_far ?_ NB209_215.out _; (with_reducible repeat (first | refine blk_drewN ?_ _ | refine blk_drew ?_ | refine blk_alloc ?_ _)); refine blk_far ?_ NB209_215.out _; (with_reducible repeat (first | refine blk_drewN ?_ _ | refine blk_drew ?_ | refine blk_alloc ?_ _)); exact BK209.out) hb); have n1_:=Aside0.mk (blk_below (g:=gb215) (o:=.cells #[.int .i64 a0_2,.int .i64 a0_3,.slice none 0 0,.slice none 0 0] 114 (0,0)) (by (with_reducible repeat (first | refine blk_drewN ?_ _ | refine blk_drew ?_ | refine blk_alloc ?_ _)); refine blk_far ?_ NB215_216.out _; (with_reducible repeat (first | refine blk_drewN ?_ _ | refine blk_drew ?_ | refine blk_alloc ?_ _)); refine blk_far ?_ NB215_216.out _; (with_reducible repeat (first | refine blk_drewN ?_ _ | refine blk_drew ?_ | refine blk_alloc ?_ _)); refine blk_far ?_ NB215_216.out _; (with_reducible repeat (first | refine blk_drewN ?_ _ | refine blk_drew ?_ | refine blk_alloc ?_ _)); refine blk_far ?_ NB215_216.out _; (with_reducible repeat (first | refine blk_drewN ?_ _ | refine blk_drew ?_ | refine blk_alloc ?_ _)); refine blk_put (cs:=#[.int .i64 a0_2,.int .i64 a0_3,.slice none 0 0,.slice none 0 0]) ?_ 3 _ rfl; (with_reducible repeat (first | refine blk_drewN ?_ _ | refine blk_drew ?_ | refine blk_alloc ?_ _)); refine blk_put (cs:=#[.int .i64 a0_2,.int .i64 a0_3,.slice none 0 0,.slice none 0 0]) ?_ 2 _ rfl; (with_reducible repeat (first | refine blk_drewN ?_ _ | refine blk_drew ?_ | refine blk_alloc ?_ _)); refine blk_put (cs:=#[.int .i64 a0_2,.int .i64 0,.slice none 0 0,.slice none 0 0]) ?_ 1 _ rfl; (with_reducible repeat (first | refine blk_drewN ?_ _ | refine blk_drew ?_ | refine blk_alloc ?_ _)); refine blk_put (cs:=#[.int .i64 0,.int .i64 0,.slice none 0 0,.slice none 0 0]) ?_ 0 _ rfl; (with_reducible repeat (first | refine blk_drewN ?_ _ | refine blk_drew ?_ | refine blk_alloc ?_ _)); exact BK215.out) hb); have n2_:=Aside0.mk (blk_below (g:=gb216) (o:=.cells #[.int .i64 a0_4,.int .i64 a0_5,.slice none 0 0,.slice none 0 0] 114 (0,0)) (by (with_reducible repeat (first | refine blk_drewN ?_ _ | refine blk_drew ?_ | refine blk_alloc ?_ _)); refine blk_put (cs:=#[.int .i64 a0_4,.int .i64 a0_5,.slice none 0 0,.slice none 0 0]) ?_ 3 _ rfl; (with_reducible repeat (first | refine blk_drewN ?_ _ | refine blk_drew ?_ | refine blk_alloc ?_ _)); refine blk_put (cs:=#[.int .i64 a0_4,.int .i64 a0_5,.slice none 0 0,.slice none 0 0]) ?_ 2 _ rfl; (with_reducible repeat (first | refine blk_drewN ?_ _ | refine blk_drew ?_ | refine blk_alloc ?_ _)); refine blk_put (cs:=#[.int .i64 a0_4,.int .i64 0,.slice none 0 0,.slice none 0 0]) ?_ 1 _ rfl; (with_reducible repeat (first | refine blk_drewN ?_ _ | refine blk_drew ?_ | refine blk_alloc ?_ _)); refine blk_put (cs:=#[.int .i64 0,.int .i64 0,.slice none 0 0,.slice none 0 0]) ?_ 0 _ rfl; (with_reducible repeat (first | refine blk_drewN ?_ _ | refine blk_drew ?_ | refine blk_alloc ?_ _)); refine blk_far ?_ NB216_215.out _; (with_reducible repeat (first | refine blk_drewN ?_ _ | refine blk_drew ?_ | refine blk_alloc ?_ _)); refine blk_far ?_ NB216_215.out _; (with_reducible repeat (first | refine blk_drewN ?_ _ | refine blk_drew ?_ | refine blk_alloc ?_ _)); refine blk_far ?_ NB216_215.out _; (with_reducible repeat (first | refine blk_drewN ?_ _ | refine blk_drew ?_ | refine blk_alloc ?_ _)); refine blk_far ?_ NB216_215.out _; (with_reducible repeat (first | refine blk_drewN ?_ _ | refine blk_drew ?_ | refine blk_alloc ?_ _)); exact BK216.out) hb); have n3_:=Aside0.mk (below_step (by repeat (first | (with_reducible first | exact HB.out | apply below_alloc | apply pw_below_drewN | apply below_drew1 | refine below_set ?_ GE209.out | refine below_set ?_ GE215.out | refine below_set ?_ GE216.out) | exact HB.out)) hb); clear BK209; clear BK215; clear BK216; clear HB; have BK209:=n0_; have BK215:=n1_; have BK216:=n2_; have HB:=n3_; clear n0_ n1_ n2_ n3_; (try clear hb); (try clear hb2); (try clear hk); (try clear hi); have hnb91:=NB216_209.out; have hnc91:=NB209_216.out; have hcz92_0 : w90.cell? ⟨gb216,0,none⟩ = some (.int .i64 a0_4):=(blk_cell BK216.out 0).trans rfl; have hcz92_1 : w90.cell? ⟨gb216,1,none⟩ = some (.int .i64 a0_5):=(blk_cell BK216.out 1).trans rfl; have hcz92_2 : w90.cell? ⟨gb216,2,none⟩ = some (.slice none 0 0):=(blk_cell BK216.out 2).trans rfl; have hcz92_3 : w90.cell? ⟨gb216,3,none⟩ = some (.slice none 0 0):=(blk_cell BK216.out 3).trans rfl; have hfz92_0:=blk_frozen BK216.out 0; have hfz92_1:=blk_frozen BK216.out 1; have hfz92_2:=blk_frozen BK216.out 2; have hfz92_3:=blk_frozen BK216.out 3) | (go_at_call 84; (refine (world_Right.calls kj39 a0_4 a0_5 _ _ ([] : List (S26)) _ _ ([] : List (S28)) true _ ?side1 ?side2 ?side3 ?side4 A67.out).mono ?_); (case side1 => exact Kd.C_nil _ _); (case side2 => exact Nat.le_refl _); (case side3 => exact Kd.C_nil _ _); (case side4 => exact Nat.le_refl _); rintro e w93 ⟨rfl,hb⟩; have n0_:=Aside0.mk (blk_below (g:=gb209) (o:=.cells #[.slice A0_0 l0_0.length c0_0,.bool false,.int .i64 a0_2,.int .i64 a0_3,.int .i64 a0_4,.int .i64 a0_5,.int .i64 a0_6,.int .i64 a0_7] 55 (0,0)) (by (with_reducible repeat (first | refine blk_drewN ?_ _ | refine blk_drew ?_ | refine blk_alloc ?_ _)); exact BK209.out) hb); have n1_:=Aside0.mk (blk_below (g:=gb215) (o:=.cells #[.int .i64 a0_2,.int .i64 a0_3,.slice none 0 0,.slice none 0 0] 114 (0,0)) (by (with_reducible repeat (first | refine blk_drewN ?_ _ | refine blk_drew ?_ | refine blk_alloc ?_ _)); exact BK215.out) hb); have n2_:=Aside0.mk (blk_below (g:=gb216) (o:=.cells #[.int .i64 a0_4,.int .i64 a0_5,.slice none 0 0,.slice none 0 0] 114 (0,0)) (by (with_reducible repeat (first | refine blk_drewN ?_ _ | refine blk_drew ?_ | refine blk_alloc ?_ _)); exact BK216.out) hb); have n3_:=Aside0.mk (below_step (by repeat (first | (with_reducible first | exact HB.out | apply below_alloc | apply pw_below_drewN | apply below_drew1 | refine below_set ?_ GE209.out | refine below_set ?_ GE215.out | refine below_set ?_ GE216.out) | exact HB.out)) hb); clear BK209; clear BK215; clear BK216; clear HB; have BK209:=n0_; have BK215:=n1_; have BK216:=n2_; have HB:=n3_; clear n0_ n1_ n2_ n3_; (try clear hb); (try clear hb2); (try clear hk); (try clear hi); obtain ⟨hcz94_0,hcz94_1,hcz94_2,hcz94_3,hcz94_4,hcz94_5,hcz94_6,hcz94_7⟩:=cl8 BK209.out; obtain ⟨hfz94_0,hfz94_1,hfz94_2,hfz94_3,hfz94_4,hfz94_5,hfz94_6,hfz94_7⟩:=fz8 BK209.out))
       go_meet
       case rel => exact ⟨_,((a0_6 != a0_7)),(by first | rfl | (simp; done) | (simp [*]; done)),H',⟨by have:=HK1.out; have:=HJ34.out; have:=HJ39.out; first | omega | exact Nat.le_refl _⟩,⟨by (with_reducible repeat (first | refine blk_drewN ?_ _ | refine blk_drew ?_ | refine blk_alloc ?_ _)); exact BK209.out⟩,⟨by (with_reducible repeat (first | refine blk_drewN ?_ _ | refine blk_drew ?_ | refine blk_alloc ?_ _)); exact BK215.out⟩,⟨by (with_reducible repeat (first | refine blk_drewN ?_ _ | refine blk_drew ?_ | refine blk_alloc ?_ _)); exact BK216.out⟩,⟨by repeat (first | (with_reducible first | exact HB.out | apply below_alloc | apply pw_below_drewN | apply below_drew1 | refine below_set ?_ GE209.out | refine below_set ?_ GE215.out | refine below_set ?_ GE216.out) | exact HB.out)⟩⟩
      replace c68:=Bool.eq_false_iff.mpr c68
      subst c68
      have H1 : (clay_RightEntry.j4 kj39 false) = some r:=by rw [if_neg (show ¬ (false = true) by decide)] at H; exact H
      clear H
      have H:=H1
      clear H1
      have H':=Aside0.mk H
      clear H
      have hnb95:=NB215_209.out
      have hnc95:=NB209_215.out
      have hnb96:=NB215_216.out
      have hnc96:=NB216_215.out
      have hcz97_0 : w56.cell? ⟨gb215,0,none⟩ = some (.int .i64 0):=(blk_cell BK215.out 0).trans rfl
      have hcz97_1 : w56.cell? ⟨gb215,1,none⟩ = some (.int .i64 0):=(blk_cell BK215.out 1).trans rfl
      have hcz97_2 : w56.cell? ⟨gb215,2,none⟩ = some (.slice none 0 0):=(blk_cell BK215.out 2).trans rfl
      have hcz97_3 : w56.cell? ⟨gb215,3,none⟩ = some (.slice none 0 0):=(blk_cell BK215.out 3).trans rfl
      have hfz97_0:=blk_frozen BK215.out 0
      have hfz97_1:=blk_frozen BK215.out 1
      have hfz97_2:=blk_frozen BK215.out 2
      have hfz97_3:=blk_frozen BK215.out 3
      go_wp2_with (first | ((with_reducible refine gate_callee (f:=84) rfl ?_); refine goesL_ (some 96) rfl rfl Try.func84 (by kernel_rfl) rfl #[.agg #[.int .i64 a0_2,.int .i64 a0_3,.slice none 0 0,.slice none 0 0]] rfl (by (try simp only [List.map_toArray,List.map_cons,List.map_nil]); first | done | rfl | (simp only [List.length_drop,List.length_take]; rfl) | (simp only [ByteArray.size_append,Int.natCast_add]; rfl) | (simp [ByteArray.size_append,Int.add_assoc]; done)) ?_; (refine (world_Right.calls kj39 a0_2 a0_3 _ _ ([] : List (S26)) _ _ ([] : List (S28)) true _ ?side1 ?side2 ?side3 ?side4 A65.out).mono ?_); (case side1 => exact Kd.C_nil _ _); (case side2 => exact Nat.le_refl _); (case side3 => exact Kd.C_nil _ _); (case side4 => exact Nat.le_refl _); rintro e w98 ⟨rfl,hb⟩; refine ⟨_,rfl,?_⟩; have n0_:=Aside0.mk (blk_below (g:=gb209) (o:=.cells #[.slice A0_0 l0_0.length c0_0,.bool a0_1,.int .i64 a0_2,.int .i64 a0_3,.int .i64 a0_4,.int .i64 a0_5,.int .i64 a0_6,.int .i64 a0_7] 55 (0,0)) (by (with_reducible repeat (first | refine blk_drewN ?_ _ | refine blk_drew ?_ | refine blk_alloc ?_ _)); refine blk_far ?_ NB209_216.out _; (with_reducible repeat (first | refine blk_drewN ?_ _ | refine blk_drew ?_ | refine blk_alloc ?_ _)); refine blk_far ?_ NB209_216.out _; (with_reducible repeat (first | refine blk_drewN ?_ _ | refine blk_drew ?_ | refine blk_alloc ?_ _)); refine blk_far ?_ NB209_216.out _; (with_reducible repeat (first | refine blk_drewN ?_ _ | refine blk_drew ?_ | refine blk_alloc ?_ _)); refine blk_far ?_ NB209_216.out _; (with_reducible repeat (first | refine blk_drewN ?_ _ | refine blk_drew ?_ | refine blk_alloc ?_ _)); refine blk_far ?_ NB209_215.out _; (with_reducible repeat (first | refine blk_drewN ?_ _ | refine blk_drew ?_ | refine blk_alloc ?_ _)); refine blk_far ?_ NB209_215.out _; (with_reducible repeat (first | refine blk_drewN ?_ _ | refine blk_drew ?_ | refine blk_alloc ?_ _)); refine blk_far ?_ NB209_215.out _; (with_reducible repeat (first | refine blk_drewN ?_ _ | refine blk_drew ?_ | refine blk_alloc ?_ _)); refine blk_far ?_ NB209_215.out _; (with_reducible repeat (first | refine blk_drewN ?_ _ | refine blk_drew ?_ | refine blk_alloc ?_ _)); exact BK209.out) hb); have n1_:=Aside0.mk (blk_below (g:=gb215) (o:=.cells #[.int .i64 a0_2,.int .i64 a0_3,.slice none 0 0,.slice none 0 0] 114 (0,0)) (by (with_reducible repeat (first | refine blk_drewN ?_ _ | refine blk_drew ?_ | refine blk_alloc ?_ _)); refine blk_far ?_ NB215_216.out _; (with_reducible repeat (first | refine blk_drewN ?_ _ | refine blk_drew ?_ | refine blk_alloc ?_ _)); refine blk_far ?_ NB215_216.out _; (with_reducible repeat (first | refine blk_drewN ?_ _ | refine blk_drew ?_ | refine blk_alloc ?_ _)); refine blk_far ?_ NB215_216.out _; (with_reducible repeat (first | refine blk_drewN ?_ _ | refine blk_drew ?_ | refine blk_alloc ?_ _)); refine blk_far ?_ NB215_216.out _; (with_reducible repeat (first | refine blk_drewN ?_ _ | refine blk_drew ?_ | refine blk_alloc ?_ _)); refine blk_put (cs:=#[.int .i64 a0_2,.int .i64 a0_3,.slice none 0 0,.slice none 0 0]) ?_ 3 _ rfl; (with_reducible repeat (first | refine blk_drewN ?_ _ | refine blk_drew ?_ | refine blk_alloc ?_ _)); refine blk_put (cs:=#[.int .i64 a0_2,.int .i64 a0_3,.slice none 0 0,.slice none 0 0]) ?_ 2 _ rfl; (with_reducible repeat (first | refine blk_drewN ?_ _ | refine blk_drew ?_ | refine blk_alloc ?_ _)); refine blk_put (cs:=#[.int .i64 a0_2,.int .i64 0,.slice none 0 0,.slice none 0 0]) ?_ 1 _ rfl; (with_reducible repeat (first | refine blk_drewN ?_ _ | refine blk_drew ?_ | refine blk_alloc ?_ _)); refine blk_put (cs:=#[.int .i64 0,.int .i64 0,.slice none 0 0,.slice none 0 0]) ?_ 0 _ rfl; (with_reducible repeat (first | refine blk_drewN ?_ _ | refine blk_drew ?_ | refine blk_alloc ?_ _)); exact BK215.out) hb); have n2_:=Aside0.mk (blk_below (g:=gb216) (o:=.cells #[.int .i64 a0_4,.int .i64 a0_5,.slice none 0 0,.slice none 0 0] 114 (0,0)) (by (with_reducible repeat (first | refine blk_drewN ?_ _ | refine blk_drew ?_ | refine blk_alloc ?_ _)); refine blk_put (cs:=#[.int .i64 a0_4,.int .i64 a0_5,.slice none 0 0,.slice none 0 0]) ?_ 3 _ rfl; (with_reducible repeat (first | refine blk_drewN ?_ _ | refine blk_drew ?_ | refine blk_alloc ?_ _)); refine blk_put (cs:=#[.int .i64 a0_4,.int .i64 a0_5,.slice none 0 0,.slice none 0 0]) ?_ 2 _ rfl; (with_reducible repeat (first | refine blk_drewN ?_ _ | refine blk_drew ?_ | refine blk_alloc ?_ _)); refine blk_put (cs:=#[.int .i64 a0_4,.int .i64 0,.slice none 0 0,.slice none 0 0]) ?_ 1 _ rfl; (with_reducible repeat (first | refine blk_drewN ?_ _ | refine blk_drew ?_ | refine blk_alloc ?_ _)); refine blk_put (cs:=#[.int .i64 0,.int .i64 0,.slice none 0 0,.slice none 0 0]) ?_ 0 _ rfl; (with_reducible repeat (first | refine blk_drewN ?_ _ | refine blk_drew ?_ | refine blk_alloc ?_ _)); refine blk_far ?_ NB216_215.out _; (with_reducible repeat (first | refine blk_drewN ?_ _ | refine blk_drew ?_ | refine blk_alloc ?_ _)); refine blk_far ?_ NB216_215.out _; (with_reducible repeat (first | refine blk_drewN ?_ _ | refine blk_drew ?_ | refine blk_alloc ?_ _)); refine blk_far ?_ NB216_215.out _; (with_reducible repeat (first | refine blk_drewN ?_ _ | refine blk_drew ?_ | refine blk_alloc ?_ _)); refine blk_far ?_ NB216_215.out _; (with_reducible repeat (first | refine blk_drewN ?_ _ | refine blk_drew ?_ | refine blk_alloc ?_ _)); exact BK216.out) hb); have n3_:=Aside0.mk (below_step (by repeat (first | (with_reducible first | exact HB.out | apply below_alloc | apply pw_below_drewN | apply below_drew1 | refine below_set ?_ GE209.out | refine below_set ?_ GE215.out | refine below_set ?_ GE216.out) | exact HB.out)) hb); clear BK209; clear BK215; clear BK216; clear HB; have BK209:=n0_; have BK215:=n1_; have BK216:=n2_; have HB:=n3_; clear n0_ n1_ n2_ n3_; (try clear hb); (try clear hb2); (try clear hk); (try clear hi); have hnb99:=NB216_209.out; have hnc99:=NB209_216.out; have hcz100_0 : w98.cell? ⟨gb216,0,none⟩ = some (.int .i64 a0_4):=(blk_cell BK216.out 0).trans rfl; have hcz100_1 : w98.cell? ⟨gb216,1,none⟩ = some (.int .i64 a0_5):=(blk_cell BK216.out 1).trans rfl; have hcz100_2 : w98.cell? ⟨gb216,2,none⟩ = some (.slice none 0 0):=(blk_cell BK216.out 2).trans rfl; have hcz100_3 : w98.cell? ⟨gb216,3,none⟩ = some (.slice none 0 0):=(blk_cell BK216.out 3).trans rfl; have hfz100_0:=blk_frozen BK216.out 0; have hfz100_1:=blk_frozen BK216.out 1; have hfz100_2:=blk_frozen BK216.out 2; have hfz100_3:=blk_frozen BK216.out 3) | (go_at_call 84; (refine (world_Right.calls kj39 a0_4 a0_5 _ _ ([] : List (S26)) _ _ ([] : List (S28)) false _ ?side1 ?side2 ?side3 ?side4 A67.out).mono ?_); (case side1 => exact Kd.C_nil _ _); (case side2 => exact Nat.le_refl _); (case side3 => exact Kd.C_nil _ _); (case side4 => exact Nat.le_refl _); rintro e w101 ⟨rfl,hb⟩; have n0_:=Aside0.mk (blk_below (g:=gb209) (o:=.cells #[.slice A0_0 l0_0.length c0_0,.bool a0_1,.int .i64 a0_2,.int .i64 a0_3,.int .i64 a0_4,.int .i64 a0_5,.int .i64 a0_6,.int .i64 a0_7] 55 (0,0)) (by (with_reducible repeat (first | refine blk_drewN ?_ _ | refine blk_drew ?_ | refine blk_alloc ?_ _)); exact BK209.out) hb); have n1_:=Aside0.mk (blk_below (g:=gb215) (o:=.cells #[.int .i64 a0_2,.int .i64 a0_3,.slice none 0 0,.slice none 0 0] 114 (0,0)) (by (with_reducible repeat (first | refine blk_drewN ?_ _ | refine blk_drew ?_ | refine blk_alloc ?_ _)); exact BK215.out) hb); have n2_:=Aside0.mk (blk_below (g:=gb216) (o:=.cells #[.int .i64 a0_4,.int .i64 a0_5,.slice none 0 0,.slice none 0 0] 114 (0,0)) (by (with_reducible repeat (first | refine blk_drewN ?_ _ | refine blk_drew ?_ | refine blk_alloc ?_ _)); exact BK216.out) hb); have n3_:=Aside0.mk (below_step (by repeat (first | (with_reducible first | exact HB.out | apply below_alloc | apply pw_below_drewN | apply below_drew1 | refine below_set ?_ GE209.out | refine below_set ?_ GE215.out | refine below_set ?_ GE216.out) | exact HB.out)) hb); clear BK209; clear BK215; clear BK216; clear HB; have BK209:=n0_; have BK215:=n1_; have BK216:=n2_; have HB:=n3_; clear n0_ n1_ n2_ n3_; (try clear hb); (try clear hb2); (try clear hk); (try clear hi)))
      go_meet
      case rel => exact ⟨_,(false),(by first | rfl | (simp; done) | (simp [*]; done)),H',⟨by have:=HK1.out; have:=HJ34.out; have:=HJ39.out; first | omega | exact Nat.le_refl _⟩,⟨by (with_reducible repeat (first | refine blk_drewN ?_ _ | refine blk_drew ?_ | refine blk_alloc ?_ _)); exact BK209.out⟩,⟨by (with_reducible repeat (first | refine blk_drewN ?_ _ | refine blk_drew ?_ | refine blk_alloc ?_ _)); exact BK215.out⟩,⟨by (with_reducible repeat (first | refine blk_drewN ?_ _ | refine blk_drew ?_ | refine blk_alloc ?_ _)); exact BK216.out⟩,⟨by repeat (first | (with_reducible first | exact HB.out | apply below_alloc | apply pw_below_drewN | apply below_drew1 | refine below_set ?_ GE209.out | refine below_set ?_ GE215.out | refine below_set ?_ GE216.out) | exact HB.out)⟩⟩
     replace c66:=Bool.eq_false_iff.mpr c66
     subst c66
     have H1 : (clay_RightEntry.j4 kj39 false) = some r:=by rw [if_neg (show ¬ (false = true) by decide)] at H; exact H
     clear H
     have H:=H1
     clear H1
     have H':=Aside0.mk H
     clear H
     have hnb102:=NB215_209.out
     have hnc102:=NB209_215.out
     have hnb103:=NB215_216.out
     have hnc103:=NB216_215.out
     have hcz104_0 : w56.cell? ⟨gb215,0,none⟩ = some (.int .i64 0):=(blk_cell BK215.out 0).trans rfl
     have hcz104_1 : w56.cell? ⟨gb215,1,none⟩ = some (.int .i64 0):=(blk_cell BK215.out 1).trans rfl
     have hcz104_2 : w56.cell? ⟨gb215,2,none⟩ = some (.slice none 0 0):=(blk_cell BK215.out 2).trans rfl
     have hcz104_3 : w56.cell? ⟨gb215,3,none⟩ = some (.slice none 0 0):=(blk_cell BK215.out 3).trans rfl
     have hfz104_0:=blk_frozen BK215.out 0
     have hfz104_1:=blk_frozen BK215.out 1
     have hfz104_2:=blk_frozen BK215.out 2
     have hfz104_3:=blk_frozen BK215.out 3
     go_wp2_with (first | ((with_reducible refine gate_callee (f:=84) rfl ?_); refine goesL_ (some 96) rfl rfl Try.func84 (by kernel_rfl) rfl #[.agg #[.int .i64 a0_2,.int .i64 a0_3,.slice none 0 0,.slice none 0 0]] rfl (by (try simp only [List.map_toArray,List.map_cons,List.map_nil]); first | done | rfl | (simp only [List.length_drop,List.length_take]; rfl) | (simp only [ByteArray.size_append,Int.natCast_add]; rfl) | (simp [ByteArray.size_append,Int.add_assoc]; done)) ?_; (refine (world_Right.calls kj39 a0_2 a0_3 _ _ ([] : List (S26)) _ _ ([] : List (S28)) false _ ?side1 ?side2 ?side3 ?side4 A65.out).mono ?_); (case side1 => exact Kd.C_nil _ _); (case side2 => exact Nat.le_refl _); (case side3 => exact Kd.C_nil _ _); (case side4 => exact Nat.le_refl _); rintro e w105 ⟨rfl,hb⟩; refine ⟨_,rfl,?_⟩; have n0_:=Aside0.mk (blk_below (g:=gb209) (o:=.cells #[.slice A0_0 l0_0.length c0_0,.bool a0_1,.int .i64 a0_2,.int .i64 a0_3,.int .i64 a0_4,.int .i64 a0_5,.int .i64 a0_6,.int .i64 a0_7] 55 (0,0)) (by (with_reducible repeat (first | refine blk_drewN ?_ _ | refine blk_drew ?_ | refine blk_alloc ?_ _)); refine blk_far ?_ NB209_216.out _; (with_reducible repeat (first | refine blk_drewN ?_ _ | refine blk_drew ?_ | refine blk_alloc ?_ _)); refine blk_far ?_ NB209_216.out _; (with_reducible repeat (first | refine blk_drewN ?_ _ | refine blk_drew ?_ | refine blk_alloc ?_ _)); refine blk_far ?_ NB209_216.out _; (with_reducible repeat (first | refine blk_drewN ?_ _ | refine blk_drew ?_ | refine blk_alloc ?_ _)); refine blk_far ?_ NB209_216.out _; (with_reducible repeat (first | refine blk_drewN ?_ _ | refine blk_drew ?_ | refine blk_alloc ?_ _)); refine blk_far ?_ NB209_215.out _; (with_reducible repeat (first | refine blk_drewN ?_ _ | refine blk_drew ?_ | refine blk_alloc ?_ _)); refine blk_far ?_ NB209_215.out _; (with_reducible repeat (first | refine blk_drewN ?_ _ | refine blk_drew ?_ | refine blk_alloc ?_ _)); refine blk_far ?_ NB209_215.out _; (with_reducible repeat (first | refine blk_drewN ?_ _ | refine blk_drew ?_ | refine blk_alloc ?_ _)); refine blk_far ?_ NB209_215.out _; (with_reducible repeat (first | refine blk_drewN ?_ _ | refine blk_drew ?_ | refine blk_alloc ?_ _)); exact BK209.out) hb); have n1_:=Aside0.mk (blk_below (g:=gb215) (o:=.cells #[.int .i64 a0_2,.int .i64 a0_3,.slice none 0 0,.slice none 0 0] 114 (0,0)) (by (with_reducible repeat (first | refine blk_drewN ?_ _ | refine blk_drew ?_ | refine blk_alloc ?_ _)); refine blk_far ?_ NB215_216.out _; (with_reducible repeat (first | refine blk_drewN ?_ _ | refine blk_drew ?_ | refine blk_alloc ?_ _)); refine blk_far ?_ NB215_216.out _; (with_reducible repeat (first | refine blk_drewN ?_ _ | refine blk_drew ?_ | refine blk_alloc ?_ _)); refine blk_far ?_ NB215_216.out _; (with_reducible repeat (first | refine blk_drewN ?_ _ | refine blk_drew ?_ | refine blk_alloc ?_ _)); refine blk_far ?_ NB215_216.out _; (with_reducible repeat (first | refine blk_drewN ?_ _ | refine blk_drew ?_ | refine blk_alloc ?_ _)); refine blk_put (cs:=#[.int .i64 a0_2,.int .i64 a0_3,.slice none 0 0,.slice none 0 0]) ?_ 3 _ rfl; (with_reducible repeat (first | refine blk_drewN ?_ _ | refine blk_drew ?_ | refine blk_alloc ?_ _)); refine blk_put (cs:=#[.int .i64 a0_2,.int .i64 a0_3,.slice none 0 0,.slice none 0 0]) ?_ 2 _ rfl; (with_reducible repeat (first | refine blk_drewN ?_ _ | refine blk_drew ?_ | refine blk_alloc ?_ _)); refine blk_put (cs:=#[.int .i64 a0_2,.int .i64 0,.slice none 0 0,.slice none 0 0]) ?_ 1 _ rfl; (with_reducible repeat (first | refine blk_drewN ?_ _ | refine blk_drew ?_ | refine blk_alloc ?_ _)); refine blk_put (cs:=#[.int .i64 0,.int .i64 0,.slice none 0 0,.slice none 0 0]) ?_ 0 _ rfl; (with_reducible repeat (first | refine blk_drewN ?_ _ | refine blk_drew ?_ | refine blk_alloc ?_ _)); exact BK215.out) hb); have n2_:=Aside0.mk (blk_below (g:=gb216) (o:=.cells #[.int .i64 a0_4,.int .i64 a0_5,.slice none 0 0,.slice none 0 0] 114 (0,0)) (by (with_reducible repeat (first | refine blk_drewN ?_ _ | refine blk_drew ?_ | refine blk_alloc ?_ _)); refine blk_put (cs:=#[.int .i64 a0_4,.int .i64 a0_5,.slice none 0 0,.slice none 0 0]) ?_ 3 _ rfl; (with_reducible repeat (first | refine blk_drewN ?_ _ | refine blk_drew ?_ | refine blk_alloc ?_ _)); refine blk_put (cs:=#[.int .i64 a0_4,.int .i64 a0_5,.slice none 0 0,.slice none 0 0]) ?_ 2 _ rfl; (with_reducible repeat (first | refine blk_drewN ?_ _ | refine blk_drew ?_ | refine blk_alloc ?_ _)); refine blk_put (cs:=#[.int .i64 a0_4,.int .i64 0,.slice none 0 0,.slice none 0 0]) ?_ 1 _ rfl; (with_reducible repeat (first | refine blk_drewN ?_ _ | refine blk_drew ?_ | refine blk_alloc ?_ _)); refine blk_put (cs:=#[.int .i64 0,.int .i64 0,.slice none 0 0,.slice none 0 0]) ?_ 0 _ rfl; (with_reducible repeat (first | refine blk_drewN ?_ _ | refine blk_drew ?_ | refine blk_alloc ?_ _)); refine blk_far ?_ NB216_215.out _; (with_reducible repeat (first | refine blk_drewN ?_ _ | refine blk_drew ?_ | refine blk_alloc ?_ _)); refine blk_far ?_ NB216_215.out _; (with_reducible repeat (first | refine blk_drewN ?_ _ | refine blk_drew ?_ | refine blk_alloc ?_ _)); refine blk_far ?_ NB216_215.out _; (with_reducible repeat (first | refine blk_drewN ?_ _ | refine blk_drew ?_ | refine blk_alloc ?_ _)); refine blk_far ?_ NB216_215.out _; (with_reducible repeat (first | refine blk_drewN ?_ _ | refine blk_drew ?_ | refine blk_alloc ?_ _)); exact BK216.out) hb); have n3_:=Aside0.mk (below_step (by repeat (first | (with_reducible first | exact HB.out | apply below_alloc | apply pw_below_drewN | apply below_drew1 | refine below_set ?_ GE209.out | refine below_set ?_ GE215.out | refine below_set ?_ GE216.out) | exact HB.out)) hb); clear BK209; clear BK215; clear BK216; clear HB; have BK209:=n0_; have BK215:=n1_; have BK216:=n2_; have HB:=n3_; clear n0_ n1_ n2_ n3_; (try clear hb); (try clear hb2); (try clear hk); (try clear hi)))
     go_meet
     case rel => exact ⟨_,(false),(by first | rfl | (simp; done) | (simp [*]; done)),H',⟨by have:=HK1.out; have:=HJ34.out; have:=HJ39.out; first | omega | exact Nat.le_refl _⟩,⟨by (with_reducible repeat (first | refine blk_drewN ?_ _ | refine blk_drew ?_ | refine blk_alloc ?_ _)); exact BK209.out⟩,⟨by (with_reducible repeat (first | refine blk_drewN ?_ _ | refine blk_drew ?_ | refine blk_alloc ?_ _)); exact BK215.out⟩,⟨by (with_reducible repeat (first | refine blk_drewN ?_ _ | refine blk_drew ?_ | refine blk_alloc ?_ _)); exact BK216.out⟩,⟨by repeat (first | (with_reducible first | exact HB.out | apply below_alloc | apply pw_below_drewN | apply below_drew1 | refine below_set ?_ GE209.out | refine below_set ?_ GE215.out | refine below_set ?_ GE216.out) | exact HB.out)⟩⟩
    clear HC51
    (try clear c1); (try clear p2); (try clear q2); (try clear hx2); (try clear c4); (try clear c6); (try clear p6); (try clear c7); (try clear c8); (try clear c9); (try clear c10); (try clear p21); (try clear q21); (try clear hx21); (try clear c44); (try clear c46); (try clear c46b0); (try clear c49); (try clear c49b0); (try clear c66); (try clear c68); (try clear c69); (try clear c69b0); (try clear c69b1); (try clear c70); (try clear c71); (try clear c74); (try clear c78); (try clear c79); (try clear c80); (try clear c83); (try clear c84); (try clear c87); (try clear c88); (try clear c91); (try clear c95); (try clear c96); (try clear c99); (try clear c102); (try clear c103); (try clear hcz100_0); (try clear hcz100_1); (try clear hcz100_2); (try clear hcz100_3); (try clear hcz104_0); (try clear hcz104_1); (try clear hcz104_2); (try clear hcz104_3); (try clear hcz43_7); (try clear hcz47_0); (try clear hcz47_1); (try clear hcz47_2); (try clear hcz47_3); (try clear hcz47_4); (try clear hcz47_5); (try clear hcz47_6); (try clear hcz47_7); (try clear hcz50_0); (try clear hcz50_1); (try clear hcz50_2); (try clear hcz50_3); (try clear hcz50_4); (try clear hcz50_5); (try clear hcz50_6); (try clear hcz50_7); (try clear hcz52_0); (try clear hcz52_1); (try clear hcz52_2); (try clear hcz52_3); (try clear hcz52_4); (try clear hcz52_5); (try clear hcz52_6); (try clear hcz52_7); (try clear hcz72_0); (try clear hcz72_1); (try clear hcz72_2); (try clear hcz72_3); (try clear hcz75_0); (try clear hcz75_1); (try clear hcz75_2); (try clear hcz75_3); (try clear hcz77_0); (try clear hcz77_1); (try clear hcz77_2); (try clear hcz77_3); (try clear hcz77_4); (try clear hcz77_5); (try clear hcz77_6); (try clear hcz77_7); (try clear hcz81_0); (try clear hcz81_1); (try clear hcz81_2); (try clear hcz81_3); (try clear hcz84_0); (try clear hcz84_1); (try clear hcz84_2); (try clear hcz84_3); (try clear hcz86_0); (try clear hcz86_1); (try clear hcz86_2); (try clear hcz86_3); (try clear hcz86_4); (try clear hcz86_5); (try clear hcz86_6); (try clear hcz86_7); (try clear hcz89_0); (try clear hcz89_1); (try clear hcz89_2); (try clear hcz89_3); (try clear hcz92_0); (try clear hcz92_1); (try clear hcz92_2); (try clear hcz92_3); (try clear hcz94_0); (try clear hcz94_1); (try clear hcz94_2); (try clear hcz94_3); (try clear hcz94_4); (try clear hcz94_5); (try clear hcz94_6); (try clear hcz94_7); (try clear hcz97_0); (try clear hcz97_1); (try clear hcz97_2); (try clear hcz97_3); (try clear hfz100_0); (try clear hfz100_1); (try clear hfz100_2); (try clear hfz100_3); (try clear hfz104_0); (try clear hfz104_1); (try clear hfz104_2); (try clear hfz104_3); (try clear hfz10_0); (try clear hfz10_1); (try clear hfz10_2); (try clear hfz13_0); (try clear hfz13_1); (try clear hfz13_2); (try clear hfz18_0); (try clear hfz18_1); (try clear hfz18_2); (try clear hfz23_0); (try clear hfz23_1); (try clear hfz23_2); (try clear hfz25_0); (try clear hfz25_1); (try clear hfz25_2); (try clear hfz28_0); (try clear hfz28_1); (try clear hfz28_2); (try clear hfz31_0); (try clear hfz31_1); (try clear hfz31_2); (try clear hfz34_0); (try clear hfz34_1); (try clear hfz34_2); (try clear hfz3_0); (try clear hfz3_1); (try clear hfz3_2); (try clear hfz3_3); (try clear hfz3_4); (try clear hfz3_5); (try clear hfz3_6); (try clear hfz3_7); (try clear hfz42_0); (try clear hfz42_1); (try clear hfz42_2); (try clear hfz42_3); (try clear hfz42_4); (try clear hfz42_5); (try clear hfz42_6); (try clear hfz42_7); (try clear hfz43_0); (try clear hfz43_1); (try clear hfz43_2); (try clear hfz43_3); (try clear hfz43_4); (try clear hfz43_5); (try clear hfz43_6); (try clear hfz43_7); (try clear hfz47_0); (try clear hfz47_1); (try clear hfz47_2); (try clear hfz47_3); (try clear hfz47_4); (try clear hfz47_5); (try clear hfz47_6); (try clear hfz47_7); (try clear hfz50_0); (try clear hfz50_1); (try clear hfz50_2); (try clear hfz50_3); (try clear hfz50_4); (try clear hfz50_5); (try clear hfz50_6); (try clear hfz50_7); (try clear hfz52_0); (try clear hfz52_1); (try clear hfz52_2); (try clear hfz52_3); (try clear hfz52_4); (try clear hfz52_5); (try clear hfz52_6); (try clear hfz52_7); (try clear hfz72_0); (try clear hfz72_1); (try clear hfz72_2); (try clear hfz72_3); (try clear hfz75_0); (try clear hfz75_1); (try clear hfz75_2); (try clear hfz75_3); (try clear hfz77_0); (try clear hfz77_1); (try clear hfz77_2); (try clear hfz77_3); (try clear hfz77_4); (try clear hfz77_5); (try clear hfz77_6); (try clear hfz77_7); (try clear hfz81_0); (try clear hfz81_1); (try clear hfz81_2); (try clear hfz81_3); (try clear hfz84_0); (try clear hfz84_1); (try clear hfz84_2); (try clear hfz84_3); (try clear hfz86_0); (try clear hfz86_1); (try clear hfz86_2); (try clear hfz86_3); (try clear hfz86_4); (try clear hfz86_5); (try clear hfz86_6); (try clear hfz86_7); (try clear hfz89_0); (try clear hfz89_1); (try clear hfz89_2); (try clear hfz89_3); (try clear hfz92_0); (try clear hfz92_1); (try clear hfz92_2); (try clear hfz92_3); (try clear hfz94_0); (try clear hfz94_1); (try clear hfz94_2); (try clear hfz94_3); (try clear hfz94_4); (try clear hfz94_5); (try clear hfz94_6); (try clear hfz94_7); (try clear hfz97_0); (try clear hfz97_1); (try clear hfz97_2); (try clear hfz97_3); (try clear hx210_0); (try clear hx210_1); (try clear hx210_2); (try clear p2); (try clear p21); (try clear p210); (try clear p6); (try clear q2); (try clear q21); (try clear q210)
    obtain ⟨kq,x2_50,rfl,HA,HJ50,BK209,BK215,BK216,HB⟩:=hcut
    cases kq with
    | zero => exact absurd HA.out (by simp [clay_RightEntry.j4])
    | succ kj50 =>
     have H:=HA.out
     clear HA
     simp only [clay_RightEntry.j4] at H
     obtain rfl:=Option.some.inj H
     go_wp2
     go_ret
     exact ⟨by first | rfl | (simp [errW_none,errW_some] <;> rfl) | (simp only [← hji45,← hji48]; first | rfl | (simp [errW_none,errW_some] <;> rfl)) | (simp [*,errW_none,errW_some] <;> rfl),by repeat (first | (with_reducible first | exact HB.out | apply below_alloc | apply pw_below_drewN | apply below_drew1 | refine below_set ?_ GE209.out | refine below_set ?_ GE215.out | refine below_set ?_ GE216.out) | exact HB.out)⟩

end Go.Proofs.Ytbjknbfagadhfaa.PAll
