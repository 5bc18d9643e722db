-- Written by a program of this session, in the manner of the kit's print; it is not the kit's own print.
import Derived.Test.YtbjknbfagadhfaaQPAllx0
import Derived.Test.YtbjknbfagadhfaaQPAllx7
import Derived.Test.YtbjknbfagadhfaaQPAllx9
import Derived.Test.YtbjknbfagadhfaaQPAllx13
namespace Go.Proofs.Ytbjknbfagadhfaa.PAll
open Go.RowKit Go.Proofs.YtbjknbfagadhfaaW.PrintWords Go.Proofs.YtbjknbfagadhfaaW.PrintLast Go.Proofs.YtbjknbfagadhfaaW.PrintMore
attribute [local go_sem] max2_int min2_int max_two min_two max_three min_three max_four min_four   -- for this text's walks alone
set_option linter.unusedVariables false
set_option linter.unusedSimpArgs false

/-! ### maquettelaw18_ClayKinds: function 10 -/
mutual
def maquettelaw18_ClayKinds.j0 : Nat → Int → Bool → Int → Int → Int → Int → Int → Int → Int → Int → Int → Int → Int → Int → Int → List Int → Option (Bool)
  | 0, _, _, _, _, _, _, _, _, _, _, _, _, _, _, _, _ => none
  | k + 1, x1, x18, x472000, x472001, x472002, x472003, x472004, x472005, x472006, x472007, x472008, x472009, x472010, x472011, x472012, x472013 => if x18 = true then ((maquettelaw18_alive.f k).bind fun t473 => (some t473)) else ((clay_Put.f k x472000 x472001 x472002 x472003 x472004 x472005 x472006 x472007 x472008 x472009 x472010 x472011 x472012 x472013).bind fun bt474 => (if bt474.2 = true then (if (bt474.1.size : Int) = 0 then (some false) else ((clay_Get.f k bt474.1).bind fun bt476 => ((some (([(x1) % 256] : List Int) : List Int)).bind fun y494 => (if 1 ≤ (bt474.1.size : Int) then (if (strOfNums y494).size + (bt474.1.extract 1 bt474.1.size).size ≤ 9223372036854775807 then ((clay_Get.f k ((strOfNums y494) ++ (bt474.1.extract 1 bt474.1.size))).bind fun bt497 => (if bt476.2.2.2.2.2.2.2.2.2.2.2.2.2.2 = true then (if bt476.2.1 = x472001 then (if ((((x1) % 256) == ((x472001) % 256)) == bt497.2.2.2.2.2.2.2.2.2.2.2.2.2.2) = true then (if bt497.2.2.2.2.2.2.2.2.2.2.2.2.2.2 = true then (maquettelaw18_ClayKinds.j1 k true) else (maquettelaw18_ClayKinds.j1 k (bt497.2.1 == 0))) else (maquettelaw18_ClayKinds.j1 k false)) else (maquettelaw18_ClayKinds.j1 k false)) else (maquettelaw18_ClayKinds.j1 k false))) else (none)) else (none))))) else (some true)))
def maquettelaw18_ClayKinds.j1 : Nat → Bool → Option (Bool)
  | 0, _ => none
  | k + 1, x4 => some x4
end
def maquettelaw18_ClayKinds.f (k : Nat) (a0_0 : Int) (a0_1 : Int) (a0_2 : Int) (a0_3 : Int) (a0_4 : Int) (a0_5 : Int) (a0_6 : Int) (a0_7 : Int) (a0_8 : Int) (a0_9 : Int) (a0_10 : Int) (a0_11 : Int) (a0_12 : Int) (l0_13 : List Int) (a1 : Int) : Option (Bool) := if (l0_13.length : Int) > 20 then (maquettelaw18_ClayKinds.j0 k a1 true a0_0 a0_1 a0_2 a0_3 a0_4 a0_5 a0_6 a0_7 a0_8 a0_9 a0_10 a0_11 a0_12 l0_13) else ((maquettelaw18_alive.f k).bind fun t472 => (maquettelaw18_ClayKinds.j0 k a1 (!t472) a0_0 a0_1 a0_2 a0_3 a0_4 a0_5 a0_6 a0_7 a0_8 a0_9 a0_10 a0_11 a0_12 l0_13))
theorem maquettelaw18_ClayKinds.mono_l : ∀ k, (∀ y0 y1 y2 y3 y4 y5 y6 y7 y8 y9 y10 y11 y12 y13 y14 y15, LeO (maquettelaw18_ClayKinds.j0 k y0 y1 y2 y3 y4 y5 y6 y7 y8 y9 y10 y11 y12 y13 y14 y15) (maquettelaw18_ClayKinds.j0 (k + 1) y0 y1 y2 y3 y4 y5 y6 y7 y8 y9 y10 y11 y12 y13 y14 y15)) ∧ (∀ y0, LeO (maquettelaw18_ClayKinds.j1 k y0) (maquettelaw18_ClayKinds.j1 (k + 1) y0))
  | 0 => ⟨fun _ _ _ _ _ _ _ _ _ _ _ _ _ _ _ _ r h => by simp [maquettelaw18_ClayKinds.j0] at h, fun _ r h => by simp [maquettelaw18_ClayKinds.j1] at h⟩
  | k + 1 => by
    obtain ⟨ih0, ih1⟩ := maquettelaw18_ClayKinds.mono_l k
    refine ⟨?_, ?_⟩
    · intro y0 y1 y2 y3 y4 y5 y6 y7 y8 y9 y10 y11 y12 y13 y14 y15
      unfold maquettelaw18_ClayKinds.j0
      repeat' first
      | (with_reducible exact ih0 _ _ _ _ _ _ _ _ _ _ _ _ _ _ _ _)
      | (with_reducible exact ih1 _)
      | (with_reducible exact clay_Get.mono _ _)
      | (with_reducible exact clay_Put.mono _ _ _ _ _ _ _ _ _ _ _ _ _ _ _)
      | (with_reducible exact maquettelaw18_alive.mono _)
      | (with_reducible exact LeO.refl _)
      | (with_reducible exact LeO.none _)
      | (with_reducible refine LeO.ite ?_ ?_)
      | (with_reducible refine LeO.bind ?_ (fun _ => ?_))
      | exact ih0 _ _ _ _ _ _ _ _ _ _ _ _ _ _ _ _
      | exact ih1 _
      | exact clay_Get.mono _ _
      | exact clay_Put.mono _ _ _ _ _ _ _ _ _ _ _ _ _ _ _
      | exact maquettelaw18_alive.mono _
      | exact LeO.none _
      | refine LeO.ite ?_ ?_
      | refine LeO.bind ?_ (fun _ => ?_)
    · intro y0
      unfold maquettelaw18_ClayKinds.j1
      repeat' first
      | (with_reducible exact ih0 _ _ _ _ _ _ _ _ _ _ _ _ _ _ _ _)
      | (with_reducible exact ih1 _)
      | (with_reducible exact clay_Get.mono _ _)
      | (with_reducible exact clay_Put.mono _ _ _ _ _ _ _ _ _ _ _ _ _ _ _)
      | (with_reducible exact maquettelaw18_alive.mono _)
      | (with_reducible exact LeO.refl _)
      | (with_reducible exact LeO.none _)
      | (with_reducible refine LeO.ite ?_ ?_)
      | (with_reducible refine LeO.bind ?_ (fun _ => ?_))
      | exact ih0 _ _ _ _ _ _ _ _ _ _ _ _ _ _ _ _
      | exact ih1 _
      | exact clay_Get.mono _ _
      | exact clay_Put.mono _ _ _ _ _ _ _ _ _ _ _ _ _ _ _
      | exact maquettelaw18_alive.mono _
      | exact LeO.none _
      | refine LeO.ite ?_ ?_
      | refine LeO.bind ?_ (fun _ => ?_)
theorem maquettelaw18_ClayKinds.mono : ∀ a0 a1 a2 a3 a4 a5 a6 a7 a8 a9 a10 a11 a12 a13 a14 k, LeO (maquettelaw18_ClayKinds.f k a0 a1 a2 a3 a4 a5 a6 a7 a8 a9 a10 a11 a12 a13 a14) (maquettelaw18_ClayKinds.f (k + 1) a0 a1 a2 a3 a4 a5 a6 a7 a8 a9 a10 a11 a12 a13 a14) := by
  intro a0 a1 a2 a3 a4 a5 a6 a7 a8 a9 a10 a11 a12 a13 a14 k
  obtain ⟨ih0, ih1⟩ := maquettelaw18_ClayKinds.mono_l k
  unfold maquettelaw18_ClayKinds.f
  repeat' first
      | (with_reducible exact ih0 _ _ _ _ _ _ _ _ _ _ _ _ _ _ _ _)
      | (with_reducible exact ih1 _)
      | (with_reducible exact clay_Get.mono _ _)
      | (with_reducible exact clay_Put.mono _ _ _ _ _ _ _ _ _ _ _ _ _ _ _)
      | (with_reducible exact maquettelaw18_alive.mono _)
      | (with_reducible exact LeO.refl _)
      | (with_reducible exact LeO.none _)
      | (with_reducible refine LeO.ite ?_ ?_)
      | (with_reducible refine LeO.bind ?_ (fun _ => ?_))
      | exact ih0 _ _ _ _ _ _ _ _ _ _ _ _ _ _ _ _
      | exact ih1 _
      | exact clay_Get.mono _ _
      | exact clay_Put.mono _ _ _ _ _ _ _ _ _ _ _ _ _ _ _
      | exact maquettelaw18_alive.mono _
      | exact LeO.none _
      | refine LeO.ite ?_ ?_
      | refine LeO.bind ?_ (fun _ => ?_)
def maquettelaw18_ClayKinds.T9 : Bool × List (List Nat × List Nat) := (true, [([], []), ([0], [0]), ([1], [1]), ([2], [2]), ([], []), ([4], [4]), ([3, 5], [3, 5]), ([6], [6]), ([7], [7]), ([8], [8]), ([8], [8]), ([], []), ([11, 9, 7, 0, 1, 2, 3, 4, 5, 6, 7, 8, 9, 11], [9, 11]), ([10, 12, 0, 1, 2, 3, 4, 5, 6, 7, 8, 9, 10, 11, 12], [10])])
def maquettelaw18_ClayKinds.B9 : List Nat := [0, 1, 3, 7, 0, 16, 63, 127, 255, 511, 511, 0, 3071, 8191]
theorem maquettelaw18_ClayKinds.tab9 : rtab .any (opsOf Try.f10 9) = maquettelaw18_ClayKinds.T9 := by kernel_rfl
theorem maquettelaw18_ClayKinds.bits9 : waitsOk maquettelaw18_ClayKinds.T9.2 maquettelaw18_ClayKinds.B9 = true := by kernel_rfl
set_option maxHeartbeats 8000000 in
set_option maxRecDepth 100000 in
theorem maquettelaw18_ClayKinds.calls (k : Nat) (a0_0 : Int) (a0_1 : Int) (a0_2 : Int) (a0_3 : Int) (a0_4 : Int) (a0_5 : Int) (a0_6 : Int) (a0_7 : Int) (a0_8 : Int) (a0_9 : Int) (a0_10 : Int) (a0_11 : Int) (a0_12 : Int) (A0_13 : Option Addr) (c0_13 : Nat) (l0_13 : List Int) (a1 : Int) (r : Bool) (w : World) (hr0_13 : Kd.C (Kd.int .i64) w A0_13 l0_13.length l0_13) (hc0_13 : l0_13.length ≤ c0_13) (h : maquettelaw18_ClayKinds.f k a0_0 a0_1 a0_2 a0_3 a0_4 a0_5 a0_6 a0_7 a0_8 a0_9 a0_10 a0_11 a0_12 l0_13 a1 = some r) :
    Calls Try.prog 10 #[.agg #[.int .i64 a0_0,.int .i64 a0_1,.int .i64 a0_2,.int .i64 a0_3,.int .i64 a0_4,.int .i64 a0_5,.int .i64 a0_6,.int .i64 a0_7,.int .i64 a0_8,.int .i64 a0_9,.int .i64 a0_10,.int .i64 a0_11,.int .i64 a0_12,.slice A0_13 l0_13.length c0_13],.int .i64 a1] w fun e w' => e = .returned (.bool r) ∧ Below w.heap.size w w':=by
 have hu31:=Try.underlying31
 have HR0_13:=Aside0.mk hr0_13
 have HC0_13:=Aside0.mk hc0_13
 clear hr0_13 hc0_13
 have HB:=Aside0.mk (Below.refl w.heap.size w)
 have H : (if (l0_13.length : Int) > 20 then (maquettelaw18_ClayKinds.j0 k a1 true a0_0 a0_1 a0_2 a0_3 a0_4 a0_5 a0_6 a0_7 a0_8 a0_9 a0_10 a0_11 a0_12 l0_13) else ((maquettelaw18_alive.f k).bind fun t472 => (maquettelaw18_ClayKinds.j0 k a1 (!t472) a0_0 a0_1 a0_2 a0_3 a0_4 a0_5 a0_6 a0_7 a0_8 a0_9 a0_10 a0_11 a0_12 l0_13))) = some r:=h
 clear h
 have HC3:=Aside0.mk H
 clear H
 go_enter Try.func10,Try.ntmps10
 go_upto_region 1 with (first | ((with_reducible refine gate_dst (N:=2) rfl ?_); refine box_event ?hg (N:=2) ?hd (cs:=#[.int .i64 a0_0,.int .i64 a0_1,.int .i64 a0_2,.int .i64 a0_3,.int .i64 a0_4,.int .i64 a0_5,.int .i64 a0_6,.int .i64 a0_7,.int .i64 a0_8,.int .i64 a0_9,.int .i64 a0_10,.int .i64 a0_11,.int .i64 a0_12,.slice A0_13 l0_13.length c0_13]) (t:=31) ?hr ?_; (case hd => rfl); (case hg => rfl); (case hr => first | (go_simp; done) | (go_simp; rfl)); intro gb471 hg w4 hbox hb; have n0_:=Aside0.mk (below_step (by repeat (first | (with_reducible first | exact HB.out | apply below_alloc | apply pw_below_drewN | apply below_drew1) | exact HB.out)) hb); have n1_:=Aside0.mk (hbox); have n2_:=Aside0.mk ((by rw [hg]; exact (below_size (by repeat (first | (with_reducible first | exact HB.out | apply below_alloc | apply pw_below_drewN | apply below_drew1) | exact HB.out))) : w.heap.size ≤ gb471)); have n3_:=Aside0.mk ((by rw [hg]; exact (below_size (by repeat (first | (with_reducible first | exact HB.out | apply below_alloc | apply pw_below_drewN | apply below_drew1) | exact HB.out))) : w.heap.size ≤ gb471)); clear HB; have HB:=n0_; have BK471:=n1_; have GW471:=n2_; have GE471:=n3_; clear n0_ n1_ n2_ n3_; clear hb hbox hg))
 (try simp only [Act.put,List.setIfInBounds_toArray,List.set_cons_zero,List.set_cons_succ])
 go_cut [18] (fun v18 wc => ∃ (kq : Nat) (x18_2 : Bool),v18 = .bool x18_2 ∧ Aside0 (maquettelaw18_ClayKinds.j0 kq a1 x18_2 a0_0 a0_1 a0_2 a0_3 a0_4 a0_5 a0_6 a0_7 a0_8 a0_9 a0_10 a0_11 a0_12 l0_13 = some r) ∧ Aside0 (kq ≤ k) ∧ Aside0 (wc.heap[gb471]? = some (.cells #[.int .i64 a0_0,.int .i64 a0_1,.int .i64 a0_2,.int .i64 a0_3,.int .i64 a0_4,.int .i64 a0_5,.int .i64 a0_6,.int .i64 a0_7,.int .i64 a0_8,.int .i64 a0_9,.int .i64 a0_10,.int .i64 a0_11,.int .i64 a0_12,(.slice A0_13 l0_13.length c0_13)] 31 (0,0))) ∧ Aside0 (Below w.heap.size w wc))
 case first =>
  have H:=HC3.out
  clear HC3
  by_cases c5 : (l0_13.length : Int) > 20
  ·rw [if_pos c5] at H
   have c5b0 : decide (20 < (l0_13.length : Int)) = true:=decide_eq_true c5
   have c5b1 : decide (20 < l0_13.length) = true:=decide_eq_true (by omega)
   clear c5
   (first | rw [c5b0] | (simp only [i64_w,i32_w]; rw [c5b0]) | skip)
   have H':=Aside0.mk H
   clear H
   obtain ⟨hcz6_0,hcz6_1,hcz6_2,hcz6_3,hcz6_4,hcz6_5,hcz6_6,hcz6_7,hcz6_8,hcz6_9,hcz6_10,hcz6_11,hcz6_12,hcz6_13⟩:=cl14 BK471.out
   obtain ⟨hfz6_0,hfz6_1,hfz6_2,hfz6_3,hfz6_4,hfz6_5,hfz6_6,hfz6_7,hfz6_8,hfz6_9,hfz6_10,hfz6_11,hfz6_12,hfz6_13⟩:=fz14 BK471.out
   go_wp2
   go_meet
   case rel => exact ⟨_,(true),(by first | rfl | (simp; done) | (simp [*]; done)),H',⟨by first | omega | exact Nat.le_refl _⟩,⟨by (with_reducible repeat (first | refine blk_drewN ?_ _ | refine blk_drew ?_ | refine blk_alloc ?_ _)); exact BK471.out⟩,⟨by repeat (first | (with_reducible first | exact HB.out | apply below_alloc | apply pw_below_drewN | apply below_drew1 | refine below_set ?_ GE471.out) | exact HB.out)⟩⟩
  rw [if_neg c5] at H
  have c5b0 : decide (20 < (l0_13.length : Int)) = false:=decide_eq_false c5
  have c5b1 : decide (20 < l0_13.length) = false:=decide_eq_false (by omega)
  clear c5
  (first | rw [c5b0] | (simp only [i64_w,i32_w]; rw [c5b0]) | skip)
  replace H:=Option.bind_eq_some_iff.mp H
  obtain ⟨t472,A70,H⟩:=H
  replace H : (maquettelaw18_ClayKinds.j0 k a1 (!t472) a0_0 a0_1 a0_2 a0_3 a0_4 a0_5 a0_6 a0_7 a0_8 a0_9 a0_10 a0_11 a0_12 l0_13) = some r:=H
  have A7:=Aside0.mk A70
  clear A70
  have H':=Aside0.mk H
  clear H
  obtain ⟨hcz8_0,hcz8_1,hcz8_2,hcz8_3,hcz8_4,hcz8_5,hcz8_6,hcz8_7,hcz8_8,hcz8_9,hcz8_10,hcz8_11,hcz8_12,hcz8_13⟩:=cl14 BK471.out
  obtain ⟨hfz8_0,hfz8_1,hfz8_2,hfz8_3,hfz8_4,hfz8_5,hfz8_6,hfz8_7,hfz8_8,hfz8_9,hfz8_10,hfz8_11,hfz8_12,hfz8_13⟩:=fz14 BK471.out
  go_wp2_with (first | (go_at_call 11; (with_reducible refine (maquettelaw18_alive.calls k  t472 _ A7.out).mono ?_); rintro e w9 ⟨rfl,hb⟩; have n0_:=Aside0.mk (blk_below (g:=gb471) (o:=.cells #[.int .i64 a0_0,.int .i64 a0_1,.int .i64 a0_2,.int .i64 a0_3,.int .i64 a0_4,.int .i64 a0_5,.int .i64 a0_6,.int .i64 a0_7,.int .i64 a0_8,.int .i64 a0_9,.int .i64 a0_10,.int .i64 a0_11,.int .i64 a0_12,.slice A0_13 l0_13.length c0_13] 31 (0,0)) (by (with_reducible repeat (first | refine blk_drewN ?_ _ | refine blk_drew ?_ | refine blk_alloc ?_ _)); exact BK471.out) hb); have n1_:=Aside0.mk (below_step (by repeat (first | (with_reducible first | exact HB.out | apply below_alloc | apply pw_below_drewN | apply below_drew1 | refine below_set ?_ GE471.out) | exact HB.out)) hb); clear BK471; clear HB; have BK471:=n0_; have HB:=n1_; clear n0_ n1_; (try clear hb); (try clear hb2); (try clear hk); (try clear hi)))
  go_meet
  case rel => exact ⟨_,(!t472),(by first | rfl | (simp; done) | (simp [*]; done)),H',⟨by first | omega | exact Nat.le_refl _⟩,⟨by (with_reducible repeat (first | refine blk_drewN ?_ _ | refine blk_drew ?_ | refine blk_alloc ?_ _)); exact BK471.out⟩,⟨by repeat (first | (with_reducible first | exact HB.out | apply below_alloc | apply pw_below_drewN | apply below_drew1 | refine below_set ?_ GE471.out) | exact HB.out)⟩⟩
 clear HC3
 (try clear c1); (try clear p2); (try clear c5); (try clear c5b0); (try clear c5b1); (try clear hcz6_0); (try clear hcz6_1); (try clear hcz6_10); (try clear hcz6_11); (try clear hcz6_12); (try clear hcz6_13); (try clear hcz6_2); (try clear hcz6_3); (try clear hcz6_4); (try clear hcz6_5); (try clear hcz6_6); (try clear hcz6_7); (try clear hcz6_8); (try clear hcz6_9); (try clear hcz8_0); (try clear hcz8_1); (try clear hcz8_10); (try clear hcz8_11); (try clear hcz8_12); (try clear hcz8_13); (try clear hcz8_2); (try clear hcz8_3); (try clear hcz8_4); (try clear hcz8_5); (try clear hcz8_6); (try clear hcz8_7); (try clear hcz8_8); (try clear hcz8_9); (try clear hfz6_0); (try clear hfz6_1); (try clear hfz6_10); (try clear hfz6_11); (try clear hfz6_12); (try clear hfz6_13); (try clear hfz6_2); (try clear hfz6_3); (try clear hfz6_4); (try clear hfz6_5); (try clear hfz6_6); (try clear hfz6_7); (try clear hfz6_8); (try clear hfz6_9); (try clear hfz8_0); (try clear hfz8_1); (try clear hfz8_10); (try clear hfz8_11); (try clear hfz8_12); (try clear hfz8_13); (try clear hfz8_2); (try clear hfz8_3); (try clear hfz8_4); (try clear hfz8_5); (try clear hfz8_6); (try clear hfz8_7); (try clear hfz8_8); (try clear hfz8_9)
 obtain ⟨kq,x18_2,rfl,HA,HJ2,BK471,HB⟩:=hcut
 cases kq with
 | zero => exact absurd HA.out (by simp [maquettelaw18_ClayKinds.j0])
 | succ kj2 =>
  have H:=HA.out
  clear HA
  simp only [maquettelaw18_ClayKinds.j0] at H
  by_cases c10 : x18_2 = true
  ·subst c10
   have H1 : ((maquettelaw18_alive.f kj2).bind fun t473 => (some t473)) = some r:=by rw [if_pos rfl] at H; exact H
   clear H
   have H:=H1
   clear H1
   replace H:=Option.bind_eq_some_iff.mp H
   obtain ⟨t473,A110,H⟩:=H
   replace H : (some t473) = some r:=H
   have A11:=Aside0.mk A110
   clear A110
   obtain rfl:=Option.some.inj H
   go_wp2_with (first | ((with_reducible refine gate_callee (f:=11) rfl ?_); refine goesL_ (some 19) rfl rfl Try.func11 (by kernel_rfl) rfl #[] rfl (by (try simp only [List.map_toArray,List.map_cons,List.map_nil]); first | done | rfl | (simp only [List.length_drop,List.length_take]; rfl) | (simp only [ByteArray.size_append,Int.natCast_add]; rfl) | (simp [ByteArray.size_append,Int.add_assoc]; done)) ?_; (with_reducible refine (maquettelaw18_alive.calls kj2  t473 _ A11.out).mono ?_); rintro e w12 ⟨rfl,hb⟩; refine ⟨_,rfl,?_⟩; have n0_:=Aside0.mk (blk_below (g:=gb471) (o:=.cells #[.int .i64 a0_0,.int .i64 a0_1,.int .i64 a0_2,.int .i64 a0_3,.int .i64 a0_4,.int .i64 a0_5,.int .i64 a0_6,.int .i64 a0_7,.int .i64 a0_8,.int .i64 a0_9,.int .i64 a0_10,.int .i64 a0_11,.int .i64 a0_12,.slice A0_13 l0_13.length c0_13] 31 (0,0)) (by (with_reducible repeat (first | refine blk_drewN ?_ _ | refine blk_drew ?_ | refine blk_alloc ?_ _)); exact BK471.out) hb); have n1_:=Aside0.mk (below_step (by repeat (first | (with_reducible first | exact HB.out | apply below_alloc | apply pw_below_drewN | apply below_drew1 | refine below_set ?_ GE471.out) | exact HB.out)) hb); clear BK471; clear HB; have BK471:=n0_; have HB:=n1_; clear n0_ n1_; (try clear hb); (try clear hb2); (try clear hk); (try clear hi)))
   go_ret
   exact ⟨by first | rfl | (simp [errW_none,errW_some] <;> rfl) | (simp [*,errW_none,errW_some] <;> rfl),by repeat (first | (with_reducible first | exact HB.out | apply below_alloc | apply pw_below_drewN | apply below_drew1 | refine below_set ?_ GE471.out) | exact HB.out)⟩
  replace c10:=Bool.eq_false_iff.mpr c10
  subst c10
  have H1 : ((clay_Put.f kj2 a0_0 a0_1 a0_2 a0_3 a0_4 a0_5 a0_6 a0_7 a0_8 a0_9 a0_10 a0_11 a0_12 l0_13).bind fun bt474 => (if bt474.2 = true then (if (bt474.1.size : Int) = 0 then (some false) else ((clay_Get.f kj2 bt474.1).bind fun bt476 => ((some (([(a1) % 256] : List Int) : List Int)).bind fun y494 => (if 1 ≤ (bt474.1.size : Int) then (if (strOfNums y494).size + (bt474.1.extract 1 bt474.1.size).size ≤ 9223372036854775807 then ((clay_Get.f kj2 ((strOfNums y494) ++ (bt474.1.extract 1 bt474.1.size))).bind fun bt497 => (if bt476.2.2.2.2.2.2.2.2.2.2.2.2.2.2 = true then (if bt476.2.1 = a0_1 then (if ((((a1) % 256) == ((a0_1) % 256)) == bt497.2.2.2.2.2.2.2.2.2.2.2.2.2.2) = true then (if bt497.2.2.2.2.2.2.2.2.2.2.2.2.2.2 = true then (maquettelaw18_ClayKinds.j1 kj2 true) else (maquettelaw18_ClayKinds.j1 kj2 (bt497.2.1 == 0))) else (maquettelaw18_ClayKinds.j1 kj2 false)) else (maquettelaw18_ClayKinds.j1 kj2 false)) else (maquettelaw18_ClayKinds.j1 kj2 false))) else (none)) else (none))))) else (some true))) = some r:=by rw [if_neg (show ¬ (false = true) by decide)] at H; exact H
  clear H
  have H:=H1
  clear H1
  replace H:=Option.bind_eq_some_iff.mp H
  obtain ⟨⟨t474,t475⟩,A130,H⟩:=H
  replace H : (if t475 = true then (if (t474.size : Int) = 0 then (some false) else ((clay_Get.f kj2 t474).bind fun bt476 => ((some (([(a1) % 256] : List Int) : List Int)).bind fun y494 => (if 1 ≤ (t474.size : Int) then (if (strOfNums y494).size + (t474.extract 1 t474.size).size ≤ 9223372036854775807 then ((clay_Get.f kj2 ((strOfNums y494) ++ (t474.extract 1 t474.size))).bind fun bt497 => (if bt476.2.2.2.2.2.2.2.2.2.2.2.2.2.2 = true then (if bt476.2.1 = a0_1 then (if ((((a1) % 256) == ((a0_1) % 256)) == bt497.2.2.2.2.2.2.2.2.2.2.2.2.2.2) = true then (if bt497.2.2.2.2.2.2.2.2.2.2.2.2.2.2 = true then (maquettelaw18_ClayKinds.j1 kj2 true) else (maquettelaw18_ClayKinds.j1 kj2 (bt497.2.1 == 0))) else (maquettelaw18_ClayKinds.j1 kj2 false)) else (maquettelaw18_ClayKinds.j1 kj2 false)) else (maquettelaw18_ClayKinds.j1 kj2 false))) else (none)) else (none))))) else (some true)) = some r:=H
  have A13:=Aside0.mk A130
  clear A130
  by_cases c14 : t475 = true
  ·subst c14
   have H1 : (if (t474.size : Int) = 0 then (some false) else ((clay_Get.f kj2 t474).bind fun bt476 => ((some (([(a1) % 256] : List Int) : List Int)).bind fun y494 => (if 1 ≤ (t474.size : Int) then (if (strOfNums y494).size + (t474.extract 1 t474.size).size ≤ 9223372036854775807 then ((clay_Get.f kj2 ((strOfNums y494) ++ (t474.extract 1 t474.size))).bind fun bt497 => (if bt476.2.2.2.2.2.2.2.2.2.2.2.2.2.2 = true then (if bt476.2.1 = a0_1 then (if ((((a1) % 256) == ((a0_1) % 256)) == bt497.2.2.2.2.2.2.2.2.2.2.2.2.2.2) = true then (if bt497.2.2.2.2.2.2.2.2.2.2.2.2.2.2 = true then (maquettelaw18_ClayKinds.j1 kj2 true) else (maquettelaw18_ClayKinds.j1 kj2 (bt497.2.1 == 0))) else (maquettelaw18_ClayKinds.j1 kj2 false)) else (maquettelaw18_ClayKinds.j1 kj2 false)) else (maquettelaw18_ClayKinds.j1 kj2 false))) else (none)) else (none))))) = some r:=by rw [if_pos rfl] at H; exact H
   clear H
   have H:=H1
   clear H1
   by_cases c15 : (t474.size : Int) = 0
   ·rw [if_pos c15] at H
    have c15b0 : ((t474.size : Int) == 0) = true:=beq_iff_eq.mpr c15
    have c15b1 : ((t474.size : Int) != 0) = false:=bne_eq_false_iff_eq.mpr c15
    clear c15
    obtain rfl:=Option.some.inj H
    obtain ⟨hcz16_0,hcz16_1,hcz16_2,hcz16_3,hcz16_4,hcz16_5,hcz16_6,hcz16_7,hcz16_8,hcz16_9,hcz16_10,hcz16_11,hcz16_12,hcz16_13⟩:=cl14 BK471.out
    obtain ⟨hfz16_0,hfz16_1,hfz16_2,hfz16_3,hfz16_4,hfz16_5,hfz16_6,hfz16_7,hfz16_8,hfz16_9,hfz16_10,hfz16_11,hfz16_12,hfz16_13⟩:=fz14 BK471.out
    go_wp2_with (first | ((with_reducible refine gate_callee (f:=13) rfl ?_); refine goesL_ (some 22) rfl rfl Try.func13 (by kernel_rfl) rfl #[.agg #[.int .i64 a0_0,.int .i64 a0_1,.int .i64 a0_2,.int .i64 a0_3,.int .i64 a0_4,.int .i64 a0_5,.int .i64 a0_6,.int .i64 a0_7,.int .i64 a0_8,.int .i64 a0_9,.int .i64 a0_10,.int .i64 a0_11,.int .i64 a0_12,.slice A0_13 l0_13.length c0_13]] rfl (by (try simp only [List.map_toArray,List.map_cons,List.map_nil]); first | done | rfl | (simp only [List.length_drop,List.length_take]; rfl) | (simp only [ByteArray.size_append,Int.natCast_add]; rfl) | (simp [ByteArray.size_append,Int.add_assoc]; done)) ?_; (with_reducible refine (clay_Put.calls kj2 a0_0 a0_1 a0_2 a0_3 a0_4 a0_5 a0_6 a0_7 a0_8 a0_9 a0_10 a0_11 a0_12 _ _ l0_13 t474 true _ ?side1 ?side2 A13.out).mono ?_); (case side1 => repeat (first | exact (Kd.C_below HR0_13.out HB.out) | (with_reducible refine Kd.C_alloc ?_ _) | (with_reducible refine Kd.C_drewN ?_ _) | (with_reducible refine Kd.C_drew ?_))); (case side2 => exact HC0_13.out); rintro e w17 ⟨rfl,hb⟩; refine ⟨_,rfl,?_⟩; have n0_:=Aside0.mk (blk_below (g:=gb471) (o:=.cells #[.int .i64 a0_0,.int .i64 a0_1,.int .i64 a0_2,.int .i64 a0_3,.int .i64 a0_4,.int .i64 a0_5,.int .i64 a0_6,.int .i64 a0_7,.int .i64 a0_8,.int .i64 a0_9,.int .i64 a0_10,.int .i64 a0_11,.int .i64 a0_12,.slice A0_13 l0_13.length c0_13] 31 (0,0)) (by (with_reducible repeat (first | refine blk_drewN ?_ _ | refine blk_drew ?_ | refine blk_alloc ?_ _)); exact BK471.out) hb); have n1_:=Aside0.mk (below_step (by repeat (first | (with_reducible first | exact HB.out | apply below_alloc | apply pw_below_drewN | apply below_drew1 | refine below_set ?_ GE471.out) | exact HB.out)) hb); clear BK471; clear HB; have BK471:=n0_; have HB:=n1_; clear n0_ n1_; (try clear hb); (try clear hb2); (try clear hk); (try clear hi)))
    go_ret
    exact ⟨by first | rfl | (simp [errW_none,errW_some] <;> rfl) | (simp [*,errW_none,errW_some] <;> rfl),by repeat (first | (with_reducible first | exact HB.out | apply below_alloc | apply pw_below_drewN | apply below_drew1 | refine below_set ?_ GE471.out) | exact HB.out)⟩
   rw [if_neg c15] at H
   have c15b0 : ((t474.size : Int) == 0) = false:=beq_eq_false_iff_ne.mpr c15
   have c15b1 : ((t474.size : Int) != 0) = true:=bne_iff_ne.mpr c15
   replace H:=Option.bind_eq_some_iff.mp H
   obtain ⟨⟨t476,t477,t478,t479,t480,t481,t482,t483,t484,t485,t486,t487,t488,t489,t492⟩,A180,H⟩:=H
   replace H : ((some (([(a1) % 256] : List Int) : List Int)).bind fun y494 => (if 1 ≤ (t474.size : Int) then (if (strOfNums y494).size + (t474.extract 1 t474.size).size ≤ 9223372036854775807 then ((clay_Get.f kj2 ((strOfNums y494) ++ (t474.extract 1 t474.size))).bind fun bt497 => (if t492 = true then (if t477 = a0_1 then (if ((((a1) % 256) == ((a0_1) % 256)) == bt497.2.2.2.2.2.2.2.2.2.2.2.2.2.2) = true then (if bt497.2.2.2.2.2.2.2.2.2.2.2.2.2.2 = true then (maquettelaw18_ClayKinds.j1 kj2 true) else (maquettelaw18_ClayKinds.j1 kj2 (bt497.2.1 == 0))) else (maquettelaw18_ClayKinds.j1 kj2 false)) else (maquettelaw18_ClayKinds.j1 kj2 false)) else (maquettelaw18_ClayKinds.j1 kj2 false))) else (none)) else (none))) = some r:=H
   have A18:=Aside0.mk A180
   clear A180
   obtain ⟨y494,hy494⟩ : ∃ y_ : List Int,y_ = (([(a1) % 256] : List Int)):=⟨_,rfl⟩
   replace H : (if 1 ≤ (t474.size : Int) then (if (strOfNums y494).size + (t474.extract 1 t474.size).size ≤ 9223372036854775807 then ((clay_Get.f kj2 ((strOfNums y494) ++ (t474.extract 1 t474.size))).bind fun bt497 => (if t492 = true then (if t477 = a0_1 then (if ((((a1) % 256) == ((a0_1) % 256)) == bt497.2.2.2.2.2.2.2.2.2.2.2.2.2.2) = true then (if bt497.2.2.2.2.2.2.2.2.2.2.2.2.2.2 = true then (maquettelaw18_ClayKinds.j1 kj2 true) else (maquettelaw18_ClayKinds.j1 kj2 (bt497.2.1 == 0))) else (maquettelaw18_ClayKinds.j1 kj2 false)) else (maquettelaw18_ClayKinds.j1 kj2 false)) else (maquettelaw18_ClayKinds.j1 kj2 false))) else (none)) else (none)) = some r:=by first | (rw [hy494]; with_reducible exact H) | (have H2_:=(Option.bind_some _ _).symm.trans H; rw [hy494]; with_reducible exact H2_) | (have H2_:=(Option.bind_some _ _).symm.trans H; with_reducible exact H2_) | with_reducible exact H | (rw [hy494]; exact H) | exact H
   have Ny494:=Aside0.mk hy494
   clear hy494
   by_cases c19 : 1 ≤ (t474.size : Int)
   ·rw [if_pos c19] at H
    have c19b0:=eq_true c19
    have c19b1 : decide (1 ≤ (t474.size : Int)) = true:=decide_eq_true c19
    clear c19
    by_cases c20 : (strOfNums y494).size + (t474.extract 1 t474.size).size ≤ 9223372036854775807
    ·rw [if_pos c20] at H
     have c20b0:=eq_true c20
     have c20b1 : decide ((strOfNums y494).size + (t474.extract 1 t474.size).size ≤ 9223372036854775807) = true:=decide_eq_true c20
     try have c20b2 : (9223372036854775807 < (strOfNums y494).size + (t474.extract 1 t474.size).size) = False:=eq_false (Nat.not_lt.2 c20)
     replace H:=Option.bind_eq_some_iff.mp H
     obtain ⟨⟨t497,t498,t499,t500,t501,t502,t503,t504,t505,t506,t507,t508,t509,t510,t513⟩,A210,H⟩:=H
     replace H : (if t492 = true then (if t477 = a0_1 then (if ((((a1) % 256) == ((a0_1) % 256)) == t513) = true then (if t513 = true then (maquettelaw18_ClayKinds.j1 kj2 true) else (maquettelaw18_ClayKinds.j1 kj2 (t498 == 0))) else (maquettelaw18_ClayKinds.j1 kj2 false)) else (maquettelaw18_ClayKinds.j1 kj2 false)) else (maquettelaw18_ClayKinds.j1 kj2 false)) = some r:=H
     have A21:=Aside0.mk A210
     clear A210
     have HC22:=Aside0.mk H
     clear H
     obtain ⟨hcz23_0,hcz23_1,hcz23_2,hcz23_3,hcz23_4,hcz23_5,hcz23_6,hcz23_7,hcz23_8,hcz23_9,hcz23_10,hcz23_11,hcz23_12,hcz23_13⟩:=cl14 BK471.out
     obtain ⟨hfz23_0,hfz23_1,hfz23_2,hfz23_3,hfz23_4,hfz23_5,hfz23_6,hfz23_7,hfz23_8,hfz23_9,hfz23_10,hfz23_11,hfz23_12,hfz23_13⟩:=fz14 BK471.out
     try go_wp2_with (first | ((with_reducible refine gate_callee (f:=13) rfl ?_); refine goesL_ (some 22) rfl rfl Try.func13 (by kernel_rfl) rfl #[.agg #[.int .i64 a0_0,.int .i64 a0_1,.int .i64 a0_2,.int .i64 a0_3,.int .i64 a0_4,.int .i64 a0_5,.int .i64 a0_6,.int .i64 a0_7,.int .i64 a0_8,.int .i64 a0_9,.int .i64 a0_10,.int .i64 a0_11,.int .i64 a0_12,.slice A0_13 l0_13.length c0_13]] rfl (by (try simp only [List.map_toArray,List.map_cons,List.map_nil]); first | done | rfl | (simp only [List.length_drop,List.length_take]; rfl) | (simp only [ByteArray.size_append,Int.natCast_add]; rfl) | (simp [ByteArray.size_append,Int.add_assoc]; done)) ?_; (with_reducible refine (clay_Put.calls kj2 a0_0 a0_1 a0_2 a0_3 a0_4 a0_5 a0_6 a0_7 a0_8 a0_9 a0_10 a0_11 a0_12 _ _ l0_13 t474 true _ ?side1 ?side2 A13.out).mono ?_); (case side1 => repeat (first | exact (Kd.C_below HR0_13.out HB.out) | (with_reducible refine Kd.C_alloc ?_ _) | (with_reducible refine Kd.C_drewN ?_ _) | (with_reducible refine Kd.C_drew ?_))); (case side2 => exact HC0_13.out); rintro e w24 ⟨rfl,hb⟩; refine ⟨_,rfl,?_⟩; have n0_:=Aside0.mk (blk_below (g:=gb471) (o:=.cells #[.int .i64 a0_0,.int .i64 a0_1,.int .i64 a0_2,.int .i64 a0_3,.int .i64 a0_4,.int .i64 a0_5,.int .i64 a0_6,.int .i64 a0_7,.int .i64 a0_8,.int .i64 a0_9,.int .i64 a0_10,.int .i64 a0_11,.int .i64 a0_12,.slice A0_13 l0_13.length c0_13] 31 (0,0)) (by (with_reducible repeat (first | refine blk_drewN ?_ _ | refine blk_drew ?_ | refine blk_alloc ?_ _)); exact BK471.out) hb); have n1_:=Aside0.mk (below_step (by repeat (first | (with_reducible first | exact HB.out | apply below_alloc | apply pw_below_drewN | apply below_drew1 | refine below_set ?_ GE471.out) | exact HB.out)) hb); clear BK471; clear HB; have BK471:=n0_; have HB:=n1_; clear n0_ n1_; (try clear hb); (try clear hb2); (try clear hk); (try clear hi)) | ((with_reducible refine gate_callee (f:=15) rfl ?_); refine goesL_ (some 32) rfl rfl Try.func15 (by kernel_rfl) rfl #[.string t474] rfl (by (try simp only [List.map_toArray,List.map_cons,List.map_nil]); first | done | rfl | (simp only [List.length_drop,List.length_take]; rfl) | (simp only [ByteArray.size_append,Int.natCast_add]; rfl) | (simp [ByteArray.size_append,Int.add_assoc]; done)) ?_; (with_reducible refine (clay_Get.calls kj2 t474 t476 t477 t478 t479 t480 t481 t482 t483 t484 t485 t486 t487 t488 t489 t492 _ A18.out).mono ?_); rintro e w25 ⟨v490,rfl,ho0,hb⟩; refine ⟨_,rfl,?_⟩; have n0_:=Aside0.mk (Kd.R_lower ho0 (below_size (by repeat (first | (with_reducible first | exact HB.out | apply below_alloc | apply pw_below_drewN | apply below_drew1 | refine below_set ?_ GE471.out) | exact HB.out)))); have n1_:=Aside0.mk (blk_below (g:=gb471) (o:=.cells #[.int .i64 a0_0,.int .i64 a0_1,.int .i64 a0_2,.int .i64 a0_3,.int .i64 a0_4,.int .i64 a0_5,.int .i64 a0_6,.int .i64 a0_7,.int .i64 a0_8,.int .i64 a0_9,.int .i64 a0_10,.int .i64 a0_11,.int .i64 a0_12,.slice A0_13 l0_13.length c0_13] 31 (0,0)) (by (with_reducible repeat (first | refine blk_drewN ?_ _ | refine blk_drew ?_ | refine blk_alloc ?_ _)); exact BK471.out) hb); have n2_:=Aside0.mk (below_step (by repeat (first | (with_reducible first | exact HB.out | apply below_alloc | apply pw_below_drewN | apply below_drew1 | refine below_set ?_ GE471.out) | exact HB.out)) hb); clear BK471; clear HB; have HO491:=n0_; have BK471:=n1_; have HB:=n2_; clear n0_ n1_ n2_; (try clear hb); (try clear hb2); (try clear hk); (try clear hi); (try clear ho0)) | ((with_reducible refine gate_dst (N:=7) rfl ?_); refine box_event ?hg (N:=7) ?hd (cs:=#[.int .i64 0,.int .i64 0,.int .i64 0,.int .i64 0,.int .i64 0,.int .i64 0,.int .i64 0,.int .i64 0,.int .i64 0,.int .i64 0,.int .i64 0,.int .i64 0,.int .i64 0,.slice none 0 0]) (t:=31) ?hr ?_; (case hd => rfl); (case hg => rfl); (case hr => first | (go_simp; done) | (go_simp; rfl)); intro gb493 hg w26 hbox hb; have n0_:=Aside0.mk (Kd.R_below (by (with_reducible repeat (first | apply Kd.R_alloc | apply Kd.R_drewN | apply Kd.R_drew)); exact HO491.out) hb); have n1_:=Aside0.mk (blk_below (g:=gb471) (o:=.cells #[.int .i64 a0_0,.int .i64 a0_1,.int .i64 a0_2,.int .i64 a0_3,.int .i64 a0_4,.int .i64 a0_5,.int .i64 a0_6,.int .i64 a0_7,.int .i64 a0_8,.int .i64 a0_9,.int .i64 a0_10,.int .i64 a0_11,.int .i64 a0_12,.slice A0_13 l0_13.length c0_13] 31 (0,0)) (by (with_reducible repeat (first | refine blk_drewN ?_ _ | refine blk_drew ?_ | refine blk_alloc ?_ _)); exact BK471.out) hb); have n2_:=Aside0.mk (below_step (by repeat (first | (with_reducible first | exact HB.out | apply below_alloc | apply pw_below_drewN | apply below_drew1 | refine below_set ?_ GE471.out) | exact HB.out)) hb); have n3_:=Aside0.mk (hbox); have n4_:=Aside0.mk ((by rw [hg]; exact (below_size (by repeat (first | (with_reducible first | exact HB.out | apply below_alloc | apply pw_below_drewN | apply below_drew1 | refine below_set ?_ GE471.out) | exact HB.out))) : w.heap.size ≤ gb493)); have n5_:=Aside0.mk ((by rw [hg]; exact (below_size (by repeat (first | (with_reducible first | exact HB.out | apply below_alloc | apply pw_below_drewN | apply below_drew1 | refine below_set ?_ GE471.out) | exact HB.out))) : w.heap.size ≤ gb493)); have n6_:=Aside0.mk ((by rw [hg]; exact Nat.ne_of_lt (blk_lt (g:=gb471) (o:=.cells #[.int .i64 a0_0,.int .i64 a0_1,.int .i64 a0_2,.int .i64 a0_3,.int .i64 a0_4,.int .i64 a0_5,.int .i64 a0_6,.int .i64 a0_7,.int .i64 a0_8,.int .i64 a0_9,.int .i64 a0_10,.int .i64 a0_11,.int .i64 a0_12,.slice A0_13 l0_13.length c0_13] 31 (0,0)) (by (with_reducible repeat (first | refine blk_drewN ?_ _ | refine blk_drew ?_ | refine blk_alloc ?_ _)); exact BK471.out)) : gb471 ≠ gb493)); have n7_:=Aside0.mk ((by rw [hg]; exact Nat.ne_of_gt (blk_lt (g:=gb471) (o:=.cells #[.int .i64 a0_0,.int .i64 a0_1,.int .i64 a0_2,.int .i64 a0_3,.int .i64 a0_4,.int .i64 a0_5,.int .i64 a0_6,.int .i64 a0_7,.int .i64 a0_8,.int .i64 a0_9,.int .i64 a0_10,.int .i64 a0_11,.int .i64 a0_12,.slice A0_13 l0_13.length c0_13] 31 (0,0)) (by (with_reducible repeat (first | refine blk_drewN ?_ _ | refine blk_drew ?_ | refine blk_alloc ?_ _)); exact BK471.out)) : gb493 ≠ gb471)); clear HO491; clear BK471; clear HB; have HO491:=n0_; have BK471:=n1_; have HB:=n2_; have BK493:=n3_; have GW493:=n4_; have GE493:=n5_; have NB471_493:=n6_; have NB493_471:=n7_; clear n0_ n1_ n2_ n3_ n4_ n5_ n6_ n7_; clear hb hbox hg; have hnb27:=NB493_471.out; have hnc27:=NB471_493.out; obtain ⟨hcz28_0,hcz28_1,hcz28_2,hcz28_3,hcz28_4,hcz28_5,hcz28_6,hcz28_7,hcz28_8,hcz28_9,hcz28_10,hcz28_11,hcz28_12,hcz28_13⟩:=cl14 BK493.out; obtain ⟨hfz28_0,hfz28_1,hfz28_2,hfz28_3,hfz28_4,hfz28_5,hfz28_6,hfz28_7,hfz28_8,hfz28_9,hfz28_10,hfz28_11,hfz28_12,hfz28_13⟩:=fz14 BK493.out; obtain ⟨Ao29,co29,eo29⟩:=Kd.R_slice HO491.out; subst eo29))
     have n0_ : Aside0 (Kd.R (Kd.int .i64) 3 ((((((((((((((w26.setCell ⟨gb493,0,none⟩ (.int .i64 t476)).setCell ⟨gb493,1,none⟩ (.int .i64 t477)).setCell ⟨gb493,2,none⟩ (.int .i64 t478)).setCell ⟨gb493,3,none⟩ (.int .i64 t479)).setCell ⟨gb493,4,none⟩ (.int .i64 t480)).setCell ⟨gb493,5,none⟩ (.int .i64 t481)).setCell ⟨gb493,6,none⟩ (.int .i64 t482)).setCell ⟨gb493,7,none⟩ (.int .i64 t483)).setCell ⟨gb493,8,none⟩ (.int .i64 t484)).setCell ⟨gb493,9,none⟩ (.int .i64 t485)).setCell ⟨gb493,10,none⟩ (.int .i64 t486)).setCell ⟨gb493,11,none⟩ (.int .i64 t487)).setCell ⟨gb493,12,none⟩ (.int .i64 t488)).setCell ⟨gb493,13,none⟩ (.slice Ao29 t489.length co29)) w.heap.size (fun _ => True) (.slice Ao29 t489.length co29) t489):=⟨by (with_reducible repeat (first | apply Kd.R_alloc | apply Kd.R_drewN | apply Kd.R_drew)); exact Kd.R_mono (Kd.R_far (p:=⟨gb493,13,none⟩) (Kd.R_far (p:=⟨gb493,12,none⟩) (Kd.R_far (p:=⟨gb493,11,none⟩) (Kd.R_far (p:=⟨gb493,10,none⟩) (Kd.R_far (p:=⟨gb493,9,none⟩) (Kd.R_far (p:=⟨gb493,8,none⟩) (Kd.R_far (p:=⟨gb493,7,none⟩) (Kd.R_far (p:=⟨gb493,6,none⟩) (Kd.R_far (p:=⟨gb493,5,none⟩) (Kd.R_far (p:=⟨gb493,4,none⟩) (Kd.R_far (p:=⟨gb493,3,none⟩) (Kd.R_far (p:=⟨gb493,2,none⟩) (Kd.R_far (p:=⟨gb493,1,none⟩) (Kd.R_far (p:=⟨gb493,0,none⟩) (Kd.R_types HO491.out BK493.out (by decide)) (fun _ hk => hk.2) (.int .i64 t476)) (fun _ hk => hk.2) (.int .i64 t477)) (fun _ hk => hk.2) (.int .i64 t478)) (fun _ hk => hk.2) (.int .i64 t479)) (fun _ hk => hk.2) (.int .i64 t480)) (fun _ hk => hk.2) (.int .i64 t481)) (fun _ hk => hk.2) (.int .i64 t482)) (fun _ hk => hk.2) (.int .i64 t483)) (fun _ hk => hk.2) (.int .i64 t484)) (fun _ hk => hk.2) (.int .i64 t485)) (fun _ hk => hk.2) (.int .i64 t486)) (fun _ hk => hk.2) (.int .i64 t487)) (fun _ hk => hk.2) (.int .i64 t488)) (fun _ hk => hk.2) (.slice Ao29 t489.length co29)) (fun _ hk => trivial)⟩
     have n1_ : Aside0 (((((((((((((((w26.setCell ⟨gb493,0,none⟩ (.int .i64 t476)).setCell ⟨gb493,1,none⟩ (.int .i64 t477)).setCell ⟨gb493,2,none⟩ (.int .i64 t478)).setCell ⟨gb493,3,none⟩ (.int .i64 t479)).setCell ⟨gb493,4,none⟩ (.int .i64 t480)).setCell ⟨gb493,5,none⟩ (.int .i64 t481)).setCell ⟨gb493,6,none⟩ (.int .i64 t482)).setCell ⟨gb493,7,none⟩ (.int .i64 t483)).setCell ⟨gb493,8,none⟩ (.int .i64 t484)).setCell ⟨gb493,9,none⟩ (.int .i64 t485)).setCell ⟨gb493,10,none⟩ (.int .i64 t486)).setCell ⟨gb493,11,none⟩ (.int .i64 t487)).setCell ⟨gb493,12,none⟩ (.int .i64 t488)).setCell ⟨gb493,13,none⟩ (.slice Ao29 t489.length co29)).heap[gb471]? = some (.cells #[.int .i64 a0_0,.int .i64 a0_1,.int .i64 a0_2,.int .i64 a0_3,.int .i64 a0_4,.int .i64 a0_5,.int .i64 a0_6,.int .i64 a0_7,.int .i64 a0_8,.int .i64 a0_9,.int .i64 a0_10,.int .i64 a0_11,.int .i64 a0_12,.slice A0_13 l0_13.length c0_13] 31 (0,0))):=⟨by (with_reducible repeat (first | refine blk_drewN ?_ _ | refine blk_drew ?_ | refine blk_alloc ?_ _)); refine blk_far ?_ NB471_493.out _; (with_reducible repeat (first | refine blk_drewN ?_ _ | refine blk_drew ?_ | refine blk_alloc ?_ _)); refine blk_far ?_ NB471_493.out _; (with_reducible repeat (first | refine blk_drewN ?_ _ | refine blk_drew ?_ | refine blk_alloc ?_ _)); refine blk_far ?_ NB471_493.out _; (with_reducible repeat (first | refine blk_drewN ?_ _ | refine blk_drew ?_ | refine blk_alloc ?_ _)); refine blk_far ?_ NB471_493.out _; (with_reducible repeat (first | refine blk_drewN ?_ _ | refine blk_drew ?_ | refine blk_alloc ?_ _)); refine blk_far ?_ NB471_493.out _; (with_reducible repeat (first | refine blk_drewN ?_ _ | refine blk_drew ?_ | refine blk_alloc ?_ _)); refine blk_far ?_ NB471_493.out _; (with_reducible repeat (first | refine blk_drewN ?_ _ | refine blk_drew ?_ | refine blk_alloc ?_ _)); refine blk_far ?_ NB471_493.out _; (with_reducible repeat (first | refine blk_drewN ?_ _ | refine blk_drew ?_ | refine blk_alloc ?_ _)); refine blk_far ?_ NB471_493.out _; (with_reducible repeat (first | refine blk_drewN ?_ _ | refine blk_drew ?_ | refine blk_alloc ?_ _)); refine blk_far ?_ NB471_493.out _; (with_reducible repeat (first | refine blk_drewN ?_ _ | refine blk_drew ?_ | refine blk_alloc ?_ _)); refine blk_far ?_ NB471_493.out _; (with_reducible repeat (first | refine blk_drewN ?_ _ | refine blk_drew ?_ | refine blk_alloc ?_ _)); refine blk_far ?_ NB471_493.out _; (with_reducible repeat (first | refine blk_drewN ?_ _ | refine blk_drew ?_ | refine blk_alloc ?_ _)); refine blk_far ?_ NB471_493.out _; (with_reducible repeat (first | refine blk_drewN ?_ _ | refine blk_drew ?_ | refine blk_alloc ?_ _)); refine blk_far ?_ NB471_493.out _; (with_reducible repeat (first | refine blk_drewN ?_ _ | refine blk_drew ?_ | refine blk_alloc ?_ _)); refine blk_far ?_ NB471_493.out _; (with_reducible repeat (first | refine blk_drewN ?_ _ | refine blk_drew ?_ | refine blk_alloc ?_ _)); exact BK471.out⟩
     have n2_ : Aside0 (((((((((((((((w26.setCell ⟨gb493,0,none⟩ (.int .i64 t476)).setCell ⟨gb493,1,none⟩ (.int .i64 t477)).setCell ⟨gb493,2,none⟩ (.int .i64 t478)).setCell ⟨gb493,3,none⟩ (.int .i64 t479)).setCell ⟨gb493,4,none⟩ (.int .i64 t480)).setCell ⟨gb493,5,none⟩ (.int .i64 t481)).setCell ⟨gb493,6,none⟩ (.int .i64 t482)).setCell ⟨gb493,7,none⟩ (.int .i64 t483)).setCell ⟨gb493,8,none⟩ (.int .i64 t484)).setCell ⟨gb493,9,none⟩ (.int .i64 t485)).setCell ⟨gb493,10,none⟩ (.int .i64 t486)).setCell ⟨gb493,11,none⟩ (.int .i64 t487)).setCell ⟨gb493,12,none⟩ (.int .i64 t488)).setCell ⟨gb493,13,none⟩ (.slice Ao29 t489.length co29)).heap[gb493]? = some (.cells #[.int .i64 t476,.int .i64 t477,.int .i64 t478,.int .i64 t479,.int .i64 t480,.int .i64 t481,.int .i64 t482,.int .i64 t483,.int .i64 t484,.int .i64 t485,.int .i64 t486,.int .i64 t487,.int .i64 t488,.slice Ao29 t489.length co29] 31 (0,0))):=⟨by (with_reducible repeat (first | refine blk_drewN ?_ _ | refine blk_drew ?_ | refine blk_alloc ?_ _)); refine blk_put (cs:=#[.int .i64 t476,.int .i64 t477,.int .i64 t478,.int .i64 t479,.int .i64 t480,.int .i64 t481,.int .i64 t482,.int .i64 t483,.int .i64 t484,.int .i64 t485,.int .i64 t486,.int .i64 t487,.int .i64 t488,.slice none 0 0]) ?_ 13 _ rfl; (with_reducible repeat (first | refine blk_drewN ?_ _ | refine blk_drew ?_ | refine blk_alloc ?_ _)); refine blk_put (cs:=#[.int .i64 t476,.int .i64 t477,.int .i64 t478,.int .i64 t479,.int .i64 t480,.int .i64 t481,.int .i64 t482,.int .i64 t483,.int .i64 t484,.int .i64 t485,.int .i64 t486,.int .i64 t487,.int .i64 0,.slice none 0 0]) ?_ 12 _ rfl; (with_reducible repeat (first | refine blk_drewN ?_ _ | refine blk_drew ?_ | refine blk_alloc ?_ _)); refine blk_put (cs:=#[.int .i64 t476,.int .i64 t477,.int .i64 t478,.int .i64 t479,.int .i64 t480,.int .i64 t481,.int .i64 t482,.int .i64 t483,.int .i64 t484,.int .i64 t485,.int .i64 t486,.int .i64 0,.int .i64 0,.slice none 0 0]) ?_ 11 _ rfl; (with_reducible repeat (first | refine blk_drewN ?_ _ | refine blk_drew ?_ | refine blk_alloc ?_ _)); refine blk_put (cs:=#[.int .i64 t476,.int .i64 t477,.int .i64 t478,.int .i64 t479,.int .i64 t480,.int .i64 t481,.int .i64 t482,.int .i64 t483,.int .i64 t484,.int .i64 t485,.int .i64 0,.int .i64 0,.int .i64 0,.slice none 0 0]) ?_ 10 _ rfl; (with_reducible repeat (first | refine blk_drewN ?_ _ | refine blk_drew ?_ | refine blk_alloc ?_ _)); refine blk_put (cs:=#[.int .i64 t476,.int .i64 t477,.int .i64 t478,.int .i64 t479,.int .i64 t480,.int .i64 t481,.int .i64 t482,.int .i64 t483,.int .i64 t484,.int .i64 0,.int .i64 0,.int .i64 0,.int .i64 0,.slice none 0 0]) ?_ 9 _ rfl; (with_reducible repeat (first | refine blk_drewN ?_ _ | refine blk_drew ?_ | refine blk_alloc ?_ _)); refine blk_put (cs:=#[.int .i64 t476,.int .i64 t477,.int .i64 t478,.int .i64 t479,.int .i64 t480,.int .i64 t481,.int .i64 t482,.int .i64 t483,.int .i64 0,.int .i64 0,.int .i64 0,.int .i64 0,.int .i64 0,.slice none 0 0]) ?_ 8 _ rfl; (with_reducible repeat (first | refine blk_drewN ?_ _ | refine blk_drew ?_ | refine blk_alloc ?_ _)); refine blk_put (cs:=#[.int .i64 t476,.int .i64 t477,.int .i64 t478,.int .i64 t479,.int .i64 t480,.int .i64 t481,.int .i64 t482,.int .i64 0,.int .i64 0,.int .i64 0,.int .i64 0,.int .i64 0,.int .i64 0,.slice none 0 0]) ?_ 7 _ rfl; (with_reducible repeat (first | refine blk_drewN ?_ _ | refine blk_drew ?_ | refine blk_alloc ?_ _)); refine blk_put (cs:=#[.int .i64 t476,.int .i64 t477,.int .i64 t478,.int .i64 t479,.int .i64 t480,.int .i64 t481,.int .i64 0,.int .i64 0,.int .i64 0,.int .i64 0,.int .i64 0,.int .i64 0,.int .i64 0,.slice none 0 0]) ?_ 6 _ rfl; (with_reducible repeat (first | refine blk_drewN ?_ _ | refine blk_drew ?_ | refine blk_alloc ?_ _)); refine blk_put (cs:=#[.int .i64 t476,.int .i64 t477,.int .i64 t478,.int .i64 t479,.int .i64 t480,.int .i64 0,.int .i64 0,.int .i64 0,.int .i64 0,.int .i64 0,.int .i64 0,.int .i64 0,.int .i64 0,.slice none 0 0]) ?_ 5 _ rfl; (with_reducible repeat (first | refine blk_drewN ?_ _ | refine blk_drew ?_ | refine blk_alloc ?_ _)); refine blk_put (cs:=#[.int .i64 t476,.int .i64 t477,.int .i64 t478,.int .i64 t479,.int .i64 0,.int .i64 0,.int .i64 0,.int .i64 0,.int .i64 0,.int .i64 0,.int .i64 0,.int .i64 0,.int .i64 0,.slice none 0 0]) ?_ 4 _ rfl; (with_reducible repeat (first | refine blk_drewN ?_ _ | refine blk_drew ?_ | refine blk_alloc ?_ _)); refine blk_put (cs:=#[.int .i64 t476,.int .i64 t477,.int .i64 t478,.int .i64 0,.int .i64 0,.int .i64 0,.int .i64 0,.int .i64 0,.int .i64 0,.int .i64 0,.int .i64 0,.int .i64 0,.int .i64 0,.slice none 0 0]) ?_ 3 _ rfl; (with_reducible repeat (first | refine blk_drewN ?_ _ | refine blk_drew ?_ | refine blk_alloc ?_ _)); refine blk_put (cs:=#[.int .i64 t476,.int .i64 t477,.int .i64 0,.int .i64 0,.int .i64 0,.int .i64 0,.int .i64 0,.int .i64 0,.int .i64 0,.int .i64 0,.int .i64 0,.int .i64 0,.int .i64 0,.slice none 0 0]) ?_ 2 _ rfl; (with_reducible repeat (first | refine blk_drewN ?_ _ | refine blk_drew ?_ | refine blk_alloc ?_ _)); refine blk_put (cs:=#[.int .i64 t476,.int .i64 0,.int .i64 0,.int .i64 0,.int .i64 0,.int .i64 0,.int .i64 0,.int .i64 0,.int .i64 0,.int .i64 0,.int .i64 0,.int .i64 0,.int .i64 0,.slice none 0 0]) ?_ 1 _ rfl; (with_reducible repeat (first | refine blk_drewN ?_ _ | refine blk_drew ?_ | refine blk_alloc ?_ _)); refine blk_put (cs:=#[.int .i64 0,.int .i64 0,.int .i64 0,.int .i64 0,.int .i64 0,.int .i64 0,.int .i64 0,.int .i64 0,.int .i64 0,.int .i64 0,.int .i64 0,.int .i64 0,.int .i64 0,.slice none 0 0]) ?_ 0 _ rfl; (with_reducible repeat (first | refine blk_drewN ?_ _ | refine blk_drew ?_ | refine blk_alloc ?_ _)); exact BK493.out⟩
     have n3_ : Aside0 (Below w.heap.size w ((((((((((((((w26.setCell ⟨gb493,0,none⟩ (.int .i64 t476)).setCell ⟨gb493,1,none⟩ (.int .i64 t477)).setCell ⟨gb493,2,none⟩ (.int .i64 t478)).setCell ⟨gb493,3,none⟩ (.int .i64 t479)).setCell ⟨gb493,4,none⟩ (.int .i64 t480)).setCell ⟨gb493,5,none⟩ (.int .i64 t481)).setCell ⟨gb493,6,none⟩ (.int .i64 t482)).setCell ⟨gb493,7,none⟩ (.int .i64 t483)).setCell ⟨gb493,8,none⟩ (.int .i64 t484)).setCell ⟨gb493,9,none⟩ (.int .i64 t485)).setCell ⟨gb493,10,none⟩ (.int .i64 t486)).setCell ⟨gb493,11,none⟩ (.int .i64 t487)).setCell ⟨gb493,12,none⟩ (.int .i64 t488)).setCell ⟨gb493,13,none⟩ (.slice Ao29 t489.length co29))):=⟨by repeat (first | (with_reducible first | exact HB.out | apply below_alloc | apply pw_below_drewN | apply below_drew1 | refine below_set ?_ GE471.out | refine below_set ?_ GE493.out) | exact HB.out)⟩
     (try clear HO491)
     (try clear BK471)
     (try clear BK493)
     (try clear HB)
     generalize ((((((((((((((w26.setCell ⟨gb493,0,none⟩ (.int .i64 t476)).setCell ⟨gb493,1,none⟩ (.int .i64 t477)).setCell ⟨gb493,2,none⟩ (.int .i64 t478)).setCell ⟨gb493,3,none⟩ (.int .i64 t479)).setCell ⟨gb493,4,none⟩ (.int .i64 t480)).setCell ⟨gb493,5,none⟩ (.int .i64 t481)).setCell ⟨gb493,6,none⟩ (.int .i64 t482)).setCell ⟨gb493,7,none⟩ (.int .i64 t483)).setCell ⟨gb493,8,none⟩ (.int .i64 t484)).setCell ⟨gb493,9,none⟩ (.int .i64 t485)).setCell ⟨gb493,10,none⟩ (.int .i64 t486)).setCell ⟨gb493,11,none⟩ (.int .i64 t487)).setCell ⟨gb493,12,none⟩ (.int .i64 t488)).setCell ⟨gb493,13,none⟩ (.slice Ao29 t489.length co29)) = w30 at n0_ n1_ n2_ n3_ ⊢
     have HO491:=n0_
     have BK471:=n1_
     have BK493:=n2_
     have HB:=n3_
     clear n0_ n1_ n2_ n3_
     have n0_:=Aside0.mk (Kd.R_drew HO491.out)
     have n1_:=Aside0.mk (blk_drew BK471.out)
     have n2_:=Aside0.mk (blk_drew BK493.out)
     have n3_:=Aside0.mk (below_drew1 HB.out)
     clear HO491
     clear BK471
     clear BK493
     clear HB
     have HO491:=n0_
     have BK471:=n1_
     have BK493:=n2_
     have HB:=n3_
     clear n0_ n1_ n2_ n3_
     refine start_ (n:=14) (S:=fun w' => True) (ds:=[]) #[false,false,false,false,false,false,false,false,false,false,false,false,false,false] (by kernel_rfl) rfl rfl trivial (fun hHeld => ?_); refine with_tabW maquettelaw18_ClayKinds.tab9 maquettelaw18_ClayKinds.bits9 (fun HT_ HW_ => ?_)
     generalize w30.drew = w31 at HO491 BK471 BK493 HB hHeld ⊢
     refine pure_ (i:=0) (N:=some 36) (v:=?_) (a':=?_) #[true,false,false,false,false,false,false,false,false,false,false,false,false,false] rfl rfl (any_of HT_.out (by kernel_rfl)) (fun _ _ _ h => h) (Or.inl ⟨by rfl,?_⟩) ?_ ?_
     rotate_left
     ·intro w'
      go_simp
      first | with_reducible rfl | (rw [if_neg (by (try simp only [ByteArray.size_append,ByteArray.size_extract,decide_eq_true_eq,eq_iff_iff,iff_true,beq_iff_eq] at *); omega)] <;> with_reducible rfl)
     rotate_left
     ·simp only [Act.put,List.setIfInBounds_toArray,List.set_cons_zero,List.set_cons_succ,i64_w,i32_w]
      rfl
     refine pure_ (i:=1) (N:=some 37) (v:=?_) (a':=?_) #[true,true,false,false,false,false,false,false,false,false,false,false,false,false] rfl rfl (any_of HT_.out (by kernel_rfl)) (fun _ _ _ h => h) (Or.inl ⟨by rfl,?_⟩) ?_ ?_
     rotate_left
     ·intro w'
      go_simp
      first | with_reducible rfl | (rw [if_neg (by (try simp only [ByteArray.size_append,ByteArray.size_extract,decide_eq_true_eq,eq_iff_iff,iff_true,beq_iff_eq] at *); omega)] <;> with_reducible rfl)
     rotate_left
     ·simp only [Act.put,List.setIfInBounds_toArray,List.set_cons_zero,List.set_cons_succ,i64_w,i32_w]
      rfl
     refine pure_ (i:=4) (N:=some 40) (v:=?_) (a':=?_) #[true,true,false,false,true,false,false,false,false,false,false,false,false,false] rfl rfl (any_of HT_.out (by kernel_rfl)) (fun _ _ _ h => h) (Or.inl ⟨by rfl,?_⟩) ?_ ?_
     rotate_left
     ·intro w'
      go_simp
      first | with_reducible rfl | (rw [if_neg (by (try simp only [ByteArray.size_append,ByteArray.size_extract,decide_eq_true_eq,eq_iff_iff,iff_true,beq_iff_eq] at *); omega)] <;> with_reducible rfl)
     rotate_left
     ·simp only [Act.put,List.setIfInBounds_toArray,List.set_cons_zero,List.set_cons_succ,i64_w,i32_w]
      rfl
     refine pure_ (i:=5) (N:=some 41) (v:=?_) (a':=?_) #[true,true,false,false,true,true,false,false,false,false,false,false,false,false] rfl rfl (any_of HT_.out (by kernel_rfl)) (fun _ _ _ h => h) (Or.inl ⟨by rfl,?_⟩) ?_ ?_
     rotate_left
     ·intro w'
      go_simp
      first | with_reducible rfl | (rw [if_neg (by (try simp only [ByteArray.size_append,ByteArray.size_extract,decide_eq_true_eq,eq_iff_iff,iff_true,beq_iff_eq] at *); omega)] <;> with_reducible rfl)
     rotate_left
     ·simp only [Act.put,List.setIfInBounds_toArray,List.set_cons_zero,List.set_cons_succ,i64_w,i32_w]
      rfl
     refine join_ (σ:=Value × Value × Nat) 2 #[true,true,true,true,true,true,true,true,true,true,true,true,false,false] (fun s_ => [(38,s_.1),(39,.string (strOfNums y494)),(43,.tuple #[.agg #[.int .i64 t497,.int .i64 t498,.int .i64 t499,.int .i64 t500,.int .i64 t501,.int .i64 t502,.int .i64 t503,.int .i64 t504,.int .i64 t505,.int .i64 t506,.int .i64 t507,.int .i64 t508,.int .i64 t509,s_.2.1],.bool t513]),(9,.pointer (some ⟨s_.2.2,0,none⟩)),(42,.string ((strOfNums y494) ++ (t474.extract 1 t474.size))),(35,.tuple #[.agg #[.int .i64 t497,.int .i64 t498,.int .i64 t499,.int .i64 t500,.int .i64 t501,.int .i64 t502,.int .i64 t503,.int .i64 t504,.int .i64 t505,.int .i64 t506,.int .i64 t507,.int .i64 t508,.int .i64 t509,s_.2.1],.bool t513]),(44,.agg #[.int .i64 t497,.int .i64 t498,.int .i64 t499,.int .i64 t500,.int .i64 t501,.int .i64 t502,.int .i64 t503,.int .i64 t504,.int .i64 t505,.int .i64 t506,.int .i64 t507,.int .i64 t508,.int .i64 t509,s_.2.1]),(45,.bool t513)]) (fun s_ w' => (Kd.R (Kd.int .i64) 3 w' w.heap.size (fun k_ => some k_ ≠ (s_.2.1 : Value).ownBlock) (.slice Ao29 t489.length co29) t489) ∧ (Kd.R (Kd.int .u8) 5 w' w.heap.size (fun _ => True) s_.1 y494) ∧ (Kd.R (Kd.int .i64) 3 w' w.heap.size (fun k_ => some k_ ≠ (.slice Ao29 t489.length co29 : Value).ownBlock) s_.2.1 t510) ∧ (w'.heap[gb471]? = some (.cells #[.int .i64 a0_0,.int .i64 a0_1,.int .i64 a0_2,.int .i64 a0_3,.int .i64 a0_4,.int .i64 a0_5,.int .i64 a0_6,.int .i64 a0_7,.int .i64 a0_8,.int .i64 a0_9,.int .i64 a0_10,.int .i64 a0_11,.int .i64 a0_12,.slice A0_13 l0_13.length c0_13] 31 (0,0))) ∧ (w'.heap[gb493]? = some (.cells #[.int .i64 t476,.int .i64 t477,.int .i64 t478,.int .i64 t479,.int .i64 t480,.int .i64 t481,.int .i64 t482,.int .i64 t483,.int .i64 t484,.int .i64 t485,.int .i64 t486,.int .i64 t487,.int .i64 t488,.slice Ao29 t489.length co29] 31 (0,0))) ∧ (w'.heap[s_.2.2]? = some (.cells #[.int .i64 0,.int .i64 0,.int .i64 0,.int .i64 0,.int .i64 0,.int .i64 0,.int .i64 0,.int .i64 0,.int .i64 0,.int .i64 0,.int .i64 0,.int .i64 0,.int .i64 0,.slice none 0 0] 31 (0,0))) ∧ (w.heap.size ≤ s_.2.2) ∧ (w.heap.size ≤ s_.2.2) ∧ (gb471 ≠ s_.2.2) ∧ (s_.2.2 ≠ gb471) ∧ (gb493 ≠ s_.2.2) ∧ (s_.2.2 ≠ gb493) ∧ (Below w.heap.size w w')) ?_ ?_
     rotate_left
     ·intro hCont
      refine two_ (i:=2) (j:=11) (Ni:=some 38) (Nj:=some 9) #[true,true,true,false,true,true,false,false,false,false,false,false,false,false] #[true,true,false,false,true,true,false,false,false,false,false,true,false,false] rfl rfl rfl rfl (two_of HT_.out (by kernel_rfl)) (by decide) (by decide) (fun K hK => ?_) (fun K hK => ?_)
      ·skip
       refine Kd.R_lit_step (Kd.int .u8) _ 5 ?hg (N:=38) ?hd (xs:=([(a1) % 256] : List Int)) (inner:=[.int .u8 ((a1) % 256)]) (ok:=fun _ => True) (okp:=fun _ => True) ?hr ?hp (fun _ hk => hk) trivial (Below.refl _ _) (Nat.le_refl _) (by simp) ?_; (case hd => rfl); (case hg => rfl); (case hr => first | (go_simp; done) | (go_simp; rfl)); (case hp => exact (Reps.one (show Kd.M (Kd.int .u8) _ _ _ ((a1) % 256) [.int .u8 ((a1) % 256)] from rfl) (Reps.none _ _)))
       intro v495 w32 ho33 hb hg_ hnew_
       clear hg_ hnew_
       (first | rw [← Ny494.out] at ho33 | (simp only [Int.reduceToNat] at ho33; rw [← Ny494.out] at ho33))
       have n0_:=Aside0.mk (Kd.R_below (by (with_reducible repeat (first | apply Kd.R_alloc | apply Kd.R_drewN | apply Kd.R_drew)); exact HO491.out) hb)
       have n1_:=Aside0.mk (Kd.R_lower ho33 (below_size (by repeat (first | (with_reducible first | exact HB.out | apply below_alloc | apply pw_below_drewN | apply below_drew1 | refine below_set ?_ GE471.out | refine below_set ?_ GE493.out) | exact HB.out))))
       have n2_:=Aside0.mk (blk_below (g:=gb471) (o:=.cells #[.int .i64 a0_0,.int .i64 a0_1,.int .i64 a0_2,.int .i64 a0_3,.int .i64 a0_4,.int .i64 a0_5,.int .i64 a0_6,.int .i64 a0_7,.int .i64 a0_8,.int .i64 a0_9,.int .i64 a0_10,.int .i64 a0_11,.int .i64 a0_12,.slice A0_13 l0_13.length c0_13] 31 (0,0)) (by (with_reducible repeat (first | refine blk_drewN ?_ _ | refine blk_drew ?_ | refine blk_alloc ?_ _)); exact BK471.out) hb)
       have n3_:=Aside0.mk (blk_below (g:=gb493) (o:=.cells #[.int .i64 t476,.int .i64 t477,.int .i64 t478,.int .i64 t479,.int .i64 t480,.int .i64 t481,.int .i64 t482,.int .i64 t483,.int .i64 t484,.int .i64 t485,.int .i64 t486,.int .i64 t487,.int .i64 t488,.slice Ao29 t489.length co29] 31 (0,0)) (by (with_reducible repeat (first | refine blk_drewN ?_ _ | refine blk_drew ?_ | refine blk_alloc ?_ _)); exact BK493.out) hb)
       have n4_:=Aside0.mk (below_step (by repeat (first | (with_reducible first | exact HB.out | apply below_alloc | apply pw_below_drewN | apply below_drew1 | refine below_set ?_ GE471.out | refine below_set ?_ GE493.out) | exact HB.out)) hb)
       clear HO491
       clear BK471
       clear BK493
       clear HB
       have HO491:=n0_
       have HO496:=n1_
       have BK471:=n2_
       have BK493:=n3_
       have HB:=n4_
       clear n0_ n1_ n2_ n3_ n4_
       clear hb ho33
       refine hK.out _ _ trivial (fun hHeld => ?_)
       clear hK K
       refine norm_ (a':=?_) ?_ ?_
       rotate_left
       ·show Act.put _ (some 38) _ = _
        simp only [Act.put,List.setIfInBounds_toArray,List.set_cons_zero,List.set_cons_succ,i64_w,i32_w]
        rfl
       refine two_ (i:=3) (j:=11) (Ni:=some 39) (Nj:=some 9) #[true,true,true,true,true,true,false,false,false,false,false,false,false,false] #[true,true,true,false,true,true,false,false,false,false,false,true,false,false] rfl rfl rfl rfl (two_of HT_.out (by kernel_rfl)) (by decide) (by decide) (fun K hK => ?_) (fun K hK => ?_)
       ·skip
        have hcv34:=own_string (P:=Try.prog) Try.underlying67 Try.underlying5 Try.underlying9 (Kd.own_of_R HO496.out)
        refine value_ (w1:=?_) (v:=?_) (by rfl) rfl ?_ ?_
        rotate_left 2
        ·go_simp
         constructor
         ·rfl
         rfl
        clear hcv34
        refine hK.out _ _ trivial (fun hHeld => ?_)
        clear hK K
        refine norm_ (a':=?_) ?_ ?_
        rotate_left
        ·show Act.put _ (some 39) _ = _
         simp only [Act.put,List.setIfInBounds_toArray,List.set_cons_zero,List.set_cons_succ,i64_w,i32_w]
         rfl
        refine pure_ (i:=6) (N:=some 42) (v:=?_) (a':=?_) #[true,true,true,true,true,true,true,false,false,false,false,false,false,false] rfl rfl (any_of HT_.out (by kernel_rfl)) (fun _ _ _ h => h) (Or.inl ⟨by rfl,?_⟩) ?_ ?_
        rotate_left
        ·intro w'
         go_simp
         first | with_reducible rfl | (rw [if_neg (by (try simp only [ByteArray.size_append,ByteArray.size_extract,decide_eq_true_eq,eq_iff_iff,iff_true,beq_iff_eq] at *); omega)] <;> with_reducible rfl)
        rotate_left
        ·simp only [Act.put,List.setIfInBounds_toArray,List.set_cons_zero,List.set_cons_succ,i64_w,i32_w]
         rfl
        refine two_ (i:=7) (j:=11) (Ni:=some 43) (Nj:=some 9) #[true,true,true,true,true,true,true,true,false,false,false,false,false,false] #[true,true,true,true,true,true,true,false,false,false,false,true,false,false] rfl rfl rfl rfl (two_of HT_.out (by kernel_rfl)) (by decide) (by decide) (fun K hK => ?_) (fun K hK => ?_)
        ·skip
         refine goes_ Try.func15 (by kernel_rfl) rfl #[.string ((strOfNums y494) ++ (t474.extract 1 t474.size))] (by rfl) rfl rfl (by (try simp only [List.map_toArray,List.map_cons,List.map_nil]); first | done | rfl | (simp only [List.length_drop,List.length_take]; rfl) | (simp only [ByteArray.size_append,Int.natCast_add]; rfl) | (simp [ByteArray.size_append,Int.add_assoc]; done)) ?_
         with_reducible refine (clay_Get.calls kj2 ((strOfNums y494) ++ (t474.extract 1 t474.size)) t497 t498 t499 t500 t501 t502 t503 t504 t505 t506 t507 t508 t509 t510 t513 _ A21.out).mono ?_
         rintro e w35 ⟨v511,rfl,ho0,hb⟩
         refine ⟨_,rfl,?_⟩
         have n0_:=Aside0.mk (Kd.R_elder' (by (with_reducible repeat (first | apply Kd.R_alloc | apply Kd.R_drewN | apply Kd.R_drew)); exact HO491.out) (Kd.R_base ho0) hb)
         have n1_:=Aside0.mk (Kd.R_below (by (with_reducible repeat (first | apply Kd.R_alloc | apply Kd.R_drewN | apply Kd.R_drew)); exact HO496.out) hb)
         have n2_:=Aside0.mk (Kd.R_lower (Kd.R_new' ho0 (Kd.R_lt (by (with_reducible repeat (first | apply Kd.R_alloc | apply Kd.R_drewN | apply Kd.R_drew)); exact HO491.out))) (below_size (by repeat (first | (with_reducible first | exact HB.out | apply below_alloc | apply pw_below_drewN | apply below_drew1 | refine below_set ?_ GE471.out | refine below_set ?_ GE493.out) | exact HB.out))))
         have n3_:=Aside0.mk (blk_below (g:=gb471) (o:=.cells #[.int .i64 a0_0,.int .i64 a0_1,.int .i64 a0_2,.int .i64 a0_3,.int .i64 a0_4,.int .i64 a0_5,.int .i64 a0_6,.int .i64 a0_7,.int .i64 a0_8,.int .i64 a0_9,.int .i64 a0_10,.int .i64 a0_11,.int .i64 a0_12,.slice A0_13 l0_13.length c0_13] 31 (0,0)) (by (with_reducible repeat (first | refine blk_drewN ?_ _ | refine blk_drew ?_ | refine blk_alloc ?_ _)); exact BK471.out) hb)
         have n4_:=Aside0.mk (blk_below (g:=gb493) (o:=.cells #[.int .i64 t476,.int .i64 t477,.int .i64 t478,.int .i64 t479,.int .i64 t480,.int .i64 t481,.int .i64 t482,.int .i64 t483,.int .i64 t484,.int .i64 t485,.int .i64 t486,.int .i64 t487,.int .i64 t488,.slice Ao29 t489.length co29] 31 (0,0)) (by (with_reducible repeat (first | refine blk_drewN ?_ _ | refine blk_drew ?_ | refine blk_alloc ?_ _)); exact BK493.out) hb)
         have n5_:=Aside0.mk (below_step (by repeat (first | (with_reducible first | exact HB.out | apply below_alloc | apply pw_below_drewN | apply below_drew1 | refine below_set ?_ GE471.out | refine below_set ?_ GE493.out) | exact HB.out)) hb)
         clear HO491
         clear HO496
         clear BK471
         clear BK493
         clear HB
         have HO491:=n0_
         have HO496:=n1_
         have HO512:=n2_
         have BK471:=n3_
         have BK493:=n4_
         have HB:=n5_
         clear n0_ n1_ n2_ n3_ n4_ n5_
         (try clear hb)
         (try clear hb2)
         (try clear hk)
         (try clear hi)
         (try clear ho0)
         refine hK.out _ _ trivial (fun hHeld => ?_)
         clear hK K
         refine norm_ (a':=?_) ?_ ?_
         rotate_left
         ·show Act.put _ (some 43) _ = _
          simp only [Act.put,List.setIfInBounds_toArray,List.set_cons_zero,List.set_cons_succ,i64_w,i32_w]
          rfl
         refine pure_ (i:=8) (N:=some 35) (v:=?_) (a':=?_) #[true,true,true,true,true,true,true,true,true,false,false,false,false,false] rfl rfl (any_of HT_.out (by kernel_rfl)) (fun _ _ _ h => h) (Or.inl ⟨by rfl,?_⟩) ?_ ?_
         rotate_left
         ·intro w'
          go_simp
          first | with_reducible rfl | (rw [if_neg (by (try simp only [ByteArray.size_append,ByteArray.size_extract,decide_eq_true_eq,eq_iff_iff,iff_true,beq_iff_eq] at *); omega)] <;> with_reducible rfl)
         rotate_left
         ·simp only [Act.put,List.setIfInBounds_toArray,List.set_cons_zero,List.set_cons_succ,i64_w,i32_w]
          rfl
         refine pure_ (i:=9) (N:=some 44) (v:=?_) (a':=?_) #[true,true,true,true,true,true,true,true,true,true,false,false,false,false] rfl rfl (any_of HT_.out (by kernel_rfl)) (fun _ _ _ h => h) (Or.inl ⟨by rfl,?_⟩) ?_ ?_
         rotate_left
         ·intro w'
          go_simp
          first | with_reducible rfl | (rw [if_neg (by (try simp only [ByteArray.size_append,ByteArray.size_extract,decide_eq_true_eq,eq_iff_iff,iff_true,beq_iff_eq] at *); omega)] <;> with_reducible rfl)
         rotate_left
         ·simp only [Act.put,List.setIfInBounds_toArray,List.set_cons_zero,List.set_cons_succ,i64_w,i32_w]
          rfl
         refine pure_ (i:=10) (N:=some 45) (v:=?_) (a':=?_) #[true,true,true,true,true,true,true,true,true,true,true,false,false,false] rfl rfl (any_of HT_.out (by kernel_rfl)) (fun _ _ _ h => h) (Or.inl ⟨by rfl,?_⟩) ?_ ?_
         rotate_left
         ·intro w'
          go_simp
          first | with_reducible rfl | (rw [if_neg (by (try simp only [ByteArray.size_append,ByteArray.size_extract,decide_eq_true_eq,eq_iff_iff,iff_true,beq_iff_eq] at *); omega)] <;> with_reducible rfl)
         rotate_left
         ·simp only [Act.put,List.setIfInBounds_toArray,List.set_cons_zero,List.set_cons_succ,i64_w,i32_w]
          rfl
         refine one_ (i:=11) (N:=some 9) #[true,true,true,true,true,true,true,true,true,true,true,true,false,false] rfl rfl (one_of HT_.out (by kernel_rfl)) (by decide) (fun K hK => ?_)
         refine box_step ?hg (N:=9) ?hd (cs:=#[.int .i64 0,.int .i64 0,.int .i64 0,.int .i64 0,.int .i64 0,.int .i64 0,.int .i64 0,.int .i64 0,.int .i64 0,.int .i64 0,.int .i64 0,.int .i64 0,.int .i64 0,.slice none 0 0]) (t:=31) ?hr ?_; (case hd => rfl); (case hg => rfl); (case hr => first | (go_simp; done) | (go_simp; rfl))
         intro gb514 hg w36 hbox hb
         have n0_:=Aside0.mk (Kd.R_below (by (with_reducible repeat (first | apply Kd.R_alloc | apply Kd.R_drewN | apply Kd.R_drew)); exact HO491.out) hb)
         have n1_:=Aside0.mk (Kd.R_below (by (with_reducible repeat (first | apply Kd.R_alloc | apply Kd.R_drewN | apply Kd.R_drew)); exact HO496.out) hb)
         have n2_:=Aside0.mk (Kd.R_below (by (with_reducible repeat (first | apply Kd.R_alloc | apply Kd.R_drewN | apply Kd.R_drew)); exact HO512.out) hb)
         have n3_:=Aside0.mk (blk_below (g:=gb471) (o:=.cells #[.int .i64 a0_0,.int .i64 a0_1,.int .i64 a0_2,.int .i64 a0_3,.int .i64 a0_4,.int .i64 a0_5,.int .i64 a0_6,.int .i64 a0_7,.int .i64 a0_8,.int .i64 a0_9,.int .i64 a0_10,.int .i64 a0_11,.int .i64 a0_12,.slice A0_13 l0_13.length c0_13] 31 (0,0)) (by (with_reducible repeat (first | refine blk_drewN ?_ _ | refine blk_drew ?_ | refine blk_alloc ?_ _)); exact BK471.out) hb)
         have n4_:=Aside0.mk (blk_below (g:=gb493) (o:=.cells #[.int .i64 t476,.int .i64 t477,.int .i64 t478,.int .i64 t479,.int .i64 t480,.int .i64 t481,.int .i64 t482,.int .i64 t483,.int .i64 t484,.int .i64 t485,.int .i64 t486,.int .i64 t487,.int .i64 t488,.slice Ao29 t489.length co29] 31 (0,0)) (by (with_reducible repeat (first | refine blk_drewN ?_ _ | refine blk_drew ?_ | refine blk_alloc ?_ _)); exact BK493.out) hb)
         have n5_:=Aside0.mk (below_step (by repeat (first | (with_reducible first | exact HB.out | apply below_alloc | apply pw_below_drewN | apply below_drew1 | refine below_set ?_ GE471.out | refine below_set ?_ GE493.out) | exact HB.out)) hb)
         have n6_:=Aside0.mk (hbox)
         have n7_:=Aside0.mk ((by rw [hg]; exact (below_size (by repeat (first | (with_reducible first | exact HB.out | apply below_alloc | apply pw_below_drewN | apply below_drew1 | refine below_set ?_ GE471.out | refine below_set ?_ GE493.out) | exact HB.out))) : w.heap.size ≤ gb514))
         have n8_:=Aside0.mk ((by rw [hg]; exact (below_size (by repeat (first | (with_reducible first | exact HB.out | apply below_alloc | apply pw_below_drewN | apply below_drew1 | refine below_set ?_ GE471.out | refine below_set ?_ GE493.out) | exact HB.out))) : w.heap.size ≤ gb514))
         have n9_:=Aside0.mk ((by rw [hg]; exact Nat.ne_of_lt (blk_lt (g:=gb471) (o:=.cells #[.int .i64 a0_0,.int .i64 a0_1,.int .i64 a0_2,.int .i64 a0_3,.int .i64 a0_4,.int .i64 a0_5,.int .i64 a0_6,.int .i64 a0_7,.int .i64 a0_8,.int .i64 a0_9,.int .i64 a0_10,.int .i64 a0_11,.int .i64 a0_12,.slice A0_13 l0_13.length c0_13] 31 (0,0)) (by (with_reducible repeat (first | refine blk_drewN ?_ _ | refine blk_drew ?_ | refine blk_alloc ?_ _)); exact BK471.out)) : gb471 ≠ gb514))
         have n10_:=Aside0.mk ((by rw [hg]; exact Nat.ne_of_gt (blk_lt (g:=gb471) (o:=.cells #[.int .i64 a0_0,.int .i64 a0_1,.int .i64 a0_2,.int .i64 a0_3,.int .i64 a0_4,.int .i64 a0_5,.int .i64 a0_6,.int .i64 a0_7,.int .i64 a0_8,.int .i64 a0_9,.int .i64 a0_10,.int .i64 a0_11,.int .i64 a0_12,.slice A0_13 l0_13.length c0_13] 31 (0,0)) (by (with_reducible repeat (first | refine blk_drewN ?_ _ | refine blk_drew ?_ | refine blk_alloc ?_ _)); exact BK471.out)) : gb514 ≠ gb471))
         have n11_:=Aside0.mk ((by rw [hg]; exact Nat.ne_of_lt (blk_lt (g:=gb493) (o:=.cells #[.int .i64 t476,.int .i64 t477,.int .i64 t478,.int .i64 t479,.int .i64 t480,.int .i64 t481,.int .i64 t482,.int .i64 t483,.int .i64 t484,.int .i64 t485,.int .i64 t486,.int .i64 t487,.int .i64 t488,.slice Ao29 t489.length co29] 31 (0,0)) (by (with_reducible repeat (first | refine blk_drewN ?_ _ | refine blk_drew ?_ | refine blk_alloc ?_ _)); exact BK493.out)) : gb493 ≠ gb514))
         have n12_:=Aside0.mk ((by rw [hg]; exact Nat.ne_of_gt (blk_lt (g:=gb493) (o:=.cells #[.int .i64 t476,.int .i64 t477,.int .i64 t478,.int .i64 t479,.int .i64 t480,.int .i64 t481,.int .i64 t482,.int .i64 t483,.int .i64 t484,.int .i64 t485,.int .i64 t486,.int .i64 t487,.int .i64 t488,.slice Ao29 t489.length co29] 31 (0,0)) (by (with_reducible repeat (first | refine blk_drewN ?_ _ | refine blk_drew ?_ | refine blk_alloc ?_ _)); exact BK493.out)) : gb514 ≠ gb493))
         clear HO491
         clear HO496
         clear HO512
         clear BK471
         clear BK493
         clear HB
         have HO491:=n0_
         have HO496:=n1_
         have HO512:=n2_
         have BK471:=n3_
         have BK493:=n4_
         have HB:=n5_
         have BK514:=n6_
         have GW514:=n7_
         have GE514:=n8_
         have NB471_514:=n9_
         have NB514_471:=n10_
         have NB493_514:=n11_
         have NB514_493:=n12_
         clear n0_ n1_ n2_ n3_ n4_ n5_ n6_ n7_ n8_ n9_ n10_ n11_ n12_
         clear hb hbox hg
         refine hK.out _ _ trivial (fun hHeld => ?_)
         clear hK K
         refine norm_ (a':=?_) ?_ ?_
         rotate_left
         ·show Act.put _ (some 9) _ = _
          simp only [Act.put,List.setIfInBounds_toArray,List.set_cons_zero,List.set_cons_succ,i64_w,i32_w]
          rfl
         exact norm_ (by simp only [putAll,Act.put,List.setIfInBounds_toArray,List.set_cons_zero,List.set_cons_succ]) (hCont (v495,v511,gb514) _ ⟨(by (with_reducible repeat (first | apply Kd.R_alloc | apply Kd.R_drewN | apply Kd.R_drew)); exact Kd.R_mono HO491.out (fun _ hk => hk.2)),(by (with_reducible repeat (first | apply Kd.R_alloc | apply Kd.R_drewN | apply Kd.R_drew)); exact HO496.out),(by (with_reducible repeat (first | apply Kd.R_alloc | apply Kd.R_drewN | apply Kd.R_drew)); exact Kd.R_mono HO512.out (fun _ hk => hk.2)),(by (with_reducible repeat (first | refine blk_drewN ?_ _ | refine blk_drew ?_ | refine blk_alloc ?_ _)); exact BK471.out),(by (with_reducible repeat (first | refine blk_drewN ?_ _ | refine blk_drew ?_ | refine blk_alloc ?_ _)); exact BK493.out),(by (with_reducible repeat (first | refine blk_drewN ?_ _ | refine blk_drew ?_ | refine blk_alloc ?_ _)); exact BK514.out),GW514.out,GE514.out,NB471_514.out,NB514_471.out,NB493_514.out,NB514_493.out,(by repeat (first | (with_reducible first | exact HB.out | apply below_alloc | apply pw_below_drewN | apply below_drew1 | refine below_set ?_ GE471.out | refine below_set ?_ GE493.out | refine below_set ?_ GE514.out) | exact HB.out))⟩)
        skip
        refine box_step ?hg (N:=9) ?hd (cs:=#[.int .i64 0,.int .i64 0,.int .i64 0,.int .i64 0,.int .i64 0,.int .i64 0,.int .i64 0,.int .i64 0,.int .i64 0,.int .i64 0,.int .i64 0,.int .i64 0,.int .i64 0,.slice none 0 0]) (t:=31) ?hr ?_; (case hd => rfl); (case hg => rfl); (case hr => first | (go_simp; done) | (go_simp; rfl))
        intro gb514 hg w35 hbox hb
        have n0_:=Aside0.mk (Kd.R_below (by (with_reducible repeat (first | apply Kd.R_alloc | apply Kd.R_drewN | apply Kd.R_drew)); exact HO491.out) hb)
        have n1_:=Aside0.mk (Kd.R_below (by (with_reducible repeat (first | apply Kd.R_alloc | apply Kd.R_drewN | apply Kd.R_drew)); exact HO496.out) hb)
        have n2_:=Aside0.mk (blk_below (g:=gb471) (o:=.cells #[.int .i64 a0_0,.int .i64 a0_1,.int .i64 a0_2,.int .i64 a0_3,.int .i64 a0_4,.int .i64 a0_5,.int .i64 a0_6,.int .i64 a0_7,.int .i64 a0_8,.int .i64 a0_9,.int .i64 a0_10,.int .i64 a0_11,.int .i64 a0_12,.slice A0_13 l0_13.length c0_13] 31 (0,0)) (by (with_reducible repeat (first | refine blk_drewN ?_ _ | refine blk_drew ?_ | refine blk_alloc ?_ _)); exact BK471.out) hb)
        have n3_:=Aside0.mk (blk_below (g:=gb493) (o:=.cells #[.int .i64 t476,.int .i64 t477,.int .i64 t478,.int .i64 t479,.int .i64 t480,.int .i64 t481,.int .i64 t482,.int .i64 t483,.int .i64 t484,.int .i64 t485,.int .i64 t486,.int .i64 t487,.int .i64 t488,.slice Ao29 t489.length co29] 31 (0,0)) (by (with_reducible repeat (first | refine blk_drewN ?_ _ | refine blk_drew ?_ | refine blk_alloc ?_ _)); exact BK493.out) hb)
        have n4_:=Aside0.mk (below_step (by repeat (first | (with_reducible first | exact HB.out | apply below_alloc | apply pw_below_drewN | apply below_drew1 | refine below_set ?_ GE471.out | refine below_set ?_ GE493.out) | exact HB.out)) hb)
        have n5_:=Aside0.mk (hbox)
        have n6_:=Aside0.mk ((by rw [hg]; exact (below_size (by repeat (first | (with_reducible first | exact HB.out | apply below_alloc | apply pw_below_drewN | apply below_drew1 | refine below_set ?_ GE471.out | refine below_set ?_ GE493.out) | exact HB.out))) : w.heap.size ≤ gb514))
        have n7_:=Aside0.mk ((by rw [hg]; exact (below_size (by repeat (first | (with_reducible first | exact HB.out | apply below_alloc | apply pw_below_drewN | apply below_drew1 | refine below_set ?_ GE471.out | refine below_set ?_ GE493.out) | exact HB.out))) : w.heap.size ≤ gb514))
        have n8_:=Aside0.mk ((by rw [hg]; exact Nat.ne_of_lt (blk_lt (g:=gb471) (o:=.cells #[.int .i64 a0_0,.int .i64 a0_1,.int .i64 a0_2,.int .i64 a0_3,.int .i64 a0_4,.int .i64 a0_5,.int .i64 a0_6,.int .i64 a0_7,.int .i64 a0_8,.int .i64 a0_9,.int .i64 a0_10,.int .i64 a0_11,.int .i64 a0_12,.slice A0_13 l0_13.length c0_13] 31 (0,0)) (by (with_reducible repeat (first | refine blk_drewN ?_ _ | refine blk_drew ?_ | refine blk_alloc ?_ _)); exact BK471.out)) : gb471 ≠ gb514))
        have n9_:=Aside0.mk ((by rw [hg]; exact Nat.ne_of_gt (blk_lt (g:=gb471) (o:=.cells #[.int .i64 a0_0,.int .i64 a0_1,.int .i64 a0_2,.int .i64 a0_3,.int .i64 a0_4,.int .i64 a0_5,.int .i64 a0_6,.int .i64 a0_7,.int .i64 a0_8,.int .i64 a0_9,.int .i64 a0_10,.int .i64 a0_11,.int .i64 a0_12,.slice A0_13 l0_13.length c0_13] 31 (0,0)) (by (with_reducible repeat (first | refine blk_drewN ?_ _ | refine blk_drew ?_ | refine blk_alloc ?_ _)); exact BK471.out)) : gb514 ≠ gb471))
        have n10_:=Aside0.mk ((by rw [hg]; exact Nat.ne_of_lt (blk_lt (g:=gb493) (o:=.cells #[.int .i64 t476,.int .i64 t477,.int .i64 t478,.int .i64 t479,.int .i64 t480,.int .i64 t481,.int .i64 t482,.int .i64 t483,.int .i64 t484,.int .i64 t485,.int .i64 t486,.int .i64 t487,.int .i64 t488,.slice Ao29 t489.length co29] 31 (0,0)) (by (with_reducible repeat (first | refine blk_drewN ?_ _ | refine blk_drew ?_ | refine blk_alloc ?_ _)); exact BK493.out)) : gb493 ≠ gb514))
        have n11_:=Aside0.mk ((by rw [hg]; exact Nat.ne_of_gt (blk_lt (g:=gb493) (o:=.cells #[.int .i64 t476,.int .i64 t477,.int .i64 t478,.int .i64 t479,.int .i64 t480,.int .i64 t481,.int .i64 t482,.int .i64 t483,.int .i64 t484,.int .i64 t485,.int .i64 t486,.int .i64 t487,.int .i64 t488,.slice Ao29 t489.length co29] 31 (0,0)) (by (with_reducible repeat (first | refine blk_drewN ?_ _ | refine blk_drew ?_ | refine blk_alloc ?_ _)); exact BK493.out)) : gb514 ≠ gb493))
        clear HO491
        clear HO496
        clear BK471
        clear BK493
        clear HB
        have HO491:=n0_
        have HO496:=n1_
        have BK471:=n2_
        have BK493:=n3_
        have HB:=n4_
        have BK514:=n5_
        have GW514:=n6_
        have GE514:=n7_
        have NB471_514:=n8_
        have NB514_471:=n9_
        have NB493_514:=n10_
        have NB514_493:=n11_
        clear n0_ n1_ n2_ n3_ n4_ n5_ n6_ n7_ n8_ n9_ n10_ n11_
        clear hb hbox hg
        refine hK.out _ _ trivial (fun hHeld => ?_)
        clear hK K
        refine norm_ (a':=?_) ?_ ?_
        rotate_left
        ·show Act.put _ (some 9) _ = _
         simp only [Act.put,List.setIfInBounds_toArray,List.set_cons_zero,List.set_cons_succ,i64_w,i32_w]
         rfl
        refine one_ (i:=7) (N:=some 43) #[true,true,true,true,true,true,true,true,false,false,false,true,false,false] rfl rfl (one_of HT_.out (by kernel_rfl)) (by decide) (fun K hK => ?_)
        refine goes_ Try.func15 (by kernel_rfl) rfl #[.string ((strOfNums y494) ++ (t474.extract 1 t474.size))] (by rfl) rfl rfl (by (try simp only [List.map_toArray,List.map_cons,List.map_nil]); first | done | rfl | (simp only [List.length_drop,List.length_take]; rfl) | (simp only [ByteArray.size_append,Int.natCast_add]; rfl) | (simp [ByteArray.size_append,Int.add_assoc]; done)) ?_
        with_reducible refine (clay_Get.calls kj2 ((strOfNums y494) ++ (t474.extract 1 t474.size)) t497 t498 t499 t500 t501 t502 t503 t504 t505 t506 t507 t508 t509 t510 t513 _ A21.out).mono ?_
        rintro e w36 ⟨v511,rfl,ho0,hb⟩
        refine ⟨_,rfl,?_⟩
        have n0_:=Aside0.mk (Kd.R_elder' (by (with_reducible repeat (first | apply Kd.R_alloc | apply Kd.R_drewN | apply Kd.R_drew)); exact HO491.out) (Kd.R_base ho0) hb)
        have n1_:=Aside0.mk (Kd.R_below (by (with_reducible repeat (first | apply Kd.R_alloc | apply Kd.R_drewN | apply Kd.R_drew)); exact HO496.out) hb)
        have n2_:=Aside0.mk (Kd.R_lower (Kd.R_new' ho0 (Kd.R_lt (by (with_reducible repeat (first | apply Kd.R_alloc | apply Kd.R_drewN | apply Kd.R_drew)); exact HO491.out))) (below_size (by repeat (first | (with_reducible first | exact HB.out | apply below_alloc | apply pw_below_drewN | apply below_drew1 | refine below_set ?_ GE471.out | refine below_set ?_ GE493.out | refine below_set ?_ GE514.out) | exact HB.out))))
        have n3_:=Aside0.mk (blk_below (g:=gb471) (o:=.cells #[.int .i64 a0_0,.int .i64 a0_1,.int .i64 a0_2,.int .i64 a0_3,.int .i64 a0_4,.int .i64 a0_5,.int .i64 a0_6,.int .i64 a0_7,.int .i64 a0_8,.int .i64 a0_9,.int .i64 a0_10,.int .i64 a0_11,.int .i64 a0_12,.slice A0_13 l0_13.length c0_13] 31 (0,0)) (by (with_reducible repeat (first | refine blk_drewN ?_ _ | refine blk_drew ?_ | refine blk_alloc ?_ _)); exact BK471.out) hb)
        have n4_:=Aside0.mk (blk_below (g:=gb493) (o:=.cells #[.int .i64 t476,.int .i64 t477,.int .i64 t478,.int .i64 t479,.int .i64 t480,.int .i64 t481,.int .i64 t482,.int .i64 t483,.int .i64 t484,.int .i64 t485,.int .i64 t486,.int .i64 t487,.int .i64 t488,.slice Ao29 t489.length co29] 31 (0,0)) (by (with_reducible repeat (first | refine blk_drewN ?_ _ | refine blk_drew ?_ | refine blk_alloc ?_ _)); exact BK493.out) hb)
        have n5_:=Aside0.mk (blk_below (g:=gb514) (o:=.cells #[.int .i64 0,.int .i64 0,.int .i64 0,.int .i64 0,.int .i64 0,.int .i64 0,.int .i64 0,.int .i64 0,.int .i64 0,.int .i64 0,.int .i64 0,.int .i64 0,.int .i64 0,.slice none 0 0] 31 (0,0)) (by (with_reducible repeat (first | refine blk_drewN ?_ _ | refine blk_drew ?_ | refine blk_alloc ?_ _)); exact BK514.out) hb)
        have n6_:=Aside0.mk (below_step (by repeat (first | (with_reducible first | exact HB.out | apply below_alloc | apply pw_below_drewN | apply below_drew1 | refine below_set ?_ GE471.out | refine below_set ?_ GE493.out | refine below_set ?_ GE514.out) | exact HB.out)) hb)
        clear HO491
        clear HO496
        clear BK471
        clear BK493
        clear BK514
        clear HB
        have HO491:=n0_
        have HO496:=n1_
        have HO512:=n2_
        have BK471:=n3_
        have BK493:=n4_
        have BK514:=n5_
        have HB:=n6_
        clear n0_ n1_ n2_ n3_ n4_ n5_ n6_
        (try clear hb)
        (try clear hb2)
        (try clear hk)
        (try clear hi)
        (try clear ho0)
        refine hK.out _ _ trivial (fun hHeld => ?_)
        clear hK K
        refine norm_ (a':=?_) ?_ ?_
        rotate_left
        ·show Act.put _ (some 43) _ = _
         simp only [Act.put,List.setIfInBounds_toArray,List.set_cons_zero,List.set_cons_succ,i64_w,i32_w]
         rfl
        refine pure_ (i:=8) (N:=some 35) (v:=?_) (a':=?_) #[true,true,true,true,true,true,true,true,true,false,false,true,false,false] rfl rfl (any_of HT_.out (by kernel_rfl)) (fun _ _ _ h => h) (Or.inl ⟨by rfl,?_⟩) ?_ ?_
        rotate_left
        ·intro w'
         go_simp
         first | with_reducible rfl | (rw [if_neg (by (try simp only [ByteArray.size_append,ByteArray.size_extract,decide_eq_true_eq,eq_iff_iff,iff_true,beq_iff_eq] at *); omega)] <;> with_reducible rfl)
        rotate_left
        ·simp only [Act.put,List.setIfInBounds_toArray,List.set_cons_zero,List.set_cons_succ,i64_w,i32_w]
         rfl
        refine pure_ (i:=9) (N:=some 44) (v:=?_) (a':=?_) #[true,true,true,true,true,true,true,true,true,true,false,true,false,false] rfl rfl (any_of HT_.out (by kernel_rfl)) (fun _ _ _ h => h) (Or.inl ⟨by rfl,?_⟩) ?_ ?_
        rotate_left
        ·intro w'
         go_simp
         first | with_reducible rfl | (rw [if_neg (by (try simp only [ByteArray.size_append,ByteArray.size_extract,decide_eq_true_eq,eq_iff_iff,iff_true,beq_iff_eq] at *); omega)] <;> with_reducible rfl)
        rotate_left
        ·simp only [Act.put,List.setIfInBounds_toArray,List.set_cons_zero,List.set_cons_succ,i64_w,i32_w]
         rfl
        refine pure_ (i:=10) (N:=some 45) (v:=?_) (a':=?_) #[true,true,true,true,true,true,true,true,true,true,true,true,false,false] rfl rfl (any_of HT_.out (by kernel_rfl)) (fun _ _ _ h => h) (Or.inl ⟨by rfl,?_⟩) ?_ ?_
        rotate_left
        ·intro w'
         go_simp
         first | with_reducible rfl | (rw [if_neg (by (try simp only [ByteArray.size_append,ByteArray.size_extract,decide_eq_true_eq,eq_iff_iff,iff_true,beq_iff_eq] at *); omega)] <;> with_reducible rfl)
        rotate_left
        ·simp only [Act.put,List.setIfInBounds_toArray,List.set_cons_zero,List.set_cons_succ,i64_w,i32_w]
         rfl
        exact norm_ (by simp only [putAll,Act.put,List.setIfInBounds_toArray,List.set_cons_zero,List.set_cons_succ]) (hCont (v495,v511,gb514) _ ⟨(by (with_reducible repeat (first | apply Kd.R_alloc | apply Kd.R_drewN | apply Kd.R_drew)); exact Kd.R_mono HO491.out (fun _ hk => hk.2)),(by (with_reducible repeat (first | apply Kd.R_alloc | apply Kd.R_drewN | apply Kd.R_drew)); exact HO496.out),(by (with_reducible repeat (first | apply Kd.R_alloc | apply Kd.R_drewN | apply Kd.R_drew)); exact Kd.R_mono HO512.out (fun _ hk => hk.2)),(by (with_reducible repeat (first | refine blk_drewN ?_ _ | refine blk_drew ?_ | refine blk_alloc ?_ _)); exact BK471.out),(by (with_reducible repeat (first | refine blk_drewN ?_ _ | refine blk_drew ?_ | refine blk_alloc ?_ _)); exact BK493.out),(by (with_reducible repeat (first | refine blk_drewN ?_ _ | refine blk_drew ?_ | refine blk_alloc ?_ _)); exact BK514.out),GW514.out,GE514.out,NB471_514.out,NB514_471.out,NB493_514.out,NB514_493.out,(by repeat (first | (with_reducible first | exact HB.out | apply below_alloc | apply pw_below_drewN | apply below_drew1 | refine below_set ?_ GE471.out | refine below_set ?_ GE493.out | refine below_set ?_ GE514.out) | exact HB.out))⟩)
       skip
       refine box_step ?hg (N:=9) ?hd (cs:=#[.int .i64 0,.int .i64 0,.int .i64 0,.int .i64 0,.int .i64 0,.int .i64 0,.int .i64 0,.int .i64 0,.int .i64 0,.int .i64 0,.int .i64 0,.int .i64 0,.int .i64 0,.slice none 0 0]) (t:=31) ?hr ?_; (case hd => rfl); (case hg => rfl); (case hr => first | (go_simp; done) | (go_simp; rfl))
       intro gb514 hg w34 hbox hb
       have n0_:=Aside0.mk (Kd.R_below (by (with_reducible repeat (first | apply Kd.R_alloc | apply Kd.R_drewN | apply Kd.R_drew)); exact HO491.out) hb)
       have n1_:=Aside0.mk (Kd.R_below (by (with_reducible repeat (first | apply Kd.R_alloc | apply Kd.R_drewN | apply Kd.R_drew)); exact HO496.out) hb)
       have n2_:=Aside0.mk (blk_below (g:=gb471) (o:=.cells #[.int .i64 a0_0,.int .i64 a0_1,.int .i64 a0_2,.int .i64 a0_3,.int .i64 a0_4,.int .i64 a0_5,.int .i64 a0_6,.int .i64 a0_7,.int .i64 a0_8,.int .i64 a0_9,.int .i64 a0_10,.int .i64 a0_11,.int .i64 a0_12,.slice A0_13 l0_13.length c0_13] 31 (0,0)) (by (with_reducible repeat (first | refine blk_drewN ?_ _ | refine blk_drew ?_ | refine blk_alloc ?_ _)); exact BK471.out) hb)
       have n3_:=Aside0.mk (blk_below (g:=gb493) (o:=.cells #[.int .i64 t476,.int .i64 t477,.int .i64 t478,.int .i64 t479,.int .i64 t480,.int .i64 t481,.int .i64 t482,.int .i64 t483,.int .i64 t484,.int .i64 t485,.int .i64 t486,.int .i64 t487,.int .i64 t488,.slice Ao29 t489.length co29] 31 (0,0)) (by (with_reducible repeat (first | refine blk_drewN ?_ _ | refine blk_drew ?_ | refine blk_alloc ?_ _)); exact BK493.out) hb)
       have n4_:=Aside0.mk (below_step (by repeat (first | (with_reducible first | exact HB.out | apply below_alloc | apply pw_below_drewN | apply below_drew1 | refine below_set ?_ GE471.out | refine below_set ?_ GE493.out) | exact HB.out)) hb)
       have n5_:=Aside0.mk (hbox)
       have n6_:=Aside0.mk ((by rw [hg]; exact (below_size (by repeat (first | (with_reducible first | exact HB.out | apply below_alloc | apply pw_below_drewN | apply below_drew1 | refine below_set ?_ GE471.out | refine below_set ?_ GE493.out) | exact HB.out))) : w.heap.size ≤ gb514))
       have n7_:=Aside0.mk ((by rw [hg]; exact (below_size (by repeat (first | (with_reducible first | exact HB.out | apply below_alloc | apply pw_below_drewN | apply below_drew1 | refine below_set ?_ GE471.out | refine below_set ?_ GE493.out) | exact HB.out))) : w.heap.size ≤ gb514))
       have n8_:=Aside0.mk ((by rw [hg]; exact Nat.ne_of_lt (blk_lt (g:=gb471) (o:=.cells #[.int .i64 a0_0,.int .i64 a0_1,.int .i64 a0_2,.int .i64 a0_3,.int .i64 a0_4,.int .i64 a0_5,.int .i64 a0_6,.int .i64 a0_7,.int .i64 a0_8,.int .i64 a0_9,.int .i64 a0_10,.int .i64 a0_11,.int .i64 a0_12,.slice A0_13 l0_13.length c0_13] 31 (0,0)) (by (with_reducible repeat (first | refine blk_drewN ?_ _ | refine blk_drew ?_ | refine blk_alloc ?_ _)); exact BK471.out)) : gb471 ≠ gb514))
       have n9_:=Aside0.mk ((by rw [hg]; exact Nat.ne_of_gt (blk_lt (g:=gb471) (o:=.cells #[.int .i64 a0_0,.int .i64 a0_1,.int .i64 a0_2,.int .i64 a0_3,.int .i64 a0_4,.int .i64 a0_5,.int .i64 a0_6,.int .i64 a0_7,.int .i64 a0_8,.int .i64 a0_9,.int .i64 a0_10,.int .i64 a0_11,.int .i64 a0_12,.slice A0_13 l0_13.length c0_13] 31 (0,0)) (by (with_reducible repeat (first | refine blk_drewN ?_ _ | refine blk_drew ?_ | refine blk_alloc ?_ _)); exact BK471.out)) : gb514 ≠ gb471))
       have n10_:=Aside0.mk ((by rw [hg]; exact Nat.ne_of_lt (blk_lt (g:=gb493) (o:=.cells #[.int .i64 t476,.int .i64 t477,.int .i64 t478,.int .i64 t479,.int .i64 t480,.int .i64 t481,.int .i64 t482,.int .i64 t483,.int .i64 t484,.int .i64 t485,.int .i64 t486,.int .i64 t487,.int .i64 t488,.slice Ao29 t489.length co29] 31 (0,0)) (by (with_reducible repeat (first | refine blk_drewN ?_ _ | refine blk_drew ?_ | refine blk_alloc ?_ _)); exact BK493.out)) : gb493 ≠ gb514))
       have n11_:=Aside0.mk ((by rw [hg]; exact Nat.ne_of_gt (blk_lt (g:=gb493) (o:=.cells #[.int .i64 t476,.int .i64 t477,.int .i64 t478,.int .i64 t479,.int .i64 t480,.int .i64 t481,.int .i64 t482,.int .i64 t483,.int .i64 t484,.int .i64 t485,.int .i64 t486,.int .i64 t487,.int .i64 t488,.slice Ao29 t489.length co29] 31 (0,0)) (by (with_reducible repeat (first | refine blk_drewN ?_ _ | refine blk_drew ?_ | refine blk_alloc ?_ _)); exact BK493.out)) : gb514 ≠ gb493))
       clear HO491
       clear HO496
       clear BK471
       clear BK493
       clear HB
       have HO491:=n0_
       have HO496:=n1_
       have BK471:=n2_
       have BK493:=n3_
       have HB:=n4_
       have BK514:=n5_
       have GW514:=n6_
       have GE514:=n7_
       have NB471_514:=n8_
       have NB514_471:=n9_
       have NB493_514:=n10_
       have NB514_493:=n11_
       clear n0_ n1_ n2_ n3_ n4_ n5_ n6_ n7_ n8_ n9_ n10_ n11_
       clear hb hbox hg
       refine hK.out _ _ trivial (fun hHeld => ?_)
       clear hK K
       refine norm_ (a':=?_) ?_ ?_
       rotate_left
       ·show Act.put _ (some 9) _ = _
        simp only [Act.put,List.setIfInBounds_toArray,List.set_cons_zero,List.set_cons_succ,i64_w,i32_w]
        rfl
       refine one_ (i:=3) (N:=some 39) #[true,true,true,true,true,true,false,false,false,false,false,true,false,false] rfl rfl (one_of HT_.out (by kernel_rfl)) (by decide) (fun K hK => ?_)
       have hcv35:=own_string (P:=Try.prog) Try.underlying67 Try.underlying5 Try.underlying9 (Kd.own_of_R HO496.out)
       refine value_ (w1:=?_) (v:=?_) (by rfl) rfl ?_ ?_
       rotate_left 2
       ·go_simp
        constructor
        ·rfl
        rfl
       clear hcv35
       refine hK.out _ _ trivial (fun hHeld => ?_)
       clear hK K
       refine norm_ (a':=?_) ?_ ?_
       rotate_left
       ·show Act.put _ (some 39) _ = _
        simp only [Act.put,List.setIfInBounds_toArray,List.set_cons_zero,List.set_cons_succ,i64_w,i32_w]
        rfl
       refine pure_ (i:=6) (N:=some 42) (v:=?_) (a':=?_) #[true,true,true,true,true,true,true,false,false,false,false,true,false,false] rfl rfl (any_of HT_.out (by kernel_rfl)) (fun _ _ _ h => h) (Or.inl ⟨by rfl,?_⟩) ?_ ?_
       rotate_left
       ·intro w'
        go_simp
        first | with_reducible rfl | (rw [if_neg (by (try simp only [ByteArray.size_append,ByteArray.size_extract,decide_eq_true_eq,eq_iff_iff,iff_true,beq_iff_eq] at *); omega)] <;> with_reducible rfl)
       rotate_left
       ·simp only [Act.put,List.setIfInBounds_toArray,List.set_cons_zero,List.set_cons_succ,i64_w,i32_w]
        rfl
       refine one_ (i:=7) (N:=some 43) #[true,true,true,true,true,true,true,true,false,false,false,true,false,false] rfl rfl (one_of HT_.out (by kernel_rfl)) (by decide) (fun K hK => ?_)
       refine goes_ Try.func15 (by kernel_rfl) rfl #[.string ((strOfNums y494) ++ (t474.extract 1 t474.size))] (by rfl) rfl rfl (by (try simp only [List.map_toArray,List.map_cons,List.map_nil]); first | done | rfl | (simp only [List.length_drop,List.length_take]; rfl) | (simp only [ByteArray.size_append,Int.natCast_add]; rfl) | (simp [ByteArray.size_append,Int.add_assoc]; done)) ?_
       with_reducible refine (clay_Get.calls kj2 ((strOfNums y494) ++ (t474.extract 1 t474.size)) t497 t498 t499 t500 t501 t502 t503 t504 t505 t506 t507 t508 t509 t510 t513 _ A21.out).mono ?_
       rintro e w36 ⟨v511,rfl,ho0,hb⟩
       refine ⟨_,rfl,?_⟩
       have n0_:=Aside0.mk (Kd.R_elder' (by (with_reducible repeat (first | apply Kd.R_alloc | apply Kd.R_drewN | apply Kd.R_drew)); exact HO491.out) (Kd.R_base ho0) hb)
       have n1_:=Aside0.mk (Kd.R_below (by (with_reducible repeat (first | apply Kd.R_alloc | apply Kd.R_drewN | apply Kd.R_drew)); exact HO496.out) hb)
       have n2_:=Aside0.mk (Kd.R_lower (Kd.R_new' ho0 (Kd.R_lt (by (with_reducible repeat (first | apply Kd.R_alloc | apply Kd.R_drewN | apply Kd.R_drew)); exact HO491.out))) (below_size (by repeat (first | (with_reducible first | exact HB.out | apply below_alloc | apply pw_below_drewN | apply below_drew1 | refine below_set ?_ GE471.out | refine below_set ?_ GE493.out | refine below_set ?_ GE514.out) | exact HB.out))))
       have n3_:=Aside0.mk (blk_below (g:=gb471) (o:=.cells #[.int .i64 a0_0,.int .i64 a0_1,.int .i64 a0_2,.int .i64 a0_3,.int .i64 a0_4,.int .i64 a0_5,.int .i64 a0_6,.int .i64 a0_7,.int .i64 a0_8,.int .i64 a0_9,.int .i64 a0_10,.int .i64 a0_11,.int .i64 a0_12,.slice A0_13 l0_13.length c0_13] 31 (0,0)) (by (with_reducible repeat (first | refine blk_drewN ?_ _ | refine blk_drew ?_ | refine blk_alloc ?_ _)); exact BK471.out) hb)
       have n4_:=Aside0.mk (blk_below (g:=gb493) (o:=.cells #[.int .i64 t476,.int .i64 t477,.int .i64 t478,.int .i64 t479,.int .i64 t480,.int .i64 t481,.int .i64 t482,.int .i64 t483,.int .i64 t484,.int .i64 t485,.int .i64 t486,.int .i64 t487,.int .i64 t488,.slice Ao29 t489.length co29] 31 (0,0)) (by (with_reducible repeat (first | refine blk_drewN ?_ _ | refine blk_drew ?_ | refine blk_alloc ?_ _)); exact BK493.out) hb)
       have n5_:=Aside0.mk (blk_below (g:=gb514) (o:=.cells #[.int .i64 0,.int .i64 0,.int .i64 0,.int .i64 0,.int .i64 0,.int .i64 0,.int .i64 0,.int .i64 0,.int .i64 0,.int .i64 0,.int .i64 0,.int .i64 0,.int .i64 0,.slice none 0 0] 31 (0,0)) (by (with_reducible repeat (first | refine blk_drewN ?_ _ | refine blk_drew ?_ | refine blk_alloc ?_ _)); exact BK514.out) hb)
       have n6_:=Aside0.mk (below_step (by repeat (first | (with_reducible first | exact HB.out | apply below_alloc | apply pw_below_drewN | apply below_drew1 | refine below_set ?_ GE471.out | refine below_set ?_ GE493.out | refine below_set ?_ GE514.out) | exact HB.out)) hb)
       clear HO491
       clear HO496
       clear BK471
       clear BK493
       clear BK514
       clear HB
       have HO491:=n0_
       have HO496:=n1_
       have HO512:=n2_
       have BK471:=n3_
       have BK493:=n4_
       have BK514:=n5_
       have HB:=n6_
       clear n0_ n1_ n2_ n3_ n4_ n5_ n6_
       (try clear hb)
       (try clear hb2)
       (try clear hk)
       (try clear hi)
       (try clear ho0)
       refine hK.out _ _ trivial (fun hHeld => ?_)
       clear hK K
       refine norm_ (a':=?_) ?_ ?_
       rotate_left
       ·show Act.put _ (some 43) _ = _
        simp only [Act.put,List.setIfInBounds_toArray,List.set_cons_zero,List.set_cons_succ,i64_w,i32_w]
        rfl
       refine pure_ (i:=8) (N:=some 35) (v:=?_) (a':=?_) #[true,true,true,true,true,true,true,true,true,false,false,true,false,false] rfl rfl (any_of HT_.out (by kernel_rfl)) (fun _ _ _ h => h) (Or.inl ⟨by rfl,?_⟩) ?_ ?_
       rotate_left
       ·intro w'
        go_simp
        first | with_reducible rfl | (rw [if_neg (by (try simp only [ByteArray.size_append,ByteArray.size_extract,decide_eq_true_eq,eq_iff_iff,iff_true,beq_iff_eq] at *); omega)] <;> with_reducible rfl)
       rotate_left
       ·simp only [Act.put,List.setIfInBounds_toArray,List.set_cons_zero,List.set_cons_succ,i64_w,i32_w]
        rfl
       refine pure_ (i:=9) (N:=some 44) (v:=?_) (a':=?_) #[true,true,true,true,true,true,true,true,true,true,false,true,false,false] rfl rfl (any_of HT_.out (by kernel_rfl)) (fun _ _ _ h => h) (Or.inl ⟨by rfl,?_⟩) ?_ ?_
       rotate_left
       ·intro w'
        go_simp
        first | with_reducible rfl | (rw [if_neg (by (try simp only [ByteArray.size_append,ByteArray.size_extract,decide_eq_true_eq,eq_iff_iff,iff_true,beq_iff_eq] at *); omega)] <;> with_reducible rfl)
       rotate_left
       ·simp only [Act.put,List.setIfInBounds_toArray,List.set_cons_zero,List.set_cons_succ,i64_w,i32_w]
        rfl
       refine pure_ (i:=10) (N:=some 45) (v:=?_) (a':=?_) #[true,true,true,true,true,true,true,true,true,true,true,true,false,false] rfl rfl (any_of HT_.out (by kernel_rfl)) (fun _ _ _ h => h) (Or.inl ⟨by rfl,?_⟩) ?_ ?_
       rotate_left
       ·intro w'
        go_simp
        first | with_reducible rfl | (rw [if_neg (by (try simp only [ByteArray.size_append,ByteArray.size_extract,decide_eq_true_eq,eq_iff_iff,iff_true,beq_iff_eq] at *); omega)] <;> with_reducible rfl)
       rotate_left
       ·simp only [Act.put,List.setIfInBounds_toArray,List.set_cons_zero,List.set_cons_succ,i64_w,i32_w]
        rfl
       exact norm_ (by simp only [putAll,Act.put,List.setIfInBounds_toArray,List.set_cons_zero,List.set_cons_succ]) (hCont (v495,v511,gb514) _ ⟨(by (with_reducible repeat (first | apply Kd.R_alloc | apply Kd.R_drewN | apply Kd.R_drew)); exact Kd.R_mono HO491.out (fun _ hk => hk.2)),(by (with_reducible repeat (first | apply Kd.R_alloc | apply Kd.R_drewN | apply Kd.R_drew)); exact HO496.out),(by (with_reducible repeat (first | apply Kd.R_alloc | apply Kd.R_drewN | apply Kd.R_drew)); exact Kd.R_mono HO512.out (fun _ hk => hk.2)),(by (with_reducible repeat (first | refine blk_drewN ?_ _ | refine blk_drew ?_ | refine blk_alloc ?_ _)); exact BK471.out),(by (with_reducible repeat (first | refine blk_drewN ?_ _ | refine blk_drew ?_ | refine blk_alloc ?_ _)); exact BK493.out),(by (with_reducible repeat (first | refine blk_drewN ?_ _ | refine blk_drew ?_ | refine blk_alloc ?_ _)); exact BK514.out),GW514.out,GE514.out,NB471_514.out,NB514_471.out,NB493_514.out,NB514_493.out,(by repeat (first | (with_reducible first | exact HB.out | apply below_alloc | apply pw_below_drewN | apply below_drew1 | refine below_set ?_ GE471.out | refine below_set ?_ GE493.out | refine below_set ?_ GE514.out) | exact HB.out))⟩)
      skip
      refine box_step ?hg (N:=9) ?hd (cs:=#[.int .i64 0,.int .i64 0,.int .i64 0,.int .i64 0,.int .i64 0,.int .i64 0,.int .i64 0,.int .i64 0,.int .i64 0,.int .i64 0,.int .i64 0,.int .i64 0,.int .i64 0,.slice none 0 0]) (t:=31) ?hr ?_; (case hd => rfl); (case hg => rfl); (case hr => first | (go_simp; done) | (go_simp; rfl))
      intro gb514 hg w32 hbox hb
      have n0_:=Aside0.mk (Kd.R_below (by (with_reducible repeat (first | apply Kd.R_alloc | apply Kd.R_drewN | apply Kd.R_drew)); exact HO491.out) hb)
      have n1_:=Aside0.mk (blk_below (g:=gb471) (o:=.cells #[.int .i64 a0_0,.int .i64 a0_1,.int .i64 a0_2,.int .i64 a0_3,.int .i64 a0_4,.int .i64 a0_5,.int .i64 a0_6,.int .i64 a0_7,.int .i64 a0_8,.int .i64 a0_9,.int .i64 a0_10,.int .i64 a0_11,.int .i64 a0_12,.slice A0_13 l0_13.length c0_13] 31 (0,0)) (by (with_reducible repeat (first | refine blk_drewN ?_ _ | refine blk_drew ?_ | refine blk_alloc ?_ _)); exact BK471.out) hb)
      have n2_:=Aside0.mk (blk_below (g:=gb493) (o:=.cells #[.int .i64 t476,.int .i64 t477,.int .i64 t478,.int .i64 t479,.int .i64 t480,.int .i64 t481,.int .i64 t482,.int .i64 t483,.int .i64 t484,.int .i64 t485,.int .i64 t486,.int .i64 t487,.int .i64 t488,.slice Ao29 t489.length co29] 31 (0,0)) (by (with_reducible repeat (first | refine blk_drewN ?_ _ | refine blk_drew ?_ | refine blk_alloc ?_ _)); exact BK493.out) hb)
      have n3_:=Aside0.mk (below_step (by repeat (first | (with_reducible first | exact HB.out | apply below_alloc | apply pw_below_drewN | apply below_drew1 | refine below_set ?_ GE471.out | refine below_set ?_ GE493.out) | exact HB.out)) hb)
      have n4_:=Aside0.mk (hbox)
      have n5_:=Aside0.mk ((by rw [hg]; exact (below_size (by repeat (first | (with_reducible first | exact HB.out | apply below_alloc | apply pw_below_drewN | apply below_drew1 | refine below_set ?_ GE471.out | refine below_set ?_ GE493.out) | exact HB.out))) : w.heap.size ≤ gb514))
      have n6_:=Aside0.mk ((by rw [hg]; exact (below_size (by repeat (first | (with_reducible first | exact HB.out | apply below_alloc | apply pw_below_drewN | apply below_drew1 | refine below_set ?_ GE471.out | refine below_set ?_ GE493.out) | exact HB.out))) : w.heap.size ≤ gb514))
      have n7_:=Aside0.mk ((by rw [hg]; exact Nat.ne_of_lt (blk_lt (g:=gb471) (o:=.cells #[.int .i64 a0_0,.int .i64 a0_1,.int .i64 a0_2,.int .i64 a0_3,.int .i64 a0_4,.int .i64 a0_5,.int .i64 a0_6,.int .i64 a0_7,.int .i64 a0_8,.int .i64 a0_9,.int .i64 a0_10,.int .i64 a0_11,.int .i64 a0_12,.slice A0_13 l0_13.length c0_13] 31 (0,0)) (by (with_reducible repeat (first | refine blk_drewN ?_ _ | refine blk_drew ?_ | refine blk_alloc ?_ _)); exact BK471.out)) : gb471 ≠ gb514))
      have n8_:=Aside0.mk ((by rw [hg]; exact Nat.ne_of_gt (blk_lt (g:=gb471) (o:=.cells #[.int .i64 a0_0,.int .i64 a0_1,.int .i64 a0_2,.int .i64 a0_3,.int .i64 a0_4,.int .i64 a0_5,.int .i64 a0_6,.int .i64 a0_7,.int .i64 a0_8,.int .i64 a0_9,.int .i64 a0_10,.int .i64 a0_11,.int .i64 a0_12,.slice A0_13 l0_13.length c0_13] 31 (0,0)) (by (with_reducible repeat (first | refine blk_drewN ?_ _ | refine blk_drew ?_ | refine blk_alloc ?_ _)); exact BK471.out)) : gb514 ≠ gb471))
      have n9_:=Aside0.mk ((by rw [hg]; exact Nat.ne_of_lt (blk_lt (g:=gb493) (o:=.cells #[.int .i64 t476,.int .i64 t477,.int .i64 t478,.int .i64 t479,.int .i64 t480,.int .i64 t481,.int .i64 t482,.int .i64 t483,.int .i64 t484,.int .i64 t485,.int .i64 t486,.int .i64 t487,.int .i64 t488,.slice Ao29 t489.length co29] 31 (0,0)) (by (with_reducible repeat (first | refine blk_drewN ?_ _ | refine blk_drew ?_ | refine blk_alloc ?_ _)); exact BK493.out)) : gb493 ≠ gb514))
      have n10_:=Aside0.mk ((by rw [hg]; exact Nat.ne_of_gt (blk_lt (g:=gb493) (o:=.cells #[.int .i64 t476,.int .i64 t477,.int .i64 t478,.int .i64 t479,.int .i64 t480,.int .i64 t481,.int .i64 t482,.int .i64 t483,.int .i64 t484,.int .i64 t485,.int .i64 t486,.int .i64 t487,.int .i64 t488,.slice Ao29 t489.length co29] 31 (0,0)) (by (with_reducible repeat (first | refine blk_drewN ?_ _ | refine blk_drew ?_ | refine blk_alloc ?_ _)); exact BK493.out)) : gb514 ≠ gb493))
      clear HO491
      clear BK471
      clear BK493
      clear HB
      have HO491:=n0_
      have BK471:=n1_
      have BK493:=n2_
      have HB:=n3_
      have BK514:=n4_
      have GW514:=n5_
      have GE514:=n6_
      have NB471_514:=n7_
      have NB514_471:=n8_
      have NB493_514:=n9_
      have NB514_493:=n10_
      clear n0_ n1_ n2_ n3_ n4_ n5_ n6_ n7_ n8_ n9_ n10_
      clear hb hbox hg
      refine hK.out _ _ trivial (fun hHeld => ?_)
      clear hK K
      refine norm_ (a':=?_) ?_ ?_
      rotate_left
      ·show Act.put _ (some 9) _ = _
       simp only [Act.put,List.setIfInBounds_toArray,List.set_cons_zero,List.set_cons_succ,i64_w,i32_w]
       rfl
      refine one_ (i:=2) (N:=some 38) #[true,true,true,false,true,true,false,false,false,false,false,true,false,false] rfl rfl (one_of HT_.out (by kernel_rfl)) (by decide) (fun K hK => ?_)
      refine Kd.R_lit_step (Kd.int .u8) _ 5 ?hg (N:=38) ?hd (xs:=([(a1) % 256] : List Int)) (inner:=[.int .u8 ((a1) % 256)]) (ok:=fun _ => True) (okp:=fun _ => True) ?hr ?hp (fun _ hk => hk) trivial (Below.refl _ _) (Nat.le_refl _) (by simp) ?_; (case hd => rfl); (case hg => rfl); (case hr => first | (go_simp; done) | (go_simp; rfl)); (case hp => exact (Reps.one (show Kd.M (Kd.int .u8) _ _ _ ((a1) % 256) [.int .u8 ((a1) % 256)] from rfl) (Reps.none _ _)))
      intro v495 w33 ho34 hb hg_ hnew_
      clear hg_ hnew_
      (first | rw [← Ny494.out] at ho34 | (simp only [Int.reduceToNat] at ho34; rw [← Ny494.out] at ho34))
      have n0_:=Aside0.mk (Kd.R_below (by (with_reducible repeat (first | apply Kd.R_alloc | apply Kd.R_drewN | apply Kd.R_drew)); exact HO491.out) hb)
      have n1_:=Aside0.mk (Kd.R_lower ho34 (below_size (by repeat (first | (with_reducible first | exact HB.out | apply below_alloc | apply pw_below_drewN | apply below_drew1 | refine below_set ?_ GE471.out | refine below_set ?_ GE493.out | refine below_set ?_ GE514.out) | exact HB.out))))
      have n2_:=Aside0.mk (blk_below (g:=gb471) (o:=.cells #[.int .i64 a0_0,.int .i64 a0_1,.int .i64 a0_2,.int .i64 a0_3,.int .i64 a0_4,.int .i64 a0_5,.int .i64 a0_6,.int .i64 a0_7,.int .i64 a0_8,.int .i64 a0_9,.int .i64 a0_10,.int .i64 a0_11,.int .i64 a0_12,.slice A0_13 l0_13.length c0_13] 31 (0,0)) (by (with_reducible repeat (first | refine blk_drewN ?_ _ | refine blk_drew ?_ | refine blk_alloc ?_ _)); exact BK471.out) hb)
      have n3_:=Aside0.mk (blk_below (g:=gb493) (o:=.cells #[.int .i64 t476,.int .i64 t477,.int .i64 t478,.int .i64 t479,.int .i64 t480,.int .i64 t481,.int .i64 t482,.int .i64 t483,.int .i64 t484,.int .i64 t485,.int .i64 t486,.int .i64 t487,.int .i64 t488,.slice Ao29 t489.length co29] 31 (0,0)) (by (with_reducible repeat (first | refine blk_drewN ?_ _ | refine blk_drew ?_ | refine blk_alloc ?_ _)); exact BK493.out) hb)
      have n4_:=Aside0.mk (blk_below (g:=gb514) (o:=.cells #[.int .i64 0,.int .i64 0,.int .i64 0,.int .i64 0,.int .i64 0,.int .i64 0,.int .i64 0,.int .i64 0,.int .i64 0,.int .i64 0,.int .i64 0,.int .i64 0,.int .i64 0,.slice none 0 0] 31 (0,0)) (by (with_reducible repeat (first | refine blk_drewN ?_ _ | refine blk_drew ?_ | refine blk_alloc ?_ _)); exact BK514.out) hb)
      have n5_:=Aside0.mk (below_step (by repeat (first | (with_reducible first | exact HB.out | apply below_alloc | apply pw_below_drewN | apply below_drew1 | refine below_set ?_ GE471.out | refine below_set ?_ GE493.out | refine below_set ?_ GE514.out) | exact HB.out)) hb)
      clear HO491
      clear BK471
      clear BK493
      clear BK514
      clear HB
      have HO491:=n0_
      have HO496:=n1_
      have BK471:=n2_
      have BK493:=n3_
      have BK514:=n4_
      have HB:=n5_
      clear n0_ n1_ n2_ n3_ n4_ n5_
      clear hb ho34
      refine hK.out _ _ trivial (fun hHeld => ?_)
      clear hK K
      refine norm_ (a':=?_) ?_ ?_
      rotate_left
      ·show Act.put _ (some 38) _ = _
       simp only [Act.put,List.setIfInBounds_toArray,List.set_cons_zero,List.set_cons_succ,i64_w,i32_w]
       rfl
      refine one_ (i:=3) (N:=some 39) #[true,true,true,true,true,true,false,false,false,false,false,true,false,false] rfl rfl (one_of HT_.out (by kernel_rfl)) (by decide) (fun K hK => ?_)
      have hcv35:=own_string (P:=Try.prog) Try.underlying67 Try.underlying5 Try.underlying9 (Kd.own_of_R HO496.out)
      refine value_ (w1:=?_) (v:=?_) (by rfl) rfl ?_ ?_
      rotate_left 2
      ·go_simp
       constructor
       ·rfl
       rfl
      clear hcv35
      refine hK.out _ _ trivial (fun hHeld => ?_)
      clear hK K
      refine norm_ (a':=?_) ?_ ?_
      rotate_left
      ·show Act.put _ (some 39) _ = _
       simp only [Act.put,List.setIfInBounds_toArray,List.set_cons_zero,List.set_cons_succ,i64_w,i32_w]
       rfl
      refine pure_ (i:=6) (N:=some 42) (v:=?_) (a':=?_) #[true,true,true,true,true,true,true,false,false,false,false,true,false,false] rfl rfl (any_of HT_.out (by kernel_rfl)) (fun _ _ _ h => h) (Or.inl ⟨by rfl,?_⟩) ?_ ?_
      rotate_left
      ·intro w'
       go_simp
       first | with_reducible rfl | (rw [if_neg (by (try simp only [ByteArray.size_append,ByteArray.size_extract,decide_eq_true_eq,eq_iff_iff,iff_true,beq_iff_eq] at *); omega)] <;> with_reducible rfl)
      rotate_left
      ·simp only [Act.put,List.setIfInBounds_toArray,List.set_cons_zero,List.set_cons_succ,i64_w,i32_w]
       rfl
      refine one_ (i:=7) (N:=some 43) #[true,true,true,true,true,true,true,true,false,false,false,true,false,false] rfl rfl (one_of HT_.out (by kernel_rfl)) (by decide) (fun K hK => ?_)
      refine goes_ Try.func15 (by kernel_rfl) rfl #[.string ((strOfNums y494) ++ (t474.extract 1 t474.size))] (by rfl) rfl rfl (by (try simp only [List.map_toArray,List.map_cons,List.map_nil]); first | done | rfl | (simp only [List.length_drop,List.length_take]; rfl) | (simp only [ByteArray.size_append,Int.natCast_add]; rfl) | (simp [ByteArray.size_append,Int.add_assoc]; done)) ?_
      with_reducible refine (clay_Get.calls kj2 ((strOfNums y494) ++ (t474.extract 1 t474.size)) t497 t498 t499 t500 t501 t502 t503 t504 t505 t506 t507 t508 t509 t510 t513 _ A21.out).mono ?_
      rintro e w36 ⟨v511,rfl,ho0,hb⟩
      refine ⟨_,rfl,?_⟩
      have n0_:=Aside0.mk (Kd.R_elder' (by (with_reducible repeat (first | apply Kd.R_alloc | apply Kd.R_drewN | apply Kd.R_drew)); exact HO491.out) (Kd.R_base ho0) hb)
      have n1_:=Aside0.mk (Kd.R_below (by (with_reducible repeat (first | apply Kd.R_alloc | apply Kd.R_drewN | apply Kd.R_drew)); exact HO496.out) hb)
      have n2_:=Aside0.mk (Kd.R_lower (Kd.R_new' ho0 (Kd.R_lt (by (with_reducible repeat (first | apply Kd.R_alloc | apply Kd.R_drewN | apply Kd.R_drew)); exact HO491.out))) (below_size (by repeat (first | (with_reducible first | exact HB.out | apply below_alloc | apply pw_below_drewN | apply below_drew1 | refine below_set ?_ GE471.out | refine below_set ?_ GE493.out | refine below_set ?_ GE514.out) | exact HB.out))))
      have n3_:=Aside0.mk (blk_below (g:=gb471) (o:=.cells #[.int .i64 a0_0,.int .i64 a0_1,.int .i64 a0_2,.int .i64 a0_3,.int .i64 a0_4,.int .i64 a0_5,.int .i64 a0_6,.int .i64 a0_7,.int .i64 a0_8,.int .i64 a0_9,.int .i64 a0_10,.int .i64 a0_11,.int .i64 a0_12,.slice A0_13 l0_13.length c0_13] 31 (0,0)) (by (with_reducible repeat (first | refine blk_drewN ?_ _ | refine blk_drew ?_ | refine blk_alloc ?_ _)); exact BK471.out) hb)
      have n4_:=Aside0.mk (blk_below (g:=gb493) (o:=.cells #[.int .i64 t476,.int .i64 t477,.int .i64 t478,.int .i64 t479,.int .i64 t480,.int .i64 t481,.int .i64 t482,.int .i64 t483,.int .i64 t484,.int .i64 t485,.int .i64 t486,.int .i64 t487,.int .i64 t488,.slice Ao29 t489.length co29] 31 (0,0)) (by (with_reducible repeat (first | refine blk_drewN ?_ _ | refine blk_drew ?_ | refine blk_alloc ?_ _)); exact BK493.out) hb)
      have n5_:=Aside0.mk (blk_below (g:=gb514) (o:=.cells #[.int .i64 0,.int .i64 0,.int .i64 0,.int .i64 0,.int .i64 0,.int .i64 0,.int .i64 0,.int .i64 0,.int .i64 0,.int .i64 0,.int .i64 0,.int .i64 0,.int .i64 0,.slice none 0 0] 31 (0,0)) (by (with_reducible repeat (first | refine blk_drewN ?_ _ | refine blk_drew ?_ | refine blk_alloc ?_ _)); exact BK514.out) hb)
      have n6_:=Aside0.mk (below_step (by repeat (first | (with_reducible first | exact HB.out | apply below_alloc | apply pw_below_drewN | apply below_drew1 | refine below_set ?_ GE471.out | refine below_set ?_ GE493.out | refine below_set ?_ GE514.out) | exact HB.out)) hb)
      clear HO491
      clear HO496
      clear BK471
      clear BK493
      clear BK514
      clear HB
      have HO491:=n0_
      have HO496:=n1_
      have HO512:=n2_
      have BK471:=n3_
      have BK493:=n4_
      have BK514:=n5_
      have HB:=n6_
      clear n0_ n1_ n2_ n3_ n4_ n5_ n6_
      (try clear hb)
      (try clear hb2)
      (try clear hk)
      (try clear hi)
      (try clear ho0)
      refine hK.out _ _ trivial (fun hHeld => ?_)
      clear hK K
      refine norm_ (a':=?_) ?_ ?_
      rotate_left
      ·show Act.put _ (some 43) _ = _
       simp only [Act.put,List.setIfInBounds_toArray,List.set_cons_zero,List.set_cons_succ,i64_w,i32_w]
       rfl
      refine pure_ (i:=8) (N:=some 35) (v:=?_) (a':=?_) #[true,true,true,true,true,true,true,true,true,false,false,true,false,false] rfl rfl (any_of HT_.out (by kernel_rfl)) (fun _ _ _ h => h) (Or.inl ⟨by rfl,?_⟩) ?_ ?_
      rotate_left
      ·intro w'
       go_simp
       first | with_reducible rfl | (rw [if_neg (by (try simp only [ByteArray.size_append,ByteArray.size_extract,decide_eq_true_eq,eq_iff_iff,iff_true,beq_iff_eq] at *); omega)] <;> with_reducible rfl)
      rotate_left
      ·simp only [Act.put,List.setIfInBounds_toArray,List.set_cons_zero,List.set_cons_succ,i64_w,i32_w]
       rfl
      refine pure_ (i:=9) (N:=some 44) (v:=?_) (a':=?_) #[true,true,true,true,true,true,true,true,true,true,false,true,false,false] rfl rfl (any_of HT_.out (by kernel_rfl)) (fun _ _ _ h => h) (Or.inl ⟨by rfl,?_⟩) ?_ ?_
      rotate_left
      ·intro w'
       go_simp
       first | with_reducible rfl | (rw [if_neg (by (try simp only [ByteArray.size_append,ByteArray.size_extract,decide_eq_true_eq,eq_iff_iff,iff_true,beq_iff_eq] at *); omega)] <;> with_reducible rfl)
      rotate_left
      ·simp only [Act.put,List.setIfInBounds_toArray,List.set_cons_zero,List.set_cons_succ,i64_w,i32_w]
       rfl
      refine pure_ (i:=10) (N:=some 45) (v:=?_) (a':=?_) #[true,true,true,true,true,true,true,true,true,true,true,true,false,false] rfl rfl (any_of HT_.out (by kernel_rfl)) (fun _ _ _ h => h) (Or.inl ⟨by rfl,?_⟩) ?_ ?_
      rotate_left
      ·intro w'
       go_simp
       first | with_reducible rfl | (rw [if_neg (by (try simp only [ByteArray.size_append,ByteArray.size_extract,decide_eq_true_eq,eq_iff_iff,iff_true,beq_iff_eq] at *); omega)] <;> with_reducible rfl)
      rotate_left
      ·simp only [Act.put,List.setIfInBounds_toArray,List.set_cons_zero,List.set_cons_succ,i64_w,i32_w]
       rfl
      exact norm_ (by simp only [putAll,Act.put,List.setIfInBounds_toArray,List.set_cons_zero,List.set_cons_succ]) (hCont (v495,v511,gb514) _ ⟨(by (with_reducible repeat (first | apply Kd.R_alloc | apply Kd.R_drewN | apply Kd.R_drew)); exact Kd.R_mono HO491.out (fun _ hk => hk.2)),(by (with_reducible repeat (first | apply Kd.R_alloc | apply Kd.R_drewN | apply Kd.R_drew)); exact HO496.out),(by (with_reducible repeat (first | apply Kd.R_alloc | apply Kd.R_drewN | apply Kd.R_drew)); exact Kd.R_mono HO512.out (fun _ hk => hk.2)),(by (with_reducible repeat (first | refine blk_drewN ?_ _ | refine blk_drew ?_ | refine blk_alloc ?_ _)); exact BK471.out),(by (with_reducible repeat (first | refine blk_drewN ?_ _ | refine blk_drew ?_ | refine blk_alloc ?_ _)); exact BK493.out),(by (with_reducible repeat (first | refine blk_drewN ?_ _ | refine blk_drew ?_ | refine blk_alloc ?_ _)); exact BK514.out),GW514.out,GE514.out,NB471_514.out,NB514_471.out,NB493_514.out,NB514_493.out,(by repeat (first | (with_reducible first | exact HB.out | apply below_alloc | apply pw_below_drewN | apply below_drew1 | refine below_set ?_ GE471.out | refine below_set ?_ GE493.out | refine below_set ?_ GE514.out) | exact HB.out))⟩)
     rintro ⟨v495,v511,gb514⟩ w37 ⟨h0_,h1_,h2_,h3_,h4_,h5_,h6_,h7_,h8_,h9_,h10_,h11_,h12_⟩
     have n0_ : Aside0 (Kd.R (Kd.int .i64) 3 w37 w.heap.size (fun k_ => some k_ ≠ (v511 : Value).ownBlock) (.slice Ao29 t489.length co29) t489):=⟨h0_⟩
     have n1_ : Aside0 (Kd.R (Kd.int .u8) 5 w37 w.heap.size (fun _ => True) v495 y494):=⟨h1_⟩
     have n2_ : Aside0 (Kd.R (Kd.int .i64) 3 w37 w.heap.size (fun k_ => some k_ ≠ (.slice Ao29 t489.length co29 : Value).ownBlock) v511 t510):=⟨h2_⟩
     have n3_ : Aside0 (w37.heap[gb471]? = some (.cells #[.int .i64 a0_0,.int .i64 a0_1,.int .i64 a0_2,.int .i64 a0_3,.int .i64 a0_4,.int .i64 a0_5,.int .i64 a0_6,.int .i64 a0_7,.int .i64 a0_8,.int .i64 a0_9,.int .i64 a0_10,.int .i64 a0_11,.int .i64 a0_12,.slice A0_13 l0_13.length c0_13] 31 (0,0))):=⟨h3_⟩
     have n4_ : Aside0 (w37.heap[gb493]? = some (.cells #[.int .i64 t476,.int .i64 t477,.int .i64 t478,.int .i64 t479,.int .i64 t480,.int .i64 t481,.int .i64 t482,.int .i64 t483,.int .i64 t484,.int .i64 t485,.int .i64 t486,.int .i64 t487,.int .i64 t488,.slice Ao29 t489.length co29] 31 (0,0))):=⟨h4_⟩
     have n5_ : Aside0 (w37.heap[gb514]? = some (.cells #[.int .i64 0,.int .i64 0,.int .i64 0,.int .i64 0,.int .i64 0,.int .i64 0,.int .i64 0,.int .i64 0,.int .i64 0,.int .i64 0,.int .i64 0,.int .i64 0,.int .i64 0,.slice none 0 0] 31 (0,0))):=⟨h5_⟩
     have n6_ : Aside0 (w.heap.size ≤ gb514):=⟨h6_⟩
     have n7_ : Aside0 (w.heap.size ≤ gb514):=⟨h7_⟩
     have n8_ : Aside0 (gb471 ≠ gb514):=⟨h8_⟩
     have n9_ : Aside0 (gb514 ≠ gb471):=⟨h9_⟩
     have n10_ : Aside0 (gb493 ≠ gb514):=⟨h10_⟩
     have n11_ : Aside0 (gb514 ≠ gb493):=⟨h11_⟩
     have n12_ : Aside0 (Below w.heap.size w w37):=⟨h12_⟩
     clear HO491
     clear BK471
     clear BK493
     clear HB
     clear h0_ h1_ h2_ h3_ h4_ h5_ h6_ h7_ h8_ h9_ h10_ h11_ h12_
     have HO491:=n0_
     have HO496:=n1_
     have HO512:=n2_
     have BK471:=n3_
     have BK493:=n4_
     have BK514:=n5_
     have GW514:=n6_
     have GE514:=n7_
     have NB471_514:=n8_
     have NB514_471:=n9_
     have NB493_514:=n10_
     have NB514_493:=n11_
     have HB:=n12_
     clear n0_ n1_ n2_ n3_ n4_ n5_ n6_ n7_ n8_ n9_ n10_ n11_ n12_
     have hHeld:=trivial
     obtain ⟨Ao51,co51,eo51⟩:=Kd.R_slice HO512.out
     (first | subst eo51 | (injection eo51 with f1_ f2_ f3_; have f4_:=f1_.symm; have f5_:=f3_.symm; clear f1_ f2_ f3_; subst f4_; subst f5_))
     refine norm_ (a':=?_) ?_ ?_
     rotate_left
     ·simp only [putAll,Act.put,List.setIfInBounds_toArray,List.set_cons_zero,List.set_cons_succ]
      rfl
     refine one_ (i:=12) (N:=none) #[true,true,true,true,true,true,true,true,true,true,true,true,true,false] rfl rfl (one_of HT_.out (by kernel_rfl)) (by decide) (fun K hK => ?_)
     have hs38 : w37.cell? ⟨gb514,0,none⟩ = some (.int .i64 0):=(blk_cell BK514.out 0).trans rfl
     have hfs38:=blk_frozen BK514.out 0
     have hns38_0:=NB471_514.out
     have hns38_1:=NB493_514.out
     have hms38_0:=NB514_471.out
     have hms38_1:=NB514_493.out
     have hs39 : w37.cell? ⟨gb514,1,none⟩ = some (.int .i64 0):=(blk_cell BK514.out 1).trans rfl
     have hfs39:=blk_frozen BK514.out 1
     have hns39_0:=NB471_514.out
     have hns39_1:=NB493_514.out
     have hms39_0:=NB514_471.out
     have hms39_1:=NB514_493.out
     have hs40 : w37.cell? ⟨gb514,2,none⟩ = some (.int .i64 0):=(blk_cell BK514.out 2).trans rfl
     have hfs40:=blk_frozen BK514.out 2
     have hns40_0:=NB471_514.out
     have hns40_1:=NB493_514.out
     have hms40_0:=NB514_471.out
     have hms40_1:=NB514_493.out
     have hs41 : w37.cell? ⟨gb514,3,none⟩ = some (.int .i64 0):=(blk_cell BK514.out 3).trans rfl
     have hfs41:=blk_frozen BK514.out 3
     have hns41_0:=NB471_514.out
     have hns41_1:=NB493_514.out
     have hms41_0:=NB514_471.out
     have hms41_1:=NB514_493.out
     have hs42 : w37.cell? ⟨gb514,4,none⟩ = some (.int .i64 0):=(blk_cell BK514.out 4).trans rfl
     have hfs42:=blk_frozen BK514.out 4
     have hns42_0:=NB471_514.out
     have hns42_1:=NB493_514.out
     have hms42_0:=NB514_471.out
     have hms42_1:=NB514_493.out
     have hs43 : w37.cell? ⟨gb514,5,none⟩ = some (.int .i64 0):=(blk_cell BK514.out 5).trans rfl
     have hfs43:=blk_frozen BK514.out 5
     have hns43_0:=NB471_514.out
     have hns43_1:=NB493_514.out
     have hms43_0:=NB514_471.out
     have hms43_1:=NB514_493.out
     have hs44 : w37.cell? ⟨gb514,6,none⟩ = some (.int .i64 0):=(blk_cell BK514.out 6).trans rfl
     have hfs44:=blk_frozen BK514.out 6
     have hns44_0:=NB471_514.out
     have hns44_1:=NB493_514.out
     have hms44_0:=NB514_471.out
     have hms44_1:=NB514_493.out
     have hs45 : w37.cell? ⟨gb514,7,none⟩ = some (.int .i64 0):=(blk_cell BK514.out 7).trans rfl
     have hfs45:=blk_frozen BK514.out 7
     have hns45_0:=NB471_514.out
     have hns45_1:=NB493_514.out
     have hms45_0:=NB514_471.out
     have hms45_1:=NB514_493.out
     have hs46 : w37.cell? ⟨gb514,8,none⟩ = some (.int .i64 0):=(blk_cell BK514.out 8).trans rfl
     have hfs46:=blk_frozen BK514.out 8
     have hns46_0:=NB471_514.out
     have hns46_1:=NB493_514.out
     have hms46_0:=NB514_471.out
     have hms46_1:=NB514_493.out
     have hs47 : w37.cell? ⟨gb514,9,none⟩ = some (.int .i64 0):=(blk_cell BK514.out 9).trans rfl
     have hfs47:=blk_frozen BK514.out 9
     have hns47_0:=NB471_514.out
     have hns47_1:=NB493_514.out
     have hms47_0:=NB514_471.out
     have hms47_1:=NB514_493.out
     have hs48 : w37.cell? ⟨gb514,10,none⟩ = some (.int .i64 0):=(blk_cell BK514.out 10).trans rfl
     have hfs48:=blk_frozen BK514.out 10
     have hns48_0:=NB471_514.out
     have hns48_1:=NB493_514.out
     have hms48_0:=NB514_471.out
     have hms48_1:=NB514_493.out
     have hs49 : w37.cell? ⟨gb514,11,none⟩ = some (.int .i64 0):=(blk_cell BK514.out 11).trans rfl
     have hfs49:=blk_frozen BK514.out 11
     have hns49_0:=NB471_514.out
     have hns49_1:=NB493_514.out
     have hms49_0:=NB514_471.out
     have hms49_1:=NB514_493.out
     have hs50 : w37.cell? ⟨gb514,12,none⟩ = some (.int .i64 0):=(blk_cell BK514.out 12).trans rfl
     have hfs50:=blk_frozen BK514.out 12
     have hns50_0:=NB471_514.out
     have hns50_1:=NB493_514.out
     have hms50_0:=NB514_471.out
     have hms50_1:=NB514_493.out
     have hs52 : w37.cell? ⟨gb514,13,none⟩ = some (.slice none 0 0):=(blk_cell BK514.out 13).trans rfl
     have hfs52:=blk_frozen BK514.out 13
     have hns52_0:=NB471_514.out
     have hns52_1:=NB493_514.out
     have hms52_0:=NB514_471.out
     have hms52_1:=NB514_493.out
     refine skip_ (w1:=?_) (by rfl) rfl ?_ ?_
     rotate_left
     ·go_simp
      rfl
     refine hK.out _ _ trivial (fun hHeld => ?_)
     clear hK K
     refine pure_ (i:=13) (N:=some 10) (v:=?_) (a':=?_) #[true,true,true,true,true,true,true,true,true,true,true,true,true,true] rfl rfl (any_of HT_.out (by kernel_rfl)) (fun _ _ _ h => h) (Or.inl ⟨by rfl,?_⟩) ?_ ?_
     rotate_left
     ·intro w'
      go_simp
      first | with_reducible rfl | (rw [if_neg (by (try simp only [ByteArray.size_append,ByteArray.size_extract,decide_eq_true_eq,eq_iff_iff,iff_true,beq_iff_eq] at *); omega)] <;> with_reducible rfl)
     rotate_left
     ·simp only [Act.put,List.setIfInBounds_toArray,List.set_cons_zero,List.set_cons_succ,i64_w,i32_w]
      rfl
     refine done_ (done_of HT_.out (by kernel_rfl)) ?_
     go_upto_region 10 with (fail)
     go_cut [4] (fun v4 wc => ∃ (kq : Nat) (x4_21 : Bool),v4 = .bool x4_21 ∧ Aside0 (maquettelaw18_ClayKinds.j1 kq x4_21 = some r) ∧ Aside0 (kq ≤ kj2) ∧ Aside0 (Kd.R (Kd.int .i64) 3 wc w.heap.size (fun k_ => some k_ ≠ ((.slice Ao51 t510.length co51) : Value).ownBlock) (.slice Ao29 t489.length co29) t489) ∧ Aside0 (Kd.R (Kd.int .i64) 3 wc w.heap.size (fun k_ => some k_ ≠ ((.slice Ao29 t489.length co29) : Value).ownBlock) (.slice Ao51 t510.length co51) t510) ∧ Aside0 (wc.heap[gb471]? = some (.cells #[.int .i64 a0_0,.int .i64 a0_1,.int .i64 a0_2,.int .i64 a0_3,.int .i64 a0_4,.int .i64 a0_5,.int .i64 a0_6,.int .i64 a0_7,.int .i64 a0_8,.int .i64 a0_9,.int .i64 a0_10,.int .i64 a0_11,.int .i64 a0_12,(.slice A0_13 l0_13.length c0_13)] 31 (0,0))) ∧ Aside0 (wc.heap[gb493]? = some (.cells #[.int .i64 t476,.int .i64 t477,.int .i64 t478,.int .i64 t479,.int .i64 t480,.int .i64 t481,.int .i64 t482,.int .i64 t483,.int .i64 t484,.int .i64 t485,.int .i64 t486,.int .i64 t487,.int .i64 t488,(.slice Ao29 t489.length co29)] 31 (0,0))) ∧ Aside0 (wc.heap[gb514]? = some (.cells #[.int .i64 t497,.int .i64 t498,.int .i64 t499,.int .i64 t500,.int .i64 t501,.int .i64 t502,.int .i64 t503,.int .i64 t504,.int .i64 t505,.int .i64 t506,.int .i64 t507,.int .i64 t508,.int .i64 t509,(.slice Ao51 t510.length co51)] 31 (0,0))) ∧ Aside0 (Below w.heap.size w wc))
     case first =>
      have H:=HC22.out
      clear HC22
      by_cases c53 : t492 = true
      ·subst c53
       have H1 : (if t477 = a0_1 then (if ((((a1) % 256) == ((a0_1) % 256)) == t513) = true then (if t513 = true then (maquettelaw18_ClayKinds.j1 kj2 true) else (maquettelaw18_ClayKinds.j1 kj2 (t498 == 0))) else (maquettelaw18_ClayKinds.j1 kj2 false)) else (maquettelaw18_ClayKinds.j1 kj2 false)) = some r:=by rw [if_pos rfl] at H; exact H
       clear H
       have H:=H1
       clear H1
       by_cases c54 : t477 = a0_1
       ·rw [if_pos c54] at H
        have c54b0 : (t477 == a0_1) = true:=beq_iff_eq.mpr c54
        have c54b1 : (t477 != a0_1) = false:=bne_eq_false_iff_eq.mpr c54
        clear c54
        (first | rw [c54b0] | (simp only [i64_w,i32_w]; rw [c54b0]) | skip)
        by_cases c55 : ((((a1) % 256) == ((a0_1) % 256)) == t513) = true
        ·rw [if_pos c55] at H
         have c55b0 : ((((a1) % 256) == ((a0_1) % 256)) == t513) = true:=c55
         (try (have c55b1 : decide ((((a1) % 256) == ((a0_1) % 256)) = t513) = true:=by simpa using c55))
         (try (have c55b2 : ((((a1) % 256) == ((a0_1) % 256)) == t513) = true:=by simpa using c55))
         clear c55
         by_cases c56 : t513 = true
         ·subst c56
          have H1 : (maquettelaw18_ClayKinds.j1 kj2 true) = some r:=by rw [if_pos rfl] at H; exact H
          clear H
          have H:=H1
          clear H1
          have H':=Aside0.mk H
          clear H
          have hnb57:=NB493_471.out
          have hnc57:=NB471_493.out
          have hnb58:=NB493_514.out
          have hnc58:=NB514_493.out
          obtain ⟨hcz59_0,hcz59_1,hcz59_2,hcz59_3,hcz59_4,hcz59_5,hcz59_6,hcz59_7,hcz59_8,hcz59_9,hcz59_10,hcz59_11,hcz59_12,hcz59_13⟩:=cl14 BK493.out
          obtain ⟨hfz59_0,hfz59_1,hfz59_2,hfz59_3,hfz59_4,hfz59_5,hfz59_6,hfz59_7,hfz59_8,hfz59_9,hfz59_10,hfz59_11,hfz59_12,hfz59_13⟩:=fz14 BK493.out
          have hnb60:=NB471_514.out
          have hnc60:=NB514_471.out
          obtain ⟨hcz61_0,hcz61_1,hcz61_2,hcz61_3,hcz61_4,hcz61_5,hcz61_6,hcz61_7,hcz61_8,hcz61_9,hcz61_10,hcz61_11,hcz61_12,hcz61_13⟩:=cl14 BK471.out
          obtain ⟨hfz61_0,hfz61_1,hfz61_2,hfz61_3,hfz61_4,hfz61_5,hfz61_6,hfz61_7,hfz61_8,hfz61_9,hfz61_10,hfz61_11,hfz61_12,hfz61_13⟩:=fz14 BK471.out
          go_wp2
          go_meet
          case rel => exact ⟨_,(true),(by first | rfl | (simp; done) | (simp [*]; done)),H',⟨by have:=HJ2.out; first | omega | exact Nat.le_refl _⟩,⟨by (with_reducible repeat (first | apply Kd.R_alloc | apply Kd.R_drewN | apply Kd.R_drew)); exact Kd.R_mono (Kd.R_far (p:=⟨gb514,13,none⟩) (Kd.R_far (p:=⟨gb514,12,none⟩) (Kd.R_far (p:=⟨gb514,11,none⟩) (Kd.R_far (p:=⟨gb514,10,none⟩) (Kd.R_far (p:=⟨gb514,9,none⟩) (Kd.R_far (p:=⟨gb514,8,none⟩) (Kd.R_far (p:=⟨gb514,7,none⟩) (Kd.R_far (p:=⟨gb514,6,none⟩) (Kd.R_far (p:=⟨gb514,5,none⟩) (Kd.R_far (p:=⟨gb514,4,none⟩) (Kd.R_far (p:=⟨gb514,3,none⟩) (Kd.R_far (p:=⟨gb514,2,none⟩) (Kd.R_far (p:=⟨gb514,1,none⟩) (Kd.R_far (p:=⟨gb514,0,none⟩) (Kd.R_types HO491.out BK514.out (by decide)) (fun _ hk => hk.2) (.int .i64 t497)) (fun _ hk => hk.2) (.int .i64 t498)) (fun _ hk => hk.2) (.int .i64 t499)) (fun _ hk => hk.2) (.int .i64 t500)) (fun _ hk => hk.2) (.int .i64 t501)) (fun _ hk => hk.2) (.int .i64 t502)) (fun _ hk => hk.2) (.int .i64 t503)) (fun _ hk => hk.2) (.int .i64 t504)) (fun _ hk => hk.2) (.int .i64 t505)) (fun _ hk => hk.2) (.int .i64 t506)) (fun _ hk => hk.2) (.int .i64 t507)) (fun _ hk => hk.2) (.int .i64 t508)) (fun _ hk => hk.2) (.int .i64 t509)) (fun _ hk => hk.2) (.slice Ao51 t510.length co51)) (fun _ hk => hk.1)⟩,⟨by (with_reducible repeat (first | apply Kd.R_alloc | apply Kd.R_drewN | apply Kd.R_drew)); exact Kd.R_mono (Kd.R_far (p:=⟨gb514,13,none⟩) (Kd.R_far (p:=⟨gb514,12,none⟩) (Kd.R_far (p:=⟨gb514,11,none⟩) (Kd.R_far (p:=⟨gb514,10,none⟩) (Kd.R_far (p:=⟨gb514,9,none⟩) (Kd.R_far (p:=⟨gb514,8,none⟩) (Kd.R_far (p:=⟨gb514,7,none⟩) (Kd.R_far (p:=⟨gb514,6,none⟩) (Kd.R_far (p:=⟨gb514,5,none⟩) (Kd.R_far (p:=⟨gb514,4,none⟩) (Kd.R_far (p:=⟨gb514,3,none⟩) (Kd.R_far (p:=⟨gb514,2,none⟩) (Kd.R_far (p:=⟨gb514,1,none⟩) (Kd.R_far (p:=⟨gb514,0,none⟩) (Kd.R_types HO512.out BK514.out (by decide)) (fun _ hk => hk.2) (.int .i64 t497)) (fun _ hk => hk.2) (.int .i64 t498)) (fun _ hk => hk.2) (.int .i64 t499)) (fun _ hk => hk.2) (.int .i64 t500)) (fun _ hk => hk.2) (.int .i64 t501)) (fun _ hk => hk.2) (.int .i64 t502)) (fun _ hk => hk.2) (.int .i64 t503)) (fun _ hk => hk.2) (.int .i64 t504)) (fun _ hk => hk.2) (.int .i64 t505)) (fun _ hk => hk.2) (.int .i64 t506)) (fun _ hk => hk.2) (.int .i64 t507)) (fun _ hk => hk.2) (.int .i64 t508)) (fun _ hk => hk.2) (.int .i64 t509)) (fun _ hk => hk.2) (.slice Ao51 t510.length co51)) (fun _ hk => hk.1)⟩,⟨by (with_reducible repeat (first | refine blk_drewN ?_ _ | refine blk_drew ?_ | refine blk_alloc ?_ _)); refine blk_far ?_ NB471_514.out _; (with_reducible repeat (first | refine blk_drewN ?_ _ | refine blk_drew ?_ | refine blk_alloc ?_ _)); refine blk_far ?_ NB471_514.out _; (with_reducible repeat (first | refine blk_drewN ?_ _ | refine blk_drew ?_ | refine blk_alloc ?_ _)); refine blk_far ?_ NB471_514.out _; (with_reducible repeat (first | refine blk_drewN ?_ _ | refine blk_drew ?_ | refine blk_alloc ?_ _)); refine blk_far ?_ NB471_514.out _; (with_reducible repeat (first | refine blk_drewN ?_ _ | refine blk_drew ?_ | refine blk_alloc ?_ _)); refine blk_far ?_ NB471_514.out _; (with_reducible repeat (first | refine blk_drewN ?_ _ | refine blk_drew ?_ | refine blk_alloc ?_ _)); refine blk_far ?_ NB471_514.out _; (with_reducible repeat (first | refine blk_drewN ?_ _ | refine blk_drew ?_ | refine blk_alloc ?_ _)); refine blk_far ?_ NB471_514.out _; (with_reducible repeat (first | refine blk_drewN ?_ _ | refine blk_drew ?_ | refine blk_alloc ?_ _)); refine blk_far ?_ NB471_514.out _; (with_reducible repeat (first | refine blk_drewN ?_ _ | refine blk_drew ?_ | refine blk_alloc ?_ _)); refine blk_far ?_ NB471_514.out _; (with_reducible repeat (first | refine blk_drewN ?_ _ | refine blk_drew ?_ | refine blk_alloc ?_ _)); refine blk_far ?_ NB471_514.out _; (with_reducible repeat (first | refine blk_drewN ?_ _ | refine blk_drew ?_ | refine blk_alloc ?_ _)); refine blk_far ?_ NB471_514.out _; (with_reducible repeat (first | refine blk_drewN ?_ _ | refine blk_drew ?_ | refine blk_alloc ?_ _)); refine blk_far ?_ NB471_514.out _; (with_reducible repeat (first | refine blk_drewN ?_ _ | refine blk_drew ?_ | refine blk_alloc ?_ _)); refine blk_far ?_ NB471_514.out _; (with_reducible repeat (first | refine blk_drewN ?_ _ | refine blk_drew ?_ | refine blk_alloc ?_ _)); refine blk_far ?_ NB471_514.out _; (with_reducible repeat (first | refine blk_drewN ?_ _ | refine blk_drew ?_ | refine blk_alloc ?_ _)); exact BK471.out⟩,⟨by (with_reducible repeat (first | refine blk_drewN ?_ _ | refine blk_drew ?_ | refine blk_alloc ?_ _)); refine blk_far ?_ NB493_514.out _; (with_reducible repeat (first | refine blk_drewN ?_ _ | refine blk_drew ?_ | refine blk_alloc ?_ _)); refine blk_far ?_ NB493_514.out _; (with_reducible repeat (first | refine blk_drewN ?_ _ | refine blk_drew ?_ | refine blk_alloc ?_ _)); refine blk_far ?_ NB493_514.out _; (with_reducible repeat (first | refine blk_drewN ?_ _ | refine blk_drew ?_ | refine blk_alloc ?_ _)); refine blk_far ?_ NB493_514.out _; (with_reducible repeat (first | refine blk_drewN ?_ _ | refine blk_drew ?_ | refine blk_alloc ?_ _)); refine blk_far ?_ NB493_514.out _; (with_reducible repeat (first | refine blk_drewN ?_ _ | refine blk_drew ?_ | refine blk_alloc ?_ _)); refine blk_far ?_ NB493_514.out _; (with_reducible repeat (first | refine blk_drewN ?_ _ | refine blk_drew ?_ | refine blk_alloc ?_ _)); refine blk_far ?_ NB493_514.out _; (with_reducible repeat (first | refine blk_drewN ?_ _ | refine blk_drew ?_ | refine blk_alloc ?_ _)); refine blk_far ?_ NB493_514.out _; (with_reducible repeat (first | refine blk_drewN ?_ _ | refine blk_drew ?_ | refine blk_alloc ?_ _)); refine blk_far ?_ NB493_514.out _; (with_reducible repeat (first | refine blk_drewN ?_ _ | refine blk_drew ?_ | refine blk_alloc ?_ _)); refine blk_far ?_ NB493_514.out _; (with_reducible repeat (first | refine blk_drewN ?_ _ | refine blk_drew ?_ | refine blk_alloc ?_ _)); refine blk_far ?_ NB493_514.out _; (with_reducible repeat (first | refine blk_drewN ?_ _ | refine blk_drew ?_ | refine blk_alloc ?_ _)); refine blk_far ?_ NB493_514.out _; (with_reducible repeat (first | refine blk_drewN ?_ _ | refine blk_drew ?_ | refine blk_alloc ?_ _)); refine blk_far ?_ NB493_514.out _; (with_reducible repeat (first | refine blk_drewN ?_ _ | refine blk_drew ?_ | refine blk_alloc ?_ _)); refine blk_far ?_ NB493_514.out _; (with_reducible repeat (first | refine blk_drewN ?_ _ | refine blk_drew ?_ | refine blk_alloc ?_ _)); exact BK493.out⟩,⟨by (with_reducible repeat (first | refine blk_drewN ?_ _ | refine blk_drew ?_ | refine blk_alloc ?_ _)); refine blk_put (cs:=#[.int .i64 t497,.int .i64 t498,.int .i64 t499,.int .i64 t500,.int .i64 t501,.int .i64 t502,.int .i64 t503,.int .i64 t504,.int .i64 t505,.int .i64 t506,.int .i64 t507,.int .i64 t508,.int .i64 t509,.slice none 0 0]) ?_ 13 _ rfl; (with_reducible repeat (first | refine blk_drewN ?_ _ | refine blk_drew ?_ | refine blk_alloc ?_ _)); refine blk_put (cs:=#[.int .i64 t497,.int .i64 t498,.int .i64 t499,.int .i64 t500,.int .i64 t501,.int .i64 t502,.int .i64 t503,.int .i64 t504,.int .i64 t505,.int .i64 t506,.int .i64 t507,.int .i64 t508,.int .i64 0,.slice none 0 0]) ?_ 12 _ rfl; (with_reducible repeat (first | refine blk_drewN ?_ _ | refine blk_drew ?_ | refine blk_alloc ?_ _)); refine blk_put (cs:=#[.int .i64 t497,.int .i64 t498,.int .i64 t499,.int .i64 t500,.int .i64 t501,.int .i64 t502,.int .i64 t503,.int .i64 t504,.int .i64 t505,.int .i64 t506,.int .i64 t507,.int .i64 0,.int .i64 0,.slice none 0 0]) ?_ 11 _ rfl; (with_reducible repeat (first | refine blk_drewN ?_ _ | refine blk_drew ?_ | refine blk_alloc ?_ _)); refine blk_put (cs:=#[.int .i64 t497,.int .i64 t498,.int .i64 t499,.int .i64 t500,.int .i64 t501,.int .i64 t502,.int .i64 t503,.int .i64 t504,.int .i64 t505,.int .i64 t506,.int .i64 0,.int .i64 0,.int .i64 0,.slice none 0 0]) ?_ 10 _ rfl; (with_reducible repeat (first | refine blk_drewN ?_ _ | refine blk_drew ?_ | refine blk_alloc ?_ _)); refine blk_put (cs:=#[.int .i64 t497,.int .i64 t498,.int .i64 t499,.int .i64 t500,.int .i64 t501,.int .i64 t502,.int .i64 t503,.int .i64 t504,.int .i64 t505,.int .i64 0,.int .i64 0,.int .i64 0,.int .i64 0,.slice none 0 0]) ?_ 9 _ rfl; (with_reducible repeat (first | refine blk_drewN ?_ _ | refine blk_drew ?_ | refine blk_alloc ?_ _)); refine blk_put (cs:=#[.int .i64 t497,.int .i64 t498,.int .i64 t499,.int .i64 t500,.int .i64 t501,.int .i64 t502,.int .i64 t503,.int .i64 t504,.int .i64 0,.int .i64 0,.int .i64 0,.int .i64 0,.int .i64 0,.slice none 0 0]) ?_ 8 _ rfl; (with_reducible repeat (first | refine blk_drewN ?_ _ | refine blk_drew ?_ | refine blk_alloc ?_ _)); refine blk_put (cs:=#[.int .i64 t497,.int .i64 t498,.int .i64 t499,.int .i64 t500,.int .i64 t501,.int .i64 t502,.int .i64 t503,.int .i64 0,.int .i64 0,.int .i64 0,.int .i64 0,.int .i64 0,.int .i64 0,.slice none 0 0]) ?_ 7 _ rfl; (with_reducible repeat (first | refine blk_drewN ?_ _ | refine blk_drew ?_ | refine blk_alloc ?_ _)); refine blk_put (cs:=#[.int .i64 t497,.int .i64 t498,.int .i64 t499,.int .i64 t500,.int .i64 t501,.int .i64 t502,.int .i64 0,.int .i64 0,.int .i64 0,.int .i64 0,.int .i64 0,.int .i64 0,.int .i64 0,.slice none 0 0]) ?_ 6 _ rfl; (with_reducible repeat (first | refine blk_drewN ?_ _ | refine blk_drew ?_ | refine blk_alloc ?_ _)); refine blk_put (cs:=#[.int .i64 t497,.int .i64 t498,.int .i64 t499,.int .i64 t500,.int .i64 t501,.int .i64 0,.int .i64 0,.int .i64 0,.int .i64 0,.int .i64 0,.int .i64 0,.int .i64 0,.int .i64 0,.slice none 0 0]) ?_ 5 _ rfl; (with_reducible repeat (first | refine blk_drewN ?_ _ | refine blk_drew ?_ | refine blk_alloc ?_ _)); refine blk_put (cs:=#[.int .i64 t497,.int .i64 t498,.int .i64 t499,.int .i64 t500,.int .i64 0,.int .i64 0,.int .i64 0,.int .i64 0,.int .i64 0,.int .i64 0,.int .i64 0,.int .i64 0,.int .i64 0,.slice none 0 0]) ?_ 4 _ rfl; (with_reducible repeat (first | refine blk_drewN ?_ _ | refine blk_drew ?_ | refine blk_alloc ?_ _)); refine blk_put (cs:=#[.int .i64 t497,.int .i64 t498,.int .i64 t499,.int .i64 0,.int .i64 0,.int .i64 0,.int .i64 0,.int .i64 0,.int .i64 0,.int .i64 0,.int .i64 0,.int .i64 0,.int .i64 0,.slice none 0 0]) ?_ 3 _ rfl; (with_reducible repeat (first | refine blk_drewN ?_ _ | refine blk_drew ?_ | refine blk_alloc ?_ _)); refine blk_put (cs:=#[.int .i64 t497,.int .i64 t498,.int .i64 0,.int .i64 0,.int .i64 0,.int .i64 0,.int .i64 0,.int .i64 0,.int .i64 0,.int .i64 0,.int .i64 0,.int .i64 0,.int .i64 0,.slice none 0 0]) ?_ 2 _ rfl; (with_reducible repeat (first | refine blk_drewN ?_ _ | refine blk_drew ?_ | refine blk_alloc ?_ _)); refine blk_put (cs:=#[.int .i64 t497,.int .i64 0,.int .i64 0,.int .i64 0,.int .i64 0,.int .i64 0,.int .i64 0,.int .i64 0,.int .i64 0,.int .i64 0,.int .i64 0,.int .i64 0,.int .i64 0,.slice none 0 0]) ?_ 1 _ rfl; (with_reducible repeat (first | refine blk_drewN ?_ _ | refine blk_drew ?_ | refine blk_alloc ?_ _)); refine blk_put (cs:=#[.int .i64 0,.int .i64 0,.int .i64 0,.int .i64 0,.int .i64 0,.int .i64 0,.int .i64 0,.int .i64 0,.int .i64 0,.int .i64 0,.int .i64 0,.int .i64 0,.int .i64 0,.slice none 0 0]) ?_ 0 _ rfl; (with_reducible repeat (first | refine blk_drewN ?_ _ | refine blk_drew ?_ | refine blk_alloc ?_ _)); exact BK514.out⟩,⟨by repeat (first | (with_reducible first | exact HB.out | apply below_alloc | apply pw_below_drewN | apply below_drew1 | refine below_set ?_ GE471.out | refine below_set ?_ GE493.out | refine below_set ?_ GE514.out) | exact HB.out)⟩⟩
         replace c56:=Bool.eq_false_iff.mpr c56
         subst c56
         have H1 : (maquettelaw18_ClayKinds.j1 kj2 (t498 == 0)) = some r:=by rw [if_neg (show ¬ (false = true) by decide)] at H; exact H
         clear H
         have H:=H1
         clear H1
         have H':=Aside0.mk H
         clear H
         have hnb62:=NB493_471.out
         have hnc62:=NB471_493.out
         have hnb63:=NB493_514.out
         have hnc63:=NB514_493.out
         obtain ⟨hcz64_0,hcz64_1,hcz64_2,hcz64_3,hcz64_4,hcz64_5,hcz64_6,hcz64_7,hcz64_8,hcz64_9,hcz64_10,hcz64_11,hcz64_12,hcz64_13⟩:=cl14 BK493.out
         obtain ⟨hfz64_0,hfz64_1,hfz64_2,hfz64_3,hfz64_4,hfz64_5,hfz64_6,hfz64_7,hfz64_8,hfz64_9,hfz64_10,hfz64_11,hfz64_12,hfz64_13⟩:=fz14 BK493.out
         have hnb65:=NB471_514.out
         have hnc65:=NB514_471.out
         obtain ⟨hcz66_0,hcz66_1,hcz66_2,hcz66_3,hcz66_4,hcz66_5,hcz66_6,hcz66_7,hcz66_8,hcz66_9,hcz66_10,hcz66_11,hcz66_12,hcz66_13⟩:=cl14 BK471.out
         obtain ⟨hfz66_0,hfz66_1,hfz66_2,hfz66_3,hfz66_4,hfz66_5,hfz66_6,hfz66_7,hfz66_8,hfz66_9,hfz66_10,hfz66_11,hfz66_12,hfz66_13⟩:=fz14 BK471.out
         obtain ⟨hcz67_0,hcz67_1,hcz67_2,hcz67_3,hcz67_4,hcz67_5,hcz67_6,hcz67_7,hcz67_8,hcz67_9,hcz67_10,hcz67_11,hcz67_12,hcz67_13⟩:=cl14 BK514.out
         obtain ⟨hfz67_0,hfz67_1,hfz67_2,hfz67_3,hfz67_4,hfz67_5,hfz67_6,hfz67_7,hfz67_8,hfz67_9,hfz67_10,hfz67_11,hfz67_12,hfz67_13⟩:=fz14 BK514.out
         go_wp2
         go_meet
         case rel => exact ⟨_,((t498 == 0)),(by first | rfl | (simp; done) | (simp [*]; done)),H',⟨by have:=HJ2.out; first | omega | exact Nat.le_refl _⟩,⟨by (with_reducible repeat (first | apply Kd.R_alloc | apply Kd.R_drewN | apply Kd.R_drew)); exact Kd.R_mono (Kd.R_far (p:=⟨gb514,13,none⟩) (Kd.R_far (p:=⟨gb514,12,none⟩) (Kd.R_far (p:=⟨gb514,11,none⟩) (Kd.R_far (p:=⟨gb514,10,none⟩) (Kd.R_far (p:=⟨gb514,9,none⟩) (Kd.R_far (p:=⟨gb514,8,none⟩) (Kd.R_far (p:=⟨gb514,7,none⟩) (Kd.R_far (p:=⟨gb514,6,none⟩) (Kd.R_far (p:=⟨gb514,5,none⟩) (Kd.R_far (p:=⟨gb514,4,none⟩) (Kd.R_far (p:=⟨gb514,3,none⟩) (Kd.R_far (p:=⟨gb514,2,none⟩) (Kd.R_far (p:=⟨gb514,1,none⟩) (Kd.R_far (p:=⟨gb514,0,none⟩) (Kd.R_types HO491.out BK514.out (by decide)) (fun _ hk => hk.2) (.int .i64 t497)) (fun _ hk => hk.2) (.int .i64 t498)) (fun _ hk => hk.2) (.int .i64 t499)) (fun _ hk => hk.2) (.int .i64 t500)) (fun _ hk => hk.2) (.int .i64 t501)) (fun _ hk => hk.2) (.int .i64 t502)) (fun _ hk => hk.2) (.int .i64 t503)) (fun _ hk => hk.2) (.int .i64 t504)) (fun _ hk => hk.2) (.int .i64 t505)) (fun _ hk => hk.2) (.int .i64 t506)) (fun _ hk => hk.2) (.int .i64 t507)) (fun _ hk => hk.2) (.int .i64 t508)) (fun _ hk => hk.2) (.int .i64 t509)) (fun _ hk => hk.2) (.slice Ao51 t510.length co51)) (fun _ hk => hk.1)⟩,⟨by (with_reducible repeat (first | apply Kd.R_alloc | apply Kd.R_drewN | apply Kd.R_drew)); exact Kd.R_mono (Kd.R_far (p:=⟨gb514,13,none⟩) (Kd.R_far (p:=⟨gb514,12,none⟩) (Kd.R_far (p:=⟨gb514,11,none⟩) (Kd.R_far (p:=⟨gb514,10,none⟩) (Kd.R_far (p:=⟨gb514,9,none⟩) (Kd.R_far (p:=⟨gb514,8,none⟩) (Kd.R_far (p:=⟨gb514,7,none⟩) (Kd.R_far (p:=⟨gb514,6,none⟩) (Kd.R_far (p:=⟨gb514,5,none⟩) (Kd.R_far (p:=⟨gb514,4,none⟩) (Kd.R_far (p:=⟨gb514,3,none⟩) (Kd.R_far (p:=⟨gb514,2,none⟩) (Kd.R_far (p:=⟨gb514,1,none⟩) (Kd.R_far (p:=⟨gb514,0,none⟩) (Kd.R_types HO512.out BK514.out (by decide)) (fun _ hk => hk.2) (.int .i64 t497)) (fun _ hk => hk.2) (.int .i64 t498)) (fun _ hk => hk.2) (.int .i64 t499)) (fun _ hk => hk.2) (.int .i64 t500)) (fun _ hk => hk.2) (.int .i64 t501)) (fun _ hk => hk.2) (.int .i64 t502)) (fun _ hk => hk.2) (.int .i64 t503)) (fun _ hk => hk.2) (.int .i64 t504)) (fun _ hk => hk.2) (.int .i64 t505)) (fun _ hk => hk.2) (.int .i64 t506)) (fun _ hk => hk.2) (.int .i64 t507)) (fun _ hk => hk.2) (.int .i64 t508)) (fun _ hk => hk.2) (.int .i64 t509)) (fun _ hk => hk.2) (.slice Ao51 t510.length co51)) (fun _ hk => hk.1)⟩,⟨by (with_reducible repeat (first | refine blk_drewN ?_ _ | refine blk_drew ?_ | refine blk_alloc ?_ _)); refine blk_far ?_ NB471_514.out _; (with_reducible repeat (first | refine blk_drewN ?_ _ | refine blk_drew ?_ | refine blk_alloc ?_ _)); refine blk_far ?_ NB471_514.out _; (with_reducible repeat (first | refine blk_drewN ?_ _ | refine blk_drew ?_ | refine blk_alloc ?_ _)); refine blk_far ?_ NB471_514.out _; (with_reducible repeat (first | refine blk_drewN ?_ _ | refine blk_drew ?_ | refine blk_alloc ?_ _)); refine blk_far ?_ NB471_514.out _; (with_reducible repeat (first | refine blk_drewN ?_ _ | refine blk_drew ?_ | refine blk_alloc ?_ _)); refine blk_far ?_ NB471_514.out _; (with_reducible repeat (first | refine blk_drewN ?_ _ | refine blk_drew ?_ | refine blk_alloc ?_ _)); refine blk_far ?_ NB471_514.out _; (with_reducible repeat (first | refine blk_drewN ?_ _ | refine blk_drew ?_ | refine blk_alloc ?_ _)); refine blk_far ?_ NB471_514.out _; (with_reducible repeat (first | refine blk_drewN ?_ _ | refine blk_drew ?_ | refine blk_alloc ?_ _)); refine blk_far ?_ NB471_514.out _; (with_reducible repeat (first | refine blk_drewN ?_ _ | refine blk_drew ?_ | refine blk_alloc ?_ _)); refine blk_far ?_ NB471_514.out _; (with_reducible repeat (first | refine blk_drewN ?_ _ | refine blk_drew ?_ | refine blk_alloc ?_ _)); refine blk_far ?_ NB471_514.out _; (with_reducible repeat (first | refine blk_drewN ?_ _ | refine blk_drew ?_ | refine blk_alloc ?_ _)); refine blk_far ?_ NB471_514.out _; (with_reducible repeat (first | refine blk_drewN ?_ _ | refine blk_drew ?_ | refine blk_alloc ?_ _)); refine blk_far ?_ NB471_514.out _; (with_reducible repeat (first | refine blk_drewN ?_ _ | refine blk_drew ?_ | refine blk_alloc ?_ _)); refine blk_far ?_ NB471_514.out _; (with_reducible repeat (first | refine blk_drewN ?_ _ | refine blk_drew ?_ | refine blk_alloc ?_ _)); refine blk_far ?_ NB471_514.out _; (with_reducible repeat (first | refine blk_drewN ?_ _ | refine blk_drew ?_ | refine blk_alloc ?_ _)); exact BK471.out⟩,⟨by (with_reducible repeat (first | refine blk_drewN ?_ _ | refine blk_drew ?_ | refine blk_alloc ?_ _)); refine blk_far ?_ NB493_514.out _; (with_reducible repeat (first | refine blk_drewN ?_ _ | refine blk_drew ?_ | refine blk_alloc ?_ _)); refine blk_far ?_ NB493_514.out _; (with_reducible repeat (first | refine blk_drewN ?_ _ | refine blk_drew ?_ | refine blk_alloc ?_ _)); refine blk_far ?_ NB493_514.out _; (with_reducible repeat (first | refine blk_drewN ?_ _ | refine blk_drew ?_ | refine blk_alloc ?_ _)); refine blk_far ?_ NB493_514.out _; (with_reducible repeat (first | refine blk_drewN ?_ _ | refine blk_drew ?_ | refine blk_alloc ?_ _)); refine blk_far ?_ NB493_514.out _; (with_reducible repeat (first | refine blk_drewN ?_ _ | refine blk_drew ?_ | refine blk_alloc ?_ _)); refine blk_far ?_ NB493_514.out _; (with_reducible repeat (first | refine blk_drewN ?_ _ | refine blk_drew ?_ | refine blk_alloc ?_ _)); refine blk_far ?_ NB493_514.out _; (with_reducible repeat (first | refine blk_drewN ?_ _ | refine blk_drew ?_ | refine blk_alloc ?_ _)); refine blk_far ?_ NB493_514.out _; (with_reducible repeat (first | refine blk_drewN ?_ _ | refine blk_drew ?_ | refine blk_alloc ?_ _)); refine blk_far ?_ NB493_514.out _; (with_reducible repeat (first | refine blk_drewN ?_ _ | refine blk_drew ?_ | refine blk_alloc ?_ _)); refine blk_far ?_ NB493_514.out _; (with_reducible repeat (first | refine blk_drewN ?_ _ | refine blk_drew ?_ | refine blk_alloc ?_ _)); refine blk_far ?_ NB493_514.out _; (with_reducible repeat (first | refine blk_drewN ?_ _ | refine blk_drew ?_ | refine blk_alloc ?_ _)); refine blk_far ?_ NB493_514.out _; (with_reducible repeat (first | refine blk_drewN ?_ _ | refine blk_drew ?_ | refine blk_alloc ?_ _)); refine blk_far ?_ NB493_514.out _; (with_reducible repeat (first | refine blk_drewN ?_ _ | refine blk_drew ?_ | refine blk_alloc ?_ _)); refine blk_far ?_ NB493_514.out _; (with_reducible repeat (first | refine blk_drewN ?_ _ | refine blk_drew ?_ | refine blk_alloc ?_ _)); exact BK493.out⟩,⟨by (with_reducible repeat (first | refine blk_drewN ?_ _ | refine blk_drew ?_ | refine blk_alloc ?_ _)); refine blk_put (cs:=#[.int .i64 t497,.int .i64 t498,.int .i64 t499,.int .i64 t500,.int .i64 t501,.int .i64 t502,.int .i64 t503,.int .i64 t504,.int .i64 t505,.int .i64 t506,.int .i64 t507,.int .i64 t508,.int .i64 t509,.slice none 0 0]) ?_ 13 _ rfl; (with_reducible repeat (first | refine blk_drewN ?_ _ | refine blk_drew ?_ | refine blk_alloc ?_ _)); refine blk_put (cs:=#[.int .i64 t497,.int .i64 t498,.int .i64 t499,.int .i64 t500,.int .i64 t501,.int .i64 t502,.int .i64 t503,.int .i64 t504,.int .i64 t505,.int .i64 t506,.int .i64 t507,.int .i64 t508,.int .i64 0,.slice none 0 0]) ?_ 12 _ rfl; (with_reducible repeat (first | refine blk_drewN ?_ _ | refine blk_drew ?_ | refine blk_alloc ?_ _)); refine blk_put (cs:=#[.int .i64 t497,.int .i64 t498,.int .i64 t499,.int .i64 t500,.int .i64 t501,.int .i64 t502,.int .i64 t503,.int .i64 t504,.int .i64 t505,.int .i64 t506,.int .i64 t507,.int .i64 0,.int .i64 0,.slice none 0 0]) ?_ 11 _ rfl; (with_reducible repeat (first | refine blk_drewN ?_ _ | refine blk_drew ?_ | refine blk_alloc ?_ _)); refine blk_put (cs:=#[.int .i64 t497,.int .i64 t498,.int .i64 t499,.int .i64 t500,.int .i64 t501,.int .i64 t502,.int .i64 t503,.int .i64 t504,.int .i64 t505,.int .i64 t506,.int .i64 0,.int .i64 0,.int .i64 0,.slice none 0 0]) ?_ 10 _ rfl; (with_reducible repeat (first | refine blk_drewN ?_ _ | refine blk_drew ?_ | refine blk_alloc ?_ _)); refine blk_put (cs:=#[.int .i64 t497,.int .i64 t498,.int .i64 t499,.int .i64 t500,.int .i64 t501,.int .i64 t502,.int .i64 t503,.int .i64 t504,.int .i64 t505,.int .i64 0,.int .i64 0,.int .i64 0,.int .i64 0,.slice none 0 0]) ?_ 9 _ rfl; (with_reducible repeat (first | refine blk_drewN ?_ _ | refine blk_drew ?_ | refine blk_alloc ?_ _)); refine blk_put (cs:=#[.int .i64 t497,.int .i64 t498,.int .i64 t499,.int .i64 t500,.int .i64 t501,.int .i64 t502,.int .i64 t503,.int .i64 t504,.int .i64 0,.int .i64 0,.int .i64 0,.int .i64 0,.int .i64 0,.slice none 0 0]) ?_ 8 _ rfl; (with_reducible repeat (first | refine blk_drewN ?_ _ | refine blk_drew ?_ | refine blk_alloc ?_ _)); refine blk_put (cs:=#[.int .i64 t497,.int .i64 t498,.int .i64 t499,.int .i64 t500,.int .i64 t501,.int .i64 t502,.int .i64 t503,.int .i64 0,.int .i64 0,.int .i64 0,.int .i64 0,.int .i64 0,.int .i64 0,.slice none 0 0]) ?_ 7 _ rfl; (with_reducible repeat (first | refine blk_drewN ?_ _ | refine blk_drew ?_ | refine blk_alloc ?_ _)); refine blk_put (cs:=#[.int .i64 t497,.int .i64 t498,.int .i64 t499,.int .i64 t500,.int .i64 t501,.int .i64 t502,.int .i64 0,.int .i64 0,.int .i64 0,.int .i64 0,.int .i64 0,.int .i64 0,.int .i64 0,.slice none 0 0]) ?_ 6 _ rfl; (with_reducible repeat (first | refine blk_drewN ?_ _ | refine blk_drew ?_ | refine blk_alloc ?_ _)); refine blk_put (cs:=#[.int .i64 t497,.int .i64 t498,.int .i64 t499,.int .i64 t500,.int .i64 t501,.int .i64 0,.int .i64 0,.int .i64 0,.int .i64 0,.int .i64 0,.int .i64 0,.int .i64 0,.int .i64 0,.slice none 0 0]) ?_ 5 _ rfl; (with_reducible repeat (first | refine blk_drewN ?_ _ | refine blk_drew ?_ | refine blk_alloc ?_ _)); refine blk_put (cs:=#[.int .i64 t497,.int .i64 t498,.int .i64 t499,.int .i64 t500,.int .i64 0,.int .i64 0,.int .i64 0,.int .i64 0,.int .i64 0,.int .i64 0,.int .i64 0,.int .i64 0,.int .i64 0,.slice none 0 0]) ?_ 4 _ rfl; (with_reducible repeat (first | refine blk_drewN ?_ _ | refine blk_drew ?_ | refine blk_alloc ?_ _)); refine blk_put (cs:=#[.int .i64 t497,.int .i64 t498,.int .i64 t499,.int .i64 0,.int .i64 0,.int .i64 0,.int .i64 0,.int .i64 0,.int .i64 0,.int .i64 0,.int .i64 0,.int .i64 0,.int .i64 0,.slice none 0 0]) ?_ 3 _ rfl; (with_reducible repeat (first | refine blk_drewN ?_ _ | refine blk_drew ?_ | refine blk_alloc ?_ _)); refine blk_put (cs:=#[.int .i64 t497,.int .i64 t498,.int .i64 0,.int .i64 0,.int .i64 0,.int .i64 0,.int .i64 0,.int .i64 0,.int .i64 0,.int .i64 0,.int .i64 0,.int .i64 0,.int .i64 0,.slice none 0 0]) ?_ 2 _ rfl; (with_reducible repeat (first | refine blk_drewN ?_ _ | refine blk_drew ?_ | refine blk_alloc ?_ _)); refine blk_put (cs:=#[.int .i64 t497,.int .i64 0,.int .i64 0,.int .i64 0,.int .i64 0,.int .i64 0,.int .i64 0,.int .i64 0,.int .i64 0,.int .i64 0,.int .i64 0,.int .i64 0,.int .i64 0,.slice none 0 0]) ?_ 1 _ rfl; (with_reducible repeat (first | refine blk_drewN ?_ _ | refine blk_drew ?_ | refine blk_alloc ?_ _)); refine blk_put (cs:=#[.int .i64 0,.int .i64 0,.int .i64 0,.int .i64 0,.int .i64 0,.int .i64 0,.int .i64 0,.int .i64 0,.int .i64 0,.int .i64 0,.int .i64 0,.int .i64 0,.int .i64 0,.slice none 0 0]) ?_ 0 _ rfl; (with_reducible repeat (first | refine blk_drewN ?_ _ | refine blk_drew ?_ | refine blk_alloc ?_ _)); exact BK514.out⟩,⟨by repeat (first | (with_reducible first | exact HB.out | apply below_alloc | apply pw_below_drewN | apply below_drew1 | refine below_set ?_ GE471.out | refine below_set ?_ GE493.out | refine below_set ?_ GE514.out) | exact HB.out)⟩⟩
        rw [if_neg c55] at H
        have c55b0 : ((((a1) % 256) == ((a0_1) % 256)) == t513) = false:=by simpa using c55
        (try (have c55b1 : decide ((((a1) % 256) == ((a0_1) % 256)) = t513) = false:=by simpa using c55))
        (try (have c55b2 : ((((a1) % 256) == ((a0_1) % 256)) == t513) = false:=by simpa using c55))
        (try (have c55b3 : ¬ ((((a1) % 256) == ((a0_1) % 256)) = t513):=by simpa using c55))
        clear c55
        have H':=Aside0.mk H
        clear H
        have hnb68:=NB493_471.out
        have hnc68:=NB471_493.out
        have hnb69:=NB493_514.out
        have hnc69:=NB514_493.out
        obtain ⟨hcz70_0,hcz70_1,hcz70_2,hcz70_3,hcz70_4,hcz70_5,hcz70_6,hcz70_7,hcz70_8,hcz70_9,hcz70_10,hcz70_11,hcz70_12,hcz70_13⟩:=cl14 BK493.out
        obtain ⟨hfz70_0,hfz70_1,hfz70_2,hfz70_3,hfz70_4,hfz70_5,hfz70_6,hfz70_7,hfz70_8,hfz70_9,hfz70_10,hfz70_11,hfz70_12,hfz70_13⟩:=fz14 BK493.out
        have hnb71:=NB471_514.out
        have hnc71:=NB514_471.out
        obtain ⟨hcz72_0,hcz72_1,hcz72_2,hcz72_3,hcz72_4,hcz72_5,hcz72_6,hcz72_7,hcz72_8,hcz72_9,hcz72_10,hcz72_11,hcz72_12,hcz72_13⟩:=cl14 BK471.out
        obtain ⟨hfz72_0,hfz72_1,hfz72_2,hfz72_3,hfz72_4,hfz72_5,hfz72_6,hfz72_7,hfz72_8,hfz72_9,hfz72_10,hfz72_11,hfz72_12,hfz72_13⟩:=fz14 BK471.out
        go_wp2
        go_meet
        case rel => exact ⟨_,(false),(by first | rfl | (simp; done) | (simp [*]; done)),H',⟨by have:=HJ2.out; first | omega | exact Nat.le_refl _⟩,⟨by (with_reducible repeat (first | apply Kd.R_alloc | apply Kd.R_drewN | apply Kd.R_drew)); exact Kd.R_mono (Kd.R_far (p:=⟨gb514,13,none⟩) (Kd.R_far (p:=⟨gb514,12,none⟩) (Kd.R_far (p:=⟨gb514,11,none⟩) (Kd.R_far (p:=⟨gb514,10,none⟩) (Kd.R_far (p:=⟨gb514,9,none⟩) (Kd.R_far (p:=⟨gb514,8,none⟩) (Kd.R_far (p:=⟨gb514,7,none⟩) (Kd.R_far (p:=⟨gb514,6,none⟩) (Kd.R_far (p:=⟨gb514,5,none⟩) (Kd.R_far (p:=⟨gb514,4,none⟩) (Kd.R_far (p:=⟨gb514,3,none⟩) (Kd.R_far (p:=⟨gb514,2,none⟩) (Kd.R_far (p:=⟨gb514,1,none⟩) (Kd.R_far (p:=⟨gb514,0,none⟩) (Kd.R_types HO491.out BK514.out (by decide)) (fun _ hk => hk.2) (.int .i64 t497)) (fun _ hk => hk.2) (.int .i64 t498)) (fun _ hk => hk.2) (.int .i64 t499)) (fun _ hk => hk.2) (.int .i64 t500)) (fun _ hk => hk.2) (.int .i64 t501)) (fun _ hk => hk.2) (.int .i64 t502)) (fun _ hk => hk.2) (.int .i64 t503)) (fun _ hk => hk.2) (.int .i64 t504)) (fun _ hk => hk.2) (.int .i64 t505)) (fun _ hk => hk.2) (.int .i64 t506)) (fun _ hk => hk.2) (.int .i64 t507)) (fun _ hk => hk.2) (.int .i64 t508)) (fun _ hk => hk.2) (.int .i64 t509)) (fun _ hk => hk.2) (.slice Ao51 t510.length co51)) (fun _ hk => hk.1)⟩,⟨by (with_reducible repeat (first | apply Kd.R_alloc | apply Kd.R_drewN | apply Kd.R_drew)); exact Kd.R_mono (Kd.R_far (p:=⟨gb514,13,none⟩) (Kd.R_far (p:=⟨gb514,12,none⟩) (Kd.R_far (p:=⟨gb514,11,none⟩) (Kd.R_far (p:=⟨gb514,10,none⟩) (Kd.R_far (p:=⟨gb514,9,none⟩) (Kd.R_far (p:=⟨gb514,8,none⟩) (Kd.R_far (p:=⟨gb514,7,none⟩) (Kd.R_far (p:=⟨gb514,6,none⟩) (Kd.R_far (p:=⟨gb514,5,none⟩) (Kd.R_far (p:=⟨gb514,4,none⟩) (Kd.R_far (p:=⟨gb514,3,none⟩) (Kd.R_far (p:=⟨gb514,2,none⟩) (Kd.R_far (p:=⟨gb514,1,none⟩) (Kd.R_far (p:=⟨gb514,0,none⟩) (Kd.R_types HO512.out BK514.out (by decide)) (fun _ hk => hk.2) (.int .i64 t497)) (fun _ hk => hk.2) (.int .i64 t498)) (fun _ hk => hk.2) (.int .i64 t499)) (fun _ hk => hk.2) (.int .i64 t500)) (fun _ hk => hk.2) (.int .i64 t501)) (fun _ hk => hk.2) (.int .i64 t502)) (fun _ hk => hk.2) (.int .i64 t503)) (fun _ hk => hk.2) (.int .i64 t504)) (fun _ hk => hk.2) (.int .i64 t505)) (fun _ hk => hk.2) (.int .i64 t506)) (fun _ hk => hk.2) (.int .i64 t507)) (fun _ hk => hk.2) (.int .i64 t508)) (fun _ hk => hk.2) (.int .i64 t509)) (fun _ hk => hk.2) (.slice Ao51 t510.length co51)) (fun _ hk => hk.1)⟩,⟨by (with_reducible repeat (first | refine blk_drewN ?_ _ | refine blk_drew ?_ | refine blk_alloc ?_ _)); refine blk_far ?_ NB471_514.out _; (with_reducible repeat (first | refine blk_drewN ?_ _ | refine blk_drew ?_ | refine blk_alloc ?_ _)); refine blk_far ?_ NB471_514.out _; (with_reducible repeat (first | refine blk_drewN ?_ _ | refine blk_drew ?_ | refine blk_alloc ?_ _)); refine blk_far ?_ NB471_514.out _; (with_reducible repeat (first | refine blk_drewN ?_ _ | refine blk_drew ?_ | refine blk_alloc ?_ _)); refine blk_far ?_ NB471_514.out _; (with_reducible repeat (first | refine blk_drewN ?_ _ | refine blk_drew ?_ | refine blk_alloc ?_ _)); refine blk_far ?_ NB471_514.out _; (with_reducible repeat (first | refine blk_drewN ?_ _ | refine blk_drew ?_ | refine blk_alloc ?_ _)); refine blk_far ?_ NB471_514.out _; (with_reducible repeat (first | refine blk_drewN ?_ _ | refine blk_drew ?_ | refine blk_alloc ?_ _)); refine blk_far ?_ NB471_514.out _; (with_reducible repeat (first | refine blk_drewN ?_ _ | refine blk_drew ?_ | refine blk_alloc ?_ _)); refine blk_far ?_ NB471_514.out _; (with_reducible repeat (first | refine blk_drewN ?_ _ | refine blk_drew ?_ | refine blk_alloc ?_ _)); refine blk_far ?_ NB471_514.out _; (with_reducible repeat (first | refine blk_drewN ?_ _ | refine blk_drew ?_ | refine blk_alloc ?_ _)); refine blk_far ?_ NB471_514.out _; (with_reducible repeat (first | refine blk_drewN ?_ _ | refine blk_drew ?_ | refine blk_alloc ?_ _)); refine blk_far ?_ NB471_514.out _; (with_reducible repeat (first | refine blk_drewN ?_ _ | refine blk_drew ?_ | refine blk_alloc ?_ _)); refine blk_far ?_ NB471_514.out _; (with_reducible repeat (first | refine blk_drewN ?_ _ | refine blk_drew ?_ | refine blk_alloc ?_ _)); refine blk_far ?_ NB471_514.out _; (with_reducible repeat (first | refine blk_drewN ?_ _ | refine blk_drew ?_ | refine blk_alloc ?_ _)); refine blk_far ?_ NB471_514.out _; (with_reducible repeat (first | refine blk_drewN ?_ _ | refine blk_drew ?_ | refine blk_alloc ?_ _)); exact BK471.out⟩,⟨by (with_reducible repeat (first | refine blk_drewN ?_ _ | refine blk_drew ?_ | refine blk_alloc ?_ _)); refine blk_far ?_ NB493_514.out _; (with_reducible repeat (first | refine blk_drewN ?_ _ | refine blk_drew ?_ | refine blk_alloc ?_ _)); refine blk_far ?_ NB493_514.out _; (with_reducible repeat (first | refine blk_drewN ?_ _ | refine blk_drew ?_ | refine blk_alloc ?_ _)); refine blk_far ?_ NB493_514.out _; (with_reducible repeat (first | refine blk_drewN ?_ _ | refine blk_drew ?_ | refine blk_alloc ?_ _)); refine blk_far ?_ NB493_514.out _; (with_reducible repeat (first | refine blk_drewN ?_ _ | refine blk_drew ?_ | refine blk_alloc ?_ _)); refine blk_far ?_ NB493_514.out _; (with_reducible repeat (first | refine blk_drewN ?_ _ | refine blk_drew ?_ | refine blk_alloc ?_ _)); refine blk_far ?_ NB493_514.out _; (with_reducible repeat (first | refine blk_drewN ?_ _ | refine blk_drew ?_ | refine blk_alloc ?_ _)); refine blk_far ?_ NB493_514.out _; (with_reducible repeat (first | refine blk_drewN ?_ _ | refine blk_drew ?_ | refine blk_alloc ?_ _)); refine blk_far ?_ NB493_514.out _; (with_reducible repeat (first | refine blk_drewN ?_ _ | refine blk_drew ?_ | refine blk_alloc ?_ _)); refine blk_far ?_ NB493_514.out _; (with_reducible repeat (first | refine blk_drewN ?_ _ | refine blk_drew ?_ | refine blk_alloc ?_ _)); refine blk_far ?_ NB493_514.out _; (with_reducible repeat (first | refine blk_drewN ?_ _ | refine blk_drew ?_ | refine blk_alloc ?_ _)); refine blk_far ?_ NB493_514.out _; (with_reducible repeat (first | refine blk_drewN ?_ _ | refine blk_drew ?_ | refine blk_alloc ?_ _)); refine blk_far ?_ NB493_514.out _; (with_reducible repeat (first | refine blk_drewN ?_ _ | refine blk_drew ?_ | refine blk_alloc ?_ _)); refine blk_far ?_ NB493_514.out _; (with_reducible repeat (first | refine blk_drewN ?_ _ | refine blk_drew ?_ | refine blk_alloc ?_ _)); refine blk_far ?_ NB493_514.out _; (with_reducible repeat (first | refine blk_drewN ?_ _ | refine blk_drew ?_ | refine blk_alloc ?_ _)); exact BK493.out⟩,⟨by (with_reducible repeat (first | refine blk_drewN ?_ _ | refine blk_drew ?_ | refine blk_alloc ?_ _)); refine blk_put (cs:=#[.int .i64 t497,.int .i64 t498,.int .i64 t499,.int .i64 t500,.int .i64 t501,.int .i64 t502,.int .i64 t503,.int .i64 t504,.int .i64 t505,.int .i64 t506,.int .i64 t507,.int .i64 t508,.int .i64 t509,.slice none 0 0]) ?_ 13 _ rfl; (with_reducible repeat (first | refine blk_drewN ?_ _ | refine blk_drew ?_ | refine blk_alloc ?_ _)); refine blk_put (cs:=#[.int .i64 t497,.int .i64 t498,.int .i64 t499,.int .i64 t500,.int .i64 t501,.int .i64 t502,.int .i64 t503,.int .i64 t504,.int .i64 t505,.int .i64 t506,.int .i64 t507,.int .i64 t508,.int .i64 0,.slice none 0 0]) ?_ 12 _ rfl; (with_reducible repeat (first | refine blk_drewN ?_ _ | refine blk_drew ?_ | refine blk_alloc ?_ _)); refine blk_put (cs:=#[.int .i64 t497,.int .i64 t498,.int .i64 t499,.int .i64 t500,.int .i64 t501,.int .i64 t502,.int .i64 t503,.int .i64 t504,.int .i64 t505,.int .i64 t506,.int .i64 t507,.int .i64 0,.int .i64 0,.slice none 0 0]) ?_ 11 _ rfl; (with_reducible repeat (first | refine blk_drewN ?_ _ | refine blk_drew ?_ | refine blk_alloc ?_ _)); refine blk_put (cs:=#[.int .i64 t497,.int .i64 t498,.int .i64 t499,.int .i64 t500,.int .i64 t501,.int .i64 t502,.int .i64 t503,.int .i64 t504,.int .i64 t505,.int .i64 t506,.int .i64 0,.int .i64 0,.int .i64 0,.slice none 0 0]) ?_ 10 _ rfl; (with_reducible repeat (first | refine blk_drewN ?_ _ | refine blk_drew ?_ | refine blk_alloc ?_ _)); refine blk_put (cs:=#[.int .i64 t497,.int .i64 t498,.int .i64 t499,.int .i64 t500,.int .i64 t501,.int .i64 t502,.int .i64 t503,.int .i64 t504,.int .i64 t505,.int .i64 0,.int .i64 0,.int .i64 0,.int .i64 0,.slice none 0 0]) ?_ 9 _ rfl; (with_reducible repeat (first | refine blk_drewN ?_ _ | refine blk_drew ?_ | refine blk_alloc ?_ _)); refine blk_put (cs:=#[.int .i64 t497,.int .i64 t498,.int .i64 t499,.int .i64 t500,.int .i64 t501,.int .i64 t502,.int .i64 t503,.int .i64 t504,.int .i64 0,.int .i64 0,.int .i64 0,.int .i64 0,.int .i64 0,.slice none 0 0]) ?_ 8 _ rfl; (with_reducible repeat (first | refine blk_drewN ?_ _ | refine blk_drew ?_ | refine blk_alloc ?_ _)); refine blk_put (cs:=#[.int .i64 t497,.int .i64 t498,.int .i64 t499,.int .i64 t500,.int .i64 t501,.int .i64 t502,.int .i64 t503,.int .i64 0,.int .i64 0,.int .i64 0,.int .i64 0,.int .i64 0,.int .i64 0,.slice none 0 0]) ?_ 7 _ rfl; (with_reducible repeat (first | refine blk_drewN ?_ _ | refine blk_drew ?_ | refine blk_alloc ?_ _)); refine blk_put (cs:=#[.int .i64 t497,.int .i64 t498,.int .i64 t499,.int .i64 t500,.int .i64 t501,.int .i64 t502,.int .i64 0,.int .i64 0,.int .i64 0,.int .i64 0,.int .i64 0,.int .i64 0,.int .i64 0,.slice none 0 0]) ?_ 6 _ rfl; (with_reducible repeat (first | refine blk_drewN ?_ _ | refine blk_drew ?_ | refine blk_alloc ?_ _)); refine blk_put (cs:=#[.int .i64 t497,.int .i64 t498,.int .i64 t499,.int .i64 t500,.int .i64 t501,.int .i64 0,.int .i64 0,.int .i64 0,.int .i64 0,.int .i64 0,.int .i64 0,.int .i64 0,.int .i64 0,.slice none 0 0]) ?_ 5 _ rfl; (with_reducible repeat (first | refine blk_drewN ?_ _ | refine blk_drew ?_ | refine blk_alloc ?_ _)); refine blk_put (cs:=#[.int .i64 t497,.int .i64 t498,.int .i64 t499,.int .i64 t500,.int .i64 0,.int .i64 0,.int .i64 0,.int .i64 0,.int .i64 0,.int .i64 0,.int .i64 0,.int .i64 0,.int .i64 0,.slice none 0 0]) ?_ 4 _ rfl; (with_reducible repeat (first | refine blk_drewN ?_ _ | refine blk_drew ?_ | refine blk_alloc ?_ _)); refine blk_put (cs:=#[.int .i64 t497,.int .i64 t498,.int .i64 t499,.int .i64 0,.int .i64 0,.int .i64 0,.int .i64 0,.int .i64 0,.int .i64 0,.int .i64 0,.int .i64 0,.int .i64 0,.int .i64 0,.slice none 0 0]) ?_ 3 _ rfl; (with_reducible repeat (first | refine blk_drewN ?_ _ | refine blk_drew ?_ | refine blk_alloc ?_ _)); refine blk_put (cs:=#[.int .i64 t497,.int .i64 t498,.int .i64 0,.int .i64 0,.int .i64 0,.int .i64 0,.int .i64 0,.int .i64 0,.int .i64 0,.int .i64 0,.int .i64 0,.int .i64 0,.int .i64 0,.slice none 0 0]) ?_ 2 _ rfl; (with_reducible repeat (first | refine blk_drewN ?_ _ | refine blk_drew ?_ | refine blk_alloc ?_ _)); refine blk_put (cs:=#[.int .i64 t497,.int .i64 0,.int .i64 0,.int .i64 0,.int .i64 0,.int .i64 0,.int .i64 0,.int .i64 0,.int .i64 0,.int .i64 0,.int .i64 0,.int .i64 0,.int .i64 0,.slice none 0 0]) ?_ 1 _ rfl; (with_reducible repeat (first | refine blk_drewN ?_ _ | refine blk_drew ?_ | refine blk_alloc ?_ _)); refine blk_put (cs:=#[.int .i64 0,.int .i64 0,.int .i64 0,.int .i64 0,.int .i64 0,.int .i64 0,.int .i64 0,.int .i64 0,.int .i64 0,.int .i64 0,.int .i64 0,.int .i64 0,.int .i64 0,.slice none 0 0]) ?_ 0 _ rfl; (with_reducible repeat (first | refine blk_drewN ?_ _ | refine blk_drew ?_ | refine blk_alloc ?_ _)); exact BK514.out⟩,⟨by repeat (first | (with_reducible first | exact HB.out | apply below_alloc | apply pw_below_drewN | apply below_drew1 | refine below_set ?_ GE471.out | refine below_set ?_ GE493.out | refine below_set ?_ GE514.out) | exact HB.out)⟩⟩
       rw [if_neg c54] at H
       have c54b0 : (t477 == a0_1) = false:=beq_eq_false_iff_ne.mpr c54
       have c54b1 : (t477 != a0_1) = true:=bne_iff_ne.mpr c54
       (first | rw [c54b0] | (simp only [i64_w,i32_w]; rw [c54b0]) | skip)
       have H':=Aside0.mk H
       clear H
       have hnb73:=NB493_471.out
       have hnc73:=NB471_493.out
       have hnb74:=NB493_514.out
       have hnc74:=NB514_493.out
       obtain ⟨hcz75_0,hcz75_1,hcz75_2,hcz75_3,hcz75_4,hcz75_5,hcz75_6,hcz75_7,hcz75_8,hcz75_9,hcz75_10,hcz75_11,hcz75_12,hcz75_13⟩:=cl14 BK493.out
       obtain ⟨hfz75_0,hfz75_1,hfz75_2,hfz75_3,hfz75_4,hfz75_5,hfz75_6,hfz75_7,hfz75_8,hfz75_9,hfz75_10,hfz75_11,hfz75_12,hfz75_13⟩:=fz14 BK493.out
       have hnb76:=NB471_514.out
       have hnc76:=NB514_471.out
       obtain ⟨hcz77_0,hcz77_1,hcz77_2,hcz77_3,hcz77_4,hcz77_5,hcz77_6,hcz77_7,hcz77_8,hcz77_9,hcz77_10,hcz77_11,hcz77_12,hcz77_13⟩:=cl14 BK471.out
       obtain ⟨hfz77_0,hfz77_1,hfz77_2,hfz77_3,hfz77_4,hfz77_5,hfz77_6,hfz77_7,hfz77_8,hfz77_9,hfz77_10,hfz77_11,hfz77_12,hfz77_13⟩:=fz14 BK471.out
       go_wp2
       go_meet
       case rel => exact ⟨_,(false),(by first | rfl | (simp; done) | (simp [*]; done)),H',⟨by have:=HJ2.out; first | omega | exact Nat.le_refl _⟩,⟨by (with_reducible repeat (first | apply Kd.R_alloc | apply Kd.R_drewN | apply Kd.R_drew)); exact Kd.R_mono (Kd.R_far (p:=⟨gb514,13,none⟩) (Kd.R_far (p:=⟨gb514,12,none⟩) (Kd.R_far (p:=⟨gb514,11,none⟩) (Kd.R_far (p:=⟨gb514,10,none⟩) (Kd.R_far (p:=⟨gb514,9,none⟩) (Kd.R_far (p:=⟨gb514,8,none⟩) (Kd.R_far (p:=⟨gb514,7,none⟩) (Kd.R_far (p:=⟨gb514,6,none⟩) (Kd.R_far (p:=⟨gb514,5,none⟩) (Kd.R_far (p:=⟨gb514,4,none⟩) (Kd.R_far (p:=⟨gb514,3,none⟩) (Kd.R_far (p:=⟨gb514,2,none⟩) (Kd.R_far (p:=⟨gb514,1,none⟩) (Kd.R_far (p:=⟨gb514,0,none⟩) (Kd.R_types HO491.out BK514.out (by decide)) (fun _ hk => hk.2) (.int .i64 t497)) (fun _ hk => hk.2) (.int .i64 t498)) (fun _ hk => hk.2) (.int .i64 t499)) (fun _ hk => hk.2) (.int .i64 t500)) (fun _ hk => hk.2) (.int .i64 t501)) (fun _ hk => hk.2) (.int .i64 t502)) (fun _ hk => hk.2) (.int .i64 t503)) (fun _ hk => hk.2) (.int .i64 t504)) (fun _ hk => hk.2) (.int .i64 t505)) (fun _ hk => hk.2) (.int .i64 t506)) (fun _ hk => hk.2) (.int .i64 t507)) (fun _ hk => hk.2) (.int .i64 t508)) (fun _ hk => hk.2) (.int .i64 t509)) (fun _ hk => hk.2) (.slice Ao51 t510.length co51)) (fun _ hk => hk.1)⟩,⟨by (with_reducible repeat (first | apply Kd.R_alloc | apply Kd.R_drewN | apply Kd.R_drew)); exact Kd.R_mono (Kd.R_far (p:=⟨gb514,13,none⟩) (Kd.R_far (p:=⟨gb514,12,none⟩) (Kd.R_far (p:=⟨gb514,11,none⟩) (Kd.R_far (p:=⟨gb514,10,none⟩) (Kd.R_far (p:=⟨gb514,9,none⟩) (Kd.R_far (p:=⟨gb514,8,none⟩) (Kd.R_far (p:=⟨gb514,7,none⟩) (Kd.R_far (p:=⟨gb514,6,none⟩) (Kd.R_far (p:=⟨gb514,5,none⟩) (Kd.R_far (p:=⟨gb514,4,none⟩) (Kd.R_far (p:=⟨gb514,3,none⟩) (Kd.R_far (p:=⟨gb514,2,none⟩) (Kd.R_far (p:=⟨gb514,1,none⟩) (Kd.R_far (p:=⟨gb514,0,none⟩) (Kd.R_types HO512.out BK514.out (by decide)) (fun _ hk => hk.2) (.int .i64 t497)) (fun _ hk => hk.2) (.int .i64 t498)) (fun _ hk => hk.2) (.int .i64 t499)) (fun _ hk => hk.2) (.int .i64 t500)) (fun _ hk => hk.2) (.int .i64 t501)) (fun _ hk => hk.2) (.int .i64 t502)) (fun _ hk => hk.2) (.int .i64 t503)) (fun _ hk => hk.2) (.int .i64 t504)) (fun _ hk => hk.2) (.int .i64 t505)) (fun _ hk => hk.2) (.int .i64 t506)) (fun _ hk => hk.2) (.int .i64 t507)) (fun _ hk => hk.2) (.int .i64 t508)) (fun _ hk => hk.2) (.int .i64 t509)) (fun _ hk => hk.2) (.slice Ao51 t510.length co51)) (fun _ hk => hk.1)⟩,⟨by (with_reducible repeat (first | refine blk_drewN ?_ _ | refine blk_drew ?_ | refine blk_alloc ?_ _)); refine blk_far ?_ NB471_514.out _; (with_reducible repeat (first | refine blk_drewN ?_ _ | refine blk_drew ?_ | refine blk_alloc ?_ _)); refine blk_far ?_ NB471_514.out _; (with_reducible repeat (first | refine blk_drewN ?_ _ | refine blk_drew ?_ | refine blk_alloc ?_ _)); refine blk_far ?_ NB471_514.out _; (with_reducible repeat (first | refine blk_drewN ?_ _ | refine blk_drew ?_ | refine blk_alloc ?_ _)); refine blk_far ?_ NB471_514.out _; (with_reducible repeat (first | refine blk_drewN ?_ _ | refine blk_drew ?_ | refine blk_alloc ?_ _)); refine blk_far ?_ NB471_514.out _; (with_reducible repeat (first | refine blk_drewN ?_ _ | refine blk_drew ?_ | refine blk_alloc ?_ _)); refine blk_far ?_ NB471_514.out _; (with_reducible repeat (first | refine blk_drewN ?_ _ | refine blk_drew ?_ | refine blk_alloc ?_ _)); refine blk_far ?_ NB471_514.out _; (with_reducible repeat (first | refine blk_drewN ?_ _ | refine blk_drew ?_ | refine blk_alloc ?_ _)); refine blk_far ?_ NB471_514.out _; (with_reducible repeat (first | refine blk_drewN ?_ _ | refine blk_drew ?_ | refine blk_alloc ?_ _)); refine blk_far ?_ NB471_514.out _; (with_reducible repeat (first | refine blk_drewN ?_ _ | refine blk_drew ?_ | refine blk_alloc ?_ _)); refine blk_far ?_ NB471_514.out _; (with_reducible repeat (first | refine blk_drewN ?_ _ | refine blk_drew ?_ | refine blk_alloc ?_ _)); refine blk_far ?_ NB471_514.out _; (with_reducible repeat (first | refine blk_drewN ?_ _ | refine blk_drew ?_ | refine blk_alloc ?_ _)); refine blk_far ?_ NB471_514.out _; (with_reducible repeat (first | refine blk_drewN ?_ _ | refine blk_drew ?_ | refine blk_alloc ?_ _)); refine blk_far ?_ NB471_514.out _; (with_reducible repeat (first | refine blk_drewN ?_ _ | refine blk_drew ?_ | refine blk_alloc ?_ _)); refine blk_far ?_ NB471_514.out _; (with_reducible repeat (first | refine blk_drewN ?_ _ | refine blk_drew ?_ | refine blk_alloc ?_ _)); exact BK471.out⟩,⟨by (with_reducible repeat (first | refine blk_drewN ?_ _ | refine blk_drew ?_ | refine blk_alloc ?_ _)); refine blk_far ?_ NB493_514.out _; (with_reducible repeat (first | refine blk_drewN ?_ _ | refine blk_drew ?_ | refine blk_alloc ?_ _)); refine blk_far ?_ NB493_514.out _; (with_reducible repeat (first | refine blk_drewN ?_ _ | refine blk_drew ?_ | refine blk_alloc ?_ _)); refine blk_far ?_ NB493_514.out _; (with_reducible repeat (first | refine blk_drewN ?_ _ | refine blk_drew ?_ | refine blk_alloc ?_ _)); refine blk_far ?_ NB493_514.out _; (with_reducible repeat (first | refine blk_drewN ?_ _ | refine blk_drew ?_ | refine blk_alloc ?_ _)); refine blk_far ?_ NB493_514.out _; (with_reducible repeat (first | refine blk_drewN ?_ _ | refine blk_drew ?_ | refine blk_alloc ?_ _)); refine blk_far ?_ NB493_514.out _; (with_reducible repeat (first | refine blk_drewN ?_ _ | refine blk_drew ?_ | refine blk_alloc ?_ _)); refine blk_far ?_ NB493_514.out _; (with_reducible repeat (first | refine blk_drewN ?_ _ | refine blk_drew ?_ | refine blk_alloc ?_ _)); refine blk_far ?_ NB493_514.out _; (with_reducible repeat (first | refine blk_drewN ?_ _ | refine blk_drew ?_ | refine blk_alloc ?_ _)); refine blk_far ?_ NB493_514.out _; (with_reducible repeat (first | refine blk_drewN ?_ _ | refine blk_drew ?_ | refine blk_alloc ?_ _)); refine blk_far ?_ NB493_514.out _; (with_reducible repeat (first | refine blk_drewN ?_ _ | refine blk_drew ?_ | refine blk_alloc ?_ _)); refine blk_far ?_ NB493_514.out _; (with_reducible repeat (first | refine blk_drewN ?_ _ | refine blk_drew ?_ | refine blk_alloc ?_ _)); refine blk_far ?_ NB493_514.out _; (with_reducible repeat (first | refine blk_drewN ?_ _ | refine blk_drew ?_ | refine blk_alloc ?_ _)); refine blk_far ?_ NB493_514.out _; (with_reducible repeat (first | refine blk_drewN ?_ _ | refine blk_drew ?_ | refine blk_alloc ?_ _)); refine blk_far ?_ NB493_514.out _; (with_reducible repeat (first | refine blk_drewN ?_ _ | refine blk_drew ?_ | refine blk_alloc ?_ _)); exact BK493.out⟩,⟨by (with_reducible repeat (first | refine blk_drewN ?_ _ | refine blk_drew ?_ | refine blk_alloc ?_ _)); refine blk_put (cs:=#[.int .i64 t497,.int .i64 t498,.int .i64 t499,.int .i64 t500,.int .i64 t501,.int .i64 t502,.int .i64 t503,.int .i64 t504,.int .i64 t505,.int .i64 t506,.int .i64 t507,.int .i64 t508,.int .i64 t509,.slice none 0 0]) ?_ 13 _ rfl; (with_reducible repeat (first | refine blk_drewN ?_ _ | refine blk_drew ?_ | refine blk_alloc ?_ _)); refine blk_put (cs:=#[.int .i64 t497,.int .i64 t498,.int .i64 t499,.int .i64 t500,.int .i64 t501,.int .i64 t502,.int .i64 t503,.int .i64 t504,.int .i64 t505,.int .i64 t506,.int .i64 t507,.int .i64 t508,.int .i64 0,.slice none 0 0]) ?_ 12 _ rfl; (with_reducible repeat (first | refine blk_drewN ?_ _ | refine blk_drew ?_ | refine blk_alloc ?_ _)); refine blk_put (cs:=#[.int .i64 t497,.int .i64 t498,.int .i64 t499,.int .i64 t500,.int .i64 t501,.int .i64 t502,.int .i64 t503,.int .i64 t504,.int .i64 t505,.int .i64 t506,.int .i64 t507,.int .i64 0,.int .i64 0,.slice none 0 0]) ?_ 11 _ rfl; (with_reducible repeat (first | refine blk_drewN ?_ _ | refine blk_drew ?_ | refine blk_alloc ?_ _)); refine blk_put (cs:=#[.int .i64 t497,.int .i64 t498,.int .i64 t499,.int .i64 t500,.int .i64 t501,.int .i64 t502,.int .i64 t503,.int .i64 t504,.int .i64 t505,.int .i64 t506,.int .i64 0,.int .i64 0,.int .i64 0,.slice none 0 0]) ?_ 10 _ rfl; (with_reducible repeat (first | refine blk_drewN ?_ _ | refine blk_drew ?_ | refine blk_alloc ?_ _)); refine blk_put (cs:=#[.int .i64 t497,.int .i64 t498,.int .i64 t499,.int .i64 t500,.int .i64 t501,.int .i64 t502,.int .i64 t503,.int .i64 t504,.int .i64 t505,.int .i64 0,.int .i64 0,.int .i64 0,.int .i64 0,.slice none 0 0]) ?_ 9 _ rfl; (with_reducible repeat (first | refine blk_drewN ?_ _ | refine blk_drew ?_ | refine blk_alloc ?_ _)); refine blk_put (cs:=#[.int .i64 t497,.int .i64 t498,.int .i64 t499,.int .i64 t500,.int .i64 t501,.int .i64 t502,.int .i64 t503,.int .i64 t504,.int .i64 0,.int .i64 0,.int .i64 0,.int .i64 0,.int .i64 0,.slice none 0 0]) ?_ 8 _ rfl; (with_reducible repeat (first | refine blk_drewN ?_ _ | refine blk_drew ?_ | refine blk_alloc ?_ _)); refine blk_put (cs:=#[.int .i64 t497,.int .i64 t498,.int .i64 t499,.int .i64 t500,.int .i64 t501,.int .i64 t502,.int .i64 t503,.int .i64 0,.int .i64 0,.int .i64 0,.int .i64 0,.int .i64 0,.int .i64 0,.slice none 0 0]) ?_ 7 _ rfl; (with_reducible repeat (first | refine blk_drewN ?_ _ | refine blk_drew ?_ | refine blk_alloc ?_ _)); refine blk_put (cs:=#[.int .i64 t497,.int .i64 t498,.int .i64 t499,.int .i64 t500,.int .i64 t501,.int .i64 t502,.int .i64 0,.int .i64 0,.int .i64 0,.int .i64 0,.int .i64 0,.int .i64 0,.int .i64 0,.slice none 0 0]) ?_ 6 _ rfl; (with_reducible repeat (first | refine blk_drewN ?_ _ | refine blk_drew ?_ | refine blk_alloc ?_ _)); refine blk_put (cs:=#[.int .i64 t497,.int .i64 t498,.int .i64 t499,.int .i64 t500,.int .i64 t501,.int .i64 0,.int .i64 0,.int .i64 0,.int .i64 0,.int .i64 0,.int .i64 0,.int .i64 0,.int .i64 0,.slice none 0 0]) ?_ 5 _ rfl; (with_reducible repeat (first | refine blk_drewN ?_ _ | refine blk_drew ?_ | refine blk_alloc ?_ _)); refine blk_put (cs:=#[.int .i64 t497,.int .i64 t498,.int .i64 t499,.int .i64 t500,.int .i64 0,.int .i64 0,.int .i64 0,.int .i64 0,.int .i64 0,.int .i64 0,.int .i64 0,.int .i64 0,.int .i64 0,.slice none 0 0]) ?_ 4 _ rfl; (with_reducible repeat (first | refine blk_drewN ?_ _ | refine blk_drew ?_ | refine blk_alloc ?_ _)); refine blk_put (cs:=#[.int .i64 t497,.int .i64 t498,.int .i64 t499,.int .i64 0,.int .i64 0,.int .i64 0,.int .i64 0,.int .i64 0,.int .i64 0,.int .i64 0,.int .i64 0,.int .i64 0,.int .i64 0,.slice none 0 0]) ?_ 3 _ rfl; (with_reducible repeat (first | refine blk_drewN ?_ _ | refine blk_drew ?_ | refine blk_alloc ?_ _)); refine blk_put (cs:=#[.int .i64 t497,.int .i64 t498,.int .i64 0,.int .i64 0,.int .i64 0,.int .i64 0,.int .i64 0,.int .i64 0,.int .i64 0,.int .i64 0,.int .i64 0,.int .i64 0,.int .i64 0,.slice none 0 0]) ?_ 2 _ rfl; (with_reducible repeat (first | refine blk_drewN ?_ _ | refine blk_drew ?_ | refine blk_alloc ?_ _)); refine blk_put (cs:=#[.int .i64 t497,.int .i64 0,.int .i64 0,.int .i64 0,.int .i64 0,.int .i64 0,.int .i64 0,.int .i64 0,.int .i64 0,.int .i64 0,.int .i64 0,.int .i64 0,.int .i64 0,.slice none 0 0]) ?_ 1 _ rfl; (with_reducible repeat (first | refine blk_drewN ?_ _ | refine blk_drew ?_ | refine blk_alloc ?_ _)); refine blk_put (cs:=#[.int .i64 0,.int .i64 0,.int .i64 0,.int .i64 0,.int .i64 0,.int .i64 0,.int .i64 0,.int .i64 0,.int .i64 0,.int .i64 0,.int .i64 0,.int .i64 0,.int .i64 0,.slice none 0 0]) ?_ 0 _ rfl; (with_reducible repeat (first | refine blk_drewN ?_ _ | refine blk_drew ?_ | refine blk_alloc ?_ _)); exact BK514.out⟩,⟨by repeat (first | (with_reducible first | exact HB.out | apply below_alloc | apply pw_below_drewN | apply below_drew1 | refine below_set ?_ GE471.out | refine below_set ?_ GE493.out | refine below_set ?_ GE514.out) | exact HB.out)⟩⟩
      replace c53:=Bool.eq_false_iff.mpr c53
      subst c53
      have H1 : (maquettelaw18_ClayKinds.j1 kj2 false) = some r:=by rw [if_neg (show ¬ (false = true) by decide)] at H; exact H
      clear H
      have H:=H1
      clear H1
      have H':=Aside0.mk H
      clear H
      go_wp2
      go_meet
      case rel => exact ⟨_,(false),(by first | rfl | (simp; done) | (simp [*]; done)),H',⟨by have:=HJ2.out; first | omega | exact Nat.le_refl _⟩,⟨by (with_reducible repeat (first | apply Kd.R_alloc | apply Kd.R_drewN | apply Kd.R_drew)); exact Kd.R_mono (Kd.R_far (p:=⟨gb514,13,none⟩) (Kd.R_far (p:=⟨gb514,12,none⟩) (Kd.R_far (p:=⟨gb514,11,none⟩) (Kd.R_far (p:=⟨gb514,10,none⟩) (Kd.R_far (p:=⟨gb514,9,none⟩) (Kd.R_far (p:=⟨gb514,8,none⟩) (Kd.R_far (p:=⟨gb514,7,none⟩) (Kd.R_far (p:=⟨gb514,6,none⟩) (Kd.R_far (p:=⟨gb514,5,none⟩) (Kd.R_far (p:=⟨gb514,4,none⟩) (Kd.R_far (p:=⟨gb514,3,none⟩) (Kd.R_far (p:=⟨gb514,2,none⟩) (Kd.R_far (p:=⟨gb514,1,none⟩) (Kd.R_far (p:=⟨gb514,0,none⟩) (Kd.R_types HO491.out BK514.out (by decide)) (fun _ hk => hk.2) (.int .i64 t497)) (fun _ hk => hk.2) (.int .i64 t498)) (fun _ hk => hk.2) (.int .i64 t499)) (fun _ hk => hk.2) (.int .i64 t500)) (fun _ hk => hk.2) (.int .i64 t501)) (fun _ hk => hk.2) (.int .i64 t502)) (fun _ hk => hk.2) (.int .i64 t503)) (fun _ hk => hk.2) (.int .i64 t504)) (fun _ hk => hk.2) (.int .i64 t505)) (fun _ hk => hk.2) (.int .i64 t506)) (fun _ hk => hk.2) (.int .i64 t507)) (fun _ hk => hk.2) (.int .i64 t508)) (fun _ hk => hk.2) (.int .i64 t509)) (fun _ hk => hk.2) (.slice Ao51 t510.length co51)) (fun _ hk => hk.1)⟩,⟨by (with_reducible repeat (first | apply Kd.R_alloc | apply Kd.R_drewN | apply Kd.R_drew)); exact Kd.R_mono (Kd.R_far (p:=⟨gb514,13,none⟩) (Kd.R_far (p:=⟨gb514,12,none⟩) (Kd.R_far (p:=⟨gb514,11,none⟩) (Kd.R_far (p:=⟨gb514,10,none⟩) (Kd.R_far (p:=⟨gb514,9,none⟩) (Kd.R_far (p:=⟨gb514,8,none⟩) (Kd.R_far (p:=⟨gb514,7,none⟩) (Kd.R_far (p:=⟨gb514,6,none⟩) (Kd.R_far (p:=⟨gb514,5,none⟩) (Kd.R_far (p:=⟨gb514,4,none⟩) (Kd.R_far (p:=⟨gb514,3,none⟩) (Kd.R_far (p:=⟨gb514,2,none⟩) (Kd.R_far (p:=⟨gb514,1,none⟩) (Kd.R_far (p:=⟨gb514,0,none⟩) (Kd.R_types HO512.out BK514.out (by decide)) (fun _ hk => hk.2) (.int .i64 t497)) (fun _ hk => hk.2) (.int .i64 t498)) (fun _ hk => hk.2) (.int .i64 t499)) (fun _ hk => hk.2) (.int .i64 t500)) (fun _ hk => hk.2) (.int .i64 t501)) (fun _ hk => hk.2) (.int .i64 t502)) (fun _ hk => hk.2) (.int .i64 t503)) (fun _ hk => hk.2) (.int .i64 t504)) (fun _ hk => hk.2) (.int .i64 t505)) (fun _ hk => hk.2) (.int .i64 t506)) (fun _ hk => hk.2) (.int .i64 t507)) (fun _ hk => hk.2) (.int .i64 t508)) (fun _ hk => hk.2) (.int .i64 t509)) (fun _ hk => hk.2) (.slice Ao51 t510.length co51)) (fun _ hk => hk.1)⟩,⟨by (with_reducible repeat (first | refine blk_drewN ?_ _ | refine blk_drew ?_ | refine blk_alloc ?_ _)); refine blk_far ?_ NB471_514.out _; (with_reducible repeat (first | refine blk_drewN ?_ _ | refine blk_drew ?_ | refine blk_alloc ?_ _)); refine blk_far ?_ NB471_514.out _; (with_reducible repeat (first | refine blk_drewN ?_ _ | refine blk_drew ?_ | refine blk_alloc ?_ _)); refine blk_far ?_ NB471_514.out _; (with_reducible repeat (first | refine blk_drewN ?_ _ | refine blk_drew ?_ | refine blk_alloc ?_ _)); refine blk_far ?_ NB471_514.out _; (with_reducible repeat (first | refine blk_drewN ?_ _ | refine blk_drew ?_ | refine blk_alloc ?_ _)); refine blk_far ?_ NB471_514.out _; (with_reducible repeat (first | refine blk_drewN ?_ _ | refine blk_drew ?_ | refine blk_alloc ?_ _)); refine blk_far ?_ NB471_514.out _; (with_reducible repeat (first | refine blk_drewN ?_ _ | refine blk_drew ?_ | refine blk_alloc ?_ _)); refine blk_far ?_ NB471_514.out _; (with_reducible repeat (first | refine blk_drewN ?_ _ | refine blk_drew ?_ | refine blk_alloc ?_ _)); refine blk_far ?_ NB471_514.out _; (with_reducible repeat (first | refine blk_drewN ?_ _ | refine blk_drew ?_ | refine blk_alloc ?_ _)); refine blk_far ?_ NB471_514.out _; (with_reducible repeat (first | refine blk_drewN ?_ _ | refine blk_drew ?_ | refine blk_alloc ?_ _)); refine blk_far ?_ NB471_514.out _; (with_reducible repeat (first | refine blk_drewN ?_ _ | refine blk_drew ?_ | refine blk_alloc ?_ _)); refine blk_far ?_ NB471_514.out _; (with_reducible repeat (first | refine blk_drewN ?_ _ | refine blk_drew ?_ | refine blk_alloc ?_ _)); refine blk_far ?_ NB471_514.out _; (with_reducible repeat (first | refine blk_drewN ?_ _ | refine blk_drew ?_ | refine blk_alloc ?_ _)); refine blk_far ?_ NB471_514.out _; (with_reducible repeat (first | refine blk_drewN ?_ _ | refine blk_drew ?_ | refine blk_alloc ?_ _)); refine blk_far ?_ NB471_514.out _; (with_reducible repeat (first | refine blk_drewN ?_ _ | refine blk_drew ?_ | refine blk_alloc ?_ _)); exact BK471.out⟩,⟨by (with_reducible repeat (first | refine blk_drewN ?_ _ | refine blk_drew ?_ | refine blk_alloc ?_ _)); refine blk_far ?_ NB493_514.out _; (with_reducible repeat (first | refine blk_drewN ?_ _ | refine blk_drew ?_ | refine blk_alloc ?_ _)); refine blk_far ?_ NB493_514.out _; (with_reducible repeat (first | refine blk_drewN ?_ _ | refine blk_drew ?_ | refine blk_alloc ?_ _)); refine blk_far ?_ NB493_514.out _; (with_reducible repeat (first | refine blk_drewN ?_ _ | refine blk_drew ?_ | refine blk_alloc ?_ _)); refine blk_far ?_ NB493_514.out _; (with_reducible repeat (first | refine blk_drewN ?_ _ | refine blk_drew ?_ | refine blk_alloc ?_ _)); refine blk_far ?_ NB493_514.out _; (with_reducible repeat (first | refine blk_drewN ?_ _ | refine blk_drew ?_ | refine blk_alloc ?_ _)); refine blk_far ?_ NB493_514.out _; (with_reducible repeat (first | refine blk_drewN ?_ _ | refine blk_drew ?_ | refine blk_alloc ?_ _)); refine blk_far ?_ NB493_514.out _; (with_reducible repeat (first | refine blk_drewN ?_ _ | refine blk_drew ?_ | refine blk_alloc ?_ _)); refine blk_far ?_ NB493_514.out _; (with_reducible repeat (first | refine blk_drewN ?_ _ | refine blk_drew ?_ | refine blk_alloc ?_ _)); refine blk_far ?_ NB493_514.out _; (with_reducible repeat (first | refine blk_drewN ?_ _ | refine blk_drew ?_ | refine blk_alloc ?_ _)); refine blk_far ?_ NB493_514.out _; (with_reducible repeat (first | refine blk_drewN ?_ _ | refine blk_drew ?_ | refine blk_alloc ?_ _)); refine blk_far ?_ NB493_514.out _; (with_reducible repeat (first | refine blk_drewN ?_ _ | refine blk_drew ?_ | refine blk_alloc ?_ _)); refine blk_far ?_ NB493_514.out _; (with_reducible repeat (first | refine blk_drewN ?_ _ | refine blk_drew ?_ | refine blk_alloc ?_ _)); refine blk_far ?_ NB493_514.out _; (with_reducible repeat (first | refine blk_drewN ?_ _ | refine blk_drew ?_ | refine blk_alloc ?_ _)); refine blk_far ?_ NB493_514.out _; (with_reducible repeat (first | refine blk_drewN ?_ _ | refine blk_drew ?_ | refine blk_alloc ?_ _)); exact BK493.out⟩,⟨by (with_reducible repeat (first | refine blk_drewN ?_ _ | refine blk_drew ?_ | refine blk_alloc ?_ _)); refine blk_put (cs:=#[.int .i64 t497,.int .i64 t498,.int .i64 t499,.int .i64 t500,.int .i64 t501,.int .i64 t502,.int .i64 t503,.int .i64 t504,.int .i64 t505,.int .i64 t506,.int .i64 t507,.int .i64 t508,.int .i64 t509,.slice none 0 0]) ?_ 13 _ rfl; (with_reducible repeat (first | refine blk_drewN ?_ _ | refine blk_drew ?_ | refine blk_alloc ?_ _)); refine blk_put (cs:=#[.int .i64 t497,.int .i64 t498,.int .i64 t499,.int .i64 t500,.int .i64 t501,.int .i64 t502,.int .i64 t503,.int .i64 t504,.int .i64 t505,.int .i64 t506,.int .i64 t507,.int .i64 t508,.int .i64 0,.slice none 0 0]) ?_ 12 _ rfl; (with_reducible repeat (first | refine blk_drewN ?_ _ | refine blk_drew ?_ | refine blk_alloc ?_ _)); refine blk_put (cs:=#[.int .i64 t497,.int .i64 t498,.int .i64 t499,.int .i64 t500,.int .i64 t501,.int .i64 t502,.int .i64 t503,.int .i64 t504,.int .i64 t505,.int .i64 t506,.int .i64 t507,.int .i64 0,.int .i64 0,.slice none 0 0]) ?_ 11 _ rfl; (with_reducible repeat (first | refine blk_drewN ?_ _ | refine blk_drew ?_ | refine blk_alloc ?_ _)); refine blk_put (cs:=#[.int .i64 t497,.int .i64 t498,.int .i64 t499,.int .i64 t500,.int .i64 t501,.int .i64 t502,.int .i64 t503,.int .i64 t504,.int .i64 t505,.int .i64 t506,.int .i64 0,.int .i64 0,.int .i64 0,.slice none 0 0]) ?_ 10 _ rfl; (with_reducible repeat (first | refine blk_drewN ?_ _ | refine blk_drew ?_ | refine blk_alloc ?_ _)); refine blk_put (cs:=#[.int .i64 t497,.int .i64 t498,.int .i64 t499,.int .i64 t500,.int .i64 t501,.int .i64 t502,.int .i64 t503,.int .i64 t504,.int .i64 t505,.int .i64 0,.int .i64 0,.int .i64 0,.int .i64 0,.slice none 0 0]) ?_ 9 _ rfl; (with_reducible repeat (first | refine blk_drewN ?_ _ | refine blk_drew ?_ | refine blk_alloc ?_ _)); refine blk_put (cs:=#[.int .i64 t497,.int .i64 t498,.int .i64 t499,.int .i64 t500,.int .i64 t501,.int .i64 t502,.int .i64 t503,.int .i64 t504,.int .i64 0,.int .i64 0,.int .i64 0,.int .i64 0,.int .i64 0,.slice none 0 0]) ?_ 8 _ rfl; (with_reducible repeat (first | refine blk_drewN ?_ _ | refine blk_drew ?_ | refine blk_alloc ?_ _)); refine blk_put (cs:=#[.int .i64 t497,.int .i64 t498,.int .i64 t499,.int .i64 t500,.int .i64 t501,.int .i64 t502,.int .i64 t503,.int .i64 0,.int .i64 0,.int .i64 0,.int .i64 0,.int .i64 0,.int .i64 0,.slice none 0 0]) ?_ 7 _ rfl; (with_reducible repeat (first | refine blk_drewN ?_ _ | refine blk_drew ?_ | refine blk_alloc ?_ _)); refine blk_put (cs:=#[.int .i64 t497,.int .i64 t498,.int .i64 t499,.int .i64 t500,.int .i64 t501,.int .i64 t502,.int .i64 0,.int .i64 0,.int .i64 0,.int .i64 0,.int .i64 0,.int .i64 0,.int .i64 0,.slice none 0 0]) ?_ 6 _ rfl; (with_reducible repeat (first | refine blk_drewN ?_ _ | refine blk_drew ?_ | refine blk_alloc ?_ _)); refine blk_put (cs:=#[.int .i64 t497,.int .i64 t498,.int .i64 t499,.int .i64 t500,.int .i64 t501,.int .i64 0,.int .i64 0,.int .i64 0,.int .i64 0,.int .i64 0,.int .i64 0,.int .i64 0,.int .i64 0,.slice none 0 0]) ?_ 5 _ rfl; (with_reducible repeat (first | refine blk_drewN ?_ _ | refine blk_drew ?_ | refine blk_alloc ?_ _)); refine blk_put (cs:=#[.int .i64 t497,.int .i64 t498,.int .i64 t499,.int .i64 t500,.int .i64 0,.int .i64 0,.int .i64 0,.int .i64 0,.int .i64 0,.int .i64 0,.int .i64 0,.int .i64 0,.int .i64 0,.slice none 0 0]) ?_ 4 _ rfl; (with_reducible repeat (first | refine blk_drewN ?_ _ | refine blk_drew ?_ | refine blk_alloc ?_ _)); refine blk_put (cs:=#[.int .i64 t497,.int .i64 t498,.int .i64 t499,.int .i64 0,.int .i64 0,.int .i64 0,.int .i64 0,.int .i64 0,.int .i64 0,.int .i64 0,.int .i64 0,.int .i64 0,.int .i64 0,.slice none 0 0]) ?_ 3 _ rfl; (with_reducible repeat (first | refine blk_drewN ?_ _ | refine blk_drew ?_ | refine blk_alloc ?_ _)); refine blk_put (cs:=#[.int .i64 t497,.int .i64 t498,.int .i64 0,.int .i64 0,.int .i64 0,.int .i64 0,.int .i64 0,.int .i64 0,.int .i64 0,.int .i64 0,.int .i64 0,.int .i64 0,.int .i64 0,.slice none 0 0]) ?_ 2 _ rfl; (with_reducible repeat (first | refine blk_drewN ?_ _ | refine blk_drew ?_ | refine blk_alloc ?_ _)); refine blk_put (cs:=#[.int .i64 t497,.int .i64 0,.int .i64 0,.int .i64 0,.int .i64 0,.int .i64 0,.int .i64 0,.int .i64 0,.int .i64 0,.int .i64 0,.int .i64 0,.int .i64 0,.int .i64 0,.slice none 0 0]) ?_ 1 _ rfl; (with_reducible repeat (first | refine blk_drewN ?_ _ | refine blk_drew ?_ | refine blk_alloc ?_ _)); refine blk_put (cs:=#[.int .i64 0,.int .i64 0,.int .i64 0,.int .i64 0,.int .i64 0,.int .i64 0,.int .i64 0,.int .i64 0,.int .i64 0,.int .i64 0,.int .i64 0,.int .i64 0,.int .i64 0,.slice none 0 0]) ?_ 0 _ rfl; (with_reducible repeat (first | refine blk_drewN ?_ _ | refine blk_drew ?_ | refine blk_alloc ?_ _)); exact BK514.out⟩,⟨by repeat (first | (with_reducible first | exact HB.out | apply below_alloc | apply pw_below_drewN | apply below_drew1 | refine below_set ?_ GE471.out | refine below_set ?_ GE493.out | refine below_set ?_ GE514.out) | exact HB.out)⟩⟩
     clear HC22
     (try clear c1); (try clear p2); (try clear hcv3); (try clear c5); (try clear c6); (try clear c7); (try clear c15); (try clear hcv35); (try clear c53); (try clear c54); (try clear c54b0); (try clear c54b1); (try clear c55); (try clear c55b0); (try clear c55b1); (try clear c55b2); (try clear c56); (try clear c57); (try clear c58); (try clear c60); (try clear c62); (try clear c63); (try clear c65); (try clear c68); (try clear c69); (try clear c71); (try clear c73); (try clear c74); (try clear c76); (try clear hcz59_0); (try clear hcz59_1); (try clear hcz59_10); (try clear hcz59_11); (try clear hcz59_12); (try clear hcz59_13); (try clear hcz59_2); (try clear hcz59_3); (try clear hcz59_4); (try clear hcz59_5); (try clear hcz59_6); (try clear hcz59_7); (try clear hcz59_8); (try clear hcz59_9); (try clear hcz61_0); (try clear hcz61_1); (try clear hcz61_10); (try clear hcz61_11); (try clear hcz61_12); (try clear hcz61_13); (try clear hcz61_2); (try clear hcz61_3); (try clear hcz61_4); (try clear hcz61_5); (try clear hcz61_6); (try clear hcz61_7); (try clear hcz61_8); (try clear hcz61_9); (try clear hcz64_0); (try clear hcz64_1); (try clear hcz64_10); (try clear hcz64_11); (try clear hcz64_12); (try clear hcz64_13); (try clear hcz64_2); (try clear hcz64_3); (try clear hcz64_4); (try clear hcz64_5); (try clear hcz64_6); (try clear hcz64_7); (try clear hcz64_8); (try clear hcz64_9); (try clear hcz66_0); (try clear hcz66_1); (try clear hcz66_10); (try clear hcz66_11); (try clear hcz66_12); (try clear hcz66_13); (try clear hcz66_2); (try clear hcz66_3); (try clear hcz66_4); (try clear hcz66_5); (try clear hcz66_6); (try clear hcz66_7); (try clear hcz66_8); (try clear hcz66_9); (try clear hcz67_0); (try clear hcz67_1); (try clear hcz67_10); (try clear hcz67_11); (try clear hcz67_12); (try clear hcz67_13); (try clear hcz67_2); (try clear hcz67_3); (try clear hcz67_4); (try clear hcz67_5); (try clear hcz67_6); (try clear hcz67_7); (try clear hcz67_8); (try clear hcz67_9); (try clear hcz70_0); (try clear hcz70_1); (try clear hcz70_10); (try clear hcz70_11); (try clear hcz70_12); (try clear hcz70_13); (try clear hcz70_2); (try clear hcz70_3); (try clear hcz70_4); (try clear hcz70_5); (try clear hcz70_6); (try clear hcz70_7); (try clear hcz70_8); (try clear hcz70_9); (try clear hcz72_0); (try clear hcz72_1); (try clear hcz72_10); (try clear hcz72_11); (try clear hcz72_12); (try clear hcz72_13); (try clear hcz72_2); (try clear hcz72_3); (try clear hcz72_4); (try clear hcz72_5); (try clear hcz72_6); (try clear hcz72_7); (try clear hcz72_8); (try clear hcz72_9); (try clear hcz75_0); (try clear hcz75_1); (try clear hcz75_10); (try clear hcz75_11); (try clear hcz75_12); (try clear hcz75_13); (try clear hcz75_2); (try clear hcz75_3); (try clear hcz75_4); (try clear hcz75_5); (try clear hcz75_6); (try clear hcz75_7); (try clear hcz75_8); (try clear hcz75_9); (try clear hcz77_0); (try clear hcz77_1); (try clear hcz77_10); (try clear hcz77_11); (try clear hcz77_12); (try clear hcz77_13); (try clear hcz77_2); (try clear hcz77_3); (try clear hcz77_4); (try clear hcz77_5); (try clear hcz77_6); (try clear hcz77_7); (try clear hcz77_8); (try clear hcz77_9); (try clear hfz59_0); (try clear hfz59_1); (try clear hfz59_10); (try clear hfz59_11); (try clear hfz59_12); (try clear hfz59_13); (try clear hfz59_2); (try clear hfz59_3); (try clear hfz59_4); (try clear hfz59_5); (try clear hfz59_6); (try clear hfz59_7); (try clear hfz59_8); (try clear hfz59_9); (try clear hfz61_0); (try clear hfz61_1); (try clear hfz61_10); (try clear hfz61_11); (try clear hfz61_12); (try clear hfz61_13); (try clear hfz61_2); (try clear hfz61_3); (try clear hfz61_4); (try clear hfz61_5); (try clear hfz61_6); (try clear hfz61_7); (try clear hfz61_8); (try clear hfz61_9); (try clear hfz64_0); (try clear hfz64_1); (try clear hfz64_10); (try clear hfz64_11); (try clear hfz64_12); (try clear hfz64_13); (try clear hfz64_2); (try clear hfz64_3); (try clear hfz64_4); (try clear hfz64_5); (try clear hfz64_6); (try clear hfz64_7); (try clear hfz64_8); (try clear hfz64_9); (try clear hfz66_0); (try clear hfz66_1); (try clear hfz66_10); (try clear hfz66_11); (try clear hfz66_12); (try clear hfz66_13); (try clear hfz66_2); (try clear hfz66_3); (try clear hfz66_4); (try clear hfz66_5); (try clear hfz66_6); (try clear hfz66_7); (try clear hfz66_8); (try clear hfz66_9); (try clear hfz67_0); (try clear hfz67_1); (try clear hfz67_10); (try clear hfz67_11); (try clear hfz67_12); (try clear hfz67_13); (try clear hfz67_2); (try clear hfz67_3); (try clear hfz67_4); (try clear hfz67_5); (try clear hfz67_6); (try clear hfz67_7); (try clear hfz67_8); (try clear hfz67_9); (try clear hfz70_0); (try clear hfz70_1); (try clear hfz70_10); (try clear hfz70_11); (try clear hfz70_12); (try clear hfz70_13); (try clear hfz70_2); (try clear hfz70_3); (try clear hfz70_4); (try clear hfz70_5); (try clear hfz70_6); (try clear hfz70_7); (try clear hfz70_8); (try clear hfz70_9); (try clear hfz72_0); (try clear hfz72_1); (try clear hfz72_10); (try clear hfz72_11); (try clear hfz72_12); (try clear hfz72_13); (try clear hfz72_2); (try clear hfz72_3); (try clear hfz72_4); (try clear hfz72_5); (try clear hfz72_6); (try clear hfz72_7); (try clear hfz72_8); (try clear hfz72_9); (try clear hfz75_0); (try clear hfz75_1); (try clear hfz75_10); (try clear hfz75_11); (try clear hfz75_12); (try clear hfz75_13); (try clear hfz75_2); (try clear hfz75_3); (try clear hfz75_4); (try clear hfz75_5); (try clear hfz75_6); (try clear hfz75_7); (try clear hfz75_8); (try clear hfz75_9); (try clear hfz77_0); (try clear hfz77_1); (try clear hfz77_10); (try clear hfz77_11); (try clear hfz77_12); (try clear hfz77_13); (try clear hfz77_2); (try clear hfz77_3); (try clear hfz77_4); (try clear hfz77_5); (try clear hfz77_6); (try clear hfz77_7); (try clear hfz77_8); (try clear hfz77_9)
     obtain ⟨kq,x4_21,rfl,HA,HJ21,HO_494013,HO_515013,BK471,BK493,BK514,HB⟩:=hcut
     cases kq with
     | zero => exact absurd HA.out (by simp [maquettelaw18_ClayKinds.j1])
     | succ kj21 =>
      have H:=HA.out
      clear HA
      simp only [maquettelaw18_ClayKinds.j1] at H
      obtain rfl:=Option.some.inj H
      go_wp2
      go_ret
      exact ⟨by first | rfl | (simp [errW_none,errW_some] <;> rfl) | (simp [*,errW_none,errW_some] <;> rfl),by repeat (first | (with_reducible first | exact HB.out | apply below_alloc | apply pw_below_drewN | apply below_drew1 | refine below_set ?_ GE471.out | refine below_set ?_ GE493.out | refine below_set ?_ GE514.out) | exact HB.out)⟩
    rw [if_neg c20] at H
    exact absurd H (by simp)
   rw [if_neg c19] at H
   exact absurd H (by simp)
  replace c14:=Bool.eq_false_iff.mpr c14
  subst c14
  have H1 : (some true) = some r:=by rw [if_neg (show ¬ (false = true) by decide)] at H; exact H
  clear H
  have H:=H1
  clear H1
  obtain rfl:=Option.some.inj H
  obtain ⟨hcz78_0,hcz78_1,hcz78_2,hcz78_3,hcz78_4,hcz78_5,hcz78_6,hcz78_7,hcz78_8,hcz78_9,hcz78_10,hcz78_11,hcz78_12,hcz78_13⟩:=cl14 BK471.out
  obtain ⟨hfz78_0,hfz78_1,hfz78_2,hfz78_3,hfz78_4,hfz78_5,hfz78_6,hfz78_7,hfz78_8,hfz78_9,hfz78_10,hfz78_11,hfz78_12,hfz78_13⟩:=fz14 BK471.out
  go_wp2_with (first | ((with_reducible refine gate_callee (f:=13) rfl ?_); refine goesL_ (some 22) rfl rfl Try.func13 (by kernel_rfl) rfl #[.agg #[.int .i64 a0_0,.int .i64 a0_1,.int .i64 a0_2,.int .i64 a0_3,.int .i64 a0_4,.int .i64 a0_5,.int .i64 a0_6,.int .i64 a0_7,.int .i64 a0_8,.int .i64 a0_9,.int .i64 a0_10,.int .i64 a0_11,.int .i64 a0_12,.slice A0_13 l0_13.length c0_13]] rfl (by (try simp only [List.map_toArray,List.map_cons,List.map_nil]); first | done | rfl | (simp only [List.length_drop,List.length_take]; rfl) | (simp only [ByteArray.size_append,Int.natCast_add]; rfl) | (simp [ByteArray.size_append,Int.add_assoc]; done)) ?_; (with_reducible refine (clay_Put.calls kj2 a0_0 a0_1 a0_2 a0_3 a0_4 a0_5 a0_6 a0_7 a0_8 a0_9 a0_10 a0_11 a0_12 _ _ l0_13 t474 false _ ?side1 ?side2 A13.out).mono ?_); (case side1 => repeat (first | exact (Kd.C_below HR0_13.out HB.out) | (with_reducible refine Kd.C_alloc ?_ _) | (with_reducible refine Kd.C_drewN ?_ _) | (with_reducible refine Kd.C_drew ?_))); (case side2 => exact HC0_13.out); rintro e w79 ⟨rfl,hb⟩; refine ⟨_,rfl,?_⟩; have n0_:=Aside0.mk (blk_below (g:=gb471) (o:=.cells #[.int .i64 a0_0,.int .i64 a0_1,.int .i64 a0_2,.int .i64 a0_3,.int .i64 a0_4,.int .i64 a0_5,.int .i64 a0_6,.int .i64 a0_7,.int .i64 a0_8,.int .i64 a0_9,.int .i64 a0_10,.int .i64 a0_11,.int .i64 a0_12,.slice A0_13 l0_13.length c0_13] 31 (0,0)) (by (with_reducible repeat (first | refine blk_drewN ?_ _ | refine blk_drew ?_ | refine blk_alloc ?_ _)); exact BK471.out) hb); have n1_:=Aside0.mk (below_step (by repeat (first | (with_reducible first | exact HB.out | apply below_alloc | apply pw_below_drewN | apply below_drew1 | refine below_set ?_ GE471.out) | exact HB.out)) hb); clear BK471; clear HB; have BK471:=n0_; have HB:=n1_; clear n0_ n1_; (try clear hb); (try clear hb2); (try clear hk); (try clear hi)))
  go_ret
  exact ⟨by first | rfl | (simp [errW_none,errW_some] <;> rfl) | (simp [*,errW_none,errW_some] <;> rfl),by repeat (first | (with_reducible first | exact HB.out | apply below_alloc | apply pw_below_drewN | apply below_drew1 | refine below_set ?_ GE471.out) | exact HB.out)⟩

end Go.Proofs.Ytbjknbfagadhfaa.PAll
