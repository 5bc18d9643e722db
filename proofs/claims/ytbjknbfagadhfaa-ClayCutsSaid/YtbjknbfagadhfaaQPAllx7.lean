-- Written by a program of this session, in the manner of the kit's print; it is not the kit's own print.
import Derived.Test.YtbjknbfagadhfaaQPAllx0
import Derived.Test.YtbjknbfagadhfaaQPAllx5
import Derived.Test.YtbjknbfagadhfaaQPAllx6
namespace Go.Proofs.Ytbjknbfagadhfaa.PAll
open Go.RowKit Go.Proofs.YtbjknbfagadhfaaW.PrintWords Go.Proofs.YtbjknbfagadhfaaW.PrintLast Go.Proofs.YtbjknbfagadhfaaW.PrintMore
attribute [local go_sem] max2_int min2_int max_two min_two max_three min_three max_four min_four   -- for this text's walks alone
set_option linter.unusedVariables false
set_option linter.unusedSimpArgs false

/-! ### clay_members: function 48 -/
def clay_members.l0 : Nat → Int → List Int → Int → Int → Int → Int → Int → Int → Int → Int → Int → Int → Int → Int → Int → Int → Int → List Int → Option (Bool)
  | 0, _, _, _, _, _, _, _, _, _, _, _, _, _, _, _, _, _, _ => none
  | k + 1, x3, x7, x8, x9, x114000, x114001, x114002, x114003, x114004, x114005, x114006, x114007, x114008, x114009, x114010, x114011, x114012, x114013 => if x9 < x8 then (if 0 ≤ x9 then (if x9 < (x7.length : Int) then (if (rd x7 x9) ≤ x3 then (some false) else ((clay_id.f (rd x7 x9)).bind fun t115 => (if t115 = true then (if (rd x7 x9) = x114000 then (some false) else (clay_members.l0 k (rd x7 x9) x7 x8 (wrap64 (x9 + 1)) x114000 x114001 x114002 x114003 x114004 x114005 x114006 x114007 x114008 x114009 x114010 x114011 x114012 x114013)) else (some false)))) else (none)) else (none)) else (if (x114013.length : Int) ≥ 1 then (some (decide ((x114013.length : Int) ≤ 8))) else (some false))
def clay_members.f (k : Nat) (a0_0 : Int) (a0_1 : Int) (a0_2 : Int) (a0_3 : Int) (a0_4 : Int) (a0_5 : Int) (a0_6 : Int) (a0_7 : Int) (a0_8 : Int) (a0_9 : Int) (a0_10 : Int) (a0_11 : Int) (a0_12 : Int) (l0_13 : List Int) : Option (Bool) := clay_members.l0 k 0 l0_13 (l0_13.length : Int) 0 a0_0 a0_1 a0_2 a0_3 a0_4 a0_5 a0_6 a0_7 a0_8 a0_9 a0_10 a0_11 a0_12 l0_13
theorem clay_members.mono_l : ∀ k, (∀ y0 y1 y2 y3 y4 y5 y6 y7 y8 y9 y10 y11 y12 y13 y14 y15 y16 y17, LeO (clay_members.l0 k y0 y1 y2 y3 y4 y5 y6 y7 y8 y9 y10 y11 y12 y13 y14 y15 y16 y17) (clay_members.l0 (k + 1) y0 y1 y2 y3 y4 y5 y6 y7 y8 y9 y10 y11 y12 y13 y14 y15 y16 y17))
  | 0 => fun _ _ _ _ _ _ _ _ _ _ _ _ _ _ _ _ _ _ r h => by simp [clay_members.l0] at h
  | k + 1 => by
    have ih0 := clay_members.mono_l k
    · intro y0 y1 y2 y3 y4 y5 y6 y7 y8 y9 y10 y11 y12 y13 y14 y15 y16 y17
      unfold clay_members.l0
      repeat' first
      | (with_reducible exact ih0 _ _ _ _ _ _ _ _ _ _ _ _ _ _ _ _ _ _)
      | (with_reducible exact LeO.refl _)
      | (with_reducible exact LeO.none _)
      | (with_reducible refine LeO.ite ?_ ?_)
      | (with_reducible refine LeO.bind ?_ (fun _ => ?_))
      | exact ih0 _ _ _ _ _ _ _ _ _ _ _ _ _ _ _ _ _ _
      | exact LeO.none _
      | refine LeO.ite ?_ ?_
      | refine LeO.bind ?_ (fun _ => ?_)
theorem clay_members.mono : ∀ a0 a1 a2 a3 a4 a5 a6 a7 a8 a9 a10 a11 a12 a13 k, LeO (clay_members.f k a0 a1 a2 a3 a4 a5 a6 a7 a8 a9 a10 a11 a12 a13) (clay_members.f (k + 1) a0 a1 a2 a3 a4 a5 a6 a7 a8 a9 a10 a11 a12 a13) := by
  intro a0 a1 a2 a3 a4 a5 a6 a7 a8 a9 a10 a11 a12 a13 k
  have ih0 := clay_members.mono_l k
  unfold clay_members.f
  repeat' first
      | (with_reducible exact ih0 _ _ _ _ _ _ _ _ _ _ _ _ _ _ _ _ _ _)
      | (with_reducible exact LeO.refl _)
      | (with_reducible exact LeO.none _)
      | (with_reducible refine LeO.ite ?_ ?_)
      | (with_reducible refine LeO.bind ?_ (fun _ => ?_))
      | exact ih0 _ _ _ _ _ _ _ _ _ _ _ _ _ _ _ _ _ _
      | exact LeO.none _
      | refine LeO.ite ?_ ?_
      | refine LeO.bind ?_ (fun _ => ?_)
set_option maxHeartbeats 8000000 in
set_option maxRecDepth 100000 in
theorem clay_members.calls (k : Nat) (a0_0 : Int) (a0_1 : Int) (a0_2 : Int) (a0_3 : Int) (a0_4 : Int) (a0_5 : Int) (a0_6 : Int) (a0_7 : Int) (a0_8 : Int) (a0_9 : Int) (a0_10 : Int) (a0_11 : Int) (a0_12 : Int) (A0_13 : Option Addr) (c0_13 : Nat) (l0_13 : List Int) (r : Bool) (w : World) (hr0_13 : Kd.C (Kd.int .i64) w A0_13 l0_13.length l0_13) (hc0_13 : l0_13.length ≤ c0_13) (h : clay_members.f k a0_0 a0_1 a0_2 a0_3 a0_4 a0_5 a0_6 a0_7 a0_8 a0_9 a0_10 a0_11 a0_12 l0_13 = some r) :
    Calls Try.prog 48 #[.agg #[.int .i64 a0_0,.int .i64 a0_1,.int .i64 a0_2,.int .i64 a0_3,.int .i64 a0_4,.int .i64 a0_5,.int .i64 a0_6,.int .i64 a0_7,.int .i64 a0_8,.int .i64 a0_9,.int .i64 a0_10,.int .i64 a0_11,.int .i64 a0_12,.slice A0_13 l0_13.length c0_13]] w fun e w' => e = .returned (.bool r) ∧ Below w.heap.size w w':=by
 have hu31:=Try.underlying31
 have HR0_13:=Aside0.mk hr0_13
 have HC0_13:=Aside0.mk hc0_13
 clear hr0_13 hc0_13
 have HB:=Aside0.mk (Below.refl w.heap.size w)
 have H : (clay_members.l0 k 0 l0_13 (l0_13.length : Int) 0 a0_0 a0_1 a0_2 a0_3 a0_4 a0_5 a0_6 a0_7 a0_8 a0_9 a0_10 a0_11 a0_12 l0_13) = some r:=h
 clear h
 have H':=Aside0.mk H
 clear H
 go_enter Try.func48,Try.ntmps48
 go_wp2_with (first | ((with_reducible refine gate_dst (N:=1) rfl ?_); (try (refine gate_guard (by rfl) ?_; dsimp only)); refine box_event ?hg (N:=1) ?hd (cs:=#[.int .i64 a0_0,.int .i64 a0_1,.int .i64 a0_2,.int .i64 a0_3,.int .i64 a0_4,.int .i64 a0_5,.int .i64 a0_6,.int .i64 a0_7,.int .i64 a0_8,.int .i64 a0_9,.int .i64 a0_10,.int .i64 a0_11,.int .i64 a0_12,.slice A0_13 l0_13.length c0_13]) (t:=31) ?hr ?_; (case hd => rfl); (case hg => rfl); (case hr => first | (go_simp; done) | (go_simp; rfl)); intro gb113 hg w2 hbox hb; have n0_:=Aside0.mk (below_step (by repeat (first | (with_reducible first | exact HB.out | apply below_alloc | apply pw_below_drewN | apply below_drew1) | exact HB.out)) hb); have n1_:=Aside0.mk (hbox); have n2_:=Aside0.mk ((by rw [hg]; exact (below_size (by repeat (first | (with_reducible first | exact HB.out | apply below_alloc | apply pw_below_drewN | apply below_drew1) | exact HB.out))) : w.heap.size ≤ gb113)); have n3_:=Aside0.mk ((by rw [hg]; exact (below_size (by repeat (first | (with_reducible first | exact HB.out | apply below_alloc | apply pw_below_drewN | apply below_drew1) | exact HB.out))) : w.heap.size ≤ gb113)); clear HB; have HB:=n0_; have BK113:=n1_; have GW113:=n2_; have GE113:=n3_; clear n0_ n1_ n2_ n3_; clear hb hbox hg; obtain ⟨hcz3_0,hcz3_1,hcz3_2,hcz3_3,hcz3_4,hcz3_5,hcz3_6,hcz3_7,hcz3_8,hcz3_9,hcz3_10,hcz3_11,hcz3_12,hcz3_13⟩:=cl14 BK113.out; obtain ⟨hfz3_0,hfz3_1,hfz3_2,hfz3_3,hfz3_4,hfz3_5,hfz3_6,hfz3_7,hfz3_8,hfz3_9,hfz3_10,hfz3_11,hfz3_12,hfz3_13⟩:=fz14 BK113.out))
 go_loopg [3,9] k (fun kq v3 v9 w' => ∃ (x3_1 : Int) (x9_1 : Int),v3 = .int .i64 x3_1 ∧ v9 = .int .i64 x9_1 ∧ Aside0 (clay_members.l0 kq x3_1 l0_13 (l0_13.length : Int) x9_1 a0_0 a0_1 a0_2 a0_3 a0_4 a0_5 a0_6 a0_7 a0_8 a0_9 a0_10 a0_11 a0_12 l0_13 = some r) ∧ Aside0 (kq ≤ k) ∧ Aside0 (w'.heap[gb113]? = some (.cells #[.int .i64 a0_0,.int .i64 a0_1,.int .i64 a0_2,.int .i64 a0_3,.int .i64 a0_4,.int .i64 a0_5,.int .i64 a0_6,.int .i64 a0_7,.int .i64 a0_8,.int .i64 a0_9,.int .i64 a0_10,.int .i64 a0_11,.int .i64 a0_12,(.slice A0_13 l0_13.length c0_13)] 31 (0,0))) ∧ Aside0 (Below w.heap.size w w'))
 case atStart => exact ⟨(0),(0),(by first | rfl | (simp; done) | (simp [*]; done)),(by first | rfl | (simp; done) | (simp [*]; done)),H',⟨Nat.le_refl _⟩,⟨by (with_reducible repeat (first | refine blk_drewN ?_ _ | refine blk_drew ?_ | refine blk_alloc ?_ _)); exact BK113.out⟩,⟨by repeat (first | (with_reducible first | exact HB.out | apply below_alloc | apply pw_below_drewN | apply below_drew1 | refine below_set ?_ GE113.out) | exact HB.out)⟩⟩
 clear H'
 (try clear p2); (try clear hcz3_0); (try clear hcz3_1); (try clear hcz3_10); (try clear hcz3_11); (try clear hcz3_12); (try clear hcz3_13); (try clear hcz3_2); (try clear hcz3_3); (try clear hcz3_4); (try clear hcz3_5); (try clear hcz3_6); (try clear hcz3_7); (try clear hcz3_8); (try clear hcz3_9); (try clear hfz3_0); (try clear hfz3_1); (try clear hfz3_10); (try clear hfz3_11); (try clear hfz3_12); (try clear hfz3_13); (try clear hfz3_2); (try clear hfz3_3); (try clear hfz3_4); (try clear hfz3_5); (try clear hfz3_6); (try clear hfz3_7); (try clear hfz3_8); (try clear hfz3_9)
 obtain ⟨x3_1,x9_1,rfl,rfl,HA,HK1,BK113,HB⟩:=hrel
 cases gk with
 | zero => exact absurd HA.out (by simp [clay_members.l0])
 | succ k1 =>
  have H:=HA.out
  clear HA
  simp only [clay_members.l0] at H
  by_cases c4 : x9_1 < (l0_13.length : Int)
  ·rw [if_pos c4] at H
   have c4b0 : decide (x9_1 < (l0_13.length : Int)) = true:=decide_eq_true c4
   clear c4
   by_cases c5 : 0 ≤ x9_1
   ·rw [if_pos c5] at H
    have c5b0 : decide (0 ≤ x9_1) = true:=decide_eq_true c5
    clear c5
    by_cases c6 : x9_1 < (l0_13.length : Int)
    ·rw [if_pos c6] at H
     have c6b0 : decide (x9_1 < (l0_13.length : Int)) = true:=decide_eq_true c6
     clear c6
     by_cases c7 : (rd l0_13 x9_1) ≤ x3_1
     ·rw [if_pos c7] at H
      have c7b0 : decide ((rd l0_13 x9_1) ≤ x3_1) = true:=decide_eq_true c7
      clear c7
      obtain rfl:=Option.some.inj H
      have p114 : 0 ≤ (x9_1 : Int):=of_decide_eq_true (by first | (with_reducible assumption) | assumption)
      have q114 : x9_1 < (l0_13.length : Int):=of_decide_eq_true (by first | (with_reducible assumption) | assumption)
      obtain ⟨ad114,e114,hx114_0⟩:=Kd.at_int HR0_13.out x9_1 p114 q114
      cases e114
      replace hx114_0:=(HB.out.cell (World.block_lt_of_cell? w _ hx114_0)).trans hx114_0
      replace p114:=eq_true p114
      replace q114:=eq_true q114
      go_wp2
      go_ret
      exact ⟨by first | rfl | (simp [errW_none,errW_some] <;> rfl) | (simp [*,errW_none,errW_some] <;> rfl),by repeat (first | (with_reducible first | exact HB.out | apply below_alloc | apply pw_below_drewN | apply below_drew1 | refine below_set ?_ GE113.out) | exact HB.out)⟩
     rw [if_neg c7] at H
     have c7b0 : decide ((rd l0_13 x9_1) ≤ x3_1) = false:=decide_eq_false c7
     clear c7
     replace H:=Option.bind_eq_some_iff.mp H
     obtain ⟨t115,A80,H⟩:=H
     replace H : (if t115 = true then (if (rd l0_13 x9_1) = a0_0 then (some false) else (clay_members.l0 k1 (rd l0_13 x9_1) l0_13 (l0_13.length : Int) (wrap64 (x9_1 + 1)) a0_0 a0_1 a0_2 a0_3 a0_4 a0_5 a0_6 a0_7 a0_8 a0_9 a0_10 a0_11 a0_12 l0_13)) else (some false)) = some r:=H
     have A8:=Aside0.mk A80
     clear A80
     by_cases c9 : t115 = true
     ·subst c9
      have H1 : (if (rd l0_13 x9_1) = a0_0 then (some false) else (clay_members.l0 k1 (rd l0_13 x9_1) l0_13 (l0_13.length : Int) (wrap64 (x9_1 + 1)) a0_0 a0_1 a0_2 a0_3 a0_4 a0_5 a0_6 a0_7 a0_8 a0_9 a0_10 a0_11 a0_12 l0_13)) = some r:=by rw [if_pos rfl] at H; exact H
      clear H
      have H:=H1
      clear H1
      by_cases c10 : (rd l0_13 x9_1) = a0_0
      ·rw [if_pos c10] at H
       have c10b0 : ((rd l0_13 x9_1) == a0_0) = true:=beq_iff_eq.mpr c10
       have c10b1 : ((rd l0_13 x9_1) != a0_0) = false:=bne_eq_false_iff_eq.mpr c10
       clear c10
       obtain rfl:=Option.some.inj H
       have p114 : 0 ≤ (x9_1 : Int):=of_decide_eq_true (by first | (with_reducible assumption) | assumption)
       have q114 : x9_1 < (l0_13.length : Int):=of_decide_eq_true (by first | (with_reducible assumption) | assumption)
       obtain ⟨ad114,e114,hx114_0⟩:=Kd.at_int HR0_13.out x9_1 p114 q114
       cases e114
       replace hx114_0:=(HB.out.cell (World.block_lt_of_cell? w _ hx114_0)).trans hx114_0
       replace p114:=eq_true p114
       replace q114:=eq_true q114
       go_wp2_with (first | (go_at_call 45; (with_reducible refine (clay_id.calls (rd l0_13 x9_1) true _ A8.out).mono ?_); rintro e w' ⟨rfl,⟨nd,rfl⟩⟩; obtain ⟨hcz11_0,hcz11_1,hcz11_2,hcz11_3,hcz11_4,hcz11_5,hcz11_6,hcz11_7,hcz11_8,hcz11_9,hcz11_10,hcz11_11,hcz11_12,hcz11_13⟩:=cl14 BK113.out; obtain ⟨hfz11_0,hfz11_1,hfz11_2,hfz11_3,hfz11_4,hfz11_5,hfz11_6,hfz11_7,hfz11_8,hfz11_9,hfz11_10,hfz11_11,hfz11_12,hfz11_13⟩:=fz14 BK113.out))
       go_ret
       exact ⟨by first | rfl | (simp [errW_none,errW_some] <;> rfl) | (simp [*,errW_none,errW_some] <;> rfl),by repeat (first | (with_reducible first | exact HB.out | apply below_alloc | apply pw_below_drewN | apply below_drew1 | refine below_set ?_ GE113.out) | exact HB.out)⟩
      rw [if_neg c10] at H
      have c10b0 : ((rd l0_13 x9_1) == a0_0) = false:=beq_eq_false_iff_ne.mpr c10
      have c10b1 : ((rd l0_13 x9_1) != a0_0) = true:=bne_iff_ne.mpr c10
      have H':=Aside0.mk H
      clear H
      have p114 : 0 ≤ (x9_1 : Int):=of_decide_eq_true (by first | (with_reducible assumption) | assumption)
      have q114 : x9_1 < (l0_13.length : Int):=of_decide_eq_true (by first | (with_reducible assumption) | assumption)
      obtain ⟨ad114,e114,hx114_0⟩:=Kd.at_int HR0_13.out x9_1 p114 q114
      cases e114
      replace hx114_0:=(HB.out.cell (World.block_lt_of_cell? w _ hx114_0)).trans hx114_0
      replace p114:=eq_true p114
      replace q114:=eq_true q114
      go_wp2_with (first | (go_at_call 45; (with_reducible refine (clay_id.calls (rd l0_13 x9_1) true _ A8.out).mono ?_); rintro e w' ⟨rfl,⟨nd,rfl⟩⟩; obtain ⟨hcz12_0,hcz12_1,hcz12_2,hcz12_3,hcz12_4,hcz12_5,hcz12_6,hcz12_7,hcz12_8,hcz12_9,hcz12_10,hcz12_11,hcz12_12,hcz12_13⟩:=cl14 BK113.out; obtain ⟨hfz12_0,hfz12_1,hfz12_2,hfz12_3,hfz12_4,hfz12_5,hfz12_6,hfz12_7,hfz12_8,hfz12_9,hfz12_10,hfz12_11,hfz12_12,hfz12_13⟩:=fz14 BK113.out))
      go_roundg k1
      case measure => have:=HK1.out; omega
      case rel => exact ⟨(rd l0_13 x9_1),(wrap64 (x9_1 + 1)),(by first | rfl | (simp; done) | (simp [*]; done)),(by first | rfl | (simp; done) | (simp [*]; done)),H',⟨by have:=HK1.out; omega⟩,⟨by (with_reducible repeat (first | refine blk_drewN ?_ _ | refine blk_drew ?_ | refine blk_alloc ?_ _)); exact BK113.out⟩,⟨by repeat (first | (with_reducible first | exact HB.out | apply below_alloc | apply pw_below_drewN | apply below_drew1 | refine below_set ?_ GE113.out) | exact HB.out)⟩⟩
     replace c9:=Bool.eq_false_iff.mpr c9
     subst c9
     have H1 : (some false) = some r:=by rw [if_neg (show ¬ (false = true) by decide)] at H; exact H
     clear H
     have H:=H1
     clear H1
     obtain rfl:=Option.some.inj H
     have p114 : 0 ≤ (x9_1 : Int):=of_decide_eq_true (by first | (with_reducible assumption) | assumption)
     have q114 : x9_1 < (l0_13.length : Int):=of_decide_eq_true (by first | (with_reducible assumption) | assumption)
     obtain ⟨ad114,e114,hx114_0⟩:=Kd.at_int HR0_13.out x9_1 p114 q114
     cases e114
     replace hx114_0:=(HB.out.cell (World.block_lt_of_cell? w _ hx114_0)).trans hx114_0
     replace p114:=eq_true p114
     replace q114:=eq_true q114
     go_wp2_with (first | (go_at_call 45; (with_reducible refine (clay_id.calls (rd l0_13 x9_1) false _ A8.out).mono ?_); rintro e w' ⟨rfl,⟨nd,rfl⟩⟩))
     go_ret
     exact ⟨by first | rfl | (simp [errW_none,errW_some] <;> rfl) | (simp [*,errW_none,errW_some] <;> rfl),by repeat (first | (with_reducible first | exact HB.out | apply below_alloc | apply pw_below_drewN | apply below_drew1 | refine below_set ?_ GE113.out) | exact HB.out)⟩
    rw [if_neg c6] at H
    exact absurd H (by simp)
   rw [if_neg c5] at H
   exact absurd H (by simp)
  rw [if_neg c4] at H
  have c4b0 : decide (x9_1 < (l0_13.length : Int)) = false:=decide_eq_false c4
  clear c4
  by_cases c13 : (l0_13.length : Int) ≥ 1
  ·rw [if_pos c13] at H
   have c13b0 : decide (1 ≤ (l0_13.length : Int)) = true:=decide_eq_true c13
   have c13b1 : decide (1 ≤ l0_13.length) = true:=decide_eq_true (by omega)
   clear c13
   obtain rfl:=Option.some.inj H
   obtain ⟨hcz14_0,hcz14_1,hcz14_2,hcz14_3,hcz14_4,hcz14_5,hcz14_6,hcz14_7,hcz14_8,hcz14_9,hcz14_10,hcz14_11,hcz14_12,hcz14_13⟩:=cl14 BK113.out
   obtain ⟨hfz14_0,hfz14_1,hfz14_2,hfz14_3,hfz14_4,hfz14_5,hfz14_6,hfz14_7,hfz14_8,hfz14_9,hfz14_10,hfz14_11,hfz14_12,hfz14_13⟩:=fz14 BK113.out
   go_wp2
   go_ret
   exact ⟨by first | rfl | (simp [errW_none,errW_some] <;> rfl) | (simp [*,errW_none,errW_some] <;> rfl),by repeat (first | (with_reducible first | exact HB.out | apply below_alloc | apply pw_below_drewN | apply below_drew1 | refine below_set ?_ GE113.out) | exact HB.out)⟩
  rw [if_neg c13] at H
  have c13b0 : decide (1 ≤ (l0_13.length : Int)) = false:=decide_eq_false c13
  have c13b1 : decide (1 ≤ l0_13.length) = false:=decide_eq_false (by omega)
  clear c13
  obtain rfl:=Option.some.inj H
  obtain ⟨hcz15_0,hcz15_1,hcz15_2,hcz15_3,hcz15_4,hcz15_5,hcz15_6,hcz15_7,hcz15_8,hcz15_9,hcz15_10,hcz15_11,hcz15_12,hcz15_13⟩:=cl14 BK113.out
  obtain ⟨hfz15_0,hfz15_1,hfz15_2,hfz15_3,hfz15_4,hfz15_5,hfz15_6,hfz15_7,hfz15_8,hfz15_9,hfz15_10,hfz15_11,hfz15_12,hfz15_13⟩:=fz14 BK113.out
  go_wp2
  go_ret
  exact ⟨by first | rfl | (simp [errW_none,errW_some] <;> rfl) | (simp [*,errW_none,errW_some] <;> rfl),by repeat (first | (with_reducible first | exact HB.out | apply below_alloc | apply pw_below_drewN | apply below_drew1 | refine below_set ?_ GE113.out) | exact HB.out)⟩

/-! ### clay_Right: function 18 -/
def clay_Right.j0 : Nat → Bool → Int → Int → Int → Int → Int → Int → Int → Int → Int → Int → Int → Int → Int → List Int → Option (Bool)
  | 0, _, _, _, _, _, _, _, _, _, _, _, _, _, _, _ => none
  | k + 1, x12, x117000, x117001, x117002, x117003, x117004, x117005, x117006, x117007, x117008, x117009, x117010, x117011, x117012, x117013 => if x12 = true then (some false) else (if x117001 = 1 then ((shape_Right.f k x117002 x117003 x117004 x117005 x117006 x117007 x117008 x117009).bind fun t119 => (some t119)) else (if x117001 = 2 then ((clay_id.f x117010).bind fun t121 => (if t121 = true then ((clay_id.f x117011).bind fun t122 => (if t122 = true then (if x117010 = x117011 then (some false) else (if x117012 ≥ 0 then (some (decide (x117012 ≤ 4294967296000))) else (some false))) else (some false))) else (some false))) else (if x117001 = 3 then ((clay_members.f k x117000 x117001 x117002 x117003 x117004 x117005 x117006 x117007 x117008 x117009 x117010 x117011 x117012 x117013).bind fun t123 => (some t123)) else (some false))))
def clay_Right.f (k : Nat) (a0_0 : Int) (a0_1 : Int) (a0_2 : Int) (a0_3 : Int) (a0_4 : Int) (a0_5 : Int) (a0_6 : Int) (a0_7 : Int) (a0_8 : Int) (a0_9 : Int) (a0_10 : Int) (a0_11 : Int) (a0_12 : Int) (l0_13 : List Int) : Option (Bool) := (clay_id.f a0_0).bind fun t117 => (if t117 = true then ((clay_only.f a0_0 a0_1 a0_2 a0_3 a0_4 a0_5 a0_6 a0_7 a0_8 a0_9 a0_10 a0_11 a0_12 l0_13).bind fun t118 => (clay_Right.j0 k (!t118) a0_0 a0_1 a0_2 a0_3 a0_4 a0_5 a0_6 a0_7 a0_8 a0_9 a0_10 a0_11 a0_12 l0_13)) else (clay_Right.j0 k true a0_0 a0_1 a0_2 a0_3 a0_4 a0_5 a0_6 a0_7 a0_8 a0_9 a0_10 a0_11 a0_12 l0_13))
theorem clay_Right.mono_l : ∀ k, (∀ y0 y1 y2 y3 y4 y5 y6 y7 y8 y9 y10 y11 y12 y13 y14, LeO (clay_Right.j0 k y0 y1 y2 y3 y4 y5 y6 y7 y8 y9 y10 y11 y12 y13 y14) (clay_Right.j0 (k + 1) y0 y1 y2 y3 y4 y5 y6 y7 y8 y9 y10 y11 y12 y13 y14))
  | 0 => fun _ _ _ _ _ _ _ _ _ _ _ _ _ _ _ r h => by simp [clay_Right.j0] at h
  | k + 1 => by
    have ih0 := clay_Right.mono_l k
    · intro y0 y1 y2 y3 y4 y5 y6 y7 y8 y9 y10 y11 y12 y13 y14
      unfold clay_Right.j0
      repeat' first
      | (with_reducible exact ih0 _ _ _ _ _ _ _ _ _ _ _ _ _ _ _)
      | (with_reducible exact clay_members.mono _ _ _ _ _ _ _ _ _ _ _ _ _ _ _)
      | (with_reducible exact shape_Right.mono _ _ _ _ _ _ _ _ _)
      | (with_reducible exact LeO.refl _)
      | (with_reducible exact LeO.none _)
      | (with_reducible refine LeO.ite ?_ ?_)
      | (with_reducible refine LeO.bind ?_ (fun _ => ?_))
      | exact ih0 _ _ _ _ _ _ _ _ _ _ _ _ _ _ _
      | exact clay_members.mono _ _ _ _ _ _ _ _ _ _ _ _ _ _ _
      | exact shape_Right.mono _ _ _ _ _ _ _ _ _
      | exact LeO.none _
      | refine LeO.ite ?_ ?_
      | refine LeO.bind ?_ (fun _ => ?_)
theorem clay_Right.mono : ∀ a0 a1 a2 a3 a4 a5 a6 a7 a8 a9 a10 a11 a12 a13 k, LeO (clay_Right.f k a0 a1 a2 a3 a4 a5 a6 a7 a8 a9 a10 a11 a12 a13) (clay_Right.f (k + 1) a0 a1 a2 a3 a4 a5 a6 a7 a8 a9 a10 a11 a12 a13) := by
  intro a0 a1 a2 a3 a4 a5 a6 a7 a8 a9 a10 a11 a12 a13 k
  have ih0 := clay_Right.mono_l k
  unfold clay_Right.f
  repeat' first
      | (with_reducible exact ih0 _ _ _ _ _ _ _ _ _ _ _ _ _ _ _)
      | (with_reducible exact clay_members.mono _ _ _ _ _ _ _ _ _ _ _ _ _ _ _)
      | (with_reducible exact shape_Right.mono _ _ _ _ _ _ _ _ _)
      | (with_reducible exact LeO.refl _)
      | (with_reducible exact LeO.none _)
      | (with_reducible refine LeO.ite ?_ ?_)
      | (with_reducible refine LeO.bind ?_ (fun _ => ?_))
      | exact ih0 _ _ _ _ _ _ _ _ _ _ _ _ _ _ _
      | exact clay_members.mono _ _ _ _ _ _ _ _ _ _ _ _ _ _ _
      | exact shape_Right.mono _ _ _ _ _ _ _ _ _
      | exact LeO.none _
      | refine LeO.ite ?_ ?_
      | refine LeO.bind ?_ (fun _ => ?_)
set_option maxHeartbeats 8000000 in
set_option maxRecDepth 100000 in
theorem clay_Right.calls (k : Nat) (a0_0 : Int) (a0_1 : Int) (a0_2 : Int) (a0_3 : Int) (a0_4 : Int) (a0_5 : Int) (a0_6 : Int) (a0_7 : Int) (a0_8 : Int) (a0_9 : Int) (a0_10 : Int) (a0_11 : Int) (a0_12 : Int) (A0_13 : Option Addr) (c0_13 : Nat) (l0_13 : List Int) (r : Bool) (w : World) (hr0_13 : Kd.C (Kd.int .i64) w A0_13 l0_13.length l0_13) (hc0_13 : l0_13.length ≤ c0_13) (h : clay_Right.f k a0_0 a0_1 a0_2 a0_3 a0_4 a0_5 a0_6 a0_7 a0_8 a0_9 a0_10 a0_11 a0_12 l0_13 = some r) :
    Calls Try.prog 18 #[.agg #[.int .i64 a0_0,.int .i64 a0_1,.int .i64 a0_2,.int .i64 a0_3,.int .i64 a0_4,.int .i64 a0_5,.int .i64 a0_6,.int .i64 a0_7,.int .i64 a0_8,.int .i64 a0_9,.int .i64 a0_10,.int .i64 a0_11,.int .i64 a0_12,.slice A0_13 l0_13.length c0_13]] w fun e w' => e = .returned (.bool r) ∧ Below w.heap.size w w':=by
 have hu31:=Try.underlying31
 have hu26:=Try.underlying26
 have hu28:=Try.underlying28
 have HR0_13:=Aside0.mk hr0_13
 have HC0_13:=Aside0.mk hc0_13
 clear hr0_13 hc0_13
 have HB:=Aside0.mk (Below.refl w.heap.size w)
 have H : ((clay_id.f a0_0).bind fun t117 => (if t117 = true then ((clay_only.f a0_0 a0_1 a0_2 a0_3 a0_4 a0_5 a0_6 a0_7 a0_8 a0_9 a0_10 a0_11 a0_12 l0_13).bind fun t118 => (clay_Right.j0 k (!t118) a0_0 a0_1 a0_2 a0_3 a0_4 a0_5 a0_6 a0_7 a0_8 a0_9 a0_10 a0_11 a0_12 l0_13)) else (clay_Right.j0 k true a0_0 a0_1 a0_2 a0_3 a0_4 a0_5 a0_6 a0_7 a0_8 a0_9 a0_10 a0_11 a0_12 l0_13))) = some r:=h
 clear h
 have HC2:=Aside0.mk H
 clear H
 go_enter Try.func18,Try.ntmps18
 go_upto_region 1 with (first | ((with_reducible refine gate_dst (N:=1) rfl ?_); refine box_event ?hg (N:=1) ?hd (cs:=#[.int .i64 a0_0,.int .i64 a0_1,.int .i64 a0_2,.int .i64 a0_3,.int .i64 a0_4,.int .i64 a0_5,.int .i64 a0_6,.int .i64 a0_7,.int .i64 a0_8,.int .i64 a0_9,.int .i64 a0_10,.int .i64 a0_11,.int .i64 a0_12,.slice A0_13 l0_13.length c0_13]) (t:=31) ?hr ?_; (case hd => rfl); (case hg => rfl); (case hr => first | (go_simp; done) | (go_simp; rfl)); intro gb116 hg w3 hbox hb; have n0_:=Aside0.mk (below_step (by repeat (first | (with_reducible first | exact HB.out | apply below_alloc | apply pw_below_drewN | apply below_drew1) | exact HB.out)) hb); have n1_:=Aside0.mk (hbox); have n2_:=Aside0.mk ((by rw [hg]; exact (below_size (by repeat (first | (with_reducible first | exact HB.out | apply below_alloc | apply pw_below_drewN | apply below_drew1) | exact HB.out))) : w.heap.size ≤ gb116)); have n3_:=Aside0.mk ((by rw [hg]; exact (below_size (by repeat (first | (with_reducible first | exact HB.out | apply below_alloc | apply pw_below_drewN | apply below_drew1) | exact HB.out))) : w.heap.size ≤ gb116)); clear HB; have HB:=n0_; have BK116:=n1_; have GW116:=n2_; have GE116:=n3_; clear n0_ n1_ n2_ n3_; clear hb hbox hg))
 (try simp only [Act.put,List.setIfInBounds_toArray,List.set_cons_zero,List.set_cons_succ])
 go_cut [12] (fun v12 wc => ∃ (kq : Nat) (x12_1 : Bool),v12 = .bool x12_1 ∧ Aside0 (clay_Right.j0 kq x12_1 a0_0 a0_1 a0_2 a0_3 a0_4 a0_5 a0_6 a0_7 a0_8 a0_9 a0_10 a0_11 a0_12 l0_13 = some r) ∧ Aside0 (kq ≤ k) ∧ Aside0 (wc.heap[gb116]? = some (.cells #[.int .i64 a0_0,.int .i64 a0_1,.int .i64 a0_2,.int .i64 a0_3,.int .i64 a0_4,.int .i64 a0_5,.int .i64 a0_6,.int .i64 a0_7,.int .i64 a0_8,.int .i64 a0_9,.int .i64 a0_10,.int .i64 a0_11,.int .i64 a0_12,(.slice A0_13 l0_13.length c0_13)] 31 (0,0))) ∧ Aside0 (Below w.heap.size w wc))
 case first =>
  have H:=HC2.out
  clear HC2
  replace H:=Option.bind_eq_some_iff.mp H
  obtain ⟨t117,A40,H⟩:=H
  replace H : (if t117 = true then ((clay_only.f a0_0 a0_1 a0_2 a0_3 a0_4 a0_5 a0_6 a0_7 a0_8 a0_9 a0_10 a0_11 a0_12 l0_13).bind fun t118 => (clay_Right.j0 k (!t118) a0_0 a0_1 a0_2 a0_3 a0_4 a0_5 a0_6 a0_7 a0_8 a0_9 a0_10 a0_11 a0_12 l0_13)) else (clay_Right.j0 k true a0_0 a0_1 a0_2 a0_3 a0_4 a0_5 a0_6 a0_7 a0_8 a0_9 a0_10 a0_11 a0_12 l0_13)) = some r:=H
  have A4:=Aside0.mk A40
  clear A40
  by_cases c5 : t117 = true
  ·subst c5
   have H1 : ((clay_only.f a0_0 a0_1 a0_2 a0_3 a0_4 a0_5 a0_6 a0_7 a0_8 a0_9 a0_10 a0_11 a0_12 l0_13).bind fun t118 => (clay_Right.j0 k (!t118) a0_0 a0_1 a0_2 a0_3 a0_4 a0_5 a0_6 a0_7 a0_8 a0_9 a0_10 a0_11 a0_12 l0_13)) = some r:=by rw [if_pos rfl] at H; exact H
   clear H
   have H:=H1
   clear H1
   replace H:=Option.bind_eq_some_iff.mp H
   obtain ⟨t118,A60,H⟩:=H
   replace H : (clay_Right.j0 k (!t118) a0_0 a0_1 a0_2 a0_3 a0_4 a0_5 a0_6 a0_7 a0_8 a0_9 a0_10 a0_11 a0_12 l0_13) = some r:=H
   have A6:=Aside0.mk A60
   clear A60
   have H':=Aside0.mk H
   clear H
   obtain ⟨hcz7_0,hcz7_1,hcz7_2,hcz7_3,hcz7_4,hcz7_5,hcz7_6,hcz7_7,hcz7_8,hcz7_9,hcz7_10,hcz7_11,hcz7_12,hcz7_13⟩:=cl14 BK116.out
   obtain ⟨hfz7_0,hfz7_1,hfz7_2,hfz7_3,hfz7_4,hfz7_5,hfz7_6,hfz7_7,hfz7_8,hfz7_9,hfz7_10,hfz7_11,hfz7_12,hfz7_13⟩:=fz14 BK116.out
   go_wp2_with (first | ((with_reducible refine gate_callee (f:=45) rfl ?_); refine goesL_ (some 6) rfl rfl Try.func45 (by kernel_rfl) rfl #[.int .i64 a0_0] rfl (by (try simp only [List.map_toArray,List.map_cons,List.map_nil]); first | done | rfl | (simp only [List.length_drop,List.length_take]; rfl) | (simp only [ByteArray.size_append,Int.natCast_add]; rfl) | (simp [ByteArray.size_append,Int.add_assoc]; done)) ?_; (with_reducible refine (clay_id.calls a0_0 true _ A4.out).mono ?_); rintro e w' ⟨rfl,⟨nd,rfl⟩⟩; refine ⟨_,rfl,?_⟩) | (go_at_call 46; (with_reducible refine (clay_only.calls a0_0 a0_1 a0_2 a0_3 a0_4 a0_5 a0_6 a0_7 a0_8 a0_9 a0_10 a0_11 a0_12 _ _ l0_13 t118 _ ?side1 ?side2 A6.out).mono ?_); (case side1 => repeat (first | exact (Kd.C_below HR0_13.out (by repeat (first | (with_reducible first | exact HB.out | apply below_alloc | apply pw_below_drewN | apply below_drew1 | refine below_set ?_ GE116.out) | exact HB.out))) | (with_reducible refine Kd.C_alloc ?_ _) | (with_reducible refine Kd.C_drewN ?_ _) | (with_reducible refine Kd.C_drew ?_))); (case side2 => exact HC0_13.out); rintro e w8 ⟨rfl,hb⟩; have n0_:=Aside0.mk (blk_below (g:=gb116) (o:=.cells #[.int .i64 a0_0,.int .i64 a0_1,.int .i64 a0_2,.int .i64 a0_3,.int .i64 a0_4,.int .i64 a0_5,.int .i64 a0_6,.int .i64 a0_7,.int .i64 a0_8,.int .i64 a0_9,.int .i64 a0_10,.int .i64 a0_11,.int .i64 a0_12,.slice A0_13 l0_13.length c0_13] 31 (0,0)) (by (with_reducible repeat (first | refine blk_drewN ?_ _ | refine blk_drew ?_ | refine blk_alloc ?_ _)); exact BK116.out) hb); have n1_:=Aside0.mk (below_step (by repeat (first | (with_reducible first | exact HB.out | apply below_alloc | apply pw_below_drewN | apply below_drew1 | refine below_set ?_ GE116.out) | exact HB.out)) hb); clear BK116; clear HB; have BK116:=n0_; have HB:=n1_; clear n0_ n1_; (try clear hb); (try clear hb2); (try clear hk); (try clear hi)))
   go_meet
   case rel => exact ⟨_,(!t118),(by first | rfl | (simp; done) | (simp [*]; done)),H',⟨by first | omega | exact Nat.le_refl _⟩,⟨by (with_reducible repeat (first | refine blk_drewN ?_ _ | refine blk_drew ?_ | refine blk_alloc ?_ _)); exact BK116.out⟩,⟨by repeat (first | (with_reducible first | exact HB.out | apply below_alloc | apply pw_below_drewN | apply below_drew1 | refine below_set ?_ GE116.out) | exact HB.out)⟩⟩
  replace c5:=Bool.eq_false_iff.mpr c5
  subst c5
  have H1 : (clay_Right.j0 k true a0_0 a0_1 a0_2 a0_3 a0_4 a0_5 a0_6 a0_7 a0_8 a0_9 a0_10 a0_11 a0_12 l0_13) = some r:=by rw [if_neg (show ¬ (false = true) by decide)] at H; exact H
  clear H
  have H:=H1
  clear H1
  have H':=Aside0.mk H
  clear H
  obtain ⟨hcz9_0,hcz9_1,hcz9_2,hcz9_3,hcz9_4,hcz9_5,hcz9_6,hcz9_7,hcz9_8,hcz9_9,hcz9_10,hcz9_11,hcz9_12,hcz9_13⟩:=cl14 BK116.out
  obtain ⟨hfz9_0,hfz9_1,hfz9_2,hfz9_3,hfz9_4,hfz9_5,hfz9_6,hfz9_7,hfz9_8,hfz9_9,hfz9_10,hfz9_11,hfz9_12,hfz9_13⟩:=fz14 BK116.out
  go_wp2_with (first | ((with_reducible refine gate_callee (f:=45) rfl ?_); refine goesL_ (some 6) rfl rfl Try.func45 (by kernel_rfl) rfl #[.int .i64 a0_0] rfl (by (try simp only [List.map_toArray,List.map_cons,List.map_nil]); first | done | rfl | (simp only [List.length_drop,List.length_take]; rfl) | (simp only [ByteArray.size_append,Int.natCast_add]; rfl) | (simp [ByteArray.size_append,Int.add_assoc]; done)) ?_; (with_reducible refine (clay_id.calls a0_0 false _ A4.out).mono ?_); rintro e w' ⟨rfl,⟨nd,rfl⟩⟩; refine ⟨_,rfl,?_⟩))
  go_meet
  case rel => exact ⟨_,(true),(by first | rfl | (simp; done) | (simp [*]; done)),H',⟨by first | omega | exact Nat.le_refl _⟩,⟨by (with_reducible repeat (first | refine blk_drewN ?_ _ | refine blk_drew ?_ | refine blk_alloc ?_ _)); exact BK116.out⟩,⟨by repeat (first | (with_reducible first | exact HB.out | apply below_alloc | apply pw_below_drewN | apply below_drew1 | refine below_set ?_ GE116.out) | exact HB.out)⟩⟩
 clear HC2
 (try clear c1); (try clear p2); (try clear c4); (try clear c5); (try clear hcz7_0); (try clear hcz7_1); (try clear hcz7_10); (try clear hcz7_11); (try clear hcz7_12); (try clear hcz7_13); (try clear hcz7_2); (try clear hcz7_3); (try clear hcz7_4); (try clear hcz7_5); (try clear hcz7_6); (try clear hcz7_7); (try clear hcz7_8); (try clear hcz7_9); (try clear hcz9_0); (try clear hcz9_1); (try clear hcz9_10); (try clear hcz9_11); (try clear hcz9_12); (try clear hcz9_13); (try clear hcz9_2); (try clear hcz9_3); (try clear hcz9_4); (try clear hcz9_5); (try clear hcz9_6); (try clear hcz9_7); (try clear hcz9_8); (try clear hcz9_9); (try clear hfz7_0); (try clear hfz7_1); (try clear hfz7_10); (try clear hfz7_11); (try clear hfz7_12); (try clear hfz7_13); (try clear hfz7_2); (try clear hfz7_3); (try clear hfz7_4); (try clear hfz7_5); (try clear hfz7_6); (try clear hfz7_7); (try clear hfz7_8); (try clear hfz7_9); (try clear hfz9_0); (try clear hfz9_1); (try clear hfz9_10); (try clear hfz9_11); (try clear hfz9_12); (try clear hfz9_13); (try clear hfz9_2); (try clear hfz9_3); (try clear hfz9_4); (try clear hfz9_5); (try clear hfz9_6); (try clear hfz9_7); (try clear hfz9_8); (try clear hfz9_9)
 obtain ⟨kq,x12_1,rfl,HA,HJ1,BK116,HB⟩:=hcut
 cases kq with
 | zero => exact absurd HA.out (by simp [clay_Right.j0])
 | succ kj1 =>
  have H:=HA.out
  clear HA
  simp only [clay_Right.j0] at H
  by_cases c10 : x12_1 = true
  ·subst c10
   have H1 : (some false) = some r:=by rw [if_pos rfl] at H; exact H
   clear H
   have H:=H1
   clear H1
   obtain rfl:=Option.some.inj H
   go_wp2
   go_ret
   exact ⟨by first | rfl | (simp [errW_none,errW_some] <;> rfl) | (simp [*,errW_none,errW_some] <;> rfl),by repeat (first | (with_reducible first | exact HB.out | apply below_alloc | apply pw_below_drewN | apply below_drew1 | refine below_set ?_ GE116.out) | exact HB.out)⟩
  replace c10:=Bool.eq_false_iff.mpr c10
  subst c10
  have H1 : (if a0_1 = 1 then ((shape_Right.f kj1 a0_2 a0_3 a0_4 a0_5 a0_6 a0_7 a0_8 a0_9).bind fun t119 => (some t119)) else (if a0_1 = 2 then ((clay_id.f a0_10).bind fun t121 => (if t121 = true then ((clay_id.f a0_11).bind fun t122 => (if t122 = true then (if a0_10 = a0_11 then (some false) else (if a0_12 ≥ 0 then (some (decide (a0_12 ≤ 4294967296000))) else (some false))) else (some false))) else (some false))) else (if a0_1 = 3 then ((clay_members.f kj1 a0_0 a0_1 a0_2 a0_3 a0_4 a0_5 a0_6 a0_7 a0_8 a0_9 a0_10 a0_11 a0_12 l0_13).bind fun t123 => (some t123)) else (some false)))) = some r:=by rw [if_neg (show ¬ (false = true) by decide)] at H; exact H
  clear H
  have H:=H1
  clear H1
  by_cases c11 : a0_1 = 1
  ·rw [if_pos c11] at H
   have c11b0 : (a0_1 == 1) = true:=beq_iff_eq.mpr c11
   have c11b1 : (a0_1 != 1) = false:=bne_eq_false_iff_eq.mpr c11
   clear c11
   replace H:=Option.bind_eq_some_iff.mp H
   obtain ⟨t119,A120,H⟩:=H
   replace H : (some t119) = some r:=H
   have A12:=Aside0.mk A120
   clear A120
   obtain rfl:=Option.some.inj H
   obtain ⟨hcz13_0,hcz13_1,hcz13_2,hcz13_3,hcz13_4,hcz13_5,hcz13_6,hcz13_7,hcz13_8,hcz13_9,hcz13_10,hcz13_11,hcz13_12,hcz13_13⟩:=cl14 BK116.out
   obtain ⟨hfz13_0,hfz13_1,hfz13_2,hfz13_3,hfz13_4,hfz13_5,hfz13_6,hfz13_7,hfz13_8,hfz13_9,hfz13_10,hfz13_11,hfz13_12,hfz13_13⟩:=fz14 BK116.out
   go_wp2_with (first | ((with_reducible refine gate_callee (f:=47) rfl ?_); refine goesL_ (some 19) rfl rfl Try.func47 (by kernel_rfl) rfl #[.agg #[.int .i64 a0_2,.int .i64 a0_3,.int .i64 a0_4,.int .i64 a0_5,.int .i64 a0_6,.int .i64 a0_7,.int .i64 a0_8,.int .i64 a0_9]] rfl (by (try simp only [List.map_toArray,List.map_cons,List.map_nil]); first | done | rfl | (simp only [List.length_drop,List.length_take]; rfl) | (simp only [ByteArray.size_append,Int.natCast_add]; rfl) | (simp [ByteArray.size_append,Int.add_assoc]; done)) ?_; (with_reducible refine (shape_Right.calls kj1 a0_2 a0_3 a0_4 a0_5 a0_6 a0_7 a0_8 a0_9 t119 _ A12.out).mono ?_); rintro e w14 ⟨rfl,hb⟩; refine ⟨_,rfl,?_⟩; have n0_:=Aside0.mk (blk_below (g:=gb116) (o:=.cells #[.int .i64 a0_0,.int .i64 a0_1,.int .i64 a0_2,.int .i64 a0_3,.int .i64 a0_4,.int .i64 a0_5,.int .i64 a0_6,.int .i64 a0_7,.int .i64 a0_8,.int .i64 a0_9,.int .i64 a0_10,.int .i64 a0_11,.int .i64 a0_12,.slice A0_13 l0_13.length c0_13] 31 (0,0)) (by (with_reducible repeat (first | refine blk_drewN ?_ _ | refine blk_drew ?_ | refine blk_alloc ?_ _)); exact BK116.out) hb); have n1_:=Aside0.mk (below_step (by repeat (first | (with_reducible first | exact HB.out | apply below_alloc | apply pw_below_drewN | apply below_drew1 | refine below_set ?_ GE116.out) | exact HB.out)) hb); clear BK116; clear HB; have BK116:=n0_; have HB:=n1_; clear n0_ n1_; (try clear hb); (try clear hb2); (try clear hk); (try clear hi)))
   go_ret
   exact ⟨by first | rfl | (simp [errW_none,errW_some] <;> rfl) | (simp [*,errW_none,errW_some] <;> rfl),by repeat (first | (with_reducible first | exact HB.out | apply below_alloc | apply pw_below_drewN | apply below_drew1 | refine below_set ?_ GE116.out) | exact HB.out)⟩
  rw [if_neg c11] at H
  have c11b0 : (a0_1 == 1) = false:=beq_eq_false_iff_ne.mpr c11
  have c11b1 : (a0_1 != 1) = true:=bne_iff_ne.mpr c11
  by_cases c15 : a0_1 = 2
  ·rw [if_pos c15] at H
   have c15b0 : (a0_1 == 2) = true:=beq_iff_eq.mpr c15
   have c15b1 : (a0_1 != 2) = false:=bne_eq_false_iff_eq.mpr c15
   clear c15
   replace H:=Option.bind_eq_some_iff.mp H
   obtain ⟨t121,A160,H⟩:=H
   replace H : (if t121 = true then ((clay_id.f a0_11).bind fun t122 => (if t122 = true then (if a0_10 = a0_11 then (some false) else (if a0_12 ≥ 0 then (some (decide (a0_12 ≤ 4294967296000))) else (some false))) else (some false))) else (some false)) = some r:=H
   have A16:=Aside0.mk A160
   clear A160
   by_cases c17 : t121 = true
   ·subst c17
    have H1 : ((clay_id.f a0_11).bind fun t122 => (if t122 = true then (if a0_10 = a0_11 then (some false) else (if a0_12 ≥ 0 then (some (decide (a0_12 ≤ 4294967296000))) else (some false))) else (some false))) = some r:=by rw [if_pos rfl] at H; exact H
    clear H
    have H:=H1
    clear H1
    replace H:=Option.bind_eq_some_iff.mp H
    obtain ⟨t122,A180,H⟩:=H
    replace H : (if t122 = true then (if a0_10 = a0_11 then (some false) else (if a0_12 ≥ 0 then (some (decide (a0_12 ≤ 4294967296000))) else (some false))) else (some false)) = some r:=H
    have A18:=Aside0.mk A180
    clear A180
    by_cases c19 : t122 = true
    ·subst c19
     have H1 : (if a0_10 = a0_11 then (some false) else (if a0_12 ≥ 0 then (some (decide (a0_12 ≤ 4294967296000))) else (some false))) = some r:=by rw [if_pos rfl] at H; exact H
     clear H
     have H:=H1
     clear H1
     by_cases c20 : a0_10 = a0_11
     ·rw [if_pos c20] at H
      have c20b0 : (a0_10 == a0_11) = true:=beq_iff_eq.mpr c20
      have c20b1 : (a0_10 != a0_11) = false:=bne_eq_false_iff_eq.mpr c20
      clear c20
      obtain rfl:=Option.some.inj H
      obtain ⟨hcz21_0,hcz21_1,hcz21_2,hcz21_3,hcz21_4,hcz21_5,hcz21_6,hcz21_7,hcz21_8,hcz21_9,hcz21_10,hcz21_11,hcz21_12,hcz21_13⟩:=cl14 BK116.out
      obtain ⟨hfz21_0,hfz21_1,hfz21_2,hfz21_3,hfz21_4,hfz21_5,hfz21_6,hfz21_7,hfz21_8,hfz21_9,hfz21_10,hfz21_11,hfz21_12,hfz21_13⟩:=fz14 BK116.out
      go_wp2_with (first | ((with_reducible refine gate_dst (N:=3) rfl ?_); refine box_event ?hg (N:=3) ?hd (cs:=#[.int .i64 0,.int .i64 0,.int .i64 0]) (t:=28) ?hr ?_; (case hd => rfl); (case hg => rfl); (case hr => first | (go_simp; done) | (go_simp; rfl)); intro gb120 hg w22 hbox hb; have n0_:=Aside0.mk (blk_below (g:=gb116) (o:=.cells #[.int .i64 a0_0,.int .i64 a0_1,.int .i64 a0_2,.int .i64 a0_3,.int .i64 a0_4,.int .i64 a0_5,.int .i64 a0_6,.int .i64 a0_7,.int .i64 a0_8,.int .i64 a0_9,.int .i64 a0_10,.int .i64 a0_11,.int .i64 a0_12,.slice A0_13 l0_13.length c0_13] 31 (0,0)) (by (with_reducible repeat (first | refine blk_drewN ?_ _ | refine blk_drew ?_ | refine blk_alloc ?_ _)); exact BK116.out) hb); have n1_:=Aside0.mk (below_step (by repeat (first | (with_reducible first | exact HB.out | apply below_alloc | apply pw_below_drewN | apply below_drew1 | refine below_set ?_ GE116.out) | exact HB.out)) hb); have n2_:=Aside0.mk (hbox); have n3_:=Aside0.mk ((by rw [hg]; exact (below_size (by repeat (first | (with_reducible first | exact HB.out | apply below_alloc | apply pw_below_drewN | apply below_drew1 | refine below_set ?_ GE116.out) | exact HB.out))) : w.heap.size ≤ gb120)); have n4_:=Aside0.mk ((by rw [hg]; exact (below_size (by repeat (first | (with_reducible first | exact HB.out | apply below_alloc | apply pw_below_drewN | apply below_drew1 | refine below_set ?_ GE116.out) | exact HB.out))) : w.heap.size ≤ gb120)); have n5_:=Aside0.mk ((by rw [hg]; exact Nat.ne_of_lt (blk_lt (g:=gb116) (o:=.cells #[.int .i64 a0_0,.int .i64 a0_1,.int .i64 a0_2,.int .i64 a0_3,.int .i64 a0_4,.int .i64 a0_5,.int .i64 a0_6,.int .i64 a0_7,.int .i64 a0_8,.int .i64 a0_9,.int .i64 a0_10,.int .i64 a0_11,.int .i64 a0_12,.slice A0_13 l0_13.length c0_13] 31 (0,0)) (by (with_reducible repeat (first | refine blk_drewN ?_ _ | refine blk_drew ?_ | refine blk_alloc ?_ _)); exact BK116.out)) : gb116 ≠ gb120)); have n6_:=Aside0.mk ((by rw [hg]; exact Nat.ne_of_gt (blk_lt (g:=gb116) (o:=.cells #[.int .i64 a0_0,.int .i64 a0_1,.int .i64 a0_2,.int .i64 a0_3,.int .i64 a0_4,.int .i64 a0_5,.int .i64 a0_6,.int .i64 a0_7,.int .i64 a0_8,.int .i64 a0_9,.int .i64 a0_10,.int .i64 a0_11,.int .i64 a0_12,.slice A0_13 l0_13.length c0_13] 31 (0,0)) (by (with_reducible repeat (first | refine blk_drewN ?_ _ | refine blk_drew ?_ | refine blk_alloc ?_ _)); exact BK116.out)) : gb120 ≠ gb116)); clear BK116; clear HB; have BK116:=n0_; have HB:=n1_; have BK120:=n2_; have GW120:=n3_; have GE120:=n4_; have NB116_120:=n5_; have NB120_116:=n6_; clear n0_ n1_ n2_ n3_ n4_ n5_ n6_; clear hb hbox hg; have hnb23:=NB120_116.out; have hnc23:=NB116_120.out; obtain ⟨hcz24_0,hcz24_1,hcz24_2⟩:=cl3 BK120.out; obtain ⟨hfz24_0,hfz24_1,hfz24_2⟩:=fz3 BK120.out) | ((with_reducible refine gate_callee (f:=45) rfl ?_); refine goesL_ (some 26) rfl rfl Try.func45 (by kernel_rfl) rfl #[.int .i64 a0_10] rfl (by (try simp only [List.map_toArray,List.map_cons,List.map_nil]); first | done | rfl | (simp only [List.length_drop,List.length_take]; rfl) | (simp only [ByteArray.size_append,Int.natCast_add]; rfl) | (simp [ByteArray.size_append,Int.add_assoc]; done)) ?_; (with_reducible refine (clay_id.calls a0_10 true _ A16.out).mono ?_); rintro e w' ⟨rfl,⟨nd,rfl⟩⟩; refine ⟨_,rfl,?_⟩) | (go_at_call 45; (with_reducible refine (clay_id.calls a0_11 true _ A18.out).mono ?_); rintro e w' ⟨rfl,⟨nd,rfl⟩⟩))
      go_ret
      exact ⟨by first | rfl | (simp [errW_none,errW_some] <;> rfl) | (simp [*,errW_none,errW_some] <;> rfl),by repeat (first | (with_reducible first | exact HB.out | apply below_alloc | apply pw_below_drewN | apply below_drew1 | refine below_set ?_ GE116.out | refine below_set ?_ GE120.out) | exact HB.out)⟩
     rw [if_neg c20] at H
     have c20b0 : (a0_10 == a0_11) = false:=beq_eq_false_iff_ne.mpr c20
     have c20b1 : (a0_10 != a0_11) = true:=bne_iff_ne.mpr c20
     by_cases c25 : a0_12 ≥ 0
     ·rw [if_pos c25] at H
      have c25b0 : decide (0 ≤ a0_12) = true:=decide_eq_true c25
      clear c25
      obtain rfl:=Option.some.inj H
      obtain ⟨hcz26_0,hcz26_1,hcz26_2,hcz26_3,hcz26_4,hcz26_5,hcz26_6,hcz26_7,hcz26_8,hcz26_9,hcz26_10,hcz26_11,hcz26_12,hcz26_13⟩:=cl14 BK116.out
      obtain ⟨hfz26_0,hfz26_1,hfz26_2,hfz26_3,hfz26_4,hfz26_5,hfz26_6,hfz26_7,hfz26_8,hfz26_9,hfz26_10,hfz26_11,hfz26_12,hfz26_13⟩:=fz14 BK116.out
      go_wp2_with (first | ((with_reducible refine gate_dst (N:=3) rfl ?_); refine box_event ?hg (N:=3) ?hd (cs:=#[.int .i64 0,.int .i64 0,.int .i64 0]) (t:=28) ?hr ?_; (case hd => rfl); (case hg => rfl); (case hr => first | (go_simp; done) | (go_simp; rfl)); intro gb120 hg w27 hbox hb; have n0_:=Aside0.mk (blk_below (g:=gb116) (o:=.cells #[.int .i64 a0_0,.int .i64 a0_1,.int .i64 a0_2,.int .i64 a0_3,.int .i64 a0_4,.int .i64 a0_5,.int .i64 a0_6,.int .i64 a0_7,.int .i64 a0_8,.int .i64 a0_9,.int .i64 a0_10,.int .i64 a0_11,.int .i64 a0_12,.slice A0_13 l0_13.length c0_13] 31 (0,0)) (by (with_reducible repeat (first | refine blk_drewN ?_ _ | refine blk_drew ?_ | refine blk_alloc ?_ _)); exact BK116.out) hb); have n1_:=Aside0.mk (below_step (by repeat (first | (with_reducible first | exact HB.out | apply below_alloc | apply pw_below_drewN | apply below_drew1 | refine below_set ?_ GE116.out) | exact HB.out)) hb); have n2_:=Aside0.mk (hbox); have n3_:=Aside0.mk ((by rw [hg]; exact (below_size (by repeat (first | (with_reducible first | exact HB.out | apply below_alloc | apply pw_below_drewN | apply below_drew1 | refine below_set ?_ GE116.out) | exact HB.out))) : w.heap.size ≤ gb120)); have n4_:=Aside0.mk ((by rw [hg]; exact (below_size (by repeat (first | (with_reducible first | exact HB.out | apply below_alloc | apply pw_below_drewN | apply below_drew1 | refine below_set ?_ GE116.out) | exact HB.out))) : w.heap.size ≤ gb120)); have n5_:=Aside0.mk ((by rw [hg]; exact Nat.ne_of_lt (blk_lt (g:=gb116) (o:=.cells #[.int .i64 a0_0,.int .i64 a0_1,.int .i64 a0_2,.int .i64 a0_3,.int .i64 a0_4,.int .i64 a0_5,.int .i64 a0_6,.int .i64 a0_7,.int .i64 a0_8,.int .i64 a0_9,.int .i64 a0_10,.int .i64 a0_11,.int .i64 a0_12,.slice A0_13 l0_13.length c0_13] 31 (0,0)) (by (with_reducible repeat (first | refine blk_drewN ?_ _ | refine blk_drew ?_ | refine blk_alloc ?_ _)); exact BK116.out)) : gb116 ≠ gb120)); have n6_:=Aside0.mk ((by rw [hg]; exact Nat.ne_of_gt (blk_lt (g:=gb116) (o:=.cells #[.int .i64 a0_0,.int .i64 a0_1,.int .i64 a0_2,.int .i64 a0_3,.int .i64 a0_4,.int .i64 a0_5,.int .i64 a0_6,.int .i64 a0_7,.int .i64 a0_8,.int .i64 a0_9,.int .i64 a0_10,.int .i64 a0_11,.int .i64 a0_12,.slice A0_13 l0_13.length c0_13] 31 (0,0)) (by (with_reducible repeat (first | refine blk_drewN ?_ _ | refine blk_drew ?_ | refine blk_alloc ?_ _)); exact BK116.out)) : gb120 ≠ gb116)); clear BK116; clear HB; have BK116:=n0_; have HB:=n1_; have BK120:=n2_; have GW120:=n3_; have GE120:=n4_; have NB116_120:=n5_; have NB120_116:=n6_; clear n0_ n1_ n2_ n3_ n4_ n5_ n6_; clear hb hbox hg; have hnb28:=NB120_116.out; have hnc28:=NB116_120.out; obtain ⟨hcz29_0,hcz29_1,hcz29_2⟩:=cl3 BK120.out; obtain ⟨hfz29_0,hfz29_1,hfz29_2⟩:=fz3 BK120.out) | ((with_reducible refine gate_callee (f:=45) rfl ?_); refine goesL_ (some 26) rfl rfl Try.func45 (by kernel_rfl) rfl #[.int .i64 a0_10] rfl (by (try simp only [List.map_toArray,List.map_cons,List.map_nil]); first | done | rfl | (simp only [List.length_drop,List.length_take]; rfl) | (simp only [ByteArray.size_append,Int.natCast_add]; rfl) | (simp [ByteArray.size_append,Int.add_assoc]; done)) ?_; (with_reducible refine (clay_id.calls a0_10 true _ A16.out).mono ?_); rintro e w' ⟨rfl,⟨nd,rfl⟩⟩; refine ⟨_,rfl,?_⟩) | (go_at_call 45; (with_reducible refine (clay_id.calls a0_11 true _ A18.out).mono ?_); rintro e w' ⟨rfl,⟨nd,rfl⟩⟩))
      go_ret
      exact ⟨by first | rfl | (simp [errW_none,errW_some] <;> rfl) | (simp [*,errW_none,errW_some] <;> rfl),by repeat (first | (with_reducible first | exact HB.out | apply below_alloc | apply pw_below_drewN | apply below_drew1 | refine below_set ?_ GE116.out | refine below_set ?_ GE120.out) | exact HB.out)⟩
     rw [if_neg c25] at H
     have c25b0 : decide (0 ≤ a0_12) = false:=decide_eq_false c25
     clear c25
     obtain rfl:=Option.some.inj H
     obtain ⟨hcz30_0,hcz30_1,hcz30_2,hcz30_3,hcz30_4,hcz30_5,hcz30_6,hcz30_7,hcz30_8,hcz30_9,hcz30_10,hcz30_11,hcz30_12,hcz30_13⟩:=cl14 BK116.out
     obtain ⟨hfz30_0,hfz30_1,hfz30_2,hfz30_3,hfz30_4,hfz30_5,hfz30_6,hfz30_7,hfz30_8,hfz30_9,hfz30_10,hfz30_11,hfz30_12,hfz30_13⟩:=fz14 BK116.out
     go_wp2_with (first | ((with_reducible refine gate_dst (N:=3) rfl ?_); refine box_event ?hg (N:=3) ?hd (cs:=#[.int .i64 0,.int .i64 0,.int .i64 0]) (t:=28) ?hr ?_; (case hd => rfl); (case hg => rfl); (case hr => first | (go_simp; done) | (go_simp; rfl)); intro gb120 hg w31 hbox hb; have n0_:=Aside0.mk (blk_below (g:=gb116) (o:=.cells #[.int .i64 a0_0,.int .i64 a0_1,.int .i64 a0_2,.int .i64 a0_3,.int .i64 a0_4,.int .i64 a0_5,.int .i64 a0_6,.int .i64 a0_7,.int .i64 a0_8,.int .i64 a0_9,.int .i64 a0_10,.int .i64 a0_11,.int .i64 a0_12,.slice A0_13 l0_13.length c0_13] 31 (0,0)) (by (with_reducible repeat (first | refine blk_drewN ?_ _ | refine blk_drew ?_ | refine blk_alloc ?_ _)); exact BK116.out) hb); have n1_:=Aside0.mk (below_step (by repeat (first | (with_reducible first | exact HB.out | apply below_alloc | apply pw_below_drewN | apply below_drew1 | refine below_set ?_ GE116.out) | exact HB.out)) hb); have n2_:=Aside0.mk (hbox); have n3_:=Aside0.mk ((by rw [hg]; exact (below_size (by repeat (first | (with_reducible first | exact HB.out | apply below_alloc | apply pw_below_drewN | apply below_drew1 | refine below_set ?_ GE116.out) | exact HB.out))) : w.heap.size ≤ gb120)); have n4_:=Aside0.mk ((by rw [hg]; exact (below_size (by repeat (first | (with_reducible first | exact HB.out | apply below_alloc | apply pw_below_drewN | apply below_drew1 | refine below_set ?_ GE116.out) | exact HB.out))) : w.heap.size ≤ gb120)); have n5_:=Aside0.mk ((by rw [hg]; exact Nat.ne_of_lt (blk_lt (g:=gb116) (o:=.cells #[.int .i64 a0_0,.int .i64 a0_1,.int .i64 a0_2,.int .i64 a0_3,.int .i64 a0_4,.int .i64 a0_5,.int .i64 a0_6,.int .i64 a0_7,.int .i64 a0_8,.int .i64 a0_9,.int .i64 a0_10,.int .i64 a0_11,.int .i64 a0_12,.slice A0_13 l0_13.length c0_13] 31 (0,0)) (by (with_reducible repeat (first | refine blk_drewN ?_ _ | refine blk_drew ?_ | refine blk_alloc ?_ _)); exact BK116.out)) : gb116 ≠ gb120)); have n6_:=Aside0.mk ((by rw [hg]; exact Nat.ne_of_gt (blk_lt (g:=gb116) (o:=.cells #[.int .i64 a0_0,.int .i64 a0_1,.int .i64 a0_2,.int .i64 a0_3,.int .i64 a0_4,.int .i64 a0_5,.int .i64 a0_6,.int .i64 a0_7,.int .i64 a0_8,.int .i64 a0_9,.int .i64 a0_10,.int .i64 a0_11,.int .i64 a0_12,.slice A0_13 l0_13.length c0_13] 31 (0,0)) (by (with_reducible repeat (first | refine blk_drewN ?_ _ | refine blk_drew ?_ | refine blk_alloc ?_ _)); exact BK116.out)) : gb120 ≠ gb116)); clear BK116; clear HB; have BK116:=n0_; have HB:=n1_; have BK120:=n2_; have GW120:=n3_; have GE120:=n4_; have NB116_120:=n5_; have NB120_116:=n6_; clear n0_ n1_ n2_ n3_ n4_ n5_ n6_; clear hb hbox hg; have hnb32:=NB120_116.out; have hnc32:=NB116_120.out; obtain ⟨hcz33_0,hcz33_1,hcz33_2⟩:=cl3 BK120.out; obtain ⟨hfz33_0,hfz33_1,hfz33_2⟩:=fz3 BK120.out) | ((with_reducible refine gate_callee (f:=45) rfl ?_); refine goesL_ (some 26) rfl rfl Try.func45 (by kernel_rfl) rfl #[.int .i64 a0_10] rfl (by (try simp only [List.map_toArray,List.map_cons,List.map_nil]); first | done | rfl | (simp only [List.length_drop,List.length_take]; rfl) | (simp only [ByteArray.size_append,Int.natCast_add]; rfl) | (simp [ByteArray.size_append,Int.add_assoc]; done)) ?_; (with_reducible refine (clay_id.calls a0_10 true _ A16.out).mono ?_); rintro e w' ⟨rfl,⟨nd,rfl⟩⟩; refine ⟨_,rfl,?_⟩) | (go_at_call 45; (with_reducible refine (clay_id.calls a0_11 true _ A18.out).mono ?_); rintro e w' ⟨rfl,⟨nd,rfl⟩⟩))
     go_ret
     exact ⟨by first | rfl | (simp [errW_none,errW_some] <;> rfl) | (simp [*,errW_none,errW_some] <;> rfl),by repeat (first | (with_reducible first | exact HB.out | apply below_alloc | apply pw_below_drewN | apply below_drew1 | refine below_set ?_ GE116.out | refine below_set ?_ GE120.out) | exact HB.out)⟩
    replace c19:=Bool.eq_false_iff.mpr c19
    subst c19
    have H1 : (some false) = some r:=by rw [if_neg (show ¬ (false = true) by decide)] at H; exact H
    clear H
    have H:=H1
    clear H1
    obtain rfl:=Option.some.inj H
    obtain ⟨hcz34_0,hcz34_1,hcz34_2,hcz34_3,hcz34_4,hcz34_5,hcz34_6,hcz34_7,hcz34_8,hcz34_9,hcz34_10,hcz34_11,hcz34_12,hcz34_13⟩:=cl14 BK116.out
    obtain ⟨hfz34_0,hfz34_1,hfz34_2,hfz34_3,hfz34_4,hfz34_5,hfz34_6,hfz34_7,hfz34_8,hfz34_9,hfz34_10,hfz34_11,hfz34_12,hfz34_13⟩:=fz14 BK116.out
    go_wp2_with (first | ((with_reducible refine gate_dst (N:=3) rfl ?_); refine box_event ?hg (N:=3) ?hd (cs:=#[.int .i64 0,.int .i64 0,.int .i64 0]) (t:=28) ?hr ?_; (case hd => rfl); (case hg => rfl); (case hr => first | (go_simp; done) | (go_simp; rfl)); intro gb120 hg w35 hbox hb; have n0_:=Aside0.mk (blk_below (g:=gb116) (o:=.cells #[.int .i64 a0_0,.int .i64 a0_1,.int .i64 a0_2,.int .i64 a0_3,.int .i64 a0_4,.int .i64 a0_5,.int .i64 a0_6,.int .i64 a0_7,.int .i64 a0_8,.int .i64 a0_9,.int .i64 a0_10,.int .i64 a0_11,.int .i64 a0_12,.slice A0_13 l0_13.length c0_13] 31 (0,0)) (by (with_reducible repeat (first | refine blk_drewN ?_ _ | refine blk_drew ?_ | refine blk_alloc ?_ _)); exact BK116.out) hb); have n1_:=Aside0.mk (below_step (by repeat (first | (with_reducible first | exact HB.out | apply below_alloc | apply pw_below_drewN | apply below_drew1 | refine below_set ?_ GE116.out) | exact HB.out)) hb); have n2_:=Aside0.mk (hbox); have n3_:=Aside0.mk ((by rw [hg]; exact (below_size (by repeat (first | (with_reducible first | exact HB.out | apply below_alloc | apply pw_below_drewN | apply below_drew1 | refine below_set ?_ GE116.out) | exact HB.out))) : w.heap.size ≤ gb120)); have n4_:=Aside0.mk ((by rw [hg]; exact (below_size (by repeat (first | (with_reducible first | exact HB.out | apply below_alloc | apply pw_below_drewN | apply below_drew1 | refine below_set ?_ GE116.out) | exact HB.out))) : w.heap.size ≤ gb120)); have n5_:=Aside0.mk ((by rw [hg]; exact Nat.ne_of_lt (blk_lt (g:=gb116) (o:=.cells #[.int .i64 a0_0,.int .i64 a0_1,.int .i64 a0_2,.int .i64 a0_3,.int .i64 a0_4,.int .i64 a0_5,.int .i64 a0_6,.int .i64 a0_7,.int .i64 a0_8,.int .i64 a0_9,.int .i64 a0_10,.int .i64 a0_11,.int .i64 a0_12,.slice A0_13 l0_13.length c0_13] 31 (0,0)) (by (with_reducible repeat (first | refine blk_drewN ?_ _ | refine blk_drew ?_ | refine blk_alloc ?_ _)); exact BK116.out)) : gb116 ≠ gb120)); have n6_:=Aside0.mk ((by rw [hg]; exact Nat.ne_of_gt (blk_lt (g:=gb116) (o:=.cells #[.int .i64 a0_0,.int .i64 a0_1,.int .i64 a0_2,.int .i64 a0_3,.int .i64 a0_4,.int .i64 a0_5,.int .i64 a0_6,.int .i64 a0_7,.int .i64 a0_8,.int .i64 a0_9,.int .i64 a0_10,.int .i64 a0_11,.int .i64 a0_12,.slice A0_13 l0_13.length c0_13] 31 (0,0)) (by (with_reducible repeat (first | refine blk_drewN ?_ _ | refine blk_drew ?_ | refine blk_alloc ?_ _)); exact BK116.out)) : gb120 ≠ gb116)); clear BK116; clear HB; have BK116:=n0_; have HB:=n1_; have BK120:=n2_; have GW120:=n3_; have GE120:=n4_; have NB116_120:=n5_; have NB120_116:=n6_; clear n0_ n1_ n2_ n3_ n4_ n5_ n6_; clear hb hbox hg; have hnb36:=NB120_116.out; have hnc36:=NB116_120.out; obtain ⟨hcz37_0,hcz37_1,hcz37_2⟩:=cl3 BK120.out; obtain ⟨hfz37_0,hfz37_1,hfz37_2⟩:=fz3 BK120.out) | ((with_reducible refine gate_callee (f:=45) rfl ?_); refine goesL_ (some 26) rfl rfl Try.func45 (by kernel_rfl) rfl #[.int .i64 a0_10] rfl (by (try simp only [List.map_toArray,List.map_cons,List.map_nil]); first | done | rfl | (simp only [List.length_drop,List.length_take]; rfl) | (simp only [ByteArray.size_append,Int.natCast_add]; rfl) | (simp [ByteArray.size_append,Int.add_assoc]; done)) ?_; (with_reducible refine (clay_id.calls a0_10 true _ A16.out).mono ?_); rintro e w' ⟨rfl,⟨nd,rfl⟩⟩; refine ⟨_,rfl,?_⟩) | (go_at_call 45; (with_reducible refine (clay_id.calls a0_11 false _ A18.out).mono ?_); rintro e w' ⟨rfl,⟨nd,rfl⟩⟩))
    go_ret
    exact ⟨by first | rfl | (simp [errW_none,errW_some] <;> rfl) | (simp [*,errW_none,errW_some] <;> rfl),by repeat (first | (with_reducible first | exact HB.out | apply below_alloc | apply pw_below_drewN | apply below_drew1 | refine below_set ?_ GE116.out | refine below_set ?_ GE120.out) | exact HB.out)⟩
   replace c17:=Bool.eq_false_iff.mpr c17
   subst c17
   have H1 : (some false) = some r:=by rw [if_neg (show ¬ (false = true) by decide)] at H; exact H
   clear H
   have H:=H1
   clear H1
   obtain rfl:=Option.some.inj H
   obtain ⟨hcz38_0,hcz38_1,hcz38_2,hcz38_3,hcz38_4,hcz38_5,hcz38_6,hcz38_7,hcz38_8,hcz38_9,hcz38_10,hcz38_11,hcz38_12,hcz38_13⟩:=cl14 BK116.out
   obtain ⟨hfz38_0,hfz38_1,hfz38_2,hfz38_3,hfz38_4,hfz38_5,hfz38_6,hfz38_7,hfz38_8,hfz38_9,hfz38_10,hfz38_11,hfz38_12,hfz38_13⟩:=fz14 BK116.out
   go_wp2_with (first | ((with_reducible refine gate_dst (N:=3) rfl ?_); refine box_event ?hg (N:=3) ?hd (cs:=#[.int .i64 0,.int .i64 0,.int .i64 0]) (t:=28) ?hr ?_; (case hd => rfl); (case hg => rfl); (case hr => first | (go_simp; done) | (go_simp; rfl)); intro gb120 hg w39 hbox hb; have n0_:=Aside0.mk (blk_below (g:=gb116) (o:=.cells #[.int .i64 a0_0,.int .i64 a0_1,.int .i64 a0_2,.int .i64 a0_3,.int .i64 a0_4,.int .i64 a0_5,.int .i64 a0_6,.int .i64 a0_7,.int .i64 a0_8,.int .i64 a0_9,.int .i64 a0_10,.int .i64 a0_11,.int .i64 a0_12,.slice A0_13 l0_13.length c0_13] 31 (0,0)) (by (with_reducible repeat (first | refine blk_drewN ?_ _ | refine blk_drew ?_ | refine blk_alloc ?_ _)); exact BK116.out) hb); have n1_:=Aside0.mk (below_step (by repeat (first | (with_reducible first | exact HB.out | apply below_alloc | apply pw_below_drewN | apply below_drew1 | refine below_set ?_ GE116.out) | exact HB.out)) hb); have n2_:=Aside0.mk (hbox); have n3_:=Aside0.mk ((by rw [hg]; exact (below_size (by repeat (first | (with_reducible first | exact HB.out | apply below_alloc | apply pw_below_drewN | apply below_drew1 | refine below_set ?_ GE116.out) | exact HB.out))) : w.heap.size ≤ gb120)); have n4_:=Aside0.mk ((by rw [hg]; exact (below_size (by repeat (first | (with_reducible first | exact HB.out | apply below_alloc | apply pw_below_drewN | apply below_drew1 | refine below_set ?_ GE116.out) | exact HB.out))) : w.heap.size ≤ gb120)); have n5_:=Aside0.mk ((by rw [hg]; exact Nat.ne_of_lt (blk_lt (g:=gb116) (o:=.cells #[.int .i64 a0_0,.int .i64 a0_1,.int .i64 a0_2,.int .i64 a0_3,.int .i64 a0_4,.int .i64 a0_5,.int .i64 a0_6,.int .i64 a0_7,.int .i64 a0_8,.int .i64 a0_9,.int .i64 a0_10,.int .i64 a0_11,.int .i64 a0_12,.slice A0_13 l0_13.length c0_13] 31 (0,0)) (by (with_reducible repeat (first | refine blk_drewN ?_ _ | refine blk_drew ?_ | refine blk_alloc ?_ _)); exact BK116.out)) : gb116 ≠ gb120)); have n6_:=Aside0.mk ((by rw [hg]; exact Nat.ne_of_gt (blk_lt (g:=gb116) (o:=.cells #[.int .i64 a0_0,.int .i64 a0_1,.int .i64 a0_2,.int .i64 a0_3,.int .i64 a0_4,.int .i64 a0_5,.int .i64 a0_6,.int .i64 a0_7,.int .i64 a0_8,.int .i64 a0_9,.int .i64 a0_10,.int .i64 a0_11,.int .i64 a0_12,.slice A0_13 l0_13.length c0_13] 31 (0,0)) (by (with_reducible repeat (first | refine blk_drewN ?_ _ | refine blk_drew ?_ | refine blk_alloc ?_ _)); exact BK116.out)) : gb120 ≠ gb116)); clear BK116; clear HB; have BK116:=n0_; have HB:=n1_; have BK120:=n2_; have GW120:=n3_; have GE120:=n4_; have NB116_120:=n5_; have NB120_116:=n6_; clear n0_ n1_ n2_ n3_ n4_ n5_ n6_; clear hb hbox hg; have hnb40:=NB120_116.out; have hnc40:=NB116_120.out; obtain ⟨hcz41_0,hcz41_1,hcz41_2⟩:=cl3 BK120.out; obtain ⟨hfz41_0,hfz41_1,hfz41_2⟩:=fz3 BK120.out) | ((with_reducible refine gate_callee (f:=45) rfl ?_); refine goesL_ (some 26) rfl rfl Try.func45 (by kernel_rfl) rfl #[.int .i64 a0_10] rfl (by (try simp only [List.map_toArray,List.map_cons,List.map_nil]); first | done | rfl | (simp only [List.length_drop,List.length_take]; rfl) | (simp only [ByteArray.size_append,Int.natCast_add]; rfl) | (simp [ByteArray.size_append,Int.add_assoc]; done)) ?_; (with_reducible refine (clay_id.calls a0_10 false _ A16.out).mono ?_); rintro e w' ⟨rfl,⟨nd,rfl⟩⟩; refine ⟨_,rfl,?_⟩))
   go_ret
   exact ⟨by first | rfl | (simp [errW_none,errW_some] <;> rfl) | (simp [*,errW_none,errW_some] <;> rfl),by repeat (first | (with_reducible first | exact HB.out | apply below_alloc | apply pw_below_drewN | apply below_drew1 | refine below_set ?_ GE116.out | refine below_set ?_ GE120.out) | exact HB.out)⟩
  rw [if_neg c15] at H
  have c15b0 : (a0_1 == 2) = false:=beq_eq_false_iff_ne.mpr c15
  have c15b1 : (a0_1 != 2) = true:=bne_iff_ne.mpr c15
  by_cases c42 : a0_1 = 3
  ·rw [if_pos c42] at H
   have c42b0 : (a0_1 == 3) = true:=beq_iff_eq.mpr c42
   have c42b1 : (a0_1 != 3) = false:=bne_eq_false_iff_eq.mpr c42
   clear c42
   replace H:=Option.bind_eq_some_iff.mp H
   obtain ⟨t123,A430,H⟩:=H
   replace H : (some t123) = some r:=H
   have A43:=Aside0.mk A430
   clear A430
   obtain rfl:=Option.some.inj H
   obtain ⟨hcz44_0,hcz44_1,hcz44_2,hcz44_3,hcz44_4,hcz44_5,hcz44_6,hcz44_7,hcz44_8,hcz44_9,hcz44_10,hcz44_11,hcz44_12,hcz44_13⟩:=cl14 BK116.out
   obtain ⟨hfz44_0,hfz44_1,hfz44_2,hfz44_3,hfz44_4,hfz44_5,hfz44_6,hfz44_7,hfz44_8,hfz44_9,hfz44_10,hfz44_11,hfz44_12,hfz44_13⟩:=fz14 BK116.out
   go_wp2_with (first | ((with_reducible refine gate_callee (f:=48) rfl ?_); refine goesL_ (some 52) rfl rfl Try.func48 (by kernel_rfl) rfl #[.agg #[.int .i64 a0_0,.int .i64 a0_1,.int .i64 a0_2,.int .i64 a0_3,.int .i64 a0_4,.int .i64 a0_5,.int .i64 a0_6,.int .i64 a0_7,.int .i64 a0_8,.int .i64 a0_9,.int .i64 a0_10,.int .i64 a0_11,.int .i64 a0_12,.slice A0_13 l0_13.length c0_13]] rfl (by (try simp only [List.map_toArray,List.map_cons,List.map_nil]); first | done | rfl | (simp only [List.length_drop,List.length_take]; rfl) | (simp only [ByteArray.size_append,Int.natCast_add]; rfl) | (simp [ByteArray.size_append,Int.add_assoc]; done)) ?_; (with_reducible refine (clay_members.calls kj1 a0_0 a0_1 a0_2 a0_3 a0_4 a0_5 a0_6 a0_7 a0_8 a0_9 a0_10 a0_11 a0_12 _ _ l0_13 t123 _ ?side1 ?side2 A43.out).mono ?_); (case side1 => repeat (first | exact (Kd.C_below HR0_13.out HB.out) | (with_reducible refine Kd.C_alloc ?_ _) | (with_reducible refine Kd.C_drewN ?_ _) | (with_reducible refine Kd.C_drew ?_))); (case side2 => exact HC0_13.out); rintro e w45 ⟨rfl,hb⟩; refine ⟨_,rfl,?_⟩; have n0_:=Aside0.mk (blk_below (g:=gb116) (o:=.cells #[.int .i64 a0_0,.int .i64 a0_1,.int .i64 a0_2,.int .i64 a0_3,.int .i64 a0_4,.int .i64 a0_5,.int .i64 a0_6,.int .i64 a0_7,.int .i64 a0_8,.int .i64 a0_9,.int .i64 a0_10,.int .i64 a0_11,.int .i64 a0_12,.slice A0_13 l0_13.length c0_13] 31 (0,0)) (by (with_reducible repeat (first | refine blk_drewN ?_ _ | refine blk_drew ?_ | refine blk_alloc ?_ _)); exact BK116.out) hb); have n1_:=Aside0.mk (below_step (by repeat (first | (with_reducible first | exact HB.out | apply below_alloc | apply pw_below_drewN | apply below_drew1 | refine below_set ?_ GE116.out) | exact HB.out)) hb); clear BK116; clear HB; have BK116:=n0_; have HB:=n1_; clear n0_ n1_; (try clear hb); (try clear hb2); (try clear hk); (try clear hi)))
   go_ret
   exact ⟨by first | rfl | (simp [errW_none,errW_some] <;> rfl) | (simp [*,errW_none,errW_some] <;> rfl),by repeat (first | (with_reducible first | exact HB.out | apply below_alloc | apply pw_below_drewN | apply below_drew1 | refine below_set ?_ GE116.out) | exact HB.out)⟩
  rw [if_neg c42] at H
  have c42b0 : (a0_1 == 3) = false:=beq_eq_false_iff_ne.mpr c42
  have c42b1 : (a0_1 != 3) = true:=bne_iff_ne.mpr c42
  obtain rfl:=Option.some.inj H
  obtain ⟨hcz46_0,hcz46_1,hcz46_2,hcz46_3,hcz46_4,hcz46_5,hcz46_6,hcz46_7,hcz46_8,hcz46_9,hcz46_10,hcz46_11,hcz46_12,hcz46_13⟩:=cl14 BK116.out
  obtain ⟨hfz46_0,hfz46_1,hfz46_2,hfz46_3,hfz46_4,hfz46_5,hfz46_6,hfz46_7,hfz46_8,hfz46_9,hfz46_10,hfz46_11,hfz46_12,hfz46_13⟩:=fz14 BK116.out
  go_wp2
  go_ret
  exact ⟨by first | rfl | (simp [errW_none,errW_some] <;> rfl) | (simp [*,errW_none,errW_some] <;> rfl),by repeat (first | (with_reducible first | exact HB.out | apply below_alloc | apply pw_below_drewN | apply below_drew1 | refine below_set ?_ GE116.out) | exact HB.out)⟩

-- NOT PRINTED: function 34 (clay_writer_num)

-- NOT PRINTED: function 35 (clay_writer_vec)

/-! ### clay_Put: function 13 -/
def clay_Put.f (k : Nat) (a0_0 : Int) (a0_1 : Int) (a0_2 : Int) (a0_3 : Int) (a0_4 : Int) (a0_5 : Int) (a0_6 : Int) (a0_7 : Int) (a0_8 : Int) (a0_9 : Int) (a0_10 : Int) (a0_11 : Int) (a0_12 : Int) (l0_13 : List Int) : Option (ByteArray × Bool) := (clay_Right.f k a0_0 a0_1 a0_2 a0_3 a0_4 a0_5 a0_6 a0_7 a0_8 a0_9 a0_10 a0_11 a0_12 l0_13).bind fun b => if b = true then (if a0_1 = 1 then (some (strOfNums ([] ++ Go.Proofs.Ytbjknbfagadhfaa.V.byL 1 1 1 ++ Go.Proofs.Ytbjknbfagadhfaa.V.byL a0_0 4 4 ++ Go.Proofs.Ytbjknbfagadhfaa.V.byL a0_2 1 1 ++ Go.Proofs.Ytbjknbfagadhfaa.V.byL a0_3 8 8 ++ Go.Proofs.Ytbjknbfagadhfaa.V.byL a0_4 8 8 ++ Go.Proofs.Ytbjknbfagadhfaa.V.byL a0_5 8 8 ++ Go.Proofs.Ytbjknbfagadhfaa.V.byL a0_6 8 8 ++ Go.Proofs.Ytbjknbfagadhfaa.V.byL a0_7 8 8 ++ Go.Proofs.Ytbjknbfagadhfaa.V.byL a0_8 8 8 ++ Go.Proofs.Ytbjknbfagadhfaa.V.byL a0_9 8 8), true)) else (if a0_1 = 2 then (some (strOfNums ([] ++ Go.Proofs.Ytbjknbfagadhfaa.V.byL 2 1 1 ++ Go.Proofs.Ytbjknbfagadhfaa.V.byL a0_0 4 4 ++ Go.Proofs.Ytbjknbfagadhfaa.V.byL a0_10 4 4 ++ Go.Proofs.Ytbjknbfagadhfaa.V.byL a0_11 4 4 ++ Go.Proofs.Ytbjknbfagadhfaa.V.byL a0_12 8 8), true)) else (if a0_1 = 3 then (if l0_13.length ≤ 8 then (some (strOfNums ([] ++ Go.Proofs.Ytbjknbfagadhfaa.V.byL 3 1 1 ++ Go.Proofs.Ytbjknbfagadhfaa.V.byL a0_0 4 4 ++ Go.Proofs.Ytbjknbfagadhfaa.V.byL l0_13.length 1 1 ++ Go.Proofs.Ytbjknbfagadhfaa.V.inL l0_13), true)) else none) else none))) else (some ((⟨#[]⟩ : ByteArray), false))
theorem clay_Put.mono : ∀ a0_0 a0_1 a0_2 a0_3 a0_4 a0_5 a0_6 a0_7 a0_8 a0_9 a0_10 a0_11 a0_12 a0_13 k, LeO (clay_Put.f k a0_0 a0_1 a0_2 a0_3 a0_4 a0_5 a0_6 a0_7 a0_8 a0_9 a0_10 a0_11 a0_12 a0_13) (clay_Put.f (k + 1) a0_0 a0_1 a0_2 a0_3 a0_4 a0_5 a0_6 a0_7 a0_8 a0_9 a0_10 a0_11 a0_12 a0_13) := by
  intro a0_0 a0_1 a0_2 a0_3 a0_4 a0_5 a0_6 a0_7 a0_8 a0_9 a0_10 a0_11 a0_12 a0_13 k
  unfold clay_Put.f
  exact LeO.bind (clay_Right.mono _ _ _ _ _ _ _ _ _ _ _ _ _ _ _) (fun _ => LeO.refl _)
theorem clay_Put.calls (k : Nat) (a0_0 : Int) (a0_1 : Int) (a0_2 : Int) (a0_3 : Int) (a0_4 : Int) (a0_5 : Int) (a0_6 : Int) (a0_7 : Int) (a0_8 : Int) (a0_9 : Int) (a0_10 : Int) (a0_11 : Int) (a0_12 : Int) (A0_13 : Option Addr) (c0_13 : Nat) (l0_13 : List Int) (r1 : ByteArray) (r2 : Bool) (w : World) (hr0_13 : Kd.C (Kd.int .i64) w A0_13 l0_13.length l0_13) (hc0_13 : l0_13.length ≤ c0_13) (h : clay_Put.f k a0_0 a0_1 a0_2 a0_3 a0_4 a0_5 a0_6 a0_7 a0_8 a0_9 a0_10 a0_11 a0_12 l0_13 = some (r1,r2)) :
    Calls Try.prog 13 #[.agg #[.int .i64 a0_0,.int .i64 a0_1,.int .i64 a0_2,.int .i64 a0_3,.int .i64 a0_4,.int .i64 a0_5,.int .i64 a0_6,.int .i64 a0_7,.int .i64 a0_8,.int .i64 a0_9,.int .i64 a0_10,.int .i64 a0_11,.int .i64 a0_12,.slice A0_13 l0_13.length c0_13]] w fun e w' => e = .returned (.tuple #[.string r1,.bool r2]) ∧ Below w.heap.size w w':=by
 unfold clay_Put.f at h
 rcases hR : clay_Right.f k a0_0 a0_1 a0_2 a0_3 a0_4 a0_5 a0_6 a0_7 a0_8 a0_9 a0_10 a0_11 a0_12 l0_13 with _ | b
 ·rw [hR] at h; cases h
 rw [hR] at h
 rw [Option.bind_some] at h
 have R : Hid (∀ w1,Below w.heap.size w w1 → Calls Try.prog 18 #[.agg #[.int .i64 a0_0,.int .i64 a0_1,.int .i64 a0_2,.int .i64 a0_3,.int .i64 a0_4,.int .i64 a0_5,.int .i64 a0_6,.int .i64 a0_7,.int .i64 a0_8,.int .i64 a0_9,.int .i64 a0_10,.int .i64 a0_11,.int .i64 a0_12,.slice A0_13 l0_13.length c0_13]] w1 fun e w' => e = .returned (.bool b) ∧ Below w1.heap.size w1 w'):=fun w1 hb => clay_Right.calls k a0_0 a0_1 a0_2 a0_3 a0_4 a0_5 a0_6 a0_7 a0_8 a0_9 a0_10 a0_11 a0_12 A0_13 c0_13 l0_13 b w1 (Kd.C_below hr0_13 hb) hc0_13 hR
 cases b with
 | false =>
  obtain ⟨rfl,rfl⟩:=Prod.mk.inj (Option.some.inj h)
  exact Go.Proofs.Ytbjknbfagadhfaa.V.put_no a0_0 a0_1 a0_2 a0_3 a0_4 a0_5 a0_6 a0_7 a0_8 a0_9 a0_10 a0_11 a0_12 A0_13 c0_13 l0_13 w R
 | true =>
  rw [if_pos rfl] at h
  by_cases h1 : a0_1 = 1
  ·rw [if_pos h1] at h
   obtain ⟨rfl,rfl⟩:=Prod.mk.inj (Option.some.inj h)
   exact Go.Proofs.Ytbjknbfagadhfaa.V.put_body a0_0 a0_1 a0_2 a0_3 a0_4 a0_5 a0_6 a0_7 a0_8 a0_9 a0_10 a0_11 a0_12 A0_13 c0_13 l0_13 w R h1
  rw [if_neg h1] at h
  by_cases h2 : a0_1 = 2
  ·rw [if_pos h2] at h
   obtain ⟨rfl,rfl⟩:=Prod.mk.inj (Option.some.inj h)
   exact Go.Proofs.Ytbjknbfagadhfaa.V.put_joint a0_0 a0_1 a0_2 a0_3 a0_4 a0_5 a0_6 a0_7 a0_8 a0_9 a0_10 a0_11 a0_12 A0_13 c0_13 l0_13 w R h2
  rw [if_neg h2] at h
  by_cases h3 : a0_1 = 3
  ·rw [if_pos h3] at h
   by_cases h4 : l0_13.length ≤ 8
   ·rw [if_pos h4] at h
    obtain ⟨rfl,rfl⟩:=Prod.mk.inj (Option.some.inj h)
    exact Go.Proofs.Ytbjknbfagadhfaa.V.put_group a0_0 a0_1 a0_2 a0_3 a0_4 a0_5 a0_6 a0_7 a0_8 a0_9 a0_10 a0_11 a0_12 A0_13 c0_13 l0_13 w hr0_13 h4 R h3
   rw [if_neg h4] at h; cases h
  rw [if_neg h3] at h; cases h

end Go.Proofs.Ytbjknbfagadhfaa.PAll
