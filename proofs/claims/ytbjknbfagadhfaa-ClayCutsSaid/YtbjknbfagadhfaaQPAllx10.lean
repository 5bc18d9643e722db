-- Written by a program of this session, in the manner of the kit's print; it is not the kit's own print.
import Derived.Test.YtbjknbfagadhfaaQPAllx0
import Derived.Test.YtbjknbfagadhfaaQPAllx6
import Derived.Test.YtbjknbfagadhfaaQPAllx9
namespace Go.Proofs.Ytbjknbfagadhfaa.PAll
open Go.RowKit Go.Proofs.YtbjknbfagadhfaaW.PrintWords Go.Proofs.YtbjknbfagadhfaaW.PrintLast Go.Proofs.YtbjknbfagadhfaaW.PrintMore
attribute [local go_sem] max2_int min2_int max_two min_two max_three min_three max_four min_four   -- for this text's walks alone
set_option linter.unusedVariables false
set_option linter.unusedSimpArgs false

/-! ### clay_side: function 83 -/
def clay_side.f (k : Nat) (a0_0 : Int) (a0_1 : ByteArray) (a0_2 : ByteArray) (a1 : ByteArray) : Option (Bool) := (clay_Get.f k a1).bind fun bt183 => (if a1.toList = ([] : List UInt8) then (some true) else (if bt183.2.2.2.2.2.2.2.2.2.2.2.2.2.2 = true then (some (bt183.1 == a0_0)) else (some false)))
theorem clay_side.mono : ∀ a0 a1 a2 a3 k, LeO (clay_side.f k a0 a1 a2 a3) (clay_side.f (k + 1) a0 a1 a2 a3) := by
  intro a0 a1 a2 a3 k
  unfold clay_side.f
  repeat' first
      | (with_reducible exact clay_Get.mono _ _)
      | (with_reducible exact LeO.refl _)
      | (with_reducible exact LeO.none _)
      | (with_reducible refine LeO.ite ?_ ?_)
      | (with_reducible refine LeO.bind ?_ (fun _ => ?_))
      | exact clay_Get.mono _ _
      | exact LeO.none _
      | refine LeO.ite ?_ ?_
      | refine LeO.bind ?_ (fun _ => ?_)
set_option maxHeartbeats 8000000 in
set_option maxRecDepth 100000 in
theorem clay_side.calls (k : Nat) (a0_0 : Int) (a0_1 : ByteArray) (a0_2 : ByteArray) (a1 : ByteArray) (r : Bool) (w : World) (h : clay_side.f k a0_0 a0_1 a0_2 a1 = some r) :
    Calls Try.prog 83 #[.agg #[.int .i64 a0_0,.string a0_1,.string a0_2],.string a1] w fun e w' => e = .returned (.bool r) ∧ Below w.heap.size w w':=by
 have hu73:=Try.underlying73
 have hu31:=Try.underlying31
 have HB:=Aside0.mk (Below.refl w.heap.size w)
 have H : ((clay_Get.f k a1).bind fun bt183 => (if a1.toList = ([] : List UInt8) then (some true) else (if bt183.2.2.2.2.2.2.2.2.2.2.2.2.2.2 = true then (some (bt183.1 == a0_0)) else (some false)))) = some r:=h
 clear h
 replace H:=Option.bind_eq_some_iff.mp H
 obtain ⟨⟨t183,t184,t185,t186,t187,t188,t189,t190,t191,t192,t193,t194,t195,t196,t199⟩,A30,H⟩:=H
 replace H : (if a1.toList = ([] : List UInt8) then (some true) else (if t199 = true then (some (t183 == a0_0)) else (some false))) = some r:=H
 have A3:=Aside0.mk A30
 clear A30
 by_cases c4 : a1.toList = ([] : List UInt8)
 ·rw [if_pos c4] at H
  have c4b0 : (a1.toList == ([] : List UInt8)) = true:=beq_iff_eq.mpr c4
  have c4b1 : (a1.toList != ([] : List UInt8)) = false:=bne_eq_false_iff_eq.mpr c4
  clear c4
  obtain rfl:=Option.some.inj H
  go_enter Try.func83,Try.ntmps83
  go_wp2_with (first | ((with_reducible refine gate_dst (N:=2) rfl ?_); refine box_event ?hg (N:=2) ?hd (cs:=#[.int .i64 a0_0,.string a0_1,.string a0_2]) (t:=73) ?hr ?_; (case hd => rfl); (case hg => rfl); (case hr => first | (go_simp; done) | (go_simp; rfl)); intro gb182 hg w5 hbox hb; have n0_:=Aside0.mk (below_step (by repeat (first | (with_reducible first | exact HB.out | apply below_alloc | apply pw_below_drewN | apply below_drew1) | exact HB.out)) hb); have n1_:=Aside0.mk (hbox); have n2_:=Aside0.mk ((by rw [hg]; exact (below_size (by repeat (first | (with_reducible first | exact HB.out | apply below_alloc | apply pw_below_drewN | apply below_drew1) | exact HB.out))) : w.heap.size ≤ gb182)); have n3_:=Aside0.mk ((by rw [hg]; exact (below_size (by repeat (first | (with_reducible first | exact HB.out | apply below_alloc | apply pw_below_drewN | apply below_drew1) | exact HB.out))) : w.heap.size ≤ gb182)); clear HB; have HB:=n0_; have BK182:=n1_; have GW182:=n2_; have GE182:=n3_; clear n0_ n1_ n2_ n3_; clear hb hbox hg) | ((with_reducible refine gate_callee (f:=15) rfl ?_); refine goesL_ (some 9) rfl rfl Try.func15 (by kernel_rfl) rfl #[.string a1] rfl (by (try simp only [List.map_toArray,List.map_cons,List.map_nil]); first | done | rfl | (simp only [List.length_drop,List.length_take]; rfl) | (simp only [ByteArray.size_append,Int.natCast_add]; rfl) | (simp [ByteArray.size_append,Int.add_assoc]; done)) ?_; (with_reducible refine (clay_Get.calls k a1 t183 t184 t185 t186 t187 t188 t189 t190 t191 t192 t193 t194 t195 t196 t199 _ A3.out).mono ?_); rintro e w6 ⟨v197,rfl,ho0,hb⟩; refine ⟨_,rfl,?_⟩; have n0_:=Aside0.mk (Kd.R_lower ho0 (below_size (by repeat (first | (with_reducible first | exact HB.out | apply below_alloc | apply pw_below_drewN | apply below_drew1 | refine below_set ?_ GE182.out) | exact HB.out)))); have n1_:=Aside0.mk (blk_below (g:=gb182) (o:=.cells #[.int .i64 a0_0,.string a0_1,.string a0_2] 73 (0,0)) (by (with_reducible repeat (first | refine blk_drewN ?_ _ | refine blk_drew ?_ | refine blk_alloc ?_ _)); exact BK182.out) hb); have n2_:=Aside0.mk (below_step (by repeat (first | (with_reducible first | exact HB.out | apply below_alloc | apply pw_below_drewN | apply below_drew1 | refine below_set ?_ GE182.out) | exact HB.out)) hb); clear BK182; clear HB; have HO198:=n0_; have BK182:=n1_; have HB:=n2_; clear n0_ n1_ n2_; (try clear hb); (try clear hb2); (try clear hk); (try clear hi); (try clear ho0)) | ((with_reducible refine gate_dst (N:=5) rfl ?_); refine box_event ?hg (N:=5) ?hd (cs:=#[.int .i64 0,.int .i64 0,.int .i64 0,.int .i64 0,.int .i64 0,.int .i64 0,.int .i64 0,.int .i64 0,.int .i64 0,.int .i64 0,.int .i64 0,.int .i64 0,.int .i64 0,.slice none 0 0]) (t:=31) ?hr ?_; (case hd => rfl); (case hg => rfl); (case hr => first | (go_simp; done) | (go_simp; rfl)); intro gb200 hg w7 hbox hb; have n0_:=Aside0.mk (Kd.R_below (by (with_reducible repeat (first | apply Kd.R_alloc | apply Kd.R_drewN | apply Kd.R_drew)); exact HO198.out) hb); have n1_:=Aside0.mk (blk_below (g:=gb182) (o:=.cells #[.int .i64 a0_0,.string a0_1,.string a0_2] 73 (0,0)) (by (with_reducible repeat (first | refine blk_drewN ?_ _ | refine blk_drew ?_ | refine blk_alloc ?_ _)); exact BK182.out) hb); have n2_:=Aside0.mk (below_step (by repeat (first | (with_reducible first | exact HB.out | apply below_alloc | apply pw_below_drewN | apply below_drew1 | refine below_set ?_ GE182.out) | exact HB.out)) hb); have n3_:=Aside0.mk (hbox); have n4_:=Aside0.mk ((by rw [hg]; exact (below_size (by repeat (first | (with_reducible first | exact HB.out | apply below_alloc | apply pw_below_drewN | apply below_drew1 | refine below_set ?_ GE182.out) | exact HB.out))) : w.heap.size ≤ gb200)); have n5_:=Aside0.mk ((by rw [hg]; exact (below_size (by repeat (first | (with_reducible first | exact HB.out | apply below_alloc | apply pw_below_drewN | apply below_drew1 | refine below_set ?_ GE182.out) | exact HB.out))) : w.heap.size ≤ gb200)); have n6_:=Aside0.mk ((by rw [hg]; exact Nat.ne_of_lt (blk_lt (g:=gb182) (o:=.cells #[.int .i64 a0_0,.string a0_1,.string a0_2] 73 (0,0)) (by (with_reducible repeat (first | refine blk_drewN ?_ _ | refine blk_drew ?_ | refine blk_alloc ?_ _)); exact BK182.out)) : gb182 ≠ gb200)); have n7_:=Aside0.mk ((by rw [hg]; exact Nat.ne_of_gt (blk_lt (g:=gb182) (o:=.cells #[.int .i64 a0_0,.string a0_1,.string a0_2] 73 (0,0)) (by (with_reducible repeat (first | refine blk_drewN ?_ _ | refine blk_drew ?_ | refine blk_alloc ?_ _)); exact BK182.out)) : gb200 ≠ gb182)); clear HO198; clear BK182; clear HB; have HO198:=n0_; have BK182:=n1_; have HB:=n2_; have BK200:=n3_; have GW200:=n4_; have GE200:=n5_; have NB182_200:=n6_; have NB200_182:=n7_; clear n0_ n1_ n2_ n3_ n4_ n5_ n6_ n7_; clear hb hbox hg; have hnb8:=NB200_182.out; have hnc8:=NB182_200.out; obtain ⟨hcz9_0,hcz9_1,hcz9_2,hcz9_3,hcz9_4,hcz9_5,hcz9_6,hcz9_7,hcz9_8,hcz9_9,hcz9_10,hcz9_11,hcz9_12,hcz9_13⟩:=cl14 BK200.out; obtain ⟨hfz9_0,hfz9_1,hfz9_2,hfz9_3,hfz9_4,hfz9_5,hfz9_6,hfz9_7,hfz9_8,hfz9_9,hfz9_10,hfz9_11,hfz9_12,hfz9_13⟩:=fz14 BK200.out; obtain ⟨Ao10,co10,eo10⟩:=Kd.R_slice HO198.out; subst eo10))
  go_ret
  exact ⟨by first | rfl | (simp [errW_none,errW_some] <;> rfl) | (simp [*,errW_none,errW_some] <;> rfl),by repeat (first | (with_reducible first | exact HB.out | apply below_alloc | apply pw_below_drewN | apply below_drew1 | refine below_set ?_ GE182.out | refine below_set ?_ GE200.out) | exact HB.out)⟩
 rw [if_neg c4] at H
 have c4b0 : (a1.toList == ([] : List UInt8)) = false:=beq_eq_false_iff_ne.mpr c4
 have c4b1 : (a1.toList != ([] : List UInt8)) = true:=bne_iff_ne.mpr c4
 by_cases c11 : t199 = true
 ·subst c11
  have H1 : (some (t183 == a0_0)) = some r:=by rw [if_pos rfl] at H; exact H
  clear H
  have H:=H1
  clear H1
  obtain rfl:=Option.some.inj H
  go_enter Try.func83,Try.ntmps83
  go_wp2_with (first | ((with_reducible refine gate_dst (N:=2) rfl ?_); refine box_event ?hg (N:=2) ?hd (cs:=#[.int .i64 a0_0,.string a0_1,.string a0_2]) (t:=73) ?hr ?_; (case hd => rfl); (case hg => rfl); (case hr => first | (go_simp; done) | (go_simp; rfl)); intro gb182 hg w12 hbox hb; have n0_:=Aside0.mk (below_step (by repeat (first | (with_reducible first | exact HB.out | apply below_alloc | apply pw_below_drewN | apply below_drew1) | exact HB.out)) hb); have n1_:=Aside0.mk (hbox); have n2_:=Aside0.mk ((by rw [hg]; exact (below_size (by repeat (first | (with_reducible first | exact HB.out | apply below_alloc | apply pw_below_drewN | apply below_drew1) | exact HB.out))) : w.heap.size ≤ gb182)); have n3_:=Aside0.mk ((by rw [hg]; exact (below_size (by repeat (first | (with_reducible first | exact HB.out | apply below_alloc | apply pw_below_drewN | apply below_drew1) | exact HB.out))) : w.heap.size ≤ gb182)); clear HB; have HB:=n0_; have BK182:=n1_; have GW182:=n2_; have GE182:=n3_; clear n0_ n1_ n2_ n3_; clear hb hbox hg) | ((with_reducible refine gate_callee (f:=15) rfl ?_); refine goesL_ (some 9) rfl rfl Try.func15 (by kernel_rfl) rfl #[.string a1] rfl (by (try simp only [List.map_toArray,List.map_cons,List.map_nil]); first | done | rfl | (simp only [List.length_drop,List.length_take]; rfl) | (simp only [ByteArray.size_append,Int.natCast_add]; rfl) | (simp [ByteArray.size_append,Int.add_assoc]; done)) ?_; (with_reducible refine (clay_Get.calls k a1 t183 t184 t185 t186 t187 t188 t189 t190 t191 t192 t193 t194 t195 t196 true _ A3.out).mono ?_); rintro e w13 ⟨v197,rfl,ho0,hb⟩; refine ⟨_,rfl,?_⟩; have n0_:=Aside0.mk (Kd.R_lower ho0 (below_size (by repeat (first | (with_reducible first | exact HB.out | apply below_alloc | apply pw_below_drewN | apply below_drew1 | refine below_set ?_ GE182.out) | exact HB.out)))); have n1_:=Aside0.mk (blk_below (g:=gb182) (o:=.cells #[.int .i64 a0_0,.string a0_1,.string a0_2] 73 (0,0)) (by (with_reducible repeat (first | refine blk_drewN ?_ _ | refine blk_drew ?_ | refine blk_alloc ?_ _)); exact BK182.out) hb); have n2_:=Aside0.mk (below_step (by repeat (first | (with_reducible first | exact HB.out | apply below_alloc | apply pw_below_drewN | apply below_drew1 | refine below_set ?_ GE182.out) | exact HB.out)) hb); clear BK182; clear HB; have HO198:=n0_; have BK182:=n1_; have HB:=n2_; clear n0_ n1_ n2_; (try clear hb); (try clear hb2); (try clear hk); (try clear hi); (try clear ho0)) | ((with_reducible refine gate_dst (N:=5) rfl ?_); refine box_event ?hg (N:=5) ?hd (cs:=#[.int .i64 0,.int .i64 0,.int .i64 0,.int .i64 0,.int .i64 0,.int .i64 0,.int .i64 0,.int .i64 0,.int .i64 0,.int .i64 0,.int .i64 0,.int .i64 0,.int .i64 0,.slice none 0 0]) (t:=31) ?hr ?_; (case hd => rfl); (case hg => rfl); (case hr => first | (go_simp; done) | (go_simp; rfl)); intro gb200 hg w14 hbox hb; have n0_:=Aside0.mk (Kd.R_below (by (with_reducible repeat (first | apply Kd.R_alloc | apply Kd.R_drewN | apply Kd.R_drew)); exact HO198.out) hb); have n1_:=Aside0.mk (blk_below (g:=gb182) (o:=.cells #[.int .i64 a0_0,.string a0_1,.string a0_2] 73 (0,0)) (by (with_reducible repeat (first | refine blk_drewN ?_ _ | refine blk_drew ?_ | refine blk_alloc ?_ _)); exact BK182.out) hb); have n2_:=Aside0.mk (below_step (by repeat (first | (with_reducible first | exact HB.out | apply below_alloc | apply pw_below_drewN | apply below_drew1 | refine below_set ?_ GE182.out) | exact HB.out)) hb); have n3_:=Aside0.mk (hbox); have n4_:=Aside0.mk ((by rw [hg]; exact (below_size (by repeat (first | (with_reducible first | exact HB.out | apply below_alloc | apply pw_below_drewN | apply below_drew1 | refine below_set ?_ GE182.out) | exact HB.out))) : w.heap.size ≤ gb200)); have n5_:=Aside0.mk ((by rw [hg]; exact (below_size (by repeat (first | (with_reducible first | exact HB.out | apply below_alloc | apply pw_below_drewN | apply below_drew1 | refine below_set ?_ GE182.out) | exact HB.out))) : w.heap.size ≤ gb200)); have n6_:=Aside0.mk ((by rw [hg]; exact Nat.ne_of_lt (blk_lt (g:=gb182) (o:=.cells #[.int .i64 a0_0,.string a0_1,.string a0_2] 73 (0,0)) (by (with_reducible repeat (first | refine blk_drewN ?_ _ | refine blk_drew ?_ | refine blk_alloc ?_ _)); exact BK182.out)) : gb182 ≠ gb200)); have n7_:=Aside0.mk ((by rw [hg]; exact Nat.ne_of_gt (blk_lt (g:=gb182) (o:=.cells #[.int .i64 a0_0,.string a0_1,.string a0_2] 73 (0,0)) (by (with_reducible repeat (first | refine blk_drewN ?_ _ | refine blk_drew ?_ | refine blk_alloc ?_ _)); exact BK182.out)) : gb200 ≠ gb182)); clear HO198; clear BK182; clear HB; have HO198:=n0_; have BK182:=n1_; have HB:=n2_; have BK200:=n3_; have GW200:=n4_; have GE200:=n5_; have NB182_200:=n6_; have NB200_182:=n7_; clear n0_ n1_ n2_ n3_ n4_ n5_ n6_ n7_; clear hb hbox hg; have hnb15:=NB200_182.out; have hnc15:=NB182_200.out; obtain ⟨hcz16_0,hcz16_1,hcz16_2,hcz16_3,hcz16_4,hcz16_5,hcz16_6,hcz16_7,hcz16_8,hcz16_9,hcz16_10,hcz16_11,hcz16_12,hcz16_13⟩:=cl14 BK200.out; obtain ⟨hfz16_0,hfz16_1,hfz16_2,hfz16_3,hfz16_4,hfz16_5,hfz16_6,hfz16_7,hfz16_8,hfz16_9,hfz16_10,hfz16_11,hfz16_12,hfz16_13⟩:=fz14 BK200.out; obtain ⟨Ao17,co17,eo17⟩:=Kd.R_slice HO198.out; subst eo17; obtain ⟨hcz18_0,hcz18_1,hcz18_2⟩:=cl3 BK182.out; obtain ⟨hfz18_0,hfz18_1,hfz18_2⟩:=fz3 BK182.out))
  go_ret
  exact ⟨by first | rfl | (simp [errW_none,errW_some] <;> rfl) | (simp [*,errW_none,errW_some] <;> rfl),by repeat (first | (with_reducible first | exact HB.out | apply below_alloc | apply pw_below_drewN | apply below_drew1 | refine below_set ?_ GE182.out | refine below_set ?_ GE200.out) | exact HB.out)⟩
 replace c11:=Bool.eq_false_iff.mpr c11
 subst c11
 have H1 : (some false) = some r:=by rw [if_neg (show ¬ (false = true) by decide)] at H; exact H
 clear H
 have H:=H1
 clear H1
 obtain rfl:=Option.some.inj H
 go_enter Try.func83,Try.ntmps83
 go_wp2_with (first | ((with_reducible refine gate_dst (N:=2) rfl ?_); refine box_event ?hg (N:=2) ?hd (cs:=#[.int .i64 a0_0,.string a0_1,.string a0_2]) (t:=73) ?hr ?_; (case hd => rfl); (case hg => rfl); (case hr => first | (go_simp; done) | (go_simp; rfl)); intro gb182 hg w19 hbox hb; have n0_:=Aside0.mk (below_step (by repeat (first | (with_reducible first | exact HB.out | apply below_alloc | apply pw_below_drewN | apply below_drew1) | exact HB.out)) hb); have n1_:=Aside0.mk (hbox); have n2_:=Aside0.mk ((by rw [hg]; exact (below_size (by repeat (first | (with_reducible first | exact HB.out | apply below_alloc | apply pw_below_drewN | apply below_drew1) | exact HB.out))) : w.heap.size ≤ gb182)); have n3_:=Aside0.mk ((by rw [hg]; exact (below_size (by repeat (first | (with_reducible first | exact HB.out | apply below_alloc | apply pw_below_drewN | apply below_drew1) | exact HB.out))) : w.heap.size ≤ gb182)); clear HB; have HB:=n0_; have BK182:=n1_; have GW182:=n2_; have GE182:=n3_; clear n0_ n1_ n2_ n3_; clear hb hbox hg) | ((with_reducible refine gate_callee (f:=15) rfl ?_); refine goesL_ (some 9) rfl rfl Try.func15 (by kernel_rfl) rfl #[.string a1] rfl (by (try simp only [List.map_toArray,List.map_cons,List.map_nil]); first | done | rfl | (simp only [List.length_drop,List.length_take]; rfl) | (simp only [ByteArray.size_append,Int.natCast_add]; rfl) | (simp [ByteArray.size_append,Int.add_assoc]; done)) ?_; (with_reducible refine (clay_Get.calls k a1 t183 t184 t185 t186 t187 t188 t189 t190 t191 t192 t193 t194 t195 t196 false _ A3.out).mono ?_); rintro e w20 ⟨v197,rfl,ho0,hb⟩; refine ⟨_,rfl,?_⟩; have n0_:=Aside0.mk (Kd.R_lower ho0 (below_size (by repeat (first | (with_reducible first | exact HB.out | apply below_alloc | apply pw_below_drewN | apply below_drew1 | refine below_set ?_ GE182.out) | exact HB.out)))); have n1_:=Aside0.mk (blk_below (g:=gb182) (o:=.cells #[.int .i64 a0_0,.string a0_1,.string a0_2] 73 (0,0)) (by (with_reducible repeat (first | refine blk_drewN ?_ _ | refine blk_drew ?_ | refine blk_alloc ?_ _)); exact BK182.out) hb); have n2_:=Aside0.mk (below_step (by repeat (first | (with_reducible first | exact HB.out | apply below_alloc | apply pw_below_drewN | apply below_drew1 | refine below_set ?_ GE182.out) | exact HB.out)) hb); clear BK182; clear HB; have HO198:=n0_; have BK182:=n1_; have HB:=n2_; clear n0_ n1_ n2_; (try clear hb); (try clear hb2); (try clear hk); (try clear hi); (try clear ho0)) | ((with_reducible refine gate_dst (N:=5) rfl ?_); refine box_event ?hg (N:=5) ?hd (cs:=#[.int .i64 0,.int .i64 0,.int .i64 0,.int .i64 0,.int .i64 0,.int .i64 0,.int .i64 0,.int .i64 0,.int .i64 0,.int .i64 0,.int .i64 0,.int .i64 0,.int .i64 0,.slice none 0 0]) (t:=31) ?hr ?_; (case hd => rfl); (case hg => rfl); (case hr => first | (go_simp; done) | (go_simp; rfl)); intro gb200 hg w21 hbox hb; have n0_:=Aside0.mk (Kd.R_below (by (with_reducible repeat (first | apply Kd.R_alloc | apply Kd.R_drewN | apply Kd.R_drew)); exact HO198.out) hb); have n1_:=Aside0.mk (blk_below (g:=gb182) (o:=.cells #[.int .i64 a0_0,.string a0_1,.string a0_2] 73 (0,0)) (by (with_reducible repeat (first | refine blk_drewN ?_ _ | refine blk_drew ?_ | refine blk_alloc ?_ _)); exact BK182.out) hb); have n2_:=Aside0.mk (below_step (by repeat (first | (with_reducible first | exact HB.out | apply below_alloc | apply pw_below_drewN | apply below_drew1 | refine below_set ?_ GE182.out) | exact HB.out)) hb); have n3_:=Aside0.mk (hbox); have n4_:=Aside0.mk ((by rw [hg]; exact (below_size (by repeat (first | (with_reducible first | exact HB.out | apply below_alloc | apply pw_below_drewN | apply below_drew1 | refine below_set ?_ GE182.out) | exact HB.out))) : w.heap.size ≤ gb200)); have n5_:=Aside0.mk ((by rw [hg]; exact (below_size (by repeat (first | (with_reducible first | exact HB.out | apply below_alloc | apply pw_below_drewN | apply below_drew1 | refine below_set ?_ GE182.out) | exact HB.out))) : w.heap.size ≤ gb200)); have n6_:=Aside0.mk ((by rw [hg]; exact Nat.ne_of_lt (blk_lt (g:=gb182) (o:=.cells #[.int .i64 a0_0,.string a0_1,.string a0_2] 73 (0,0)) (by (with_reducible repeat (first | refine blk_drewN ?_ _ | refine blk_drew ?_ | refine blk_alloc ?_ _)); exact BK182.out)) : gb182 ≠ gb200)); have n7_:=Aside0.mk ((by rw [hg]; exact Nat.ne_of_gt (blk_lt (g:=gb182) (o:=.cells #[.int .i64 a0_0,.string a0_1,.string a0_2] 73 (0,0)) (by (with_reducible repeat (first | refine blk_drewN ?_ _ | refine blk_drew ?_ | refine blk_alloc ?_ _)); exact BK182.out)) : gb200 ≠ gb182)); clear HO198; clear BK182; clear HB; have HO198:=n0_; have BK182:=n1_; have HB:=n2_; have BK200:=n3_; have GW200:=n4_; have GE200:=n5_; have NB182_200:=n6_; have NB200_182:=n7_; clear n0_ n1_ n2_ n3_ n4_ n5_ n6_ n7_; clear hb hbox hg; have hnb22:=NB200_182.out; have hnc22:=NB182_200.out; obtain ⟨hcz23_0,hcz23_1,hcz23_2,hcz23_3,hcz23_4,hcz23_5,hcz23_6,hcz23_7,hcz23_8,hcz23_9,hcz23_10,hcz23_11,hcz23_12,hcz23_13⟩:=cl14 BK200.out; obtain ⟨hfz23_0,hfz23_1,hfz23_2,hfz23_3,hfz23_4,hfz23_5,hfz23_6,hfz23_7,hfz23_8,hfz23_9,hfz23_10,hfz23_11,hfz23_12,hfz23_13⟩:=fz14 BK200.out; obtain ⟨Ao24,co24,eo24⟩:=Kd.R_slice HO198.out; subst eo24))
 go_ret
 exact ⟨by first | rfl | (simp [errW_none,errW_some] <;> rfl) | (simp [*,errW_none,errW_some] <;> rfl),by repeat (first | (with_reducible first | exact HB.out | apply below_alloc | apply pw_below_drewN | apply below_drew1 | refine below_set ?_ GE182.out | refine below_set ?_ GE200.out) | exact HB.out)⟩

/-! ### world_near: function 104 -/
def world_near.f (a0 : Int) : Option (Bool) := if a0 ≥ (-4294967296000) then (some (decide (a0 ≤ 4294967296000))) else (some false)
set_option maxHeartbeats 8000000 in
set_option maxRecDepth 100000 in
theorem world_near.calls (a0 : Int) (r : Bool) (w : World) (h : world_near.f a0 = some r) :
    Calls Try.prog 104 #[.int .i64 a0] w fun e w' => e = .returned (.bool r) ∧ Drawn0 w w':=by
 have H : (if a0 ≥ (-4294967296000) then (some (decide (a0 ≤ 4294967296000))) else (some false)) = some r:=h
 clear h
 by_cases c2 : a0 ≥ (-4294967296000)
 ·rw [if_pos c2] at H
  have c2b0 : decide ((-4294967296000) ≤ a0) = true:=decide_eq_true c2
  clear c2
  obtain rfl:=Option.some.inj H
  go_enter Try.func104,Try.ntmps104
  go_wp2
  go_ret
  exact ⟨by first | rfl | (simp; done) | (simp [*]; done),by repeat (first | exact Drawn0.refl _ | apply Drawn0.step)⟩
 rw [if_neg c2] at H
 have c2b0 : decide ((-4294967296000) ≤ a0) = false:=decide_eq_false c2
 clear c2
 obtain rfl:=Option.some.inj H
 go_enter Try.func104,Try.ntmps104
 go_wp2
 go_ret
 exact ⟨by first | rfl | (simp; done) | (simp [*]; done),by repeat (first | exact Drawn0.refl _ | apply Drawn0.step)⟩

/-! ### world_Right: function 84 -/
mutual
def world_Right.l0 : Nat → List (S26) → Int → Int → Int → Int → List (S26) → List (S28) → Option (Bool)
  | 0, _, _, _, _, _, _, _ => none
  | k + 1, x8, x9, x10, x202000, x202001, x202002, x202003 => if x10 < x9 then (if 0 ≤ x10 then (if x10 < (x8.length : Int) then ((shape_Right.f k ((rd_T26 x8 x10).f0) ((rd_T26 x8 x10).f1.f0) ((rd_T26 x8 x10).f1.f1) ((rd_T26 x8 x10).f2) ((rd_T26 x8 x10).f3.f0) ((rd_T26 x8 x10).f3.f1) ((rd_T26 x8 x10).f4.f0) ((rd_T26 x8 x10).f4.f1)).bind fun t204 => (if t204 = true then (world_Right.l0 k x8 x9 (wrap64 (x10 + 1)) x202000 x202001 x202002 x202003) else (some false))) else (none)) else (none)) else (world_Right.l1 k x202003 (x202003.length : Int) 0 x202000 x202001 x202002 x202003)
def world_Right.l1 : Nat → List (S28) → Int → Int → Int → Int → List (S26) → List (S28) → Option (Bool)
  | 0, _, _, _, _, _, _, _ => none
  | k + 1, x19, x20, x21, x202000, x202001, x202002, x202003 => if x21 < x20 then (if 0 ≤ x21 then (if x21 < (x19.length : Int) then (if (mn ((rd_T28 x19 x21).f0) ((rd_T28 x19 x21).f1)) < 0 then (some false) else (if (mx ((rd_T28 x19 x21).f0) ((rd_T28 x19 x21).f1)) ≥ (x202002.length : Int) then (some false) else (if ((rd_T28 x19 x21).f0) = ((rd_T28 x19 x21).f1) then (some false) else (if ((rd_T28 x19 x21).f2) < 0 then (some false) else (if ((rd_T28 x19 x21).f2) > 4294967296000 then (some false) else (world_Right.l1 k x19 x20 (wrap64 (x21 + 1)) x202000 x202001 x202002 x202003)))))) else (none)) else (none)) else ((world_near.f x202000).bind fun t207 => (if t207 = true then ((world_near.f x202001).bind fun t208 => (some t208)) else (some false)))
end
def world_Right.f (k : Nat) (a0_0 : Int) (a0_1 : Int) (l0_2 : List (S26)) (l0_3 : List (S28)) : Option (Bool) := world_Right.l0 k l0_2 (l0_2.length : Int) 0 a0_0 a0_1 l0_2 l0_3
theorem world_Right.mono_l : ∀ k, (∀ y0 y1 y2 y3 y4 y5 y6, LeO (world_Right.l0 k y0 y1 y2 y3 y4 y5 y6) (world_Right.l0 (k + 1) y0 y1 y2 y3 y4 y5 y6)) ∧ (∀ y0 y1 y2 y3 y4 y5 y6, LeO (world_Right.l1 k y0 y1 y2 y3 y4 y5 y6) (world_Right.l1 (k + 1) y0 y1 y2 y3 y4 y5 y6))
  | 0 => ⟨fun _ _ _ _ _ _ _ r h => by simp [world_Right.l0] at h, fun _ _ _ _ _ _ _ r h => by simp [world_Right.l1] at h⟩
  | k + 1 => by
    obtain ⟨ih0, ih1⟩ := world_Right.mono_l k
    refine ⟨?_, ?_⟩
    · intro y0 y1 y2 y3 y4 y5 y6
      unfold world_Right.l0
      repeat' first
      | (with_reducible exact ih0 _ _ _ _ _ _ _)
      | (with_reducible exact ih1 _ _ _ _ _ _ _)
      | (with_reducible exact shape_Right.mono _ _ _ _ _ _ _ _ _)
      | (with_reducible exact LeO.refl _)
      | (with_reducible exact LeO.none _)
      | (with_reducible refine LeO.ite ?_ ?_)
      | (with_reducible refine LeO.bind ?_ (fun _ => ?_))
      | exact ih0 _ _ _ _ _ _ _
      | exact ih1 _ _ _ _ _ _ _
      | exact shape_Right.mono _ _ _ _ _ _ _ _ _
      | exact LeO.none _
      | refine LeO.ite ?_ ?_
      | refine LeO.bind ?_ (fun _ => ?_)
    · intro y0 y1 y2 y3 y4 y5 y6
      unfold world_Right.l1
      repeat' first
      | (with_reducible exact ih0 _ _ _ _ _ _ _)
      | (with_reducible exact ih1 _ _ _ _ _ _ _)
      | (with_reducible exact shape_Right.mono _ _ _ _ _ _ _ _ _)
      | (with_reducible exact LeO.refl _)
      | (with_reducible exact LeO.none _)
      | (with_reducible refine LeO.ite ?_ ?_)
      | (with_reducible refine LeO.bind ?_ (fun _ => ?_))
      | exact ih0 _ _ _ _ _ _ _
      | exact ih1 _ _ _ _ _ _ _
      | exact shape_Right.mono _ _ _ _ _ _ _ _ _
      | exact LeO.none _
      | refine LeO.ite ?_ ?_
      | refine LeO.bind ?_ (fun _ => ?_)
theorem world_Right.mono : ∀ a0 a1 a2 a3 k, LeO (world_Right.f k a0 a1 a2 a3) (world_Right.f (k + 1) a0 a1 a2 a3) := by
  intro a0 a1 a2 a3 k
  obtain ⟨ih0, ih1⟩ := world_Right.mono_l k
  unfold world_Right.f
  repeat' first
      | (with_reducible exact ih0 _ _ _ _ _ _ _)
      | (with_reducible exact ih1 _ _ _ _ _ _ _)
      | (with_reducible exact shape_Right.mono _ _ _ _ _ _ _ _ _)
      | (with_reducible exact LeO.refl _)
      | (with_reducible exact LeO.none _)
      | (with_reducible refine LeO.ite ?_ ?_)
      | (with_reducible refine LeO.bind ?_ (fun _ => ?_))
      | exact ih0 _ _ _ _ _ _ _
      | exact ih1 _ _ _ _ _ _ _
      | exact shape_Right.mono _ _ _ _ _ _ _ _ _
      | exact LeO.none _
      | refine LeO.ite ?_ ?_
      | refine LeO.bind ?_ (fun _ => ?_)
set_option maxHeartbeats 8000000 in
set_option maxRecDepth 100000 in
theorem world_Right.calls (k : Nat) (a0_0 : Int) (a0_1 : Int) (A0_2 : Option Addr) (c0_2 : Nat) (l0_2 : List (S26)) (A0_3 : Option Addr) (c0_3 : Nat) (l0_3 : List (S28)) (r : Bool) (w : World) (hr0_2 : Kd.C k26 w A0_2 l0_2.length l0_2) (hc0_2 : l0_2.length ≤ c0_2) (hr0_3 : Kd.C k28 w A0_3 l0_3.length l0_3) (hc0_3 : l0_3.length ≤ c0_3) (h : world_Right.f k a0_0 a0_1 l0_2 l0_3 = some r) :
    Calls Try.prog 84 #[.agg #[.int .i64 a0_0,.int .i64 a0_1,.slice A0_2 l0_2.length c0_2,.slice A0_3 l0_3.length c0_3]] w fun e w' => e = .returned (.bool r) ∧ Below w.heap.size w w':=by
 have hu114:=Try.underlying114
 have hu26:=Try.underlying26
 have hu28:=Try.underlying28
 have HR0_2:=Aside0.mk hr0_2
 have HC0_2:=Aside0.mk hc0_2
 clear hr0_2 hc0_2
 have HR0_3:=Aside0.mk hr0_3
 have HC0_3:=Aside0.mk hc0_3
 clear hr0_3 hc0_3
 have HB:=Aside0.mk (Below.refl w.heap.size w)
 have H : (world_Right.l0 k l0_2 (l0_2.length : Int) 0 a0_0 a0_1 l0_2 l0_3) = some r:=h
 clear h
 have H':=Aside0.mk H
 clear H
 go_enter Try.func84,Try.ntmps84
 go_wp2_with (first | ((with_reducible refine gate_dst (N:=1) rfl ?_); (try (refine gate_guard (by rfl) ?_; dsimp only)); refine box_event ?hg (N:=1) ?hd (cs:=#[.int .i64 a0_0,.int .i64 a0_1,.slice A0_2 l0_2.length c0_2,.slice A0_3 l0_3.length c0_3]) (t:=114) ?hr ?_; (case hd => rfl); (case hg => rfl); (case hr => first | (go_simp; done) | (go_simp; rfl)); intro gb201 hg w2 hbox hb; have n0_:=Aside0.mk (below_step (by repeat (first | (with_reducible first | exact HB.out | apply below_alloc | apply pw_below_drewN | apply below_drew1) | exact HB.out)) hb); have n1_:=Aside0.mk (hbox); have n2_:=Aside0.mk ((by rw [hg]; exact (below_size (by repeat (first | (with_reducible first | exact HB.out | apply below_alloc | apply pw_below_drewN | apply below_drew1) | exact HB.out))) : w.heap.size ≤ gb201)); have n3_:=Aside0.mk ((by rw [hg]; exact (below_size (by repeat (first | (with_reducible first | exact HB.out | apply below_alloc | apply pw_below_drewN | apply below_drew1) | exact HB.out))) : w.heap.size ≤ gb201)); clear HB; have HB:=n0_; have BK201:=n1_; have GW201:=n2_; have GE201:=n3_; clear n0_ n1_ n2_ n3_; clear hb hbox hg; have hcz3_0 : w2.cell? ⟨gb201,0,none⟩ = some (.int .i64 a0_0):=(blk_cell BK201.out 0).trans rfl; have hcz3_1 : w2.cell? ⟨gb201,1,none⟩ = some (.int .i64 a0_1):=(blk_cell BK201.out 1).trans rfl; have hcz3_2 : w2.cell? ⟨gb201,2,none⟩ = some (.slice A0_2 l0_2.length c0_2):=(blk_cell BK201.out 2).trans rfl; have hcz3_3 : w2.cell? ⟨gb201,3,none⟩ = some (.slice A0_3 l0_3.length c0_3):=(blk_cell BK201.out 3).trans rfl; have hfz3_0:=blk_frozen BK201.out 0; have hfz3_1:=blk_frozen BK201.out 1; have hfz3_2:=blk_frozen BK201.out 2; have hfz3_3:=blk_frozen BK201.out 3))
 go_loopg [10] k (fun kq v10 w' => ∃ (x10_1 : Int),v10 = .int .i64 x10_1 ∧ Aside0 (world_Right.l0 kq l0_2 (l0_2.length : Int) x10_1 a0_0 a0_1 l0_2 l0_3 = some r) ∧ Aside0 (kq ≤ k) ∧ Aside0 (w'.heap[gb201]? = some (.cells #[.int .i64 a0_0,.int .i64 a0_1,(.slice A0_2 l0_2.length c0_2),(.slice A0_3 l0_3.length c0_3)] 114 (0,0))) ∧ Aside0 (Below w.heap.size w w'))
 case atStart => exact ⟨(0),(by first | rfl | (simp; done) | (simp [*]; done)),H',⟨Nat.le_refl _⟩,⟨by (with_reducible repeat (first | refine blk_drewN ?_ _ | refine blk_drew ?_ | refine blk_alloc ?_ _)); exact BK201.out⟩,⟨by repeat (first | (with_reducible first | exact HB.out | apply below_alloc | apply pw_below_drewN | apply below_drew1 | refine below_set ?_ GE201.out) | exact HB.out)⟩⟩
 clear H'
 (try clear p2); (try clear hcz3_0); (try clear hcz3_1); (try clear hcz3_2); (try clear hcz3_3); (try clear hfz3_0); (try clear hfz3_1); (try clear hfz3_2); (try clear hfz3_3)
 obtain ⟨x10_1,rfl,HA,HK1,BK201,HB⟩:=hrel
 cases gk with
 | zero => exact absurd HA.out (by simp [world_Right.l0])
 | succ k1 =>
  have H:=HA.out
  clear HA
  simp only [world_Right.l0] at H
  by_cases c4 : x10_1 < (l0_2.length : Int)
  ·rw [if_pos c4] at H
   have c4b0 : decide (x10_1 < (l0_2.length : Int)) = true:=decide_eq_true c4
   clear c4
   by_cases c5 : 0 ≤ x10_1
   ·rw [if_pos c5] at H
    have c5b0 : decide (0 ≤ x10_1) = true:=decide_eq_true c5
    clear c5
    by_cases c6 : x10_1 < (l0_2.length : Int)
    ·rw [if_pos c6] at H
     have c6b0 : decide (x10_1 < (l0_2.length : Int)) = true:=decide_eq_true c6
     clear c6
     replace H:=Option.bind_eq_some_iff.mp H
     obtain ⟨t204,A70,H⟩:=H
     replace H : (if t204 = true then (world_Right.l0 k1 l0_2 (l0_2.length : Int) (wrap64 (x10_1 + 1)) a0_0 a0_1 l0_2 l0_3) else (some false)) = some r:=H
     have A7:=Aside0.mk A70
     clear A70
     by_cases c8 : t204 = true
     ·subst c8
      have H1 : (world_Right.l0 k1 l0_2 (l0_2.length : Int) (wrap64 (x10_1 + 1)) a0_0 a0_1 l0_2 l0_3) = some r:=by rw [if_pos rfl] at H; exact H
      clear H
      have H:=H1
      clear H1
      have H':=Aside0.mk H
      clear H
      have p202 : 0 ≤ (x10_1 : Int):=of_decide_eq_true (by first | (with_reducible assumption) | assumption)
      have q202 : x10_1 < (l0_2.length : Int):=of_decide_eq_true (by first | (with_reducible assumption) | assumption)
      obtain ⟨ad202,e202,hx202_0,hx202_1,hx202_2,hx202_3,hx202_4,hx202_5,hx202_6,hx202_7⟩:=at_T26 HR0_2.out x10_1 p202 q202
      cases e202
      replace hx202_0:=(HB.out.cell (World.block_lt_of_cell? w _ hx202_0)).trans hx202_0
      replace hx202_1:=(HB.out.cell (World.block_lt_of_cell? w _ hx202_1)).trans hx202_1
      replace hx202_2:=(HB.out.cell (World.block_lt_of_cell? w _ hx202_2)).trans hx202_2
      replace hx202_3:=(HB.out.cell (World.block_lt_of_cell? w _ hx202_3)).trans hx202_3
      replace hx202_4:=(HB.out.cell (World.block_lt_of_cell? w _ hx202_4)).trans hx202_4
      replace hx202_5:=(HB.out.cell (World.block_lt_of_cell? w _ hx202_5)).trans hx202_5
      replace hx202_6:=(HB.out.cell (World.block_lt_of_cell? w _ hx202_6)).trans hx202_6
      replace hx202_7:=(HB.out.cell (World.block_lt_of_cell? w _ hx202_7)).trans hx202_7
      replace p202:=eq_true p202
      replace q202:=eq_true q202
      go_wp2_with (first | ((with_reducible refine gate_dst (N:=4) rfl ?_); (try (refine gate_guard (by rfl) ?_; dsimp only)); refine box_event ?hg (N:=4) ?hd (cs:=#[.int .i64 0,.int .i64 0,.int .i64 0,.int .i64 0,.int .i64 0,.int .i64 0,.int .i64 0,.int .i64 0]) (t:=26) ?hr ?_; (case hd => rfl); (case hg => rfl); (case hr => first | (go_simp; done) | (go_simp; rfl)); intro gb203 hg w9 hbox hb; have n0_:=Aside0.mk (blk_below (g:=gb201) (o:=.cells #[.int .i64 a0_0,.int .i64 a0_1,.slice (some ad202) l0_2.length c0_2,.slice A0_3 l0_3.length c0_3] 114 (0,0)) (by (with_reducible repeat (first | refine blk_drewN ?_ _ | refine blk_drew ?_ | refine blk_alloc ?_ _)); exact BK201.out) hb); have n1_:=Aside0.mk (below_step (by repeat (first | (with_reducible first | exact HB.out | apply below_alloc | apply pw_below_drewN | apply below_drew1 | refine below_set ?_ GE201.out) | exact HB.out)) hb); have n2_:=Aside0.mk (hbox); have n3_:=Aside0.mk ((by rw [hg]; exact (below_size (by repeat (first | (with_reducible first | exact HB.out | apply below_alloc | apply pw_below_drewN | apply below_drew1 | refine below_set ?_ GE201.out) | exact HB.out))) : w.heap.size ≤ gb203)); have n4_:=Aside0.mk ((by rw [hg]; exact (below_size (by repeat (first | (with_reducible first | exact HB.out | apply below_alloc | apply pw_below_drewN | apply below_drew1 | refine below_set ?_ GE201.out) | exact HB.out))) : w.heap.size ≤ gb203)); have n5_:=Aside0.mk ((by rw [hg]; exact Nat.ne_of_lt (blk_lt (g:=gb201) (o:=.cells #[.int .i64 a0_0,.int .i64 a0_1,.slice (some ad202) l0_2.length c0_2,.slice A0_3 l0_3.length c0_3] 114 (0,0)) (by (with_reducible repeat (first | refine blk_drewN ?_ _ | refine blk_drew ?_ | refine blk_alloc ?_ _)); exact BK201.out)) : gb201 ≠ gb203)); have n6_:=Aside0.mk ((by rw [hg]; exact Nat.ne_of_gt (blk_lt (g:=gb201) (o:=.cells #[.int .i64 a0_0,.int .i64 a0_1,.slice (some ad202) l0_2.length c0_2,.slice A0_3 l0_3.length c0_3] 114 (0,0)) (by (with_reducible repeat (first | refine blk_drewN ?_ _ | refine blk_drew ?_ | refine blk_alloc ?_ _)); exact BK201.out)) : gb203 ≠ gb201)); clear BK201; clear HB; have BK201:=n0_; have HB:=n1_; have BK203:=n2_; have GW203:=n3_; have GE203:=n4_; have NB201_203:=n5_; have NB203_201:=n6_; clear n0_ n1_ n2_ n3_ n4_ n5_ n6_; clear hb hbox hg; have hnb10:=NB203_201.out; have hnc10:=NB201_203.out; obtain ⟨hcz11_0,hcz11_1,hcz11_2,hcz11_3,hcz11_4,hcz11_5,hcz11_6,hcz11_7⟩:=cl8 BK203.out; obtain ⟨hfz11_0,hfz11_1,hfz11_2,hfz11_3,hfz11_4,hfz11_5,hfz11_6,hfz11_7⟩:=fz8 BK203.out) | ((with_reducible refine gate_callee (f:=47) rfl ?_); refine goesL_ (some 15) rfl rfl Try.func47 (by kernel_rfl) rfl #[.agg #[.int .i64 ((rd_T26 l0_2 x10_1).f0),.int .i64 ((rd_T26 l0_2 x10_1).f1.f0),.int .i64 ((rd_T26 l0_2 x10_1).f1.f1),.int .i64 ((rd_T26 l0_2 x10_1).f2),.int .i64 ((rd_T26 l0_2 x10_1).f3.f0),.int .i64 ((rd_T26 l0_2 x10_1).f3.f1),.int .i64 ((rd_T26 l0_2 x10_1).f4.f0),.int .i64 ((rd_T26 l0_2 x10_1).f4.f1)]] rfl (by (try simp only [List.map_toArray,List.map_cons,List.map_nil]); first | done | rfl | (simp only [List.length_drop,List.length_take]; rfl) | (simp only [ByteArray.size_append,Int.natCast_add]; rfl) | (simp [ByteArray.size_append,Int.add_assoc]; done)) ?_; (with_reducible refine (shape_Right.calls k1 ((rd_T26 l0_2 x10_1).f0) ((rd_T26 l0_2 x10_1).f1.f0) ((rd_T26 l0_2 x10_1).f1.f1) ((rd_T26 l0_2 x10_1).f2) ((rd_T26 l0_2 x10_1).f3.f0) ((rd_T26 l0_2 x10_1).f3.f1) ((rd_T26 l0_2 x10_1).f4.f0) ((rd_T26 l0_2 x10_1).f4.f1) true _ A7.out).mono ?_); rintro e w12 ⟨rfl,hb⟩; refine ⟨_,rfl,?_⟩; have n0_:=Aside0.mk (blk_below (g:=gb201) (o:=.cells #[.int .i64 a0_0,.int .i64 a0_1,.slice (some ad202) l0_2.length c0_2,.slice A0_3 l0_3.length c0_3] 114 (0,0)) (by (with_reducible repeat (first | refine blk_drewN ?_ _ | refine blk_drew ?_ | refine blk_alloc ?_ _)); refine blk_far ?_ NB201_203.out _; (with_reducible repeat (first | refine blk_drewN ?_ _ | refine blk_drew ?_ | refine blk_alloc ?_ _)); refine blk_far ?_ NB201_203.out _; (with_reducible repeat (first | refine blk_drewN ?_ _ | refine blk_drew ?_ | refine blk_alloc ?_ _)); refine blk_far ?_ NB201_203.out _; (with_reducible repeat (first | refine blk_drewN ?_ _ | refine blk_drew ?_ | refine blk_alloc ?_ _)); refine blk_far ?_ NB201_203.out _; (with_reducible repeat (first | refine blk_drewN ?_ _ | refine blk_drew ?_ | refine blk_alloc ?_ _)); refine blk_far ?_ NB201_203.out _; (with_reducible repeat (first | refine blk_drewN ?_ _ | refine blk_drew ?_ | refine blk_alloc ?_ _)); refine blk_far ?_ NB201_203.out _; (with_reducible repeat (first | refine blk_drewN ?_ _ | refine blk_drew ?_ | refine blk_alloc ?_ _)); refine blk_far ?_ NB201_203.out _; (with_reducible repeat (first | refine blk_drewN ?_ _ | refine blk_drew ?_ | refine blk_alloc ?_ _)); refine blk_far ?_ NB201_203.out _; (with_reducible repeat (first | refine blk_drewN ?_ _ | refine blk_drew ?_ | refine blk_alloc ?_ _)); exact BK201.out) hb); have n1_:=Aside0.mk (blk_below (g:=gb203) (o:=.cells #[.int .i64 ((rd_T26 l0_2 x10_1).f0),.int .i64 ((rd_T26 l0_2 x10_1).f1.f0),.int .i64 ((rd_T26 l0_2 x10_1).f1.f1),.int .i64 ((rd_T26 l0_2 x10_1).f2),.int .i64 ((rd_T26 l0_2 x10_1).f3.f0),.int .i64 ((rd_T26 l0_2 x10_1).f3.f1),.int .i64 ((rd_T26 l0_2 x10_1).f4.f0),.int .i64 ((rd_T26 l0_2 x10_1).f4.f1)] 26 (0,0)) (by (with_reducible repeat (first | refine blk_drewN ?_ _ | refine blk_drew ?_ | refine blk_alloc ?_ _)); refine blk_put (cs:=#[.int .i64 ((rd_T26 l0_2 x10_1).f0),.int .i64 ((rd_T26 l0_2 x10_1).f1.f0),.int .i64 ((rd_T26 l0_2 x10_1).f1.f1),.int .i64 ((rd_T26 l0_2 x10_1).f2),.int .i64 ((rd_T26 l0_2 x10_1).f3.f0),.int .i64 ((rd_T26 l0_2 x10_1).f3.f1),.int .i64 ((rd_T26 l0_2 x10_1).f4.f0),.int .i64 0]) ?_ 7 _ rfl; (with_reducible repeat (first | refine blk_drewN ?_ _ | refine blk_drew ?_ | refine blk_alloc ?_ _)); refine blk_put (cs:=#[.int .i64 ((rd_T26 l0_2 x10_1).f0),.int .i64 ((rd_T26 l0_2 x10_1).f1.f0),.int .i64 ((rd_T26 l0_2 x10_1).f1.f1),.int .i64 ((rd_T26 l0_2 x10_1).f2),.int .i64 ((rd_T26 l0_2 x10_1).f3.f0),.int .i64 ((rd_T26 l0_2 x10_1).f3.f1),.int .i64 0,.int .i64 0]) ?_ 6 _ rfl; (with_reducible repeat (first | refine blk_drewN ?_ _ | refine blk_drew ?_ | refine blk_alloc ?_ _)); refine blk_put (cs:=#[.int .i64 ((rd_T26 l0_2 x10_1).f0),.int .i64 ((rd_T26 l0_2 x10_1).f1.f0),.int .i64 ((rd_T26 l0_2 x10_1).f1.f1),.int .i64 ((rd_T26 l0_2 x10_1).f2),.int .i64 ((rd_T26 l0_2 x10_1).f3.f0),.int .i64 0,.int .i64 0,.int .i64 0]) ?_ 5 _ rfl; (with_reducible repeat (first | refine blk_drewN ?_ _ | refine blk_drew ?_ | refine blk_alloc ?_ _)); refine blk_put (cs:=#[.int .i64 ((rd_T26 l0_2 x10_1).f0),.int .i64 ((rd_T26 l0_2 x10_1).f1.f0),.int .i64 ((rd_T26 l0_2 x10_1).f1.f1),.int .i64 ((rd_T26 l0_2 x10_1).f2),.int .i64 0,.int .i64 0,.int .i64 0,.int .i64 0]) ?_ 4 _ rfl; (with_reducible repeat (first | refine blk_drewN ?_ _ | refine blk_drew ?_ | refine blk_alloc ?_ _)); refine blk_put (cs:=#[.int .i64 ((rd_T26 l0_2 x10_1).f0),.int .i64 ((rd_T26 l0_2 x10_1).f1.f0),.int .i64 ((rd_T26 l0_2 x10_1).f1.f1),.int .i64 0,.int .i64 0,.int .i64 0,.int .i64 0,.int .i64 0]) ?_ 3 _ rfl; (with_reducible repeat (first | refine blk_drewN ?_ _ | refine blk_drew ?_ | refine blk_alloc ?_ _)); refine blk_put (cs:=#[.int .i64 ((rd_T26 l0_2 x10_1).f0),.int .i64 ((rd_T26 l0_2 x10_1).f1.f0),.int .i64 0,.int .i64 0,.int .i64 0,.int .i64 0,.int .i64 0,.int .i64 0]) ?_ 2 _ rfl; (with_reducible repeat (first | refine blk_drewN ?_ _ | refine blk_drew ?_ | refine blk_alloc ?_ _)); refine blk_put (cs:=#[.int .i64 ((rd_T26 l0_2 x10_1).f0),.int .i64 0,.int .i64 0,.int .i64 0,.int .i64 0,.int .i64 0,.int .i64 0,.int .i64 0]) ?_ 1 _ rfl; (with_reducible repeat (first | refine blk_drewN ?_ _ | refine blk_drew ?_ | refine blk_alloc ?_ _)); refine blk_put (cs:=#[.int .i64 0,.int .i64 0,.int .i64 0,.int .i64 0,.int .i64 0,.int .i64 0,.int .i64 0,.int .i64 0]) ?_ 0 _ rfl; (with_reducible repeat (first | refine blk_drewN ?_ _ | refine blk_drew ?_ | refine blk_alloc ?_ _)); exact BK203.out) hb); have n2_:=Aside0.mk (below_step (by repeat (first | (with_reducible first | exact HB.out | apply below_alloc | apply pw_below_drewN | apply below_drew1 | refine below_set ?_ GE201.out | refine below_set ?_ GE203.out) | exact HB.out)) hb); clear BK201; clear BK203; clear HB; have BK201:=n0_; have BK203:=n1_; have HB:=n2_; clear n0_ n1_ n2_; (try clear hb); (try clear hb2); (try clear hk); (try clear hi)))
      go_roundg k1
      case measure => have:=HK1.out; omega
      case rel => exact ⟨(wrap64 (x10_1 + 1)),(by first | rfl | (simp; done) | (simp [*]; done)),H',⟨by have:=HK1.out; omega⟩,⟨by (with_reducible repeat (first | refine blk_drewN ?_ _ | refine blk_drew ?_ | refine blk_alloc ?_ _)); exact BK201.out⟩,⟨by repeat (first | (with_reducible first | exact HB.out | apply below_alloc | apply pw_below_drewN | apply below_drew1 | refine below_set ?_ GE201.out | refine below_set ?_ GE203.out) | exact HB.out)⟩⟩
     replace c8:=Bool.eq_false_iff.mpr c8
     subst c8
     have H1 : (some false) = some r:=by rw [if_neg (show ¬ (false = true) by decide)] at H; exact H
     clear H
     have H:=H1
     clear H1
     obtain rfl:=Option.some.inj H
     have p202 : 0 ≤ (x10_1 : Int):=of_decide_eq_true (by first | (with_reducible assumption) | assumption)
     have q202 : x10_1 < (l0_2.length : Int):=of_decide_eq_true (by first | (with_reducible assumption) | assumption)
     obtain ⟨ad202,e202,hx202_0,hx202_1,hx202_2,hx202_3,hx202_4,hx202_5,hx202_6,hx202_7⟩:=at_T26 HR0_2.out x10_1 p202 q202
     cases e202
     replace hx202_0:=(HB.out.cell (World.block_lt_of_cell? w _ hx202_0)).trans hx202_0
     replace hx202_1:=(HB.out.cell (World.block_lt_of_cell? w _ hx202_1)).trans hx202_1
     replace hx202_2:=(HB.out.cell (World.block_lt_of_cell? w _ hx202_2)).trans hx202_2
     replace hx202_3:=(HB.out.cell (World.block_lt_of_cell? w _ hx202_3)).trans hx202_3
     replace hx202_4:=(HB.out.cell (World.block_lt_of_cell? w _ hx202_4)).trans hx202_4
     replace hx202_5:=(HB.out.cell (World.block_lt_of_cell? w _ hx202_5)).trans hx202_5
     replace hx202_6:=(HB.out.cell (World.block_lt_of_cell? w _ hx202_6)).trans hx202_6
     replace hx202_7:=(HB.out.cell (World.block_lt_of_cell? w _ hx202_7)).trans hx202_7
     replace p202:=eq_true p202
     replace q202:=eq_true q202
     go_wp2_with (first | ((with_reducible refine gate_dst (N:=4) rfl ?_); (try (refine gate_guard (by rfl) ?_; dsimp only)); refine box_event ?hg (N:=4) ?hd (cs:=#[.int .i64 0,.int .i64 0,.int .i64 0,.int .i64 0,.int .i64 0,.int .i64 0,.int .i64 0,.int .i64 0]) (t:=26) ?hr ?_; (case hd => rfl); (case hg => rfl); (case hr => first | (go_simp; done) | (go_simp; rfl)); intro gb203 hg w13 hbox hb; have n0_:=Aside0.mk (blk_below (g:=gb201) (o:=.cells #[.int .i64 a0_0,.int .i64 a0_1,.slice (some ad202) l0_2.length c0_2,.slice A0_3 l0_3.length c0_3] 114 (0,0)) (by (with_reducible repeat (first | refine blk_drewN ?_ _ | refine blk_drew ?_ | refine blk_alloc ?_ _)); exact BK201.out) hb); have n1_:=Aside0.mk (below_step (by repeat (first | (with_reducible first | exact HB.out | apply below_alloc | apply pw_below_drewN | apply below_drew1 | refine below_set ?_ GE201.out) | exact HB.out)) hb); have n2_:=Aside0.mk (hbox); have n3_:=Aside0.mk ((by rw [hg]; exact (below_size (by repeat (first | (with_reducible first | exact HB.out | apply below_alloc | apply pw_below_drewN | apply below_drew1 | refine below_set ?_ GE201.out) | exact HB.out))) : w.heap.size ≤ gb203)); have n4_:=Aside0.mk ((by rw [hg]; exact (below_size (by repeat (first | (with_reducible first | exact HB.out | apply below_alloc | apply pw_below_drewN | apply below_drew1 | refine below_set ?_ GE201.out) | exact HB.out))) : w.heap.size ≤ gb203)); have n5_:=Aside0.mk ((by rw [hg]; exact Nat.ne_of_lt (blk_lt (g:=gb201) (o:=.cells #[.int .i64 a0_0,.int .i64 a0_1,.slice (some ad202) l0_2.length c0_2,.slice A0_3 l0_3.length c0_3] 114 (0,0)) (by (with_reducible repeat (first | refine blk_drewN ?_ _ | refine blk_drew ?_ | refine blk_alloc ?_ _)); exact BK201.out)) : gb201 ≠ gb203)); have n6_:=Aside0.mk ((by rw [hg]; exact Nat.ne_of_gt (blk_lt (g:=gb201) (o:=.cells #[.int .i64 a0_0,.int .i64 a0_1,.slice (some ad202) l0_2.length c0_2,.slice A0_3 l0_3.length c0_3] 114 (0,0)) (by (with_reducible repeat (first | refine blk_drewN ?_ _ | refine blk_drew ?_ | refine blk_alloc ?_ _)); exact BK201.out)) : gb203 ≠ gb201)); clear BK201; clear HB; have BK201:=n0_; have HB:=n1_; have BK203:=n2_; have GW203:=n3_; have GE203:=n4_; have NB201_203:=n5_; have NB203_201:=n6_; clear n0_ n1_ n2_ n3_ n4_ n5_ n6_; clear hb hbox hg; have hnb14:=NB203_201.out; have hnc14:=NB201_203.out; obtain ⟨hcz15_0,hcz15_1,hcz15_2,hcz15_3,hcz15_4,hcz15_5,hcz15_6,hcz15_7⟩:=cl8 BK203.out; obtain ⟨hfz15_0,hfz15_1,hfz15_2,hfz15_3,hfz15_4,hfz15_5,hfz15_6,hfz15_7⟩:=fz8 BK203.out) | ((with_reducible refine gate_callee (f:=47) rfl ?_); refine goesL_ (some 15) rfl rfl Try.func47 (by kernel_rfl) rfl #[.agg #[.int .i64 ((rd_T26 l0_2 x10_1).f0),.int .i64 ((rd_T26 l0_2 x10_1).f1.f0),.int .i64 ((rd_T26 l0_2 x10_1).f1.f1),.int .i64 ((rd_T26 l0_2 x10_1).f2),.int .i64 ((rd_T26 l0_2 x10_1).f3.f0),.int .i64 ((rd_T26 l0_2 x10_1).f3.f1),.int .i64 ((rd_T26 l0_2 x10_1).f4.f0),.int .i64 ((rd_T26 l0_2 x10_1).f4.f1)]] rfl (by (try simp only [List.map_toArray,List.map_cons,List.map_nil]); first | done | rfl | (simp only [List.length_drop,List.length_take]; rfl) | (simp only [ByteArray.size_append,Int.natCast_add]; rfl) | (simp [ByteArray.size_append,Int.add_assoc]; done)) ?_; (with_reducible refine (shape_Right.calls k1 ((rd_T26 l0_2 x10_1).f0) ((rd_T26 l0_2 x10_1).f1.f0) ((rd_T26 l0_2 x10_1).f1.f1) ((rd_T26 l0_2 x10_1).f2) ((rd_T26 l0_2 x10_1).f3.f0) ((rd_T26 l0_2 x10_1).f3.f1) ((rd_T26 l0_2 x10_1).f4.f0) ((rd_T26 l0_2 x10_1).f4.f1) false _ A7.out).mono ?_); rintro e w16 ⟨rfl,hb⟩; refine ⟨_,rfl,?_⟩; have n0_:=Aside0.mk (blk_below (g:=gb201) (o:=.cells #[.int .i64 a0_0,.int .i64 a0_1,.slice (some ad202) l0_2.length c0_2,.slice A0_3 l0_3.length c0_3] 114 (0,0)) (by (with_reducible repeat (first | refine blk_drewN ?_ _ | refine blk_drew ?_ | refine blk_alloc ?_ _)); refine blk_far ?_ NB201_203.out _; (with_reducible repeat (first | refine blk_drewN ?_ _ | refine blk_drew ?_ | refine blk_alloc ?_ _)); refine blk_far ?_ NB201_203.out _; (with_reducible repeat (first | refine blk_drewN ?_ _ | refine blk_drew ?_ | refine blk_alloc ?_ _)); refine blk_far ?_ NB201_203.out _; (with_reducible repeat (first | refine blk_drewN ?_ _ | refine blk_drew ?_ | refine blk_alloc ?_ _)); refine blk_far ?_ NB201_203.out _; (with_reducible repeat (first | refine blk_drewN ?_ _ | refine blk_drew ?_ | refine blk_alloc ?_ _)); refine blk_far ?_ NB201_203.out _; (with_reducible repeat (first | refine blk_drewN ?_ _ | refine blk_drew ?_ | refine blk_alloc ?_ _)); refine blk_far ?_ NB201_203.out _; (with_reducible repeat (first | refine blk_drewN ?_ _ | refine blk_drew ?_ | refine blk_alloc ?_ _)); refine blk_far ?_ NB201_203.out _; (with_reducible repeat (first | refine blk_drewN ?_ _ | refine blk_drew ?_ | refine blk_alloc ?_ _)); refine blk_far ?_ NB201_203.out _; (with_reducible repeat (first | refine blk_drewN ?_ _ | refine blk_drew ?_ | refine blk_alloc ?_ _)); exact BK201.out) hb); have n1_:=Aside0.mk (blk_below (g:=gb203) (o:=.cells #[.int .i64 ((rd_T26 l0_2 x10_1).f0),.int .i64 ((rd_T26 l0_2 x10_1).f1.f0),.int .i64 ((rd_T26 l0_2 x10_1).f1.f1),.int .i64 ((rd_T26 l0_2 x10_1).f2),.int .i64 ((rd_T26 l0_2 x10_1).f3.f0),.int .i64 ((rd_T26 l0_2 x10_1).f3.f1),.int .i64 ((rd_T26 l0_2 x10_1).f4.f0),.int .i64 ((rd_T26 l0_2 x10_1).f4.f1)] 26 (0,0)) (by (with_reducible repeat (first | refine blk_drewN ?_ _ | refine blk_drew ?_ | refine blk_alloc ?_ _)); refine blk_put (cs:=#[.int .i64 ((rd_T26 l0_2 x10_1).f0),.int .i64 ((rd_T26 l0_2 x10_1).f1.f0),.int .i64 ((rd_T26 l0_2 x10_1).f1.f1),.int .i64 ((rd_T26 l0_2 x10_1).f2),.int .i64 ((rd_T26 l0_2 x10_1).f3.f0),.int .i64 ((rd_T26 l0_2 x10_1).f3.f1),.int .i64 ((rd_T26 l0_2 x10_1).f4.f0),.int .i64 0]) ?_ 7 _ rfl; (with_reducible repeat (first | refine blk_drewN ?_ _ | refine blk_drew ?_ | refine blk_alloc ?_ _)); refine blk_put (cs:=#[.int .i64 ((rd_T26 l0_2 x10_1).f0),.int .i64 ((rd_T26 l0_2 x10_1).f1.f0),.int .i64 ((rd_T26 l0_2 x10_1).f1.f1),.int .i64 ((rd_T26 l0_2 x10_1).f2),.int .i64 ((rd_T26 l0_2 x10_1).f3.f0),.int .i64 ((rd_T26 l0_2 x10_1).f3.f1),.int .i64 0,.int .i64 0]) ?_ 6 _ rfl; (with_reducible repeat (first | refine blk_drewN ?_ _ | refine blk_drew ?_ | refine blk_alloc ?_ _)); refine blk_put (cs:=#[.int .i64 ((rd_T26 l0_2 x10_1).f0),.int .i64 ((rd_T26 l0_2 x10_1).f1.f0),.int .i64 ((rd_T26 l0_2 x10_1).f1.f1),.int .i64 ((rd_T26 l0_2 x10_1).f2),.int .i64 ((rd_T26 l0_2 x10_1).f3.f0),.int .i64 0,.int .i64 0,.int .i64 0]) ?_ 5 _ rfl; (with_reducible repeat (first | refine blk_drewN ?_ _ | refine blk_drew ?_ | refine blk_alloc ?_ _)); refine blk_put (cs:=#[.int .i64 ((rd_T26 l0_2 x10_1).f0),.int .i64 ((rd_T26 l0_2 x10_1).f1.f0),.int .i64 ((rd_T26 l0_2 x10_1).f1.f1),.int .i64 ((rd_T26 l0_2 x10_1).f2),.int .i64 0,.int .i64 0,.int .i64 0,.int .i64 0]) ?_ 4 _ rfl; (with_reducible repeat (first | refine blk_drewN ?_ _ | refine blk_drew ?_ | refine blk_alloc ?_ _)); refine blk_put (cs:=#[.int .i64 ((rd_T26 l0_2 x10_1).f0),.int .i64 ((rd_T26 l0_2 x10_1).f1.f0),.int .i64 ((rd_T26 l0_2 x10_1).f1.f1),.int .i64 0,.int .i64 0,.int .i64 0,.int .i64 0,.int .i64 0]) ?_ 3 _ rfl; (with_reducible repeat (first | refine blk_drewN ?_ _ | refine blk_drew ?_ | refine blk_alloc ?_ _)); refine blk_put (cs:=#[.int .i64 ((rd_T26 l0_2 x10_1).f0),.int .i64 ((rd_T26 l0_2 x10_1).f1.f0),.int .i64 0,.int .i64 0,.int .i64 0,.int .i64 0,.int .i64 0,.int .i64 0]) ?_ 2 _ rfl; (with_reducible repeat (first | refine blk_drewN ?_ _ | refine blk_drew ?_ | refine blk_alloc ?_ _)); refine blk_put (cs:=#[.int .i64 ((rd_T26 l0_2 x10_1).f0),.int .i64 0,.int .i64 0,.int .i64 0,.int .i64 0,.int .i64 0,.int .i64 0,.int .i64 0]) ?_ 1 _ rfl; (with_reducible repeat (first | refine blk_drewN ?_ _ | refine blk_drew ?_ | refine blk_alloc ?_ _)); refine blk_put (cs:=#[.int .i64 0,.int .i64 0,.int .i64 0,.int .i64 0,.int .i64 0,.int .i64 0,.int .i64 0,.int .i64 0]) ?_ 0 _ rfl; (with_reducible repeat (first | refine blk_drewN ?_ _ | refine blk_drew ?_ | refine blk_alloc ?_ _)); exact BK203.out) hb); have n2_:=Aside0.mk (below_step (by repeat (first | (with_reducible first | exact HB.out | apply below_alloc | apply pw_below_drewN | apply below_drew1 | refine below_set ?_ GE201.out | refine below_set ?_ GE203.out) | exact HB.out)) hb); clear BK201; clear BK203; clear HB; have BK201:=n0_; have BK203:=n1_; have HB:=n2_; clear n0_ n1_ n2_; (try clear hb); (try clear hb2); (try clear hk); (try clear hi)))
     go_ret
     exact ⟨by first | rfl | (simp [errW_none,errW_some] <;> rfl) | (simp [*,errW_none,errW_some] <;> rfl),by repeat (first | (with_reducible first | exact HB.out | apply below_alloc | apply pw_below_drewN | apply below_drew1 | refine below_set ?_ GE201.out | refine below_set ?_ GE203.out) | exact HB.out)⟩
    rw [if_neg c6] at H
    exact absurd H (by simp)
   rw [if_neg c5] at H
   exact absurd H (by simp)
  rw [if_neg c4] at H
  have c4b0 : decide (x10_1 < (l0_2.length : Int)) = false:=decide_eq_false c4
  clear c4
  have H':=Aside0.mk H
  clear H
  have hcz17_0 : wr.cell? ⟨gb201,0,none⟩ = some (.int .i64 a0_0):=(blk_cell BK201.out 0).trans rfl
  have hcz17_1 : wr.cell? ⟨gb201,1,none⟩ = some (.int .i64 a0_1):=(blk_cell BK201.out 1).trans rfl
  have hcz17_2 : wr.cell? ⟨gb201,2,none⟩ = some (.slice A0_2 l0_2.length c0_2):=(blk_cell BK201.out 2).trans rfl
  have hcz17_3 : wr.cell? ⟨gb201,3,none⟩ = some (.slice A0_3 l0_3.length c0_3):=(blk_cell BK201.out 3).trans rfl
  have hfz17_0:=blk_frozen BK201.out 0
  have hfz17_1:=blk_frozen BK201.out 1
  have hfz17_2:=blk_frozen BK201.out 2
  have hfz17_3:=blk_frozen BK201.out 3
  go_wp2
  go_loopg [21] k1 (fun kq v21 w' => ∃ (x21_2 : Int),v21 = .int .i64 x21_2 ∧ Aside0 (world_Right.l1 kq l0_3 (l0_3.length : Int) x21_2 a0_0 a0_1 l0_2 l0_3 = some r) ∧ Aside0 (kq ≤ k1) ∧ Aside0 (w'.heap[gb201]? = some (.cells #[.int .i64 a0_0,.int .i64 a0_1,(.slice A0_2 l0_2.length c0_2),(.slice A0_3 l0_3.length c0_3)] 114 (0,0))) ∧ Aside0 (Below w.heap.size w w'))
  case atStart => exact ⟨(0),(by first | rfl | (simp; done) | (simp [*]; done)),H',⟨Nat.le_refl _⟩,⟨by (with_reducible repeat (first | refine blk_drewN ?_ _ | refine blk_drew ?_ | refine blk_alloc ?_ _)); exact BK201.out⟩,⟨by repeat (first | (with_reducible first | exact HB.out | apply below_alloc | apply pw_below_drewN | apply below_drew1 | refine below_set ?_ GE201.out) | exact HB.out)⟩⟩
  clear H'
  (try clear c1); (try clear p2); (try clear q2); (try clear hx2); (try clear c4); (try clear c4b0); (try clear c5); (try clear c5b0); (try clear c6); (try clear c6b0); (try clear p6); (try clear c8); (try clear c10); (try clear c14); (try clear hcz11_0); (try clear hcz11_1); (try clear hcz11_2); (try clear hcz11_3); (try clear hcz11_4); (try clear hcz11_5); (try clear hcz11_6); (try clear hcz11_7); (try clear hcz15_0); (try clear hcz15_1); (try clear hcz15_2); (try clear hcz15_3); (try clear hcz15_4); (try clear hcz15_5); (try clear hcz15_6); (try clear hcz15_7); (try clear hcz17_0); (try clear hcz17_1); (try clear hcz17_2); (try clear hcz17_3); (try clear hcz3_0); (try clear hcz3_1); (try clear hcz3_2); (try clear hcz3_3); (try clear hfz11_0); (try clear hfz11_1); (try clear hfz11_2); (try clear hfz11_3); (try clear hfz11_4); (try clear hfz11_5); (try clear hfz11_6); (try clear hfz11_7); (try clear hfz15_0); (try clear hfz15_1); (try clear hfz15_2); (try clear hfz15_3); (try clear hfz15_4); (try clear hfz15_5); (try clear hfz15_6); (try clear hfz15_7); (try clear hfz17_0); (try clear hfz17_1); (try clear hfz17_2); (try clear hfz17_3); (try clear hfz3_0); (try clear hfz3_1); (try clear hfz3_2); (try clear hfz3_3); (try clear hx202_0); (try clear hx202_1); (try clear hx202_2); (try clear hx202_3); (try clear hx202_4); (try clear hx202_5); (try clear hx202_6); (try clear hx202_7); (try clear p2); (try clear p202); (try clear q202)
  obtain ⟨x21_2,rfl,HA,HK2,BK201,HB⟩:=hrel
  cases gk with
  | zero => exact absurd HA.out (by simp [world_Right.l1])
  | succ k2 =>
   have H:=HA.out
   clear HA
   simp only [world_Right.l1] at H
   by_cases c18 : x21_2 < (l0_3.length : Int)
   ·rw [if_pos c18] at H
    have c18b0 : decide (x21_2 < (l0_3.length : Int)) = true:=decide_eq_true c18
    clear c18
    by_cases c19 : 0 ≤ x21_2
    ·rw [if_pos c19] at H
     have c19b0 : decide (0 ≤ x21_2) = true:=decide_eq_true c19
     clear c19
     by_cases c20 : x21_2 < (l0_3.length : Int)
     ·rw [if_pos c20] at H
      have c20b0 : decide (x21_2 < (l0_3.length : Int)) = true:=decide_eq_true c20
      clear c20
      obtain ⟨ji21,hji21⟩ : ∃ j_ : Int,(mn ((rd_T28 l0_3 x21_2).f0) ((rd_T28 l0_3 x21_2).f1)) = j_:=⟨_,rfl⟩
      replace H : (if (ji21) < 0 then (some false) else (if (mx ((rd_T28 l0_3 x21_2).f0) ((rd_T28 l0_3 x21_2).f1)) ≥ (l0_2.length : Int) then (some false) else (if ((rd_T28 l0_3 x21_2).f0) = ((rd_T28 l0_3 x21_2).f1) then (some false) else (if ((rd_T28 l0_3 x21_2).f2) < 0 then (some false) else (if ((rd_T28 l0_3 x21_2).f2) > 4294967296000 then (some false) else (world_Right.l1 k2 l0_3 (l0_3.length : Int) (wrap64 (x21_2 + 1)) a0_0 a0_1 l0_2 l0_3)))))) = some r:=by first | (rw [hji21] at H; exact H) | (simp only [hji21] at H ⊢; exact H)
      have hji21_ : (if ((rd_T28 l0_3 x21_2).f1) < ((rd_T28 l0_3 x21_2).f0) then ((rd_T28 l0_3 x21_2).f1) else ((rd_T28 l0_3 x21_2).f0)) = ji21:=hji21
      by_cases c22 : (ji21) < 0
      ·rw [if_pos c22] at H
       have c22b0 : decide ((ji21) < 0) = true:=decide_eq_true c22
       clear c22
       obtain rfl:=Option.some.inj H
       have p205 : 0 ≤ (x21_2 : Int):=of_decide_eq_true (by first | (with_reducible assumption) | assumption)
       have q205 : x21_2 < (l0_3.length : Int):=of_decide_eq_true (by first | (with_reducible assumption) | assumption)
       obtain ⟨ad205,e205,hx205_0,hx205_1,hx205_2⟩:=at_T28 HR0_3.out x21_2 p205 q205
       cases e205
       replace hx205_0:=(HB.out.cell (World.block_lt_of_cell? w _ hx205_0)).trans hx205_0
       replace hx205_1:=(HB.out.cell (World.block_lt_of_cell? w _ hx205_1)).trans hx205_1
       replace hx205_2:=(HB.out.cell (World.block_lt_of_cell? w _ hx205_2)).trans hx205_2
       replace p205:=eq_true p205
       replace q205:=eq_true q205
       go_wp2_with (first | ((with_reducible refine gate_dst (N:=6) rfl ?_); (try (refine gate_guard (by rfl) ?_; dsimp only)); refine box_event ?hg (N:=6) ?hd (cs:=#[.int .i64 0,.int .i64 0,.int .i64 0]) (t:=28) ?hr ?_; (case hd => rfl); (case hg => rfl); (case hr => first | (go_simp; done) | (go_simp; rfl)); intro gb206 hg w23 hbox hb; have n0_:=Aside0.mk (blk_below (g:=gb201) (o:=.cells #[.int .i64 a0_0,.int .i64 a0_1,.slice A0_2 l0_2.length c0_2,.slice (some ad205) l0_3.length c0_3] 114 (0,0)) (by (with_reducible repeat (first | refine blk_drewN ?_ _ | refine blk_drew ?_ | refine blk_alloc ?_ _)); exact BK201.out) hb); have n1_:=Aside0.mk (below_step (by repeat (first | (with_reducible first | exact HB.out | apply below_alloc | apply pw_below_drewN | apply below_drew1 | refine below_set ?_ GE201.out) | exact HB.out)) hb); have n2_:=Aside0.mk (hbox); have n3_:=Aside0.mk ((by rw [hg]; exact (below_size (by repeat (first | (with_reducible first | exact HB.out | apply below_alloc | apply pw_below_drewN | apply below_drew1 | refine below_set ?_ GE201.out) | exact HB.out))) : w.heap.size ≤ gb206)); have n4_:=Aside0.mk ((by rw [hg]; exact (below_size (by repeat (first | (with_reducible first | exact HB.out | apply below_alloc | apply pw_below_drewN | apply below_drew1 | refine below_set ?_ GE201.out) | exact HB.out))) : w.heap.size ≤ gb206)); have n5_:=Aside0.mk ((by rw [hg]; exact Nat.ne_of_lt (blk_lt (g:=gb201) (o:=.cells #[.int .i64 a0_0,.int .i64 a0_1,.slice A0_2 l0_2.length c0_2,.slice (some ad205) l0_3.length c0_3] 114 (0,0)) (by (with_reducible repeat (first | refine blk_drewN ?_ _ | refine blk_drew ?_ | refine blk_alloc ?_ _)); exact BK201.out)) : gb201 ≠ gb206)); have n6_:=Aside0.mk ((by rw [hg]; exact Nat.ne_of_gt (blk_lt (g:=gb201) (o:=.cells #[.int .i64 a0_0,.int .i64 a0_1,.slice A0_2 l0_2.length c0_2,.slice (some ad205) l0_3.length c0_3] 114 (0,0)) (by (with_reducible repeat (first | refine blk_drewN ?_ _ | refine blk_drew ?_ | refine blk_alloc ?_ _)); exact BK201.out)) : gb206 ≠ gb201)); clear BK201; clear HB; have BK201:=n0_; have HB:=n1_; have BK206:=n2_; have GW206:=n3_; have GE206:=n4_; have NB201_206:=n5_; have NB206_201:=n6_; clear n0_ n1_ n2_ n3_ n4_ n5_ n6_; clear hb hbox hg; have hnb24:=NB206_201.out; have hnc24:=NB201_206.out; obtain ⟨hcz25_0,hcz25_1,hcz25_2⟩:=cl3 BK206.out; obtain ⟨hfz25_0,hfz25_1,hfz25_2⟩:=fz3 BK206.out))
       go_ret
       exact ⟨by first | rfl | (simp [errW_none,errW_some] <;> rfl) | (simp only [← hji21]; first | rfl | (simp [errW_none,errW_some] <;> rfl)) | (simp [*,errW_none,errW_some] <;> rfl),by repeat (first | (with_reducible first | exact HB.out | apply below_alloc | apply pw_below_drewN | apply below_drew1 | refine below_set ?_ GE201.out | refine below_set ?_ GE206.out) | exact HB.out)⟩
      rw [if_neg c22] at H
      have c22b0 : decide ((ji21) < 0) = false:=decide_eq_false c22
      clear c22
      obtain ⟨ji26,hji26⟩ : ∃ j_ : Int,(mx ((rd_T28 l0_3 x21_2).f0) ((rd_T28 l0_3 x21_2).f1)) = j_:=⟨_,rfl⟩
      replace H : (if (ji26) ≥ (l0_2.length : Int) then (some false) else (if ((rd_T28 l0_3 x21_2).f0) = ((rd_T28 l0_3 x21_2).f1) then (some false) else (if ((rd_T28 l0_3 x21_2).f2) < 0 then (some false) else (if ((rd_T28 l0_3 x21_2).f2) > 4294967296000 then (some false) else (world_Right.l1 k2 l0_3 (l0_3.length : Int) (wrap64 (x21_2 + 1)) a0_0 a0_1 l0_2 l0_3))))) = some r:=by first | (rw [hji26] at H; exact H) | (simp only [hji26] at H ⊢; exact H)
      have hji26_ : (if ((rd_T28 l0_3 x21_2).f0) < ((rd_T28 l0_3 x21_2).f1) then ((rd_T28 l0_3 x21_2).f1) else ((rd_T28 l0_3 x21_2).f0)) = ji26:=hji26
      by_cases c27 : (ji26) ≥ (l0_2.length : Int)
      ·rw [if_pos c27] at H
       have c27b0 : decide ((l0_2.length : Int) ≤ (ji26)) = true:=decide_eq_true c27
       clear c27
       obtain rfl:=Option.some.inj H
       have p205 : 0 ≤ (x21_2 : Int):=of_decide_eq_true (by first | (with_reducible assumption) | assumption)
       have q205 : x21_2 < (l0_3.length : Int):=of_decide_eq_true (by first | (with_reducible assumption) | assumption)
       obtain ⟨ad205,e205,hx205_0,hx205_1,hx205_2⟩:=at_T28 HR0_3.out x21_2 p205 q205
       cases e205
       replace hx205_0:=(HB.out.cell (World.block_lt_of_cell? w _ hx205_0)).trans hx205_0
       replace hx205_1:=(HB.out.cell (World.block_lt_of_cell? w _ hx205_1)).trans hx205_1
       replace hx205_2:=(HB.out.cell (World.block_lt_of_cell? w _ hx205_2)).trans hx205_2
       replace p205:=eq_true p205
       replace q205:=eq_true q205
       go_wp2_with (first | ((with_reducible refine gate_dst (N:=6) rfl ?_); (try (refine gate_guard (by rfl) ?_; dsimp only)); refine box_event ?hg (N:=6) ?hd (cs:=#[.int .i64 0,.int .i64 0,.int .i64 0]) (t:=28) ?hr ?_; (case hd => rfl); (case hg => rfl); (case hr => first | (go_simp; done) | (go_simp; rfl)); intro gb206 hg w28 hbox hb; have n0_:=Aside0.mk (blk_below (g:=gb201) (o:=.cells #[.int .i64 a0_0,.int .i64 a0_1,.slice A0_2 l0_2.length c0_2,.slice (some ad205) l0_3.length c0_3] 114 (0,0)) (by (with_reducible repeat (first | refine blk_drewN ?_ _ | refine blk_drew ?_ | refine blk_alloc ?_ _)); exact BK201.out) hb); have n1_:=Aside0.mk (below_step (by repeat (first | (with_reducible first | exact HB.out | apply below_alloc | apply pw_below_drewN | apply below_drew1 | refine below_set ?_ GE201.out) | exact HB.out)) hb); have n2_:=Aside0.mk (hbox); have n3_:=Aside0.mk ((by rw [hg]; exact (below_size (by repeat (first | (with_reducible first | exact HB.out | apply below_alloc | apply pw_below_drewN | apply below_drew1 | refine below_set ?_ GE201.out) | exact HB.out))) : w.heap.size ≤ gb206)); have n4_:=Aside0.mk ((by rw [hg]; exact (below_size (by repeat (first | (with_reducible first | exact HB.out | apply below_alloc | apply pw_below_drewN | apply below_drew1 | refine below_set ?_ GE201.out) | exact HB.out))) : w.heap.size ≤ gb206)); have n5_:=Aside0.mk ((by rw [hg]; exact Nat.ne_of_lt (blk_lt (g:=gb201) (o:=.cells #[.int .i64 a0_0,.int .i64 a0_1,.slice A0_2 l0_2.length c0_2,.slice (some ad205) l0_3.length c0_3] 114 (0,0)) (by (with_reducible repeat (first | refine blk_drewN ?_ _ | refine blk_drew ?_ | refine blk_alloc ?_ _)); exact BK201.out)) : gb201 ≠ gb206)); have n6_:=Aside0.mk ((by rw [hg]; exact Nat.ne_of_gt (blk_lt (g:=gb201) (o:=.cells #[.int .i64 a0_0,.int .i64 a0_1,.slice A0_2 l0_2.length c0_2,.slice (some ad205) l0_3.length c0_3] 114 (0,0)) (by (with_reducible repeat (first | refine blk_drewN ?_ _ | refine blk_drew ?_ | refine blk_alloc ?_ _)); exact BK201.out)) : gb206 ≠ gb201)); clear BK201; clear HB; have BK201:=n0_; have HB:=n1_; have BK206:=n2_; have GW206:=n3_; have GE206:=n4_; have NB201_206:=n5_; have NB206_201:=n6_; clear n0_ n1_ n2_ n3_ n4_ n5_ n6_; clear hb hbox hg; have hnb29:=NB206_201.out; have hnc29:=NB201_206.out; obtain ⟨hcz30_0,hcz30_1,hcz30_2⟩:=cl3 BK206.out; obtain ⟨hfz30_0,hfz30_1,hfz30_2⟩:=fz3 BK206.out; have hcz31_0 : w28.cell? ⟨gb201,0,none⟩ = some (.int .i64 a0_0):=(blk_cell BK201.out 0).trans rfl; have hcz31_1 : w28.cell? ⟨gb201,1,none⟩ = some (.int .i64 a0_1):=(blk_cell BK201.out 1).trans rfl; have hcz31_2 : w28.cell? ⟨gb201,2,none⟩ = some (.slice A0_2 l0_2.length c0_2):=(blk_cell BK201.out 2).trans rfl; have hcz31_3 : w28.cell? ⟨gb201,3,none⟩ = some (.slice (some ad205) l0_3.length c0_3):=(blk_cell BK201.out 3).trans rfl; have hfz31_0:=blk_frozen BK201.out 0; have hfz31_1:=blk_frozen BK201.out 1; have hfz31_2:=blk_frozen BK201.out 2; have hfz31_3:=blk_frozen BK201.out 3))
       go_ret
       exact ⟨by first | rfl | (simp [errW_none,errW_some] <;> rfl) | (simp only [← hji21,← hji26]; first | rfl | (simp [errW_none,errW_some] <;> rfl)) | (simp [*,errW_none,errW_some] <;> rfl),by repeat (first | (with_reducible first | exact HB.out | apply below_alloc | apply pw_below_drewN | apply below_drew1 | refine below_set ?_ GE201.out | refine below_set ?_ GE206.out) | exact HB.out)⟩
      rw [if_neg c27] at H
      have c27b0 : decide ((l0_2.length : Int) ≤ (ji26)) = false:=decide_eq_false c27
      clear c27
      by_cases c32 : ((rd_T28 l0_3 x21_2).f0) = ((rd_T28 l0_3 x21_2).f1)
      ·rw [if_pos c32] at H
       have c32b0 : (((rd_T28 l0_3 x21_2).f0) == ((rd_T28 l0_3 x21_2).f1)) = true:=beq_iff_eq.mpr c32
       have c32b1 : (((rd_T28 l0_3 x21_2).f0) != ((rd_T28 l0_3 x21_2).f1)) = false:=bne_eq_false_iff_eq.mpr c32
       clear c32
       obtain rfl:=Option.some.inj H
       have p205 : 0 ≤ (x21_2 : Int):=of_decide_eq_true (by first | (with_reducible assumption) | assumption)
       have q205 : x21_2 < (l0_3.length : Int):=of_decide_eq_true (by first | (with_reducible assumption) | assumption)
       obtain ⟨ad205,e205,hx205_0,hx205_1,hx205_2⟩:=at_T28 HR0_3.out x21_2 p205 q205
       cases e205
       replace hx205_0:=(HB.out.cell (World.block_lt_of_cell? w _ hx205_0)).trans hx205_0
       replace hx205_1:=(HB.out.cell (World.block_lt_of_cell? w _ hx205_1)).trans hx205_1
       replace hx205_2:=(HB.out.cell (World.block_lt_of_cell? w _ hx205_2)).trans hx205_2
       replace p205:=eq_true p205
       replace q205:=eq_true q205
       go_wp2_with (first | ((with_reducible refine gate_dst (N:=6) rfl ?_); (try (refine gate_guard (by rfl) ?_; dsimp only)); refine box_event ?hg (N:=6) ?hd (cs:=#[.int .i64 0,.int .i64 0,.int .i64 0]) (t:=28) ?hr ?_; (case hd => rfl); (case hg => rfl); (case hr => first | (go_simp; done) | (go_simp; rfl)); intro gb206 hg w33 hbox hb; have n0_:=Aside0.mk (blk_below (g:=gb201) (o:=.cells #[.int .i64 a0_0,.int .i64 a0_1,.slice A0_2 l0_2.length c0_2,.slice (some ad205) l0_3.length c0_3] 114 (0,0)) (by (with_reducible repeat (first | refine blk_drewN ?_ _ | refine blk_drew ?_ | refine blk_alloc ?_ _)); exact BK201.out) hb); have n1_:=Aside0.mk (below_step (by repeat (first | (with_reducible first | exact HB.out | apply below_alloc | apply pw_below_drewN | apply below_drew1 | refine below_set ?_ GE201.out) | exact HB.out)) hb); have n2_:=Aside0.mk (hbox); have n3_:=Aside0.mk ((by rw [hg]; exact (below_size (by repeat (first | (with_reducible first | exact HB.out | apply below_alloc | apply pw_below_drewN | apply below_drew1 | refine below_set ?_ GE201.out) | exact HB.out))) : w.heap.size ≤ gb206)); have n4_:=Aside0.mk ((by rw [hg]; exact (below_size (by repeat (first | (with_reducible first | exact HB.out | apply below_alloc | apply pw_below_drewN | apply below_drew1 | refine below_set ?_ GE201.out) | exact HB.out))) : w.heap.size ≤ gb206)); have n5_:=Aside0.mk ((by rw [hg]; exact Nat.ne_of_lt (blk_lt (g:=gb201) (o:=.cells #[.int .i64 a0_0,.int .i64 a0_1,.slice A0_2 l0_2.length c0_2,.slice (some ad205) l0_3.length c0_3] 114 (0,0)) (by (with_reducible repeat (first | refine blk_drewN ?_ _ | refine blk_drew ?_ | refine blk_alloc ?_ _)); exact BK201.out)) : gb201 ≠ gb206)); have n6_:=Aside0.mk ((by rw [hg]; exact Nat.ne_of_gt (blk_lt (g:=gb201) (o:=.cells #[.int .i64 a0_0,.int .i64 a0_1,.slice A0_2 l0_2.length c0_2,.slice (some ad205) l0_3.length c0_3] 114 (0,0)) (by (with_reducible repeat (first | refine blk_drewN ?_ _ | refine blk_drew ?_ | refine blk_alloc ?_ _)); exact BK201.out)) : gb206 ≠ gb201)); clear BK201; clear HB; have BK201:=n0_; have HB:=n1_; have BK206:=n2_; have GW206:=n3_; have GE206:=n4_; have NB201_206:=n5_; have NB206_201:=n6_; clear n0_ n1_ n2_ n3_ n4_ n5_ n6_; clear hb hbox hg; have hnb34:=NB206_201.out; have hnc34:=NB201_206.out; obtain ⟨hcz35_0,hcz35_1,hcz35_2⟩:=cl3 BK206.out; obtain ⟨hfz35_0,hfz35_1,hfz35_2⟩:=fz3 BK206.out; have hcz36_0 : w33.cell? ⟨gb201,0,none⟩ = some (.int .i64 a0_0):=(blk_cell BK201.out 0).trans rfl; have hcz36_1 : w33.cell? ⟨gb201,1,none⟩ = some (.int .i64 a0_1):=(blk_cell BK201.out 1).trans rfl; have hcz36_2 : w33.cell? ⟨gb201,2,none⟩ = some (.slice A0_2 l0_2.length c0_2):=(blk_cell BK201.out 2).trans rfl; have hcz36_3 : w33.cell? ⟨gb201,3,none⟩ = some (.slice (some ad205) l0_3.length c0_3):=(blk_cell BK201.out 3).trans rfl; have hfz36_0:=blk_frozen BK201.out 0; have hfz36_1:=blk_frozen BK201.out 1; have hfz36_2:=blk_frozen BK201.out 2; have hfz36_3:=blk_frozen BK201.out 3))
       go_ret
       exact ⟨by first | rfl | (simp [errW_none,errW_some] <;> rfl) | (simp only [← hji21,← hji26]; first | rfl | (simp [errW_none,errW_some] <;> rfl)) | (simp [*,errW_none,errW_some] <;> rfl),by repeat (first | (with_reducible first | exact HB.out | apply below_alloc | apply pw_below_drewN | apply below_drew1 | refine below_set ?_ GE201.out | refine below_set ?_ GE206.out) | exact HB.out)⟩
      rw [if_neg c32] at H
      have c32b0 : (((rd_T28 l0_3 x21_2).f0) == ((rd_T28 l0_3 x21_2).f1)) = false:=beq_eq_false_iff_ne.mpr c32
      have c32b1 : (((rd_T28 l0_3 x21_2).f0) != ((rd_T28 l0_3 x21_2).f1)) = true:=bne_iff_ne.mpr c32
      by_cases c37 : ((rd_T28 l0_3 x21_2).f2) < 0
      ·rw [if_pos c37] at H
       have c37b0 : decide (((rd_T28 l0_3 x21_2).f2) < 0) = true:=decide_eq_true c37
       clear c37
       obtain rfl:=Option.some.inj H
       have p205 : 0 ≤ (x21_2 : Int):=of_decide_eq_true (by first | (with_reducible assumption) | assumption)
       have q205 : x21_2 < (l0_3.length : Int):=of_decide_eq_true (by first | (with_reducible assumption) | assumption)
       obtain ⟨ad205,e205,hx205_0,hx205_1,hx205_2⟩:=at_T28 HR0_3.out x21_2 p205 q205
       cases e205
       replace hx205_0:=(HB.out.cell (World.block_lt_of_cell? w _ hx205_0)).trans hx205_0
       replace hx205_1:=(HB.out.cell (World.block_lt_of_cell? w _ hx205_1)).trans hx205_1
       replace hx205_2:=(HB.out.cell (World.block_lt_of_cell? w _ hx205_2)).trans hx205_2
       replace p205:=eq_true p205
       replace q205:=eq_true q205
       go_wp2_with (first | ((with_reducible refine gate_dst (N:=6) rfl ?_); (try (refine gate_guard (by rfl) ?_; dsimp only)); refine box_event ?hg (N:=6) ?hd (cs:=#[.int .i64 0,.int .i64 0,.int .i64 0]) (t:=28) ?hr ?_; (case hd => rfl); (case hg => rfl); (case hr => first | (go_simp; done) | (go_simp; rfl)); intro gb206 hg w38 hbox hb; have n0_:=Aside0.mk (blk_below (g:=gb201) (o:=.cells #[.int .i64 a0_0,.int .i64 a0_1,.slice A0_2 l0_2.length c0_2,.slice (some ad205) l0_3.length c0_3] 114 (0,0)) (by (with_reducible repeat (first | refine blk_drewN ?_ _ | refine blk_drew ?_ | refine blk_alloc ?_ _)); exact BK201.out) hb); have n1_:=Aside0.mk (below_step (by repeat (first | (with_reducible first | exact HB.out | apply below_alloc | apply pw_below_drewN | apply below_drew1 | refine below_set ?_ GE201.out) | exact HB.out)) hb); have n2_:=Aside0.mk (hbox); have n3_:=Aside0.mk ((by rw [hg]; exact (below_size (by repeat (first | (with_reducible first | exact HB.out | apply below_alloc | apply pw_below_drewN | apply below_drew1 | refine below_set ?_ GE201.out) | exact HB.out))) : w.heap.size ≤ gb206)); have n4_:=Aside0.mk ((by rw [hg]; exact (below_size (by repeat (first | (with_reducible first | exact HB.out | apply below_alloc | apply pw_below_drewN | apply below_drew1 | refine below_set ?_ GE201.out) | exact HB.out))) : w.heap.size ≤ gb206)); have n5_:=Aside0.mk ((by rw [hg]; exact Nat.ne_of_lt (blk_lt (g:=gb201) (o:=.cells #[.int .i64 a0_0,.int .i64 a0_1,.slice A0_2 l0_2.length c0_2,.slice (some ad205) l0_3.length c0_3] 114 (0,0)) (by (with_reducible repeat (first | refine blk_drewN ?_ _ | refine blk_drew ?_ | refine blk_alloc ?_ _)); exact BK201.out)) : gb201 ≠ gb206)); have n6_:=Aside0.mk ((by rw [hg]; exact Nat.ne_of_gt (blk_lt (g:=gb201) (o:=.cells #[.int .i64 a0_0,.int .i64 a0_1,.slice A0_2 l0_2.length c0_2,.slice (some ad205) l0_3.length c0_3] 114 (0,0)) (by (with_reducible repeat (first | refine blk_drewN ?_ _ | refine blk_drew ?_ | refine blk_alloc ?_ _)); exact BK201.out)) : gb206 ≠ gb201)); clear BK201; clear HB; have BK201:=n0_; have HB:=n1_; have BK206:=n2_; have GW206:=n3_; have GE206:=n4_; have NB201_206:=n5_; have NB206_201:=n6_; clear n0_ n1_ n2_ n3_ n4_ n5_ n6_; clear hb hbox hg; have hnb39:=NB206_201.out; have hnc39:=NB201_206.out; obtain ⟨hcz40_0,hcz40_1,hcz40_2⟩:=cl3 BK206.out; obtain ⟨hfz40_0,hfz40_1,hfz40_2⟩:=fz3 BK206.out; have hcz41_0 : w38.cell? ⟨gb201,0,none⟩ = some (.int .i64 a0_0):=(blk_cell BK201.out 0).trans rfl; have hcz41_1 : w38.cell? ⟨gb201,1,none⟩ = some (.int .i64 a0_1):=(blk_cell BK201.out 1).trans rfl; have hcz41_2 : w38.cell? ⟨gb201,2,none⟩ = some (.slice A0_2 l0_2.length c0_2):=(blk_cell BK201.out 2).trans rfl; have hcz41_3 : w38.cell? ⟨gb201,3,none⟩ = some (.slice (some ad205) l0_3.length c0_3):=(blk_cell BK201.out 3).trans rfl; have hfz41_0:=blk_frozen BK201.out 0; have hfz41_1:=blk_frozen BK201.out 1; have hfz41_2:=blk_frozen BK201.out 2; have hfz41_3:=blk_frozen BK201.out 3))
       go_ret
       exact ⟨by first | rfl | (simp [errW_none,errW_some] <;> rfl) | (simp only [← hji21,← hji26]; first | rfl | (simp [errW_none,errW_some] <;> rfl)) | (simp [*,errW_none,errW_some] <;> rfl),by repeat (first | (with_reducible first | exact HB.out | apply below_alloc | apply pw_below_drewN | apply below_drew1 | refine below_set ?_ GE201.out | refine below_set ?_ GE206.out) | exact HB.out)⟩
      rw [if_neg c37] at H
      have c37b0 : decide (((rd_T28 l0_3 x21_2).f2) < 0) = false:=decide_eq_false c37
      clear c37
      by_cases c42 : ((rd_T28 l0_3 x21_2).f2) > 4294967296000
      ·rw [if_pos c42] at H
       have c42b0 : decide (4294967296000 < ((rd_T28 l0_3 x21_2).f2)) = true:=decide_eq_true c42
       clear c42
       obtain rfl:=Option.some.inj H
       have p205 : 0 ≤ (x21_2 : Int):=of_decide_eq_true (by first | (with_reducible assumption) | assumption)
       have q205 : x21_2 < (l0_3.length : Int):=of_decide_eq_true (by first | (with_reducible assumption) | assumption)
       obtain ⟨ad205,e205,hx205_0,hx205_1,hx205_2⟩:=at_T28 HR0_3.out x21_2 p205 q205
       cases e205
       replace hx205_0:=(HB.out.cell (World.block_lt_of_cell? w _ hx205_0)).trans hx205_0
       replace hx205_1:=(HB.out.cell (World.block_lt_of_cell? w _ hx205_1)).trans hx205_1
       replace hx205_2:=(HB.out.cell (World.block_lt_of_cell? w _ hx205_2)).trans hx205_2
       replace p205:=eq_true p205
       replace q205:=eq_true q205
       go_wp2_with (first | ((with_reducible refine gate_dst (N:=6) rfl ?_); (try (refine gate_guard (by rfl) ?_; dsimp only)); refine box_event ?hg (N:=6) ?hd (cs:=#[.int .i64 0,.int .i64 0,.int .i64 0]) (t:=28) ?hr ?_; (case hd => rfl); (case hg => rfl); (case hr => first | (go_simp; done) | (go_simp; rfl)); intro gb206 hg w43 hbox hb; have n0_:=Aside0.mk (blk_below (g:=gb201) (o:=.cells #[.int .i64 a0_0,.int .i64 a0_1,.slice A0_2 l0_2.length c0_2,.slice (some ad205) l0_3.length c0_3] 114 (0,0)) (by (with_reducible repeat (first | refine blk_drewN ?_ _ | refine blk_drew ?_ | refine blk_alloc ?_ _)); exact BK201.out) hb); have n1_:=Aside0.mk (below_step (by repeat (first | (with_reducible first | exact HB.out | apply below_alloc | apply pw_below_drewN | apply below_drew1 | refine below_set ?_ GE201.out) | exact HB.out)) hb); have n2_:=Aside0.mk (hbox); have n3_:=Aside0.mk ((by rw [hg]; exact (below_size (by repeat (first | (with_reducible first | exact HB.out | apply below_alloc | apply pw_below_drewN | apply below_drew1 | refine below_set ?_ GE201.out) | exact HB.out))) : w.heap.size ≤ gb206)); have n4_:=Aside0.mk ((by rw [hg]; exact (below_size (by repeat (first | (with_reducible first | exact HB.out | apply below_alloc | apply pw_below_drewN | apply below_drew1 | refine below_set ?_ GE201.out) | exact HB.out))) : w.heap.size ≤ gb206)); have n5_:=Aside0.mk ((by rw [hg]; exact Nat.ne_of_lt (blk_lt (g:=gb201) (o:=.cells #[.int .i64 a0_0,.int .i64 a0_1,.slice A0_2 l0_2.length c0_2,.slice (some ad205) l0_3.length c0_3] 114 (0,0)) (by (with_reducible repeat (first | refine blk_drewN ?_ _ | refine blk_drew ?_ | refine blk_alloc ?_ _)); exact BK201.out)) : gb201 ≠ gb206)); have n6_:=Aside0.mk ((by rw [hg]; exact Nat.ne_of_gt (blk_lt (g:=gb201) (o:=.cells #[.int .i64 a0_0,.int .i64 a0_1,.slice A0_2 l0_2.length c0_2,.slice (some ad205) l0_3.length c0_3] 114 (0,0)) (by (with_reducible repeat (first | refine blk_drewN ?_ _ | refine blk_drew ?_ | refine blk_alloc ?_ _)); exact BK201.out)) : gb206 ≠ gb201)); clear BK201; clear HB; have BK201:=n0_; have HB:=n1_; have BK206:=n2_; have GW206:=n3_; have GE206:=n4_; have NB201_206:=n5_; have NB206_201:=n6_; clear n0_ n1_ n2_ n3_ n4_ n5_ n6_; clear hb hbox hg; have hnb44:=NB206_201.out; have hnc44:=NB201_206.out; obtain ⟨hcz45_0,hcz45_1,hcz45_2⟩:=cl3 BK206.out; obtain ⟨hfz45_0,hfz45_1,hfz45_2⟩:=fz3 BK206.out; have hcz46_0 : w43.cell? ⟨gb201,0,none⟩ = some (.int .i64 a0_0):=(blk_cell BK201.out 0).trans rfl; have hcz46_1 : w43.cell? ⟨gb201,1,none⟩ = some (.int .i64 a0_1):=(blk_cell BK201.out 1).trans rfl; have hcz46_2 : w43.cell? ⟨gb201,2,none⟩ = some (.slice A0_2 l0_2.length c0_2):=(blk_cell BK201.out 2).trans rfl; have hcz46_3 : w43.cell? ⟨gb201,3,none⟩ = some (.slice (some ad205) l0_3.length c0_3):=(blk_cell BK201.out 3).trans rfl; have hfz46_0:=blk_frozen BK201.out 0; have hfz46_1:=blk_frozen BK201.out 1; have hfz46_2:=blk_frozen BK201.out 2; have hfz46_3:=blk_frozen BK201.out 3))
       go_ret
       exact ⟨by first | rfl | (simp [errW_none,errW_some] <;> rfl) | (simp only [← hji21,← hji26]; first | rfl | (simp [errW_none,errW_some] <;> rfl)) | (simp [*,errW_none,errW_some] <;> rfl),by repeat (first | (with_reducible first | exact HB.out | apply below_alloc | apply pw_below_drewN | apply below_drew1 | refine below_set ?_ GE201.out | refine below_set ?_ GE206.out) | exact HB.out)⟩
      rw [if_neg c42] at H
      have c42b0 : decide (4294967296000 < ((rd_T28 l0_3 x21_2).f2)) = false:=decide_eq_false c42
      clear c42
      have H':=Aside0.mk H
      clear H
      have p205 : 0 ≤ (x21_2 : Int):=of_decide_eq_true (by first | (with_reducible assumption) | assumption)
      have q205 : x21_2 < (l0_3.length : Int):=of_decide_eq_true (by first | (with_reducible assumption) | assumption)
      obtain ⟨ad205,e205,hx205_0,hx205_1,hx205_2⟩:=at_T28 HR0_3.out x21_2 p205 q205
      cases e205
      replace hx205_0:=(HB.out.cell (World.block_lt_of_cell? w _ hx205_0)).trans hx205_0
      replace hx205_1:=(HB.out.cell (World.block_lt_of_cell? w _ hx205_1)).trans hx205_1
      replace hx205_2:=(HB.out.cell (World.block_lt_of_cell? w _ hx205_2)).trans hx205_2
      replace p205:=eq_true p205
      replace q205:=eq_true q205
      go_wp2_with (first | ((with_reducible refine gate_dst (N:=6) rfl ?_); (try (refine gate_guard (by rfl) ?_; dsimp only)); refine box_event ?hg (N:=6) ?hd (cs:=#[.int .i64 0,.int .i64 0,.int .i64 0]) (t:=28) ?hr ?_; (case hd => rfl); (case hg => rfl); (case hr => first | (go_simp; done) | (go_simp; rfl)); intro gb206 hg w47 hbox hb; have n0_:=Aside0.mk (blk_below (g:=gb201) (o:=.cells #[.int .i64 a0_0,.int .i64 a0_1,.slice A0_2 l0_2.length c0_2,.slice (some ad205) l0_3.length c0_3] 114 (0,0)) (by (with_reducible repeat (first | refine blk_drewN ?_ _ | refine blk_drew ?_ | refine blk_alloc ?_ _)); exact BK201.out) hb); have n1_:=Aside0.mk (below_step (by repeat (first | (with_reducible first | exact HB.out | apply below_alloc | apply pw_below_drewN | apply below_drew1 | refine below_set ?_ GE201.out) | exact HB.out)) hb); have n2_:=Aside0.mk (hbox); have n3_:=Aside0.mk ((by rw [hg]; exact (below_size (by repeat (first | (with_reducible first | exact HB.out | apply below_alloc | apply pw_below_drewN | apply below_drew1 | refine below_set ?_ GE201.out) | exact HB.out))) : w.heap.size ≤ gb206)); have n4_:=Aside0.mk ((by rw [hg]; exact (below_size (by repeat (first | (with_reducible first | exact HB.out | apply below_alloc | apply pw_below_drewN | apply below_drew1 | refine below_set ?_ GE201.out) | exact HB.out))) : w.heap.size ≤ gb206)); have n5_:=Aside0.mk ((by rw [hg]; exact Nat.ne_of_lt (blk_lt (g:=gb201) (o:=.cells #[.int .i64 a0_0,.int .i64 a0_1,.slice A0_2 l0_2.length c0_2,.slice (some ad205) l0_3.length c0_3] 114 (0,0)) (by (with_reducible repeat (first | refine blk_drewN ?_ _ | refine blk_drew ?_ | refine blk_alloc ?_ _)); exact BK201.out)) : gb201 ≠ gb206)); have n6_:=Aside0.mk ((by rw [hg]; exact Nat.ne_of_gt (blk_lt (g:=gb201) (o:=.cells #[.int .i64 a0_0,.int .i64 a0_1,.slice A0_2 l0_2.length c0_2,.slice (some ad205) l0_3.length c0_3] 114 (0,0)) (by (with_reducible repeat (first | refine blk_drewN ?_ _ | refine blk_drew ?_ | refine blk_alloc ?_ _)); exact BK201.out)) : gb206 ≠ gb201)); clear BK201; clear HB; have BK201:=n0_; have HB:=n1_; have BK206:=n2_; have GW206:=n3_; have GE206:=n4_; have NB201_206:=n5_; have NB206_201:=n6_; clear n0_ n1_ n2_ n3_ n4_ n5_ n6_; clear hb hbox hg; have hnb48:=NB206_201.out; have hnc48:=NB201_206.out; obtain ⟨hcz49_0,hcz49_1,hcz49_2⟩:=cl3 BK206.out; obtain ⟨hfz49_0,hfz49_1,hfz49_2⟩:=fz3 BK206.out; have hcz50_0 : w47.cell? ⟨gb201,0,none⟩ = some (.int .i64 a0_0):=(blk_cell BK201.out 0).trans rfl; have hcz50_1 : w47.cell? ⟨gb201,1,none⟩ = some (.int .i64 a0_1):=(blk_cell BK201.out 1).trans rfl; have hcz50_2 : w47.cell? ⟨gb201,2,none⟩ = some (.slice A0_2 l0_2.length c0_2):=(blk_cell BK201.out 2).trans rfl; have hcz50_3 : w47.cell? ⟨gb201,3,none⟩ = some (.slice (some ad205) l0_3.length c0_3):=(blk_cell BK201.out 3).trans rfl; have hfz50_0:=blk_frozen BK201.out 0; have hfz50_1:=blk_frozen BK201.out 1; have hfz50_2:=blk_frozen BK201.out 2; have hfz50_3:=blk_frozen BK201.out 3))
      go_roundg k2
      case measure => have:=HK1.out; have:=HK2.out; omega
      case rel => exact ⟨(wrap64 (x21_2 + 1)),(by first | rfl | (simp; done) | (simp [*]; done)),H',⟨by have:=HK1.out; have:=HK2.out; omega⟩,⟨by (with_reducible repeat (first | refine blk_drewN ?_ _ | refine blk_drew ?_ | refine blk_alloc ?_ _)); refine blk_far ?_ NB201_206.out _; (with_reducible repeat (first | refine blk_drewN ?_ _ | refine blk_drew ?_ | refine blk_alloc ?_ _)); refine blk_far ?_ NB201_206.out _; (with_reducible repeat (first | refine blk_drewN ?_ _ | refine blk_drew ?_ | refine blk_alloc ?_ _)); refine blk_far ?_ NB201_206.out _; (with_reducible repeat (first | refine blk_drewN ?_ _ | refine blk_drew ?_ | refine blk_alloc ?_ _)); exact BK201.out⟩,⟨by repeat (first | (with_reducible first | exact HB.out | apply below_alloc | apply pw_below_drewN | apply below_drew1 | refine below_set ?_ GE201.out | refine below_set ?_ GE206.out) | exact HB.out)⟩⟩
     rw [if_neg c20] at H
     exact absurd H (by simp)
    rw [if_neg c19] at H
    exact absurd H (by simp)
   rw [if_neg c18] at H
   have c18b0 : decide (x21_2 < (l0_3.length : Int)) = false:=decide_eq_false c18
   clear c18
   replace H:=Option.bind_eq_some_iff.mp H
   obtain ⟨t207,A510,H⟩:=H
   replace H : (if t207 = true then ((world_near.f a0_1).bind fun t208 => (some t208)) else (some false)) = some r:=H
   have A51:=Aside0.mk A510
   clear A510
   by_cases c52 : t207 = true
   ·subst c52
    have H1 : ((world_near.f a0_1).bind fun t208 => (some t208)) = some r:=by rw [if_pos rfl] at H; exact H
    clear H
    have H:=H1
    clear H1
    replace H:=Option.bind_eq_some_iff.mp H
    obtain ⟨t208,A530,H⟩:=H
    replace H : (some t208) = some r:=H
    have A53:=Aside0.mk A530
    clear A530
    obtain rfl:=Option.some.inj H
    have hcz54_0 : wr.cell? ⟨gb201,0,none⟩ = some (.int .i64 a0_0):=(blk_cell BK201.out 0).trans rfl
    have hcz54_1 : wr.cell? ⟨gb201,1,none⟩ = some (.int .i64 a0_1):=(blk_cell BK201.out 1).trans rfl
    have hcz54_2 : wr.cell? ⟨gb201,2,none⟩ = some (.slice A0_2 l0_2.length c0_2):=(blk_cell BK201.out 2).trans rfl
    have hcz54_3 : wr.cell? ⟨gb201,3,none⟩ = some (.slice A0_3 l0_3.length c0_3):=(blk_cell BK201.out 3).trans rfl
    have hfz54_0:=blk_frozen BK201.out 0
    have hfz54_1:=blk_frozen BK201.out 1
    have hfz54_2:=blk_frozen BK201.out 2
    have hfz54_3:=blk_frozen BK201.out 3
    go_wp2_with (first | ((with_reducible refine gate_callee (f:=104) rfl ?_); refine goesL_ (some 63) rfl rfl Try.func104 (by kernel_rfl) rfl #[.int .i64 a0_0] rfl (by (try simp only [List.map_toArray,List.map_cons,List.map_nil]); first | done | rfl | (simp only [List.length_drop,List.length_take]; rfl) | (simp only [ByteArray.size_append,Int.natCast_add]; rfl) | (simp [ByteArray.size_append,Int.add_assoc]; done)) ?_; (with_reducible refine (world_near.calls a0_0 true _ A51.out).mono ?_); rintro e w' ⟨rfl,⟨nd,rfl⟩⟩; refine ⟨_,rfl,?_⟩) | (go_at_call 104; (with_reducible refine (world_near.calls a0_1 t208 _ A53.out).mono ?_); rintro e w' ⟨rfl,⟨nd,rfl⟩⟩))
    go_ret
    exact ⟨by first | rfl | (simp [errW_none,errW_some] <;> rfl) | (simp [*,errW_none,errW_some] <;> rfl),by repeat (first | (with_reducible first | exact HB.out | apply below_alloc | apply pw_below_drewN | apply below_drew1 | refine below_set ?_ GE201.out) | exact HB.out)⟩
   replace c52:=Bool.eq_false_iff.mpr c52
   subst c52
   have H1 : (some false) = some r:=by rw [if_neg (show ¬ (false = true) by decide)] at H; exact H
   clear H
   have H:=H1
   clear H1
   obtain rfl:=Option.some.inj H
   have hcz55_0 : wr.cell? ⟨gb201,0,none⟩ = some (.int .i64 a0_0):=(blk_cell BK201.out 0).trans rfl
   have hcz55_1 : wr.cell? ⟨gb201,1,none⟩ = some (.int .i64 a0_1):=(blk_cell BK201.out 1).trans rfl
   have hcz55_2 : wr.cell? ⟨gb201,2,none⟩ = some (.slice A0_2 l0_2.length c0_2):=(blk_cell BK201.out 2).trans rfl
   have hcz55_3 : wr.cell? ⟨gb201,3,none⟩ = some (.slice A0_3 l0_3.length c0_3):=(blk_cell BK201.out 3).trans rfl
   have hfz55_0:=blk_frozen BK201.out 0
   have hfz55_1:=blk_frozen BK201.out 1
   have hfz55_2:=blk_frozen BK201.out 2
   have hfz55_3:=blk_frozen BK201.out 3
   go_wp2_with (first | ((with_reducible refine gate_callee (f:=104) rfl ?_); refine goesL_ (some 63) rfl rfl Try.func104 (by kernel_rfl) rfl #[.int .i64 a0_0] rfl (by (try simp only [List.map_toArray,List.map_cons,List.map_nil]); first | done | rfl | (simp only [List.length_drop,List.length_take]; rfl) | (simp only [ByteArray.size_append,Int.natCast_add]; rfl) | (simp [ByteArray.size_append,Int.add_assoc]; done)) ?_; (with_reducible refine (world_near.calls a0_0 false _ A51.out).mono ?_); rintro e w' ⟨rfl,⟨nd,rfl⟩⟩; refine ⟨_,rfl,?_⟩))
   go_ret
   exact ⟨by first | rfl | (simp [errW_none,errW_some] <;> rfl) | (simp [*,errW_none,errW_some] <;> rfl),by repeat (first | (with_reducible first | exact HB.out | apply below_alloc | apply pw_below_drewN | apply below_drew1 | refine below_set ?_ GE201.out) | exact HB.out)⟩

end Go.Proofs.Ytbjknbfagadhfaa.PAll
