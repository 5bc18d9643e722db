/- Of the texts that the row stands on, what it needs (part 15), put together by a program of this session. -/
import Derived.Test.YtlgmabibcpkdmaaZaT10
import Derived.Test.YtlgmabibcpkdmaaZaT12
import Derived.Test.YtlgmabibcpkdmaaZaT13
import Derived.Test.YtlgmabibcpkdmaaZaT14
namespace Go.Proofs.Ytlgmabibcpkdmaa.PAll
open Go.RowKit Go.Proofs.YtlgmabibcpkdmaaW.PrintWords Go.Proofs.YtlgmabibcpkdmaaW.PrintLast Go.Proofs.YtlgmabibcpkdmaaW.PrintMore
attribute [local go_sem] max2_int min2_int max_two min_two max_three min_three max_four min_four
set_option linter.unusedVariables false
set_option linter.unusedSimpArgs false
def sheet_Link.j0 : Nat → Int → ByteArray → Bool → Option (Int × ByteArray × Bool)
  | 0, _, _, _ => none
  | k + 1, x6, x7, x39 => if x39 = true then (some (0, (⟨#[]⟩ : ByteArray), false)) else (some (x6, x7, true))
def sheet_Link.f (k : Nat) (a0 : ByteArray) : Option (Int × ByteArray × Bool) := (sheet_reader_take.f a0 false 1).bind fun bt148 => ((sheet_reader_num.f k bt148.2.1 bt148.2.2 2).bind fun bt151 => ((sheet_reader_num.f k bt151.2.1 bt151.2.2 1).bind fun bt154 => ((sheet_reader_take.f bt154.2.1 bt154.2.2 bt154.1).bind fun bt157 => ((sheet_Chain.f k bt151.1 bt157.1).bind fun bt160 => (if bt157.2.2 = true then (sheet_Link.j0 k bt151.1 bt157.1 true) else (if bt160.2 = true then (sheet_Link.j0 k bt151.1 bt157.1 (bt160.1.toList != a0.toList)) else (sheet_Link.j0 k bt151.1 bt157.1 true)))))))
theorem sheet_Link.mono_l : ∀ k, (∀ y0 y1 y2, LeO (sheet_Link.j0 k y0 y1 y2) (sheet_Link.j0 (k + 1) y0 y1 y2))
  | 0 => fun _ _ _ r h => by simp [sheet_Link.j0] at h
  | k + 1 => by
    have ih0 := sheet_Link.mono_l k
    · intro y0 y1 y2
      unfold sheet_Link.j0
      repeat' first
      | (with_reducible exact ih0 _ _ _)
      | (with_reducible exact sheet_Chain.mono _ _ _)
      | (with_reducible exact sheet_reader_num.mono _ _ _ _)
      | (with_reducible exact LeO.refl _)
      | (with_reducible exact LeO.none _)
      | (with_reducible refine LeO.ite ?_ ?_)
      | (with_reducible refine LeO.bind ?_ (fun _ => ?_))
      | exact ih0 _ _ _
      | exact sheet_Chain.mono _ _ _
      | exact sheet_reader_num.mono _ _ _ _
      | exact LeO.none _
      | refine LeO.ite ?_ ?_
      | refine LeO.bind ?_ (fun _ => ?_)
theorem sheet_Link.mono : ∀ a0 k, LeO (sheet_Link.f k a0) (sheet_Link.f (k + 1) a0) := by
  intro a0 k
  have ih0 := sheet_Link.mono_l k
  unfold sheet_Link.f
  repeat' first
      | (with_reducible exact ih0 _ _ _)
      | (with_reducible exact sheet_Chain.mono _ _ _)
      | (with_reducible exact sheet_reader_num.mono _ _ _ _)
      | (with_reducible exact LeO.refl _)
      | (with_reducible exact LeO.none _)
      | (with_reducible refine LeO.ite ?_ ?_)
      | (with_reducible refine LeO.bind ?_ (fun _ => ?_))
      | exact ih0 _ _ _
      | exact sheet_Chain.mono _ _ _
      | exact sheet_reader_num.mono _ _ _ _
      | exact LeO.none _
      | refine LeO.ite ?_ ?_
      | refine LeO.bind ?_ (fun _ => ?_)
set_option maxHeartbeats 8000000 in
set_option maxRecDepth 100000 in
theorem sheet_Link.calls (k : Nat) (a0 : ByteArray) (r1 : Int) (r2 : ByteArray) (r3 : Bool) (w : World) (h : sheet_Link.f k a0 = some (r1,r2,r3)) :
    Calls Try.prog 17 #[.string a0] w fun e w' => e = .returned (.tuple #[.int .i64 r1,.string r2,.bool r3]) ∧ Below w.heap.size w w':=by
 have hu76:=Try.underlying76
 have HB:=Aside0.mk (Below.refl w.heap.size w)
 have H : ((sheet_reader_take.f a0 false 1).bind fun bt148 => ((sheet_reader_num.f k bt148.2.1 bt148.2.2 2).bind fun bt151 => ((sheet_reader_num.f k bt151.2.1 bt151.2.2 1).bind fun bt154 => ((sheet_reader_take.f bt154.2.1 bt154.2.2 bt154.1).bind fun bt157 => ((sheet_Chain.f k bt151.1 bt157.1).bind fun bt160 => (if bt157.2.2 = true then (sheet_Link.j0 k bt151.1 bt157.1 true) else (if bt160.2 = true then (sheet_Link.j0 k bt151.1 bt157.1 (bt160.1.toList != a0.toList)) else (sheet_Link.j0 k bt151.1 bt157.1 true)))))))) = some (r1,r2,r3):=h
 clear h
 replace H:=Option.bind_eq_some_iff.mp H
 obtain ⟨⟨t148,t149,t150⟩,A20,H⟩:=H
 replace H : ((sheet_reader_num.f k t149 t150 2).bind fun bt151 => ((sheet_reader_num.f k bt151.2.1 bt151.2.2 1).bind fun bt154 => ((sheet_reader_take.f bt154.2.1 bt154.2.2 bt154.1).bind fun bt157 => ((sheet_Chain.f k bt151.1 bt157.1).bind fun bt160 => (if bt157.2.2 = true then (sheet_Link.j0 k bt151.1 bt157.1 true) else (if bt160.2 = true then (sheet_Link.j0 k bt151.1 bt157.1 (bt160.1.toList != a0.toList)) else (sheet_Link.j0 k bt151.1 bt157.1 true))))))) = some (r1,r2,r3):=H
 have A2:=Aside0.mk A20
 clear A20
 replace H:=Option.bind_eq_some_iff.mp H
 obtain ⟨⟨t151,t152,t153⟩,A30,H⟩:=H
 replace H : ((sheet_reader_num.f k t152 t153 1).bind fun bt154 => ((sheet_reader_take.f bt154.2.1 bt154.2.2 bt154.1).bind fun bt157 => ((sheet_Chain.f k t151 bt157.1).bind fun bt160 => (if bt157.2.2 = true then (sheet_Link.j0 k t151 bt157.1 true) else (if bt160.2 = true then (sheet_Link.j0 k t151 bt157.1 (bt160.1.toList != a0.toList)) else (sheet_Link.j0 k t151 bt157.1 true)))))) = some (r1,r2,r3):=H
 have A3:=Aside0.mk A30
 clear A30
 replace H:=Option.bind_eq_some_iff.mp H
 obtain ⟨⟨t154,t155,t156⟩,A40,H⟩:=H
 replace H : ((sheet_reader_take.f t155 t156 t154).bind fun bt157 => ((sheet_Chain.f k t151 bt157.1).bind fun bt160 => (if bt157.2.2 = true then (sheet_Link.j0 k t151 bt157.1 true) else (if bt160.2 = true then (sheet_Link.j0 k t151 bt157.1 (bt160.1.toList != a0.toList)) else (sheet_Link.j0 k t151 bt157.1 true))))) = some (r1,r2,r3):=H
 have A4:=Aside0.mk A40
 clear A40
 replace H:=Option.bind_eq_some_iff.mp H
 obtain ⟨⟨t157,t158,t159⟩,A50,H⟩:=H
 replace H : ((sheet_Chain.f k t151 t157).bind fun bt160 => (if t159 = true then (sheet_Link.j0 k t151 t157 true) else (if bt160.2 = true then (sheet_Link.j0 k t151 t157 (bt160.1.toList != a0.toList)) else (sheet_Link.j0 k t151 t157 true)))) = some (r1,r2,r3):=H
 have A5:=Aside0.mk A50
 clear A50
 replace H:=Option.bind_eq_some_iff.mp H
 obtain ⟨⟨t160,t161⟩,A60,H⟩:=H
 replace H : (if t159 = true then (sheet_Link.j0 k t151 t157 true) else (if t161 = true then (sheet_Link.j0 k t151 t157 (t160.toList != a0.toList)) else (sheet_Link.j0 k t151 t157 true))) = some (r1,r2,r3):=H
 have A6:=Aside0.mk A60
 clear A60
 have HC7:=Aside0.mk H
 clear H
 go_enter Try.func17,Try.ntmps17
 go_upto_region 6 with (first | ((with_reducible refine gate_dst (N:=12) rfl ?_); refine box_event ?hg (N:=12) ?hd (cs:=#[.string a0,.bool false]) (t:=76) ?hr ?_; (case hd => rfl); (case hg => rfl); (case hr => first | (go_simp; done) | (go_simp; rfl)); intro gb147 hg w8 hbox hb; have n0_:=Aside0.mk (below_step (by repeat (first | (with_reducible first | exact HB.out | apply below_alloc | apply pw_below_drewN | apply below_drew1) | exact HB.out)) hb); have n1_:=Aside0.mk ((show IsS76 w w8 gb147 a0 false from ⟨hbox,(by rw [hg]; exact (below_size (by repeat (first | (with_reducible first | exact HB.out | apply below_alloc | apply pw_below_drewN | apply below_drew1) | exact HB.out))) : w.heap.size ≤ gb147)⟩)); have n2_:=Aside0.mk ((by rw [hg]; exact (below_size (by repeat (first | (with_reducible first | exact HB.out | apply below_alloc | apply pw_below_drewN | apply below_drew1) | exact HB.out))) : w.heap.size ≤ gb147)); have n3_:=Aside0.mk ((by rw [hg]; exact (below_size (by repeat (first | (with_reducible first | exact HB.out | apply below_alloc | apply pw_below_drewN | apply below_drew1) | exact HB.out))) : w.heap.size ≤ gb147)); clear HB; have HB:=n0_; have HI147:=n1_; have GW147:=n2_; have GE147:=n3_; clear n0_ n1_ n2_ n3_; clear hb hbox hg) | ((with_reducible refine gate_callee (f:=36) rfl ?_); refine goesL_ (some 14) rfl rfl Try.func36 (by kernel_rfl) rfl #[.pointer (some ⟨gb147,0,none⟩),.int .i64 1] rfl (by (try simp only [List.map_toArray,List.map_cons,List.map_nil]); first | done | rfl | (simp only [List.length_drop,List.length_take]; rfl) | (simp only [ByteArray.size_append,Int.natCast_add]; rfl) | (simp [ByteArray.size_append,Int.add_assoc]; done)) ?_; (with_reducible refine (sheet_reader_take.calls gb147 a0 false 1 t148 t149 t150 w _ ?side1 ?side2 A2.out).mono ?_); (case side1 => repeat (first | (with_reducible first | exact HI147.out | apply IsS76.alloc | apply IsS76.drewN | apply IsS76.drew | apply IsS76.set_0 | apply IsS76.set_1) | exact HI147.out)); (case side2 => repeat (first | (with_reducible first | exact HB.out | apply below_alloc | apply pw_below_drewN | apply below_drew1 | refine below_set ?_ (IsS76.ge HI147.out)) | exact HB.out)); rintro e w9 ⟨rfl,hi,hb,hk⟩; refine ⟨_,rfl,?_⟩; have n0_:=Aside0.mk (hb); have n1_:=Aside0.mk (hi); clear HB; clear HI147; have HB:=n0_; have HI147:=n1_; clear n0_ n1_; (try clear hb); (try clear hb2); (try clear hk); (try clear hi)) | ((with_reducible refine gate_callee (f:=37) rfl ?_); refine goesL_ (some 16) rfl rfl Try.func37 (by kernel_rfl) rfl #[.pointer (some ⟨gb147,0,none⟩),.int .i64 2] rfl (by (try simp only [List.map_toArray,List.map_cons,List.map_nil]); first | done | rfl | (simp only [List.length_drop,List.length_take]; rfl) | (simp only [ByteArray.size_append,Int.natCast_add]; rfl) | (simp [ByteArray.size_append,Int.add_assoc]; done)) ?_; (with_reducible refine (sheet_reader_num.calls k gb147 t149 t150 2 t151 t152 t153 w _ ?side1 ?side2 A3.out).mono ?_); (case side1 => repeat (first | (with_reducible first | exact HI147.out | apply IsS76.alloc | apply IsS76.drewN | apply IsS76.drew | apply IsS76.set_0 | apply IsS76.set_1) | exact HI147.out)); (case side2 => repeat (first | (with_reducible first | exact HB.out | apply below_alloc | apply pw_below_drewN | apply below_drew1 | refine below_set ?_ (IsS76.ge HI147.out)) | exact HB.out)); rintro e w10 ⟨rfl,hi,hb,hk⟩; refine ⟨_,rfl,?_⟩; have n0_:=Aside0.mk (hb); have n1_:=Aside0.mk (hi); clear HB; clear HI147; have HB:=n0_; have HI147:=n1_; clear n0_ n1_; (try clear hb); (try clear hb2); (try clear hk); (try clear hi)) | ((with_reducible refine gate_callee (f:=37) rfl ?_); refine goesL_ (some 19) rfl rfl Try.func37 (by kernel_rfl) rfl #[.pointer (some ⟨gb147,0,none⟩),.int .i64 1] rfl (by (try simp only [List.map_toArray,List.map_cons,List.map_nil]); first | done | rfl | (simp only [List.length_drop,List.length_take]; rfl) | (simp only [ByteArray.size_append,Int.natCast_add]; rfl) | (simp [ByteArray.size_append,Int.add_assoc]; done)) ?_; (with_reducible refine (sheet_reader_num.calls k gb147 t152 t153 1 t154 t155 t156 w _ ?side1 ?side2 A4.out).mono ?_); (case side1 => repeat (first | (with_reducible first | exact HI147.out | apply IsS76.alloc | apply IsS76.drewN | apply IsS76.drew | apply IsS76.set_0 | apply IsS76.set_1) | exact HI147.out)); (case side2 => repeat (first | (with_reducible first | exact HB.out | apply below_alloc | apply pw_below_drewN | apply below_drew1 | refine below_set ?_ (IsS76.ge HI147.out)) | exact HB.out)); rintro e w11 ⟨rfl,hi,hb,hk⟩; refine ⟨_,rfl,?_⟩; have n0_:=Aside0.mk (hb); have n1_:=Aside0.mk (hi); clear HB; clear HI147; have HB:=n0_; have HI147:=n1_; clear n0_ n1_; (try clear hb); (try clear hb2); (try clear hk); (try clear hi)) | ((with_reducible refine gate_callee (f:=36) rfl ?_); refine goesL_ (some 20) rfl rfl Try.func36 (by kernel_rfl) rfl #[.pointer (some ⟨gb147,0,none⟩),.int .i64 t154] rfl (by (try simp only [List.map_toArray,List.map_cons,List.map_nil]); first | done | rfl | (simp only [List.length_drop,List.length_take]; rfl) | (simp only [ByteArray.size_append,Int.natCast_add]; rfl) | (simp [ByteArray.size_append,Int.add_assoc]; done)) ?_; (with_reducible refine (sheet_reader_take.calls gb147 t155 t156 t154 t157 t158 t159 w _ ?side1 ?side2 A5.out).mono ?_); (case side1 => repeat (first | (with_reducible first | exact HI147.out | apply IsS76.alloc | apply IsS76.drewN | apply IsS76.drew | apply IsS76.set_0 | apply IsS76.set_1) | exact HI147.out)); (case side2 => repeat (first | (with_reducible first | exact HB.out | apply below_alloc | apply pw_below_drewN | apply below_drew1 | refine below_set ?_ (IsS76.ge HI147.out)) | exact HB.out)); rintro e w12 ⟨rfl,hi,hb,hk⟩; refine ⟨_,rfl,?_⟩; have n0_:=Aside0.mk (hb); have n1_:=Aside0.mk (hi); clear HB; clear HI147; have HB:=n0_; have HI147:=n1_; clear n0_ n1_; (try clear hb); (try clear hb2); (try clear hk); (try clear hi)) | ((with_reducible refine gate_callee (f:=16) rfl ?_); refine goesL_ (some 24) rfl rfl Try.func16 (by kernel_rfl) rfl #[.int .i64 t151,.string t157] rfl (by (try simp only [List.map_toArray,List.map_cons,List.map_nil]); first | done | rfl | (simp only [List.length_drop,List.length_take]; rfl) | (simp only [ByteArray.size_append,Int.natCast_add]; rfl) | (simp [ByteArray.size_append,Int.add_assoc]; done)) ?_; (with_reducible refine (sheet_Chain.calls k t151 t157 t160 t161 _ A6.out).mono ?_); rintro e w13 ⟨rfl,hb⟩; refine ⟨_,rfl,?_⟩; have n0_:=Aside0.mk (IsS76.below (by repeat (first | (with_reducible first | exact HI147.out | apply IsS76.alloc | apply IsS76.drewN | apply IsS76.drew | apply IsS76.set_0 | apply IsS76.set_1) | exact HI147.out)) hb); have n1_:=Aside0.mk (below_step (by repeat (first | (with_reducible first | exact HB.out | apply below_alloc | apply pw_below_drewN | apply below_drew1 | refine below_set ?_ (IsS76.ge HI147.out)) | exact HB.out)) hb); clear HI147; clear HB; have HI147:=n0_; have HB:=n1_; clear n0_ n1_; (try clear hb); (try clear hb2); (try clear hk); (try clear hi)))
 (try simp only [Act.put,List.setIfInBounds_toArray,List.set_cons_zero,List.set_cons_succ])
 go_cut [39] (fun v39 wc => ∃ (kq : Nat) (x39_6 : Bool),v39 = .bool x39_6 ∧ Aside0 (sheet_Link.j0 kq t151 t157 x39_6 = some (r1,r2,r3)) ∧ Aside0 (kq ≤ k) ∧ Aside0 (Below w.heap.size w wc))
 case first =>
  have H:=HC7.out
  clear HC7
  by_cases c14 : t159 = true
  ·subst c14
   have H1 : (sheet_Link.j0 k t151 t157 true) = some (r1,r2,r3):=by rw [if_pos rfl] at H; exact H
   clear H
   have H:=H1
   clear H1
   have H':=Aside0.mk H
   clear H
   obtain ⟨HGz15,hgz15⟩:=HI147.out
   have hcz15_0:=cellS76_0 HGz15
   have hcz15_1:=cellS76_1 HGz15
   have hfz15_0:=blk_frozen HGz15 0
   have hfz15_1:=blk_frozen HGz15 1
   clear HGz15 hgz15
   go_wp2
   go_meet
   case rel => exact ⟨_,(true),(by first | rfl | (simp; done) | (simp [*]; done)),H',⟨by first | omega | exact Nat.le_refl _⟩,⟨by repeat (first | (with_reducible first | exact HB.out | apply below_alloc | apply pw_below_drewN | apply below_drew1 | refine below_set ?_ (IsS76.ge HI147.out)) | exact HB.out)⟩⟩
  replace c14:=Bool.eq_false_iff.mpr c14
  subst c14
  have H1 : (if t161 = true then (sheet_Link.j0 k t151 t157 (t160.toList != a0.toList)) else (sheet_Link.j0 k t151 t157 true)) = some (r1,r2,r3):=by rw [if_neg (show ¬ (false = true) by decide)] at H; exact H
  clear H
  have H:=H1
  clear H1
  by_cases c16 : t161 = true
  ·subst c16
   have H1 : (sheet_Link.j0 k t151 t157 (t160.toList != a0.toList)) = some (r1,r2,r3):=by rw [if_pos rfl] at H; exact H
   clear H
   have H:=H1
   clear H1
   have H':=Aside0.mk H
   clear H
   obtain ⟨HGz17,hgz17⟩:=HI147.out
   have hcz17_0:=cellS76_0 HGz17
   have hcz17_1:=cellS76_1 HGz17
   have hfz17_0:=blk_frozen HGz17 0
   have hfz17_1:=blk_frozen HGz17 1
   clear HGz17 hgz17
   go_wp2
   go_meet
   case rel => exact ⟨_,((t160.toList != a0.toList)),(by first | rfl | (simp; done) | (simp [*]; done)),H',⟨by first | omega | exact Nat.le_refl _⟩,⟨by repeat (first | (with_reducible first | exact HB.out | apply below_alloc | apply pw_below_drewN | apply below_drew1 | refine below_set ?_ (IsS76.ge HI147.out)) | exact HB.out)⟩⟩
  replace c16:=Bool.eq_false_iff.mpr c16
  subst c16
  have H1 : (sheet_Link.j0 k t151 t157 true) = some (r1,r2,r3):=by rw [if_neg (show ¬ (false = true) by decide)] at H; exact H
  clear H
  have H:=H1
  clear H1
  have H':=Aside0.mk H
  clear H
  obtain ⟨HGz18,hgz18⟩:=HI147.out
  have hcz18_0:=cellS76_0 HGz18
  have hcz18_1:=cellS76_1 HGz18
  have hfz18_0:=blk_frozen HGz18 0
  have hfz18_1:=blk_frozen HGz18 1
  clear HGz18 hgz18
  go_wp2
  go_meet
  case rel => exact ⟨_,(true),(by first | rfl | (simp; done) | (simp [*]; done)),H',⟨by first | omega | exact Nat.le_refl _⟩,⟨by repeat (first | (with_reducible first | exact HB.out | apply below_alloc | apply pw_below_drewN | apply below_drew1 | refine below_set ?_ (IsS76.ge HI147.out)) | exact HB.out)⟩⟩
 clear HC7
 try clear c1
 try clear p2
 try clear c3
 try clear c14
 try clear c16
 try clear c17
 try clear hcz15_0
 try clear hcz15_1
 try clear hcz17_0
 try clear hcz17_1
 try clear hcz18_0
 try clear hcz18_1
 try clear hfz15_0
 try clear hfz15_1
 try clear hfz17_0
 try clear hfz17_1
 try clear hfz18_0
 try clear hfz18_1
 obtain ⟨kq,x39_6,rfl,HA,HJ6,HB⟩:=hcut
 cases kq with
 | zero => exact absurd HA.out (by simp [sheet_Link.j0])
 | succ kj6 =>
  have H:=HA.out
  clear HA
  simp only [sheet_Link.j0] at H
  by_cases c19 : x39_6 = true
  ·subst c19
   have H1 : (some (0,(⟨#[]⟩ : ByteArray),false)) = some (r1,r2,r3):=by rw [if_pos rfl] at H; exact H
   clear H
   have H:=H1
   clear H1
   simp only [Option.some.injEq,Prod.mk.injEq] at H
   obtain ⟨rfl,rfl,rfl⟩:=H
   go_wp2
   go_ret3
   exact ⟨by first | rfl | (simp [errW_none,errW_some] <;> rfl) | (simp [*,errW_none,errW_some] <;> rfl),by repeat (first | (with_reducible first | exact HB.out | apply below_alloc | apply pw_below_drewN | apply below_drew1) | exact HB.out)⟩
  replace c19:=Bool.eq_false_iff.mpr c19
  subst c19
  have H1 : (some (t151,t157,true)) = some (r1,r2,r3):=by rw [if_neg (show ¬ (false = true) by decide)] at H; exact H
  clear H
  have H:=H1
  clear H1
  simp only [Option.some.injEq,Prod.mk.injEq] at H
  obtain ⟨rfl,rfl,rfl⟩:=H
  go_wp2
  go_ret3
  exact ⟨by first | rfl | (simp [errW_none,errW_some] <;> rfl) | (simp [*,errW_none,errW_some] <;> rfl),by repeat (first | (with_reducible first | exact HB.out | apply below_alloc | apply pw_below_drewN | apply below_drew1) | exact HB.out)⟩

def sheet_Index.f (l0 : List (S41)) : Option (ByteArray × Bool) := some (Go.Proofs.Ytlgmabibcpkdmaa.V.idxA (fun i => (rd_T41 l0 i).f0) (fun i => (rd_T41 l0 i).f1) l0.length)
theorem sheet_Index.calls (A0 : Option Addr) (c0 : Nat) (l0 : List (S41)) (r1 : ByteArray) (r2 : Bool) (w : World) (hr0 : Kd.C k41 w A0 l0.length l0) (hc0 : l0.length ≤ c0) (h : sheet_Index.f l0 = some (r1,r2)) :
    Calls Try.prog 19 #[.slice A0 l0.length c0] w fun e w' => e = .returned (.tuple #[.string r1,.bool r2]) ∧ Below w.heap.size w w':=by
 have h:=Option.some.inj h
 have:=Go.Proofs.Ytlgmabibcpkdmaa.V.index_all A0 l0.length c0 w (fun i => (rd_T41 l0 i).f0) (fun i => (rd_T41 l0 i).f1) (fun i h0 h1 => at_T41 hr0 i h0 h1)
 rw [h] at this
 exact this

mutual
def sheet_Slots.l0 : Nat → ByteArray → List (S41) → Int → ByteArray → Bool → Option ((List (S41)) × Bool)
  | 0, _, _, _, _, _ => none
  | k + 1, x0, x5, x6, x163000, x163001 => if x6 > 0 then ((sheet_reader_num.f k x163000 x163001 4).bind fun bt169 => ((sheet_reader_num.f k bt169.2.1 bt169.2.2 2).bind fun bt173 => (if x5.length < 8796093022208 then (sheet_Slots.l0 k x0 (x5 ++ [(⟨bt169.1, bt173.1⟩ : S41)]) (wrap64 (x6 - 1)) bt173.2.1 bt173.2.2) else (none)))) else ((sheet_Index.f x5).bind fun bt179 => (if x163001 = true then (sheet_Slots.j1 k x5 true) else (if bt179.2 = true then (sheet_Slots.j1 k x5 (bt179.1.toList != x0.toList)) else (sheet_Slots.j1 k x5 true))))
def sheet_Slots.j1 : Nat → List (S41) → Bool → Option ((List (S41)) × Bool)
  | 0, _, _ => none
  | k + 1, x5, x48 => if x48 = true then (some (([] : List (S41)), false)) else (some (x5, true))
end
def sheet_Slots.f (k : Nat) (a0 : ByteArray) : Option ((List (S41)) × Bool) := (sheet_reader_take.f a0 false 1).bind fun bt163 => ((sheet_reader_num.f k bt163.2.1 bt163.2.2 1).bind fun bt166 => (sheet_Slots.l0 k a0 ([] : List (S41)) bt166.1 bt166.2.1 bt166.2.2))
theorem sheet_Slots.mono_l : ∀ k, (∀ y0 y1 y2 y3 y4, LeO (sheet_Slots.l0 k y0 y1 y2 y3 y4) (sheet_Slots.l0 (k + 1) y0 y1 y2 y3 y4)) ∧ (∀ y0 y1, LeO (sheet_Slots.j1 k y0 y1) (sheet_Slots.j1 (k + 1) y0 y1))
  | 0 => ⟨fun _ _ _ _ _ r h => by simp [sheet_Slots.l0] at h, fun _ _ r h => by simp [sheet_Slots.j1] at h⟩
  | k + 1 => by
    obtain ⟨ih0, ih1⟩ := sheet_Slots.mono_l k
    refine ⟨?_, ?_⟩
    · intro y0 y1 y2 y3 y4
      unfold sheet_Slots.l0
      repeat' first
      | (with_reducible exact ih0 _ _ _ _ _)
      | (with_reducible exact ih1 _ _)
      | (with_reducible exact sheet_reader_num.mono _ _ _ _)
      | (with_reducible exact LeO.refl _)
      | (with_reducible exact LeO.none _)
      | (with_reducible refine LeO.ite ?_ ?_)
      | (with_reducible refine LeO.bind ?_ (fun _ => ?_))
      | exact ih0 _ _ _ _ _
      | exact ih1 _ _
      | exact sheet_reader_num.mono _ _ _ _
      | exact LeO.none _
      | refine LeO.ite ?_ ?_
      | refine LeO.bind ?_ (fun _ => ?_)
    · intro y0 y1
      unfold sheet_Slots.j1
      repeat' first
      | (with_reducible exact ih0 _ _ _ _ _)
      | (with_reducible exact ih1 _ _)
      | (with_reducible exact sheet_reader_num.mono _ _ _ _)
      | (with_reducible exact LeO.refl _)
      | (with_reducible exact LeO.none _)
      | (with_reducible refine LeO.ite ?_ ?_)
      | (with_reducible refine LeO.bind ?_ (fun _ => ?_))
      | exact ih0 _ _ _ _ _
      | exact ih1 _ _
      | exact sheet_reader_num.mono _ _ _ _
      | exact LeO.none _
      | refine LeO.ite ?_ ?_
      | refine LeO.bind ?_ (fun _ => ?_)
theorem sheet_Slots.mono : ∀ a0 k, LeO (sheet_Slots.f k a0) (sheet_Slots.f (k + 1) a0) := by
  intro a0 k
  obtain ⟨ih0, ih1⟩ := sheet_Slots.mono_l k
  unfold sheet_Slots.f
  repeat' first
      | (with_reducible exact ih0 _ _ _ _ _)
      | (with_reducible exact ih1 _ _)
      | (with_reducible exact sheet_reader_num.mono _ _ _ _)
      | (with_reducible exact LeO.refl _)
      | (with_reducible exact LeO.none _)
      | (with_reducible refine LeO.ite ?_ ?_)
      | (with_reducible refine LeO.bind ?_ (fun _ => ?_))
      | exact ih0 _ _ _ _ _
      | exact ih1 _ _
      | exact sheet_reader_num.mono _ _ _ _
      | exact LeO.none _
      | refine LeO.ite ?_ ?_
      | refine LeO.bind ?_ (fun _ => ?_)
set_option maxHeartbeats 8000000 in
set_option maxRecDepth 100000 in
theorem sheet_Slots.calls (k : Nat) (a0 : ByteArray) (r1 : List (S41)) (r2 : Bool) (w : World) (h : sheet_Slots.f k a0 = some (r1,r2)) :
    Calls Try.prog 20 #[.string a0] w fun e w' => ∃ v0_ : Value,e = .returned (.tuple #[v0_,.bool r2]) ∧ Kd.R k41 41 w' w.heap.size (fun _ => True) v0_ r1 ∧ Below w.heap.size w w':=by
 have hu76:=Try.underlying76
 have hu41:=Try.underlying41
 have HB:=Aside0.mk (Below.refl w.heap.size w)
 have H : ((sheet_reader_take.f a0 false 1).bind fun bt163 => ((sheet_reader_num.f k bt163.2.1 bt163.2.2 1).bind fun bt166 => (sheet_Slots.l0 k a0 ([] : List (S41)) bt166.1 bt166.2.1 bt166.2.2))) = some (r1,r2):=h
 clear h
 replace H:=Option.bind_eq_some_iff.mp H
 obtain ⟨⟨t163,t164,t165⟩,A20,H⟩:=H
 replace H : ((sheet_reader_num.f k t164 t165 1).bind fun bt166 => (sheet_Slots.l0 k a0 ([] : List (S41)) bt166.1 bt166.2.1 bt166.2.2)) = some (r1,r2):=H
 have A2:=Aside0.mk A20
 clear A20
 replace H:=Option.bind_eq_some_iff.mp H
 obtain ⟨⟨t166,t167,t168⟩,A30,H⟩:=H
 replace H : (sheet_Slots.l0 k a0 ([] : List (S41)) t166 t167 t168) = some (r1,r2):=H
 have A3:=Aside0.mk A30
 clear A30
 have H':=Aside0.mk H
 clear H
 go_enter Try.func20,Try.ntmps20
 go_wp2_with (first | ((with_reducible refine gate_dst (N:=12) rfl ?_); refine box_event ?hg (N:=12) ?hd (cs:=#[.string a0,.bool false]) (t:=76) ?hr ?_; (case hd => rfl); (case hg => rfl); (case hr => first | (go_simp; done) | (go_simp; rfl)); intro gb162 hg w4 hbox hb; have n0_:=Aside0.mk (below_step (by repeat (first | (with_reducible first | exact HB.out | apply below_alloc | apply pw_below_drewN | apply below_drew1) | exact HB.out)) hb); have n1_:=Aside0.mk ((show IsS76 w w4 gb162 a0 false from ⟨hbox,(by rw [hg]; exact (below_size (by repeat (first | (with_reducible first | exact HB.out | apply below_alloc | apply pw_below_drewN | apply below_drew1) | exact HB.out))) : w.heap.size ≤ gb162)⟩)); have n2_:=Aside0.mk ((by rw [hg]; exact (below_size (by repeat (first | (with_reducible first | exact HB.out | apply below_alloc | apply pw_below_drewN | apply below_drew1) | exact HB.out))) : w.heap.size ≤ gb162)); have n3_:=Aside0.mk ((by rw [hg]; exact (below_size (by repeat (first | (with_reducible first | exact HB.out | apply below_alloc | apply pw_below_drewN | apply below_drew1) | exact HB.out))) : w.heap.size ≤ gb162)); clear HB; have HB:=n0_; have HI162:=n1_; have GW162:=n2_; have GE162:=n3_; clear n0_ n1_ n2_ n3_; clear hb hbox hg) | ((with_reducible refine gate_callee (f:=36) rfl ?_); refine goesL_ (some 14) rfl rfl Try.func36 (by kernel_rfl) rfl #[.pointer (some ⟨gb162,0,none⟩),.int .i64 1] rfl (by (try simp only [List.map_toArray,List.map_cons,List.map_nil]); first | done | rfl | (simp only [List.length_drop,List.length_take]; rfl) | (simp only [ByteArray.size_append,Int.natCast_add]; rfl) | (simp [ByteArray.size_append,Int.add_assoc]; done)) ?_; (with_reducible refine (sheet_reader_take.calls gb162 a0 false 1 t163 t164 t165 w _ ?side1 ?side2 A2.out).mono ?_); (case side1 => repeat (first | (with_reducible first | exact HI162.out | apply IsS76.alloc | apply IsS76.drewN | apply IsS76.drew | apply IsS76.set_0 | apply IsS76.set_1) | exact HI162.out)); (case side2 => repeat (first | (with_reducible first | exact HB.out | apply below_alloc | apply pw_below_drewN | apply below_drew1 | refine below_set ?_ (IsS76.ge HI162.out)) | exact HB.out)); rintro e w5 ⟨rfl,hi,hb,hk⟩; refine ⟨_,rfl,?_⟩; have n0_:=Aside0.mk (hb); have n1_:=Aside0.mk (hi); clear HB; clear HI162; have HB:=n0_; have HI162:=n1_; clear n0_ n1_; (try clear hb); (try clear hb2); (try clear hk); (try clear hi)) | ((with_reducible refine gate_callee (f:=37) rfl ?_); refine goesL_ (some 16) rfl rfl Try.func37 (by kernel_rfl) rfl #[.pointer (some ⟨gb162,0,none⟩),.int .i64 1] rfl (by (try simp only [List.map_toArray,List.map_cons,List.map_nil]); first | done | rfl | (simp only [List.length_drop,List.length_take]; rfl) | (simp only [ByteArray.size_append,Int.natCast_add]; rfl) | (simp [ByteArray.size_append,Int.add_assoc]; done)) ?_; (with_reducible refine (sheet_reader_num.calls k gb162 t164 t165 1 t166 t167 t168 w _ ?side1 ?side2 A3.out).mono ?_); (case side1 => repeat (first | (with_reducible first | exact HI162.out | apply IsS76.alloc | apply IsS76.drewN | apply IsS76.drew | apply IsS76.set_0 | apply IsS76.set_1) | exact HI162.out)); (case side2 => repeat (first | (with_reducible first | exact HB.out | apply below_alloc | apply pw_below_drewN | apply below_drew1 | refine below_set ?_ (IsS76.ge HI162.out)) | exact HB.out)); rintro e w6 ⟨rfl,hi,hb,hk⟩; refine ⟨_,rfl,?_⟩; have n0_:=Aside0.mk (hb); have n1_:=Aside0.mk (hi); clear HB; clear HI162; have HB:=n0_; have HI162:=n1_; clear n0_ n1_; (try clear hb); (try clear hb2); (try clear hk); (try clear hi)))
 go_loopg [5,6] k (fun kq v5 v6 w' => ∃ (x5_1 : List (S41)) (x6_1 : Int) (x163000_1 : ByteArray) (x163001_1 : Bool),v6 = .int .i64 x6_1 ∧ Aside0 (sheet_Slots.l0 kq a0 x5_1 x6_1 x163000_1 x163001_1 = some (r1,r2)) ∧ Aside0 (kq ≤ k) ∧ Aside0 (Kd.R k41 41 w' w.heap.size (fun _ => True) v5 x5_1) ∧ Aside0 (IsS76 w w' gb162 x163000_1 x163001_1) ∧ Aside0 (Below w.heap.size w w'))
 case atStart => exact ⟨(([] : List (S41))),(t166),(t167),(t168),(by first | rfl | (simp; done) | (simp [*]; done)),H',⟨Nat.le_refl _⟩,⟨by first | exact Kd.R_nil _ _ _ _ _ | exact Kd.N_nil _ _ _ _ _ | exact Kd.V_nil _ _ _ _ _ | exact Kd.Q_nil _ _ _ _ _ | exact Kd.S_nil _ _ _ _ _⟩,⟨by repeat (first | (with_reducible first | exact HI162.out | apply IsS76.alloc | apply IsS76.drewN | apply IsS76.drew | apply IsS76.set_0 | apply IsS76.set_1) | exact HI162.out)⟩,⟨by repeat (first | (with_reducible first | exact HB.out | apply below_alloc | apply pw_below_drewN | apply below_drew1 | refine below_set ?_ (IsS76.ge HI162.out)) | exact HB.out)⟩⟩
 clear H'
 try clear c2
 try clear p2
 try clear c3
 obtain ⟨x5_1,x6_1,x163000_1,x163001_1,rfl,HA,HK1,HO_5,HI162,HB⟩:=hrel
 cases gk with
 | zero => exact absurd HA.out (by simp [sheet_Slots.l0])
 | succ k1 =>
  have H:=HA.out
  clear HA
  simp only [sheet_Slots.l0] at H
  by_cases c7 : x6_1 > 0
  ·rw [if_pos c7] at H
   have c7b0 : decide (0 < x6_1) = true:=decide_eq_true c7
   clear c7
   replace H:=Option.bind_eq_some_iff.mp H
   obtain ⟨⟨t169,t170,t171⟩,A80,H⟩:=H
   replace H : ((sheet_reader_num.f k1 t170 t171 2).bind fun bt173 => (if x5_1.length < 8796093022208 then (sheet_Slots.l0 k1 a0 (x5_1 ++ [(⟨t169,bt173.1⟩ : S41)]) (wrap64 (x6_1 - 1)) bt173.2.1 bt173.2.2) else (none))) = some (r1,r2):=H
   have A8:=Aside0.mk A80
   clear A80
   replace H:=Option.bind_eq_some_iff.mp H
   obtain ⟨⟨t173,t174,t175⟩,A90,H⟩:=H
   replace H : (if x5_1.length < 8796093022208 then (sheet_Slots.l0 k1 a0 (x5_1 ++ [(⟨t169,t173⟩ : S41)]) (wrap64 (x6_1 - 1)) t174 t175) else (none)) = some (r1,r2):=H
   have A9:=Aside0.mk A90
   clear A90
   by_cases c10 : x5_1.length < 8796093022208
   ·rw [if_pos c10] at H
    have LMc10:=Aside0.mk c10
    clear c10
    obtain ⟨y176,hy176⟩ : ∃ y_ : List (S41),y_ = (x5_1 ++ [(⟨t169,t173⟩ : S41)]):=⟨_,rfl⟩
    replace H : (sheet_Slots.l0 k1 a0 y176 (wrap64 (x6_1 - 1)) t174 t175) = some (r1,r2):=by first | (rw [hy176]; with_reducible exact H) | (have H2_:=(Option.bind_some _ _).symm.trans H; rw [hy176]; with_reducible exact H2_) | (have H2_:=(Option.bind_some _ _).symm.trans H; with_reducible exact H2_) | with_reducible exact H | (rw [hy176]; exact H) | exact H
    have Ny176:=Aside0.mk hy176
    clear hy176
    have H':=Aside0.mk H
    clear H
    go_wp2_with (first | ((with_reducible refine gate_callee (f:=37) rfl ?_); refine goesL_ (some 22) rfl rfl Try.func37 (by kernel_rfl) rfl #[.pointer (some ⟨gb162,0,none⟩),.int .i64 4] rfl (by (try simp only [List.map_toArray,List.map_cons,List.map_nil]); first | done | rfl | (simp only [List.length_drop,List.length_take]; rfl) | (simp only [ByteArray.size_append,Int.natCast_add]; rfl) | (simp [ByteArray.size_append,Int.add_assoc]; done)) ?_; (with_reducible refine (sheet_reader_num.calls k1 gb162 x163000_1 x163001_1 4 t169 t170 t171 w _ ?side1 ?side2 A8.out).mono ?_); (case side1 => repeat (first | (with_reducible first | exact HI162.out | apply IsS76.alloc | apply IsS76.drewN | apply IsS76.drew | apply IsS76.set_0 | apply IsS76.set_1) | exact HI162.out)); (case side2 => repeat (first | (with_reducible first | exact HB.out | apply below_alloc | apply pw_below_drewN | apply below_drew1 | refine below_set ?_ (IsS76.ge HI162.out)) | exact HB.out)); rintro e w11 ⟨rfl,hi,hb,hk⟩; refine ⟨_,rfl,?_⟩; have n0_:=Aside0.mk (Kd.R_mono (Kd.R_keep (IsS76.apart (show IsS76 w _ gb162 x163000_1 x163001_1 from by repeat (first | (with_reducible first | exact HI162.out | apply IsS76.alloc | apply IsS76.drewN | apply IsS76.drew | apply IsS76.set_0 | apply IsS76.set_1) | exact HI162.out)) (by (with_reducible repeat (first | apply Kd.R_alloc | apply Kd.R_drewN | apply Kd.R_drew)); exact HO_5.out) (by decide)) hk (fun _ h => h.2)) (fun _ h => h.1)); have n1_:=Aside0.mk (hb); have n2_:=Aside0.mk (hi); clear HO_5; clear HB; clear HI162; have HO_5:=n0_; have HB:=n1_; have HI162:=n2_; clear n0_ n1_ n2_; (try clear hb); (try clear hb2); (try clear hk); (try clear hi)) | ((with_reducible refine gate_dst (N:=7) rfl ?_); refine box_event ?hg (N:=7) ?hd (cs:=#[.int .i64 0,.int .i64 0]) (t:=41) ?hr ?_; (case hd => rfl); (case hg => rfl); (case hr => first | (go_simp; done) | (go_simp; rfl)); intro gb172 hg w12 hbox hb; have n0_:=Aside0.mk (Kd.R_below (Kd.R_elderB (by (with_reducible repeat (first | apply Kd.R_alloc | apply Kd.R_drewN | apply Kd.R_drew)); exact HO_5.out) gb172 (Nat.le_of_eq hg.symm)) hb); have n1_:=Aside0.mk (IsS76.below (by repeat (first | (with_reducible first | exact HI162.out | apply IsS76.alloc | apply IsS76.drewN | apply IsS76.drew | apply IsS76.set_0 | apply IsS76.set_1) | exact HI162.out)) hb); have n2_:=Aside0.mk (below_step (by repeat (first | (with_reducible first | exact HB.out | apply below_alloc | apply pw_below_drewN | apply below_drew1 | refine below_set ?_ (IsS76.ge HI162.out)) | exact HB.out)) hb); have n3_:=Aside0.mk (hbox); have n4_:=Aside0.mk ((by rw [hg]; exact (below_size (by repeat (first | (with_reducible first | exact HB.out | apply below_alloc | apply pw_below_drewN | apply below_drew1 | refine below_set ?_ (IsS76.ge HI162.out)) | exact HB.out))) : w.heap.size ≤ gb172)); have n5_:=Aside0.mk ((by rw [hg]; exact (below_size (by repeat (first | (with_reducible first | exact HB.out | apply below_alloc | apply pw_below_drewN | apply below_drew1 | refine below_set ?_ (IsS76.ge HI162.out)) | exact HB.out))) : w.heap.size ≤ gb172)); have n6_:=Aside0.mk ((by rw [hg]; exact Nat.ne_of_lt (IsS76.lt (show IsS76 w _ gb162 t170 t171 from by repeat (first | (with_reducible first | exact HI162.out | apply IsS76.alloc | apply IsS76.drewN | apply IsS76.drew | apply IsS76.set_0 | apply IsS76.set_1) | exact HI162.out))) : gb162 ≠ gb172)); have n7_:=Aside0.mk ((by rw [hg]; exact Nat.ne_of_gt (IsS76.lt (show IsS76 w _ gb162 t170 t171 from by repeat (first | (with_reducible first | exact HI162.out | apply IsS76.alloc | apply IsS76.drewN | apply IsS76.drew | apply IsS76.set_0 | apply IsS76.set_1) | exact HI162.out))) : gb172 ≠ gb162)); clear HO_5; clear HI162; clear HB; have HO_5:=n0_; have HI162:=n1_; have HB:=n2_; have BK172:=n3_; have GW172:=n4_; have GE172:=n5_; have NB162_172:=n6_; have NB172_162:=n7_; clear n0_ n1_ n2_ n3_ n4_ n5_ n6_ n7_; clear hb hbox hg; have hnb13:=NB172_162.out; have hnc13:=NB162_172.out; have hcz14_0 : w12.cell? ⟨gb172,0,none⟩ = some (.int .i64 0):=(blk_cell BK172.out 0).trans rfl; have hcz14_1 : w12.cell? ⟨gb172,1,none⟩ = some (.int .i64 0):=(blk_cell BK172.out 1).trans rfl; have hfz14_0:=blk_frozen BK172.out 0; have hfz14_1:=blk_frozen BK172.out 1) | ((with_reducible refine gate_callee (f:=37) rfl ?_); refine goesL_ (some 25) rfl rfl Try.func37 (by kernel_rfl) rfl #[.pointer (some ⟨gb162,0,none⟩),.int .i64 2] rfl (by (try simp only [List.map_toArray,List.map_cons,List.map_nil]); first | done | rfl | (simp only [List.length_drop,List.length_take]; rfl) | (simp only [ByteArray.size_append,Int.natCast_add]; rfl) | (simp [ByteArray.size_append,Int.add_assoc]; done)) ?_; (with_reducible refine (sheet_reader_num.calls k1 gb162 t170 t171 2 t173 t174 t175 w _ ?side1 ?side2 A9.out).mono ?_); (case side1 => repeat (first | (with_reducible first | exact HI162.out | apply IsS76.alloc | apply IsS76.drewN | apply IsS76.drew | apply IsS76.set_0 | apply IsS76.set_1 | refine IsS76.far ?_ NB162_172.out _) | exact HI162.out)); (case side2 => repeat (first | (with_reducible first | exact HB.out | apply below_alloc | apply pw_below_drewN | apply below_drew1 | refine below_set ?_ (IsS76.ge HI162.out) | refine below_set ?_ GE172.out) | exact HB.out)); rintro e w15 ⟨rfl,hi,hb,hk⟩; refine ⟨_,rfl,?_⟩; have n0_:=Aside0.mk (Kd.R_mono (Kd.R_keep (IsS76.apart (show IsS76 w _ gb162 t170 t171 from by repeat (first | (with_reducible first | exact HI162.out | apply IsS76.alloc | apply IsS76.drewN | apply IsS76.drew | apply IsS76.set_0 | apply IsS76.set_1 | refine IsS76.far ?_ NB162_172.out _) | exact HI162.out)) (by (with_reducible repeat (first | apply Kd.R_alloc | apply Kd.R_drewN | apply Kd.R_drew)); exact (Kd.R_mono (Kd.R_far (p:=⟨gb172,1,none⟩) (Kd.R_far (p:=⟨gb172,0,none⟩) (Kd.R_mono HO_5.out (fun k_ hk => (⟨hk,hk.2⟩ : _ ∧ k_ ≠ gb172))) (fun _ hk => hk.2) (.int .i64 t169)) (fun _ hk => hk.2) (.int .i64 0)) (fun _ h_ => h_.1))) (by decide)) hk (fun _ h => h.2)) (fun _ h => h.1)); have n1_:=Aside0.mk (KeepBut.blk hk (g':=gb172) (o:=.cells #[.int .i64 t169,.int .i64 0] 41 (0,0)) (by (with_reducible repeat (first | refine blk_drewN ?_ _ | refine blk_drew ?_ | refine blk_alloc ?_ _)); refine blk_put (cs:=#[.int .i64 t169,.int .i64 0]) ?_ 1 _ rfl; (with_reducible repeat (first | refine blk_drewN ?_ _ | refine blk_drew ?_ | refine blk_alloc ?_ _)); refine blk_put (cs:=#[.int .i64 0,.int .i64 0]) ?_ 0 _ rfl; (with_reducible repeat (first | refine blk_drewN ?_ _ | refine blk_drew ?_ | refine blk_alloc ?_ _)); exact BK172.out) NB172_162.out (by simp)); have n2_:=Aside0.mk (hb); have n3_:=Aside0.mk (hi); clear HO_5; clear BK172; clear HB; clear HI162; have HO_5:=n0_; have BK172:=n1_; have HB:=n2_; have HI162:=n3_; clear n0_ n1_ n2_ n3_; (try clear hb); (try clear hb2); (try clear hk); (try clear hi); have hcz16_0 : w15.cell? ⟨gb172,0,none⟩ = some (.int .i64 t169):=(blk_cell BK172.out 0).trans rfl; have hcz16_1 : w15.cell? ⟨gb172,1,none⟩ = some (.int .i64 0):=(blk_cell BK172.out 1).trans rfl; have hfz16_0:=blk_frozen BK172.out 0; have hfz16_1:=blk_frozen BK172.out 1) | ((with_reducible refine gate_builtin (b:=.append) (xs:=#[.tmp 27,.tmp 29]) rfl ?_); at_builtin; refine Kd.R_append k41 (w0:=w) w.heap.size rfl (.tmp 27) (.tmp 29) 39 41 (.agg #[(.int .i64 0),(.int .i64 0)]) 16 rfl Try.underlying39 info41 rfl (by decide) (by omega) u5 x5_1 (⟨t169,t173⟩ : S41) [.int .i64 t169,.int .i64 t173] (fun k_ => k_ ≠ gb172) (fun _ => False) rfl (by first | (go_simp; done) | (go_simp; rfl)) ?aP (fun _ hk => hk.elim) ?aF ?aO ?aB ?aS ?aL ?_; (case aP => exact k41_mkM _ _ _ (⟨t169,t173⟩ : S41)); (case aB => exact (by repeat (first | (with_reducible first | exact HB.out | apply below_alloc | apply pw_below_drewN | apply below_drew1 | refine below_set ?_ (IsS76.ge HI162.out) | refine below_set ?_ GE172.out) | exact HB.out))); (case aF => exact (fun k_ hk => Kd.freshB (g:=gb172) (o:=.cells #[.int .i64 t169,.int .i64 t173] 41 (0,0)) (by (with_reducible repeat (first | refine blk_drewN ?_ _ | refine blk_drew ?_ | refine blk_alloc ?_ _)); refine blk_put (cs:=#[.int .i64 t169,.int .i64 0]) ?_ 1 _ rfl; (with_reducible repeat (first | refine blk_drewN ?_ _ | refine blk_drew ?_ | refine blk_alloc ?_ _)); exact BK172.out) k_ hk)); (case aO => exact (by (with_reducible repeat (first | apply Kd.R_alloc | apply Kd.R_drewN | apply Kd.R_drew)); exact Kd.R_mono (Kd.R_far (p:=⟨gb172,1,none⟩) (Kd.R_mono HO_5.out (fun k_ hk => (⟨hk,hk.2⟩ : _ ∧ k_ ≠ gb172))) (fun _ hk => hk.2) (.int .i64 t173)) (fun _ hk => hk.1.2))); (case aS => exact (below_size (by repeat (first | (with_reducible first | exact HB.out | apply below_alloc | apply pw_below_drewN | apply below_drew1 | refine below_set ?_ (IsS76.ge HI162.out) | refine below_set ?_ GE172.out) | exact HB.out)))); (case aL => have:=LMc10.out; omega); intro v177 w17 ho hb hg hat; rw [← Ny176.out] at ho; have n0_:=Aside0.mk (IsS76.grown (show IsS76 w _ gb162 t174 t175 from by repeat (first | (with_reducible first | exact HI162.out | apply IsS76.alloc | apply IsS76.drewN | apply IsS76.drew | apply IsS76.set_0 | apply IsS76.set_1 | refine IsS76.far ?_ NB162_172.out _) | exact HI162.out)) hg (IsS76.own_ne HI162.out HO_5.out (by decide))); have n1_:=Aside0.mk (blk_grown (g:=gb172) (o:=.cells #[.int .i64 t169,.int .i64 t173] 41 (0,0)) (by (with_reducible repeat (first | refine blk_drewN ?_ _ | refine blk_drew ?_ | refine blk_alloc ?_ _)); refine blk_put (cs:=#[.int .i64 t169,.int .i64 0]) ?_ 1 _ rfl; (with_reducible repeat (first | refine blk_drewN ?_ _ | refine blk_drew ?_ | refine blk_alloc ?_ _)); exact BK172.out) hg (Kd.R_away HO_5.out (fun _ hk => hk.2))); have n2_:=Aside0.mk (hb); have n3_:=Aside0.mk (ho); clear HI162; clear BK172; clear HB; clear HO_5; have HI162:=n0_; have BK172:=n1_; have HB:=n2_; have HO178:=n3_; clear n0_ n1_ n2_ n3_; clear ho hb hg hat))
    go_roundg k1
    case measure => have:=HK1.out; omega
    case rel => exact ⟨(y176),(wrap64 (x6_1 - 1)),(t174),(t175),(by first | rfl | (simp; done) | (simp [*]; done)),H',⟨by have:=HK1.out; omega⟩,⟨by (with_reducible repeat (first | apply Kd.R_alloc | apply Kd.R_drewN | apply Kd.R_drew)); exact Kd.R_mono HO178.out (fun _ hk => trivial)⟩,⟨by repeat (first | (with_reducible first | exact HI162.out | apply IsS76.alloc | apply IsS76.drewN | apply IsS76.drew | apply IsS76.set_0 | apply IsS76.set_1 | refine IsS76.far ?_ NB162_172.out _) | exact HI162.out)⟩,⟨by repeat (first | (with_reducible first | exact HB.out | apply below_alloc | apply pw_below_drewN | apply below_drew1 | refine below_set ?_ (IsS76.ge HI162.out) | refine below_set ?_ GE172.out) | exact HB.out)⟩⟩
   rw [if_neg c10] at H
   exact absurd H (by simp)
  rw [if_neg c7] at H
  have c7b0 : decide (0 < x6_1) = false:=decide_eq_false c7
  clear c7
  replace H:=Option.bind_eq_some_iff.mp H
  obtain ⟨⟨t179,t180⟩,A180,H⟩:=H
  replace H : (if x163001_1 = true then (sheet_Slots.j1 k1 x5_1 true) else (if t180 = true then (sheet_Slots.j1 k1 x5_1 (t179.toList != a0.toList)) else (sheet_Slots.j1 k1 x5_1 true))) = some (r1,r2):=H
  have A18:=Aside0.mk A180
  clear A180
  have HC19:=Aside0.mk H
  clear H
  obtain ⟨Ao20,co20,eo20⟩:=Kd.R_slice HO_5.out
  subst eo20
  go_upto_region 11 with (first | ((with_reducible refine gate_callee (f:=19) rfl ?_); refine goesL_ (some 33) rfl rfl Try.func19 (by kernel_rfl) rfl #[.slice Ao20 x5_1.length co20] rfl (by (try simp only [List.map_toArray,List.map_cons,List.map_nil]); first | done | rfl | (simp only [List.length_drop,List.length_take]; rfl) | (simp only [ByteArray.size_append,Int.natCast_add]; rfl) | (simp [ByteArray.size_append,Int.add_assoc]; done)) ?_; (with_reducible refine (sheet_Index.calls _ _ x5_1 t179 t180 _ ?side1 ?side2 A18.out).mono ?_); (case side1 => repeat (first | exact (Kd.R_reads' HO_5.out).2.2 | (with_reducible refine Kd.C_alloc ?_ _) | (with_reducible refine Kd.C_drewN ?_ _) | (with_reducible refine Kd.C_drew ?_))); (case side2 => exact (Kd.R_reads' HO_5.out).2.1); rintro e w21 ⟨rfl,hb⟩; refine ⟨_,rfl,?_⟩; have n0_:=Aside0.mk (Kd.R_below (by (with_reducible repeat (first | apply Kd.R_alloc | apply Kd.R_drewN | apply Kd.R_drew)); exact HO_5.out) hb); have n1_:=Aside0.mk (IsS76.below (by repeat (first | (with_reducible first | exact HI162.out | apply IsS76.alloc | apply IsS76.drewN | apply IsS76.drew | apply IsS76.set_0 | apply IsS76.set_1) | exact HI162.out)) hb); have n2_:=Aside0.mk (below_step (by repeat (first | (with_reducible first | exact HB.out | apply below_alloc | apply pw_below_drewN | apply below_drew1 | refine below_set ?_ (IsS76.ge HI162.out)) | exact HB.out)) hb); clear HO_5; clear HI162; clear HB; have HO_5:=n0_; have HI162:=n1_; have HB:=n2_; clear n0_ n1_ n2_; (try clear hb); (try clear hb2); (try clear hk); (try clear hi)))
  (try simp only [Act.put,List.setIfInBounds_toArray,List.set_cons_zero,List.set_cons_succ])
  go_cut [48] (fun v48 wc => ∃ (kq : Nat) (x48_18 : Bool),v48 = .bool x48_18 ∧ Aside0 (sheet_Slots.j1 kq x5_1 x48_18 = some (r1,r2)) ∧ Aside0 (kq ≤ k1) ∧ Aside0 (Kd.R k41 41 wc w.heap.size (fun _ => True) (.slice Ao20 x5_1.length co20) x5_1) ∧ Aside0 (Below w.heap.size w wc))
  case first =>
   have H:=HC19.out
   clear HC19
   by_cases c22 : x163001_1 = true
   ·subst c22
    have H1 : (sheet_Slots.j1 k1 x5_1 true) = some (r1,r2):=by rw [if_pos rfl] at H; exact H
    clear H
    have H:=H1
    clear H1
    have H':=Aside0.mk H
    clear H
    obtain ⟨HGz23,hgz23⟩:=HI162.out
    have hcz23_0:=cellS76_0 HGz23
    have hcz23_1:=cellS76_1 HGz23
    have hfz23_0:=blk_frozen HGz23 0
    have hfz23_1:=blk_frozen HGz23 1
    clear HGz23 hgz23
    go_wp2
    go_meet
    case rel => exact ⟨_,(true),(by first | rfl | (simp; done) | (simp [*]; done)),H',⟨by have:=HK1.out; first | omega | exact Nat.le_refl _⟩,⟨by (with_reducible repeat (first | apply Kd.R_alloc | apply Kd.R_drewN | apply Kd.R_drew)); exact HO_5.out⟩,⟨by repeat (first | (with_reducible first | exact HB.out | apply below_alloc | apply pw_below_drewN | apply below_drew1 | refine below_set ?_ (IsS76.ge HI162.out)) | exact HB.out)⟩⟩
   replace c22:=Bool.eq_false_iff.mpr c22
   subst c22
   have H1 : (if t180 = true then (sheet_Slots.j1 k1 x5_1 (t179.toList != a0.toList)) else (sheet_Slots.j1 k1 x5_1 true)) = some (r1,r2):=by rw [if_neg (show ¬ (false = true) by decide)] at H; exact H
   clear H
   have H:=H1
   clear H1
   by_cases c24 : t180 = true
   ·subst c24
    have H1 : (sheet_Slots.j1 k1 x5_1 (t179.toList != a0.toList)) = some (r1,r2):=by rw [if_pos rfl] at H; exact H
    clear H
    have H:=H1
    clear H1
    have H':=Aside0.mk H
    clear H
    obtain ⟨HGz25,hgz25⟩:=HI162.out
    have hcz25_0:=cellS76_0 HGz25
    have hcz25_1:=cellS76_1 HGz25
    have hfz25_0:=blk_frozen HGz25 0
    have hfz25_1:=blk_frozen HGz25 1
    clear HGz25 hgz25
    go_wp2
    go_meet
    case rel => exact ⟨_,((t179.toList != a0.toList)),(by first | rfl | (simp; done) | (simp [*]; done)),H',⟨by have:=HK1.out; first | omega | exact Nat.le_refl _⟩,⟨by (with_reducible repeat (first | apply Kd.R_alloc | apply Kd.R_drewN | apply Kd.R_drew)); exact HO_5.out⟩,⟨by repeat (first | (with_reducible first | exact HB.out | apply below_alloc | apply pw_below_drewN | apply below_drew1 | refine below_set ?_ (IsS76.ge HI162.out)) | exact HB.out)⟩⟩
   replace c24:=Bool.eq_false_iff.mpr c24
   subst c24
   have H1 : (sheet_Slots.j1 k1 x5_1 true) = some (r1,r2):=by rw [if_neg (show ¬ (false = true) by decide)] at H; exact H
   clear H
   have H:=H1
   clear H1
   have H':=Aside0.mk H
   clear H
   obtain ⟨HGz26,hgz26⟩:=HI162.out
   have hcz26_0:=cellS76_0 HGz26
   have hcz26_1:=cellS76_1 HGz26
   have hfz26_0:=blk_frozen HGz26 0
   have hfz26_1:=blk_frozen HGz26 1
   clear HGz26 hgz26
   go_wp2
   go_meet
   case rel => exact ⟨_,(true),(by first | rfl | (simp; done) | (simp [*]; done)),H',⟨by have:=HK1.out; first | omega | exact Nat.le_refl _⟩,⟨by (with_reducible repeat (first | apply Kd.R_alloc | apply Kd.R_drewN | apply Kd.R_drew)); exact HO_5.out⟩,⟨by repeat (first | (with_reducible first | exact HB.out | apply below_alloc | apply pw_below_drewN | apply below_drew1 | refine below_set ?_ (IsS76.ge HI162.out)) | exact HB.out)⟩⟩
  clear HC19
  try clear c1
  try clear c2
  try clear p2
  try clear c3
  try clear p6
  try clear c7
  try clear c7b0
  try clear c10
  try clear c13
  try clear c19
  try clear c20
  try clear c22
  try clear c24
  try clear hcz14_0
  try clear hcz14_1
  try clear hcz16_0
  try clear hcz16_1
  try clear hcz23_0
  try clear hcz23_1
  try clear hcz25_0
  try clear hcz25_1
  try clear hcz26_0
  try clear hcz26_1
  try clear hfz14_0
  try clear hfz14_1
  try clear hfz16_0
  try clear hfz16_1
  try clear hfz23_0
  try clear hfz23_1
  try clear hfz25_0
  try clear hfz25_1
  try clear hfz26_0
  try clear hfz26_1
  try clear p2
  obtain ⟨kq,x48_18,rfl,HA,HJ18,HO_5,HB⟩:=hcut
  cases kq with
  | zero => exact absurd HA.out (by simp [sheet_Slots.j1])
  | succ kj18 =>
   have H:=HA.out
   clear HA
   simp only [sheet_Slots.j1] at H
   by_cases c27 : x48_18 = true
   ·subst c27
    have H1 : (some (([] : List (S41)),false)) = some (r1,r2):=by rw [if_pos rfl] at H; exact H
    clear H
    have H:=H1
    clear H1
    simp only [Option.some.injEq,Prod.mk.injEq] at H
    obtain ⟨rfl,rfl⟩:=H
    go_wp2
    go_ret2
    exact ⟨_,by first | rfl | (simp [errW_none,errW_some] <;> rfl) | (simp [*,errW_none,errW_some] <;> rfl),by first | exact Kd.R_nil _ _ _ _ _ | exact Kd.N_nil _ _ _ _ _ | exact Kd.V_nil _ _ _ _ _ | exact Kd.Q_nil _ _ _ _ _ | exact Kd.S_nil _ _ _ _ _,by repeat (first | (with_reducible first | exact HB.out | apply below_alloc | apply pw_below_drewN | apply below_drew1) | exact HB.out)⟩
   replace c27:=Bool.eq_false_iff.mpr c27
   subst c27
   have H1 : (some (x5_1,true)) = some (r1,r2):=by rw [if_neg (show ¬ (false = true) by decide)] at H; exact H
   clear H
   have H:=H1
   clear H1
   simp only [Option.some.injEq,Prod.mk.injEq] at H
   obtain ⟨rfl,rfl⟩:=H
   go_wp2
   go_ret2
   exact ⟨_,by first | rfl | (simp [errW_none,errW_some] <;> rfl) | (simp [*,errW_none,errW_some] <;> rfl),by (with_reducible repeat (first | apply Kd.R_alloc | apply Kd.R_drewN | apply Kd.R_drew)); exact HO_5.out,by repeat (first | (with_reducible first | exact HB.out | apply below_alloc | apply pw_below_drewN | apply below_drew1) | exact HB.out)⟩

def sheet_Kind.f (k : Nat) (a0 : ByteArray) : Option (Int) := (sheet_Slots.f k a0).bind fun bt181 => ((sheet_Cells.f k a0).bind fun bt185 => ((sheet_Link.f k a0).bind fun bt189 => (if bt181.2 = true then (some 73) else (if bt185.2 = true then (some 76) else (if bt189.2.2 = true then (some 67) else (some 0))))))
theorem sheet_Kind.mono : ∀ a0 k, LeO (sheet_Kind.f k a0) (sheet_Kind.f (k + 1) a0) := by
  intro a0 k
  unfold sheet_Kind.f
  repeat' first
      | (with_reducible exact sheet_Cells.mono _ _)
      | (with_reducible exact sheet_Link.mono _ _)
      | (with_reducible exact sheet_Slots.mono _ _)
      | (with_reducible exact LeO.refl _)
      | (with_reducible exact LeO.none _)
      | (with_reducible refine LeO.ite ?_ ?_)
      | (with_reducible refine LeO.bind ?_ (fun _ => ?_))
      | exact sheet_Cells.mono _ _
      | exact sheet_Link.mono _ _
      | exact sheet_Slots.mono _ _
      | exact LeO.none _
      | refine LeO.ite ?_ ?_
      | refine LeO.bind ?_ (fun _ => ?_)
set_option maxHeartbeats 8000000 in
set_option maxRecDepth 100000 in
theorem sheet_Kind.calls (k : Nat) (a0 : ByteArray) (r : Int) (w : World) (h : sheet_Kind.f k a0 = some r) :
    Calls Try.prog 18 #[.string a0] w fun e w' => e = .returned (.int .u8 r) ∧ Below w.heap.size w w':=by
 have HB:=Aside0.mk (Below.refl w.heap.size w)
 have H : ((sheet_Slots.f k a0).bind fun bt181 => ((sheet_Cells.f k a0).bind fun bt185 => ((sheet_Link.f k a0).bind fun bt189 => (if bt181.2 = true then (some 73) else (if bt185.2 = true then (some 76) else (if bt189.2.2 = true then (some 67) else (some 0))))))) = some r:=h
 clear h
 replace H:=Option.bind_eq_some_iff.mp H
 obtain ⟨⟨t181,t182⟩,A20,H⟩:=H
 replace H : ((sheet_Cells.f k a0).bind fun bt185 => ((sheet_Link.f k a0).bind fun bt189 => (if t182 = true then (some 73) else (if bt185.2 = true then (some 76) else (if bt189.2.2 = true then (some 67) else (some 0)))))) = some r:=H
 have A2:=Aside0.mk A20
 clear A20
 replace H:=Option.bind_eq_some_iff.mp H
 obtain ⟨⟨t185,t186⟩,A30,H⟩:=H
 replace H : ((sheet_Link.f k a0).bind fun bt189 => (if t182 = true then (some 73) else (if t186 = true then (some 76) else (if bt189.2.2 = true then (some 67) else (some 0))))) = some r:=H
 have A3:=Aside0.mk A30
 clear A30
 replace H:=Option.bind_eq_some_iff.mp H
 obtain ⟨⟨t189,t190,t191⟩,A40,H⟩:=H
 replace H : (if t182 = true then (some 73) else (if t186 = true then (some 76) else (if t191 = true then (some 67) else (some 0)))) = some r:=H
 have A4:=Aside0.mk A40
 clear A40
 by_cases c5 : t182 = true
 ·subst c5
  have H1 : (some 73) = some r:=by rw [if_pos rfl] at H; exact H
  clear H
  have H:=H1
  clear H1
  obtain rfl:=Option.some.inj H
  go_enter Try.func18,Try.ntmps18
  go_wp2_with (first | ((with_reducible refine gate_callee (f:=20) rfl ?_); refine goesL_ (some 12) rfl rfl Try.func20 (by kernel_rfl) rfl #[.string a0] rfl (by (try simp only [List.map_toArray,List.map_cons,List.map_nil]); first | done | rfl | (simp only [List.length_drop,List.length_take]; rfl) | (simp only [ByteArray.size_append,Int.natCast_add]; rfl) | (simp [ByteArray.size_append,Int.add_assoc]; done)) ?_; (with_reducible refine (sheet_Slots.calls k a0 t181 true _ A2.out).mono ?_); rintro e w6 ⟨v183,rfl,ho0,hb⟩; refine ⟨_,rfl,?_⟩; have n0_:=Aside0.mk (Kd.R_lower ho0 (below_size (by repeat (first | (with_reducible first | exact HB.out | apply below_alloc | apply pw_below_drewN | apply below_drew1) | exact HB.out)))); have n1_:=Aside0.mk (below_step (by repeat (first | (with_reducible first | exact HB.out | apply below_alloc | apply pw_below_drewN | apply below_drew1) | exact HB.out)) hb); clear HB; have HO184:=n0_; have HB:=n1_; clear n0_ n1_; (try clear hb); (try clear hb2); (try clear hk); (try clear hi); (try clear ho0)) | ((with_reducible refine gate_callee (f:=12) rfl ?_); refine goesL_ (some 17) rfl rfl Try.func12 (by kernel_rfl) rfl #[.string a0] rfl (by (try simp only [List.map_toArray,List.map_cons,List.map_nil]); first | done | rfl | (simp only [List.length_drop,List.length_take]; rfl) | (simp only [ByteArray.size_append,Int.natCast_add]; rfl) | (simp [ByteArray.size_append,Int.add_assoc]; done)) ?_; (with_reducible refine (sheet_Cells.calls k a0 t185 t186 _ A3.out).mono ?_); rintro e w7 ⟨v187,rfl,ho0,hb⟩; refine ⟨_,rfl,?_⟩; have n0_:=Aside0.mk (Kd.R_below (by (with_reducible repeat (first | apply Kd.R_alloc | apply Kd.R_drewN | apply Kd.R_drew)); exact HO184.out) hb); have n1_:=Aside0.mk (Kd.R_lower ho0 (below_size (by repeat (first | (with_reducible first | exact HB.out | apply below_alloc | apply pw_below_drewN | apply below_drew1) | exact HB.out)))); have n2_:=Aside0.mk (below_step (by repeat (first | (with_reducible first | exact HB.out | apply below_alloc | apply pw_below_drewN | apply below_drew1) | exact HB.out)) hb); clear HO184; clear HB; have HO184:=n0_; have HO188:=n1_; have HB:=n2_; clear n0_ n1_ n2_; (try clear hb); (try clear hb2); (try clear hk); (try clear hi); (try clear ho0)) | ((with_reducible refine gate_callee (f:=17) rfl ?_); refine goesL_ (some 22) rfl rfl Try.func17 (by kernel_rfl) rfl #[.string a0] rfl (by (try simp only [List.map_toArray,List.map_cons,List.map_nil]); first | done | rfl | (simp only [List.length_drop,List.length_take]; rfl) | (simp only [ByteArray.size_append,Int.natCast_add]; rfl) | (simp [ByteArray.size_append,Int.add_assoc]; done)) ?_; (with_reducible refine (sheet_Link.calls k a0 t189 t190 t191 _ A4.out).mono ?_); rintro e w8 ⟨rfl,hb⟩; refine ⟨_,rfl,?_⟩; have n0_:=Aside0.mk (Kd.R_below (by (with_reducible repeat (first | apply Kd.R_alloc | apply Kd.R_drewN | apply Kd.R_drew)); exact HO184.out) hb); have n1_:=Aside0.mk (Kd.R_below (by (with_reducible repeat (first | apply Kd.R_alloc | apply Kd.R_drewN | apply Kd.R_drew)); exact HO188.out) hb); have n2_:=Aside0.mk (below_step (by repeat (first | (with_reducible first | exact HB.out | apply below_alloc | apply pw_below_drewN | apply below_drew1) | exact HB.out)) hb); clear HO184; clear HO188; clear HB; have HO184:=n0_; have HO188:=n1_; have HB:=n2_; clear n0_ n1_ n2_; (try clear hb); (try clear hb2); (try clear hk); (try clear hi)))
  go_ret
  exact ⟨by first | rfl | (simp [errW_none,errW_some] <;> rfl) | (simp [*,errW_none,errW_some] <;> rfl),by repeat (first | (with_reducible first | exact HB.out | apply below_alloc | apply pw_below_drewN | apply below_drew1) | exact HB.out)⟩
 replace c5:=Bool.eq_false_iff.mpr c5
 subst c5
 have H1 : (if t186 = true then (some 76) else (if t191 = true then (some 67) else (some 0))) = some r:=by rw [if_neg (show ¬ (false = true) by decide)] at H; exact H
 clear H
 have H:=H1
 clear H1
 by_cases c9 : t186 = true
 ·subst c9
  have H1 : (some 76) = some r:=by rw [if_pos rfl] at H; exact H
  clear H
  have H:=H1
  clear H1
  obtain rfl:=Option.some.inj H
  go_enter Try.func18,Try.ntmps18
  go_wp2_with (first | ((with_reducible refine gate_callee (f:=20) rfl ?_); refine goesL_ (some 12) rfl rfl Try.func20 (by kernel_rfl) rfl #[.string a0] rfl (by (try simp only [List.map_toArray,List.map_cons,List.map_nil]); first | done | rfl | (simp only [List.length_drop,List.length_take]; rfl) | (simp only [ByteArray.size_append,Int.natCast_add]; rfl) | (simp [ByteArray.size_append,Int.add_assoc]; done)) ?_; (with_reducible refine (sheet_Slots.calls k a0 t181 false _ A2.out).mono ?_); rintro e w10 ⟨v183,rfl,ho0,hb⟩; refine ⟨_,rfl,?_⟩; have n0_:=Aside0.mk (Kd.R_lower ho0 (below_size (by repeat (first | (with_reducible first | exact HB.out | apply below_alloc | apply pw_below_drewN | apply below_drew1) | exact HB.out)))); have n1_:=Aside0.mk (below_step (by repeat (first | (with_reducible first | exact HB.out | apply below_alloc | apply pw_below_drewN | apply below_drew1) | exact HB.out)) hb); clear HB; have HO184:=n0_; have HB:=n1_; clear n0_ n1_; (try clear hb); (try clear hb2); (try clear hk); (try clear hi); (try clear ho0)) | ((with_reducible refine gate_callee (f:=12) rfl ?_); refine goesL_ (some 17) rfl rfl Try.func12 (by kernel_rfl) rfl #[.string a0] rfl (by (try simp only [List.map_toArray,List.map_cons,List.map_nil]); first | done | rfl | (simp only [List.length_drop,List.length_take]; rfl) | (simp only [ByteArray.size_append,Int.natCast_add]; rfl) | (simp [ByteArray.size_append,Int.add_assoc]; done)) ?_; (with_reducible refine (sheet_Cells.calls k a0 t185 true _ A3.out).mono ?_); rintro e w11 ⟨v187,rfl,ho0,hb⟩; refine ⟨_,rfl,?_⟩; have n0_:=Aside0.mk (Kd.R_below (by (with_reducible repeat (first | apply Kd.R_alloc | apply Kd.R_drewN | apply Kd.R_drew)); exact HO184.out) hb); have n1_:=Aside0.mk (Kd.R_lower ho0 (below_size (by repeat (first | (with_reducible first | exact HB.out | apply below_alloc | apply pw_below_drewN | apply below_drew1) | exact HB.out)))); have n2_:=Aside0.mk (below_step (by repeat (first | (with_reducible first | exact HB.out | apply below_alloc | apply pw_below_drewN | apply below_drew1) | exact HB.out)) hb); clear HO184; clear HB; have HO184:=n0_; have HO188:=n1_; have HB:=n2_; clear n0_ n1_ n2_; (try clear hb); (try clear hb2); (try clear hk); (try clear hi); (try clear ho0)) | ((with_reducible refine gate_callee (f:=17) rfl ?_); refine goesL_ (some 22) rfl rfl Try.func17 (by kernel_rfl) rfl #[.string a0] rfl (by (try simp only [List.map_toArray,List.map_cons,List.map_nil]); first | done | rfl | (simp only [List.length_drop,List.length_take]; rfl) | (simp only [ByteArray.size_append,Int.natCast_add]; rfl) | (simp [ByteArray.size_append,Int.add_assoc]; done)) ?_; (with_reducible refine (sheet_Link.calls k a0 t189 t190 t191 _ A4.out).mono ?_); rintro e w12 ⟨rfl,hb⟩; refine ⟨_,rfl,?_⟩; have n0_:=Aside0.mk (Kd.R_below (by (with_reducible repeat (first | apply Kd.R_alloc | apply Kd.R_drewN | apply Kd.R_drew)); exact HO184.out) hb); have n1_:=Aside0.mk (Kd.R_below (by (with_reducible repeat (first | apply Kd.R_alloc | apply Kd.R_drewN | apply Kd.R_drew)); exact HO188.out) hb); have n2_:=Aside0.mk (below_step (by repeat (first | (with_reducible first | exact HB.out | apply below_alloc | apply pw_below_drewN | apply below_drew1) | exact HB.out)) hb); clear HO184; clear HO188; clear HB; have HO184:=n0_; have HO188:=n1_; have HB:=n2_; clear n0_ n1_ n2_; (try clear hb); (try clear hb2); (try clear hk); (try clear hi)))
  go_ret
  exact ⟨by first | rfl | (simp [errW_none,errW_some] <;> rfl) | (simp [*,errW_none,errW_some] <;> rfl),by repeat (first | (with_reducible first | exact HB.out | apply below_alloc | apply pw_below_drewN | apply below_drew1) | exact HB.out)⟩
 replace c9:=Bool.eq_false_iff.mpr c9
 subst c9
 have H1 : (if t191 = true then (some 67) else (some 0)) = some r:=by rw [if_neg (show ¬ (false = true) by decide)] at H; exact H
 clear H
 have H:=H1
 clear H1
 by_cases c13 : t191 = true
 ·subst c13
  have H1 : (some 67) = some r:=by rw [if_pos rfl] at H; exact H
  clear H
  have H:=H1
  clear H1
  obtain rfl:=Option.some.inj H
  go_enter Try.func18,Try.ntmps18
  go_wp2_with (first | ((with_reducible refine gate_callee (f:=20) rfl ?_); refine goesL_ (some 12) rfl rfl Try.func20 (by kernel_rfl) rfl #[.string a0] rfl (by (try simp only [List.map_toArray,List.map_cons,List.map_nil]); first | done | rfl | (simp only [List.length_drop,List.length_take]; rfl) | (simp only [ByteArray.size_append,Int.natCast_add]; rfl) | (simp [ByteArray.size_append,Int.add_assoc]; done)) ?_; (with_reducible refine (sheet_Slots.calls k a0 t181 false _ A2.out).mono ?_); rintro e w14 ⟨v183,rfl,ho0,hb⟩; refine ⟨_,rfl,?_⟩; have n0_:=Aside0.mk (Kd.R_lower ho0 (below_size (by repeat (first | (with_reducible first | exact HB.out | apply below_alloc | apply pw_below_drewN | apply below_drew1) | exact HB.out)))); have n1_:=Aside0.mk (below_step (by repeat (first | (with_reducible first | exact HB.out | apply below_alloc | apply pw_below_drewN | apply below_drew1) | exact HB.out)) hb); clear HB; have HO184:=n0_; have HB:=n1_; clear n0_ n1_; (try clear hb); (try clear hb2); (try clear hk); (try clear hi); (try clear ho0)) | ((with_reducible refine gate_callee (f:=12) rfl ?_); refine goesL_ (some 17) rfl rfl Try.func12 (by kernel_rfl) rfl #[.string a0] rfl (by (try simp only [List.map_toArray,List.map_cons,List.map_nil]); first | done | rfl | (simp only [List.length_drop,List.length_take]; rfl) | (simp only [ByteArray.size_append,Int.natCast_add]; rfl) | (simp [ByteArray.size_append,Int.add_assoc]; done)) ?_; (with_reducible refine (sheet_Cells.calls k a0 t185 false _ A3.out).mono ?_); rintro e w15 ⟨v187,rfl,ho0,hb⟩; refine ⟨_,rfl,?_⟩; have n0_:=Aside0.mk (Kd.R_below (by (with_reducible repeat (first | apply Kd.R_alloc | apply Kd.R_drewN | apply Kd.R_drew)); exact HO184.out) hb); have n1_:=Aside0.mk (Kd.R_lower ho0 (below_size (by repeat (first | (with_reducible first | exact HB.out | apply below_alloc | apply pw_below_drewN | apply below_drew1) | exact HB.out)))); have n2_:=Aside0.mk (below_step (by repeat (first | (with_reducible first | exact HB.out | apply below_alloc | apply pw_below_drewN | apply below_drew1) | exact HB.out)) hb); clear HO184; clear HB; have HO184:=n0_; have HO188:=n1_; have HB:=n2_; clear n0_ n1_ n2_; (try clear hb); (try clear hb2); (try clear hk); (try clear hi); (try clear ho0)) | ((with_reducible refine gate_callee (f:=17) rfl ?_); refine goesL_ (some 22) rfl rfl Try.func17 (by kernel_rfl) rfl #[.string a0] rfl (by (try simp only [List.map_toArray,List.map_cons,List.map_nil]); first | done | rfl | (simp only [List.length_drop,List.length_take]; rfl) | (simp only [ByteArray.size_append,Int.natCast_add]; rfl) | (simp [ByteArray.size_append,Int.add_assoc]; done)) ?_; (with_reducible refine (sheet_Link.calls k a0 t189 t190 true _ A4.out).mono ?_); rintro e w16 ⟨rfl,hb⟩; refine ⟨_,rfl,?_⟩; have n0_:=Aside0.mk (Kd.R_below (by (with_reducible repeat (first | apply Kd.R_alloc | apply Kd.R_drewN | apply Kd.R_drew)); exact HO184.out) hb); have n1_:=Aside0.mk (Kd.R_below (by (with_reducible repeat (first | apply Kd.R_alloc | apply Kd.R_drewN | apply Kd.R_drew)); exact HO188.out) hb); have n2_:=Aside0.mk (below_step (by repeat (first | (with_reducible first | exact HB.out | apply below_alloc | apply pw_below_drewN | apply below_drew1) | exact HB.out)) hb); clear HO184; clear HO188; clear HB; have HO184:=n0_; have HO188:=n1_; have HB:=n2_; clear n0_ n1_ n2_; (try clear hb); (try clear hb2); (try clear hk); (try clear hi)))
  go_ret
  exact ⟨by first | rfl | (simp [errW_none,errW_some] <;> rfl) | (simp [*,errW_none,errW_some] <;> rfl),by repeat (first | (with_reducible first | exact HB.out | apply below_alloc | apply pw_below_drewN | apply below_drew1) | exact HB.out)⟩
 replace c13:=Bool.eq_false_iff.mpr c13
 subst c13
 have H1 : (some 0) = some r:=by rw [if_neg (show ¬ (false = true) by decide)] at H; exact H
 clear H
 have H:=H1
 clear H1
 obtain rfl:=Option.some.inj H
 go_enter Try.func18,Try.ntmps18
 go_wp2_with (first | ((with_reducible refine gate_callee (f:=20) rfl ?_); refine goesL_ (some 12) rfl rfl Try.func20 (by kernel_rfl) rfl #[.string a0] rfl (by (try simp only [List.map_toArray,List.map_cons,List.map_nil]); first | done | rfl | (simp only [List.length_drop,List.length_take]; rfl) | (simp only [ByteArray.size_append,Int.natCast_add]; rfl) | (simp [ByteArray.size_append,Int.add_assoc]; done)) ?_; (with_reducible refine (sheet_Slots.calls k a0 t181 false _ A2.out).mono ?_); rintro e w17 ⟨v183,rfl,ho0,hb⟩; refine ⟨_,rfl,?_⟩; have n0_:=Aside0.mk (Kd.R_lower ho0 (below_size (by repeat (first | (with_reducible first | exact HB.out | apply below_alloc | apply pw_below_drewN | apply below_drew1) | exact HB.out)))); have n1_:=Aside0.mk (below_step (by repeat (first | (with_reducible first | exact HB.out | apply below_alloc | apply pw_below_drewN | apply below_drew1) | exact HB.out)) hb); clear HB; have HO184:=n0_; have HB:=n1_; clear n0_ n1_; (try clear hb); (try clear hb2); (try clear hk); (try clear hi); (try clear ho0)) | ((with_reducible refine gate_callee (f:=12) rfl ?_); refine goesL_ (some 17) rfl rfl Try.func12 (by kernel_rfl) rfl #[.string a0] rfl (by (try simp only [List.map_toArray,List.map_cons,List.map_nil]); first | done | rfl | (simp only [List.length_drop,List.length_take]; rfl) | (simp only [ByteArray.size_append,Int.natCast_add]; rfl) | (simp [ByteArray.size_append,Int.add_assoc]; done)) ?_; (with_reducible refine (sheet_Cells.calls k a0 t185 false _ A3.out).mono ?_); rintro e w18 ⟨v187,rfl,ho0,hb⟩; refine ⟨_,rfl,?_⟩; have n0_:=Aside0.mk (Kd.R_below (by (with_reducible repeat (first | apply Kd.R_alloc | apply Kd.R_drewN | apply Kd.R_drew)); exact HO184.out) hb); have n1_:=Aside0.mk (Kd.R_lower ho0 (below_size (by repeat (first | (with_reducible first | exact HB.out | apply below_alloc | apply pw_below_drewN | apply below_drew1) | exact HB.out)))); have n2_:=Aside0.mk (below_step (by repeat (first | (with_reducible first | exact HB.out | apply below_alloc | apply pw_below_drewN | apply below_drew1) | exact HB.out)) hb); clear HO184; clear HB; have HO184:=n0_; have HO188:=n1_; have HB:=n2_; clear n0_ n1_ n2_; (try clear hb); (try clear hb2); (try clear hk); (try clear hi); (try clear ho0)) | ((with_reducible refine gate_callee (f:=17) rfl ?_); refine goesL_ (some 22) rfl rfl Try.func17 (by kernel_rfl) rfl #[.string a0] rfl (by (try simp only [List.map_toArray,List.map_cons,List.map_nil]); first | done | rfl | (simp only [List.length_drop,List.length_take]; rfl) | (simp only [ByteArray.size_append,Int.natCast_add]; rfl) | (simp [ByteArray.size_append,Int.add_assoc]; done)) ?_; (with_reducible refine (sheet_Link.calls k a0 t189 t190 false _ A4.out).mono ?_); rintro e w19 ⟨rfl,hb⟩; refine ⟨_,rfl,?_⟩; have n0_:=Aside0.mk (Kd.R_below (by (with_reducible repeat (first | apply Kd.R_alloc | apply Kd.R_drewN | apply Kd.R_drew)); exact HO184.out) hb); have n1_:=Aside0.mk (Kd.R_below (by (with_reducible repeat (first | apply Kd.R_alloc | apply Kd.R_drewN | apply Kd.R_drew)); exact HO188.out) hb); have n2_:=Aside0.mk (below_step (by repeat (first | (with_reducible first | exact HB.out | apply below_alloc | apply pw_below_drewN | apply below_drew1) | exact HB.out)) hb); clear HO184; clear HO188; clear HB; have HO184:=n0_; have HO188:=n1_; have HB:=n2_; clear n0_ n1_ n2_; (try clear hb); (try clear hb2); (try clear hk); (try clear hi)))
 go_ret
 exact ⟨by first | rfl | (simp [errW_none,errW_some] <;> rfl) | (simp [*,errW_none,errW_some] <;> rfl),by repeat (first | (with_reducible first | exact HB.out | apply below_alloc | apply pw_below_drewN | apply below_drew1) | exact HB.out)⟩

def maquettelaw15_alive.j0 : Nat → Bool → Option (Bool)
  | 0, _ => none
  | k + 1, x0 => some x0
def maquettelaw15_alive.f (k : Nat)  : Option (Bool) := (sheet_Leaf.f (([(⟨7, 2, 0, (⟨#[97, 98]⟩ : ByteArray)⟩ : S52), (⟨9, 100, 5, (⟨#[]⟩ : ByteArray)⟩ : S52)] : List (S52)))).bind fun bt195 => ((sheet_Cells.f k bt195.1).bind fun bt197 => (if bt195.2 = true then (if bt197.2 = true then (if (bt195.1.size : Int) = 128 then (if 0 ≤ 10 then (if 10 ≤ (bt195.1.size : Int) then (if (bt195.1.extract 0 10).toList = ([76, 2, 0, 0, 0, 7, 0, 2, 97, 98] : List UInt8) then (if (bt197.1.length : Int) = 2 then (if 1 < (bt197.1.length : Int) then (if ((rd_T52 bt197.1 1).f2) = 5 then ((sheet_Kind.f k bt195.1).bind fun t202 => (maquettelaw15_alive.j0 k (t202 == 76))) else (maquettelaw15_alive.j0 k false)) else (none)) else (maquettelaw15_alive.j0 k false)) else (maquettelaw15_alive.j0 k false)) else (none)) else (none)) else (maquettelaw15_alive.j0 k false)) else (maquettelaw15_alive.j0 k false)) else (maquettelaw15_alive.j0 k false)))
theorem maquettelaw15_alive.mono_l : ∀ k, (∀ y0, LeO (maquettelaw15_alive.j0 k y0) (maquettelaw15_alive.j0 (k + 1) y0))
  | 0 => fun _ r h => by simp [maquettelaw15_alive.j0] at h
  | k + 1 => by
    have ih0 := maquettelaw15_alive.mono_l k
    · intro y0
      unfold maquettelaw15_alive.j0
      repeat' first
      | (with_reducible exact ih0 _)
      | (with_reducible exact sheet_Cells.mono _ _)
      | (with_reducible exact sheet_Kind.mono _ _)
      | (with_reducible exact LeO.refl _)
      | (with_reducible exact LeO.none _)
      | (with_reducible refine LeO.ite ?_ ?_)
      | (with_reducible refine LeO.bind ?_ (fun _ => ?_))
      | exact ih0 _
      | exact sheet_Cells.mono _ _
      | exact sheet_Kind.mono _ _
      | exact LeO.none _
      | refine LeO.ite ?_ ?_
      | refine LeO.bind ?_ (fun _ => ?_)
theorem maquettelaw15_alive.mono : ∀ k, LeO (maquettelaw15_alive.f k ) (maquettelaw15_alive.f (k + 1) ) := by
  intro  k
  have ih0 := maquettelaw15_alive.mono_l k
  unfold maquettelaw15_alive.f
  repeat' first
      | (with_reducible exact ih0 _)
      | (with_reducible exact sheet_Cells.mono _ _)
      | (with_reducible exact sheet_Kind.mono _ _)
      | (with_reducible exact LeO.refl _)
      | (with_reducible exact LeO.none _)
      | (with_reducible refine LeO.ite ?_ ?_)
      | (with_reducible refine LeO.bind ?_ (fun _ => ?_))
      | exact ih0 _
      | exact sheet_Cells.mono _ _
      | exact sheet_Kind.mono _ _
      | exact LeO.none _
      | refine LeO.ite ?_ ?_
      | refine LeO.bind ?_ (fun _ => ?_)
set_option maxHeartbeats 8000000 in
set_option maxRecDepth 100000 in
theorem maquettelaw15_alive.calls (k : Nat)  (r : Bool) (w : World) (h : maquettelaw15_alive.f k  = some r) :
    Calls Try.prog 10 #[] w fun e w' => e = .returned (.bool r) ∧ Below w.heap.size w w':=by
 have hu52:=Try.underlying52
 have HB:=Aside0.mk (Below.refl w.heap.size w)
 have H : ((sheet_Leaf.f (([(⟨7,2,0,(⟨#[97,98]⟩ : ByteArray)⟩ : S52),(⟨9,100,5,(⟨#[]⟩ : ByteArray)⟩ : S52)] : List (S52)))).bind fun bt195 => ((sheet_Cells.f k bt195.1).bind fun bt197 => (if bt195.2 = true then (if bt197.2 = true then (if (bt195.1.size : Int) = 128 then (if 0 ≤ 10 then (if 10 ≤ (bt195.1.size : Int) then (if (bt195.1.extract 0 10).toList = ([76,2,0,0,0,7,0,2,97,98] : List UInt8) then (if (bt197.1.length : Int) = 2 then (if 1 < (bt197.1.length : Int) then (if ((rd_T52 bt197.1 1).f2) = 5 then ((sheet_Kind.f k bt195.1).bind fun t202 => (maquettelaw15_alive.j0 k (t202 == 76))) else (maquettelaw15_alive.j0 k false)) else (none)) else (maquettelaw15_alive.j0 k false)) else (maquettelaw15_alive.j0 k false)) else (none)) else (none)) else (maquettelaw15_alive.j0 k false)) else (maquettelaw15_alive.j0 k false)) else (maquettelaw15_alive.j0 k false)))) = some r:=h
 clear h
 obtain ⟨y192,hy192⟩ : ∃ y_ : List (S52),y_ = (([(⟨7,2,0,(⟨#[97,98]⟩ : ByteArray)⟩ : S52),(⟨9,100,5,(⟨#[]⟩ : ByteArray)⟩ : S52)] : List (S52))):=⟨_,rfl⟩
 replace H : ((sheet_Leaf.f y192).bind fun bt195 => ((sheet_Cells.f k bt195.1).bind fun bt197 => (if bt195.2 = true then (if bt197.2 = true then (if (bt195.1.size : Int) = 128 then (if 0 ≤ 10 then (if 10 ≤ (bt195.1.size : Int) then (if (bt195.1.extract 0 10).toList = ([76,2,0,0,0,7,0,2,97,98] : List UInt8) then (if (bt197.1.length : Int) = 2 then (if 1 < (bt197.1.length : Int) then (if ((rd_T52 bt197.1 1).f2) = 5 then ((sheet_Kind.f k bt195.1).bind fun t202 => (maquettelaw15_alive.j0 k (t202 == 76))) else (maquettelaw15_alive.j0 k false)) else (none)) else (maquettelaw15_alive.j0 k false)) else (maquettelaw15_alive.j0 k false)) else (none)) else (none)) else (maquettelaw15_alive.j0 k false)) else (maquettelaw15_alive.j0 k false)) else (maquettelaw15_alive.j0 k false)))) = some r:=by first | (rw [hy192]; with_reducible exact H) | (have H2_:=(Option.bind_some _ _).symm.trans H; rw [hy192]; with_reducible exact H2_) | (have H2_:=(Option.bind_some _ _).symm.trans H; with_reducible exact H2_) | with_reducible exact H | (rw [hy192]; exact H) | exact H
 have Ny192:=Aside0.mk hy192
 clear hy192
 replace H:=Option.bind_eq_some_iff.mp H
 obtain ⟨⟨t195,t196⟩,A10,H⟩:=H
 replace H : ((sheet_Cells.f k t195).bind fun bt197 => (if t196 = true then (if bt197.2 = true then (if (t195.size : Int) = 128 then (if 0 ≤ 10 then (if 10 ≤ (t195.size : Int) then (if (t195.extract 0 10).toList = ([76,2,0,0,0,7,0,2,97,98] : List UInt8) then (if (bt197.1.length : Int) = 2 then (if 1 < (bt197.1.length : Int) then (if ((rd_T52 bt197.1 1).f2) = 5 then ((sheet_Kind.f k t195).bind fun t202 => (maquettelaw15_alive.j0 k (t202 == 76))) else (maquettelaw15_alive.j0 k false)) else (none)) else (maquettelaw15_alive.j0 k false)) else (maquettelaw15_alive.j0 k false)) else (none)) else (none)) else (maquettelaw15_alive.j0 k false)) else (maquettelaw15_alive.j0 k false)) else (maquettelaw15_alive.j0 k false))) = some r:=H
 have A1:=Aside0.mk A10
 clear A10
 replace H:=Option.bind_eq_some_iff.mp H
 obtain ⟨⟨t197,t198⟩,A20,H⟩:=H
 replace H : (if t196 = true then (if t198 = true then (if (t195.size : Int) = 128 then (if 0 ≤ 10 then (if 10 ≤ (t195.size : Int) then (if (t195.extract 0 10).toList = ([76,2,0,0,0,7,0,2,97,98] : List UInt8) then (if (t197.length : Int) = 2 then (if 1 < (t197.length : Int) then (if ((rd_T52 t197 1).f2) = 5 then ((sheet_Kind.f k t195).bind fun t202 => (maquettelaw15_alive.j0 k (t202 == 76))) else (maquettelaw15_alive.j0 k false)) else (none)) else (maquettelaw15_alive.j0 k false)) else (maquettelaw15_alive.j0 k false)) else (none)) else (none)) else (maquettelaw15_alive.j0 k false)) else (maquettelaw15_alive.j0 k false)) else (maquettelaw15_alive.j0 k false)) = some r:=H
 have A2:=Aside0.mk A20
 clear A20
 have HC3:=Aside0.mk H
 clear H
 go_enter Try.func10,Try.ntmps10
 go_upto_region 3 with (first | ((with_reducible refine gate_dst (N:=8) rfl ?_); (try (refine gate_guard (by rfl) ?_; dsimp only)); refine Kd.R_lit k52 _ 52 ?hg (N:=8) ?hd (xs:=([(⟨7,2,0,(⟨#[97,98]⟩ : ByteArray)⟩ : S52),(⟨9,100,5,(⟨#[]⟩ : ByteArray)⟩ : S52)] : List (S52))) (inner:=[.int .i64 7,.int .i64 2,.int .i64 0,.string (⟨#[97,98]⟩ : ByteArray),.int .i64 9,.int .i64 100,.int .i64 5,.string (⟨#[]⟩ : ByteArray)]) (ok:=fun _ => True) (okp:=fun _ => True) ?hr ?hp (fun _ hk => hk) trivial (Below.refl _ _) (Nat.le_refl _) (by simp) ?_; (case hd => rfl); (case hg => rfl); (case hr => first | (go_simp; done) | (go_simp; rfl)); (case hp => exact (Reps.c4 (show Kd.M k52 _ _ _ (⟨7,2,0,(⟨#[97,98]⟩ : ByteArray)⟩ : S52) [.int .i64 7,.int .i64 2,.int .i64 0,.string (⟨#[97,98]⟩ : ByteArray)] from (k52_mkM _ _ _ (⟨7,2,0,(⟨#[97,98]⟩ : ByteArray)⟩ : S52) )) (Reps.c4 (show Kd.M k52 _ _ _ (⟨9,100,5,(⟨#[]⟩ : ByteArray)⟩ : S52) [.int .i64 9,.int .i64 100,.int .i64 5,.string (⟨#[]⟩ : ByteArray)] from (k52_mkM _ _ _ (⟨9,100,5,(⟨#[]⟩ : ByteArray)⟩ : S52) )) (Reps.none _ _)))); intro v193 w4 ho5 hb hg_ hnew_; clear hg_ hnew_; (first | rw [← Ny192.out] at ho5 | (simp only [Int.reduceToNat] at ho5; rw [← Ny192.out] at ho5)); have n0_:=Aside0.mk (Kd.R_lower ho5 (below_size (by repeat (first | (with_reducible first | exact HB.out | apply below_alloc | apply pw_below_drewN | apply below_drew1) | exact HB.out)))); have n1_:=Aside0.mk (below_step (by repeat (first | (with_reducible first | exact HB.out | apply below_alloc | apply pw_below_drewN | apply below_drew1) | exact HB.out)) hb); clear HB; have HO194:=n0_; have HB:=n1_; clear n0_ n1_; clear hb ho5; obtain ⟨Ao6,co6,eo6⟩:=Kd.R_slice HO194.out; subst eo6) | ((with_reducible refine gate_callee (f:=11) rfl ?_); refine goesL_ (some 9) rfl rfl Try.func11 (by kernel_rfl) rfl #[.slice Ao6 y192.length co6] rfl (by (try simp only [List.map_toArray,List.map_cons,List.map_nil]); first | done | rfl | (simp only [List.length_drop,List.length_take]; rfl) | (simp only [ByteArray.size_append,Int.natCast_add]; rfl) | (simp [ByteArray.size_append,Int.add_assoc]; done)) ?_; (with_reducible refine (sheet_Leaf.calls _ _ y192 t195 t196 _ ?side1 ?side2 A1.out).mono ?_); (case side1 => repeat (first | exact (Kd.R_reads' HO194.out).2.2 | (with_reducible refine Kd.C_alloc ?_ _) | (with_reducible refine Kd.C_drewN ?_ _) | (with_reducible refine Kd.C_drew ?_))); (case side2 => exact (Kd.R_reads' HO194.out).2.1); rintro e w7 ⟨rfl,hb⟩; refine ⟨_,rfl,?_⟩; have n0_:=Aside0.mk (Kd.R_below (by (with_reducible repeat (first | apply Kd.R_alloc | apply Kd.R_drewN | apply Kd.R_drew)); exact HO194.out) hb); have n1_:=Aside0.mk (below_step (by repeat (first | (with_reducible first | exact HB.out | apply below_alloc | apply pw_below_drewN | apply below_drew1) | exact HB.out)) hb); clear HO194; clear HB; have HO194:=n0_; have HB:=n1_; clear n0_ n1_; (try clear hb); (try clear hb2); (try clear hk); (try clear hi)) | ((with_reducible refine gate_callee (f:=12) rfl ?_); refine goesL_ (some 14) rfl rfl Try.func12 (by kernel_rfl) rfl #[.string t195] rfl (by (try simp only [List.map_toArray,List.map_cons,List.map_nil]); first | done | rfl | (simp only [List.length_drop,List.length_take]; rfl) | (simp only [ByteArray.size_append,Int.natCast_add]; rfl) | (simp [ByteArray.size_append,Int.add_assoc]; done)) ?_; (with_reducible refine (sheet_Cells.calls k t195 t197 t198 _ A2.out).mono ?_); rintro e w8 ⟨v199,rfl,ho0,hb⟩; refine ⟨_,rfl,?_⟩; have n0_:=Aside0.mk (Kd.R_elder' (by (with_reducible repeat (first | apply Kd.R_alloc | apply Kd.R_drewN | apply Kd.R_drew)); exact HO194.out) (Kd.R_base ho0) hb); have n1_:=Aside0.mk (Kd.R_lower (Kd.R_new' ho0 (Kd.R_lt (by (with_reducible repeat (first | apply Kd.R_alloc | apply Kd.R_drewN | apply Kd.R_drew)); exact HO194.out))) (below_size (by repeat (first | (with_reducible first | exact HB.out | apply below_alloc | apply pw_below_drewN | apply below_drew1) | exact HB.out)))); have n2_:=Aside0.mk (below_step (by repeat (first | (with_reducible first | exact HB.out | apply below_alloc | apply pw_below_drewN | apply below_drew1) | exact HB.out)) hb); clear HO194; clear HB; have HO194:=n0_; have HO200:=n1_; have HB:=n2_; clear n0_ n1_ n2_; (try clear hb); (try clear hb2); (try clear hk); (try clear hi); (try clear ho0)))
 (try simp only [Act.put,List.setIfInBounds_toArray,List.set_cons_zero,List.set_cons_succ])
 go_cut [0] (fun v0 wc => ∃ (kq : Nat) (x0_2 : Bool),v0 = .bool x0_2 ∧ Aside0 (maquettelaw15_alive.j0 kq x0_2 = some r) ∧ Aside0 (kq ≤ k) ∧ Aside0 (Below w.heap.size w wc))
 case first =>
  have H:=HC3.out
  clear HC3
  by_cases c9 : t196 = true
  ·subst c9
   have H1 : (if t198 = true then (if (t195.size : Int) = 128 then (if 0 ≤ 10 then (if 10 ≤ (t195.size : Int) then (if (t195.extract 0 10).toList = ([76,2,0,0,0,7,0,2,97,98] : List UInt8) then (if (t197.length : Int) = 2 then (if 1 < (t197.length : Int) then (if ((rd_T52 t197 1).f2) = 5 then ((sheet_Kind.f k t195).bind fun t202 => (maquettelaw15_alive.j0 k (t202 == 76))) else (maquettelaw15_alive.j0 k false)) else (none)) else (maquettelaw15_alive.j0 k false)) else (maquettelaw15_alive.j0 k false)) else (none)) else (none)) else (maquettelaw15_alive.j0 k false)) else (maquettelaw15_alive.j0 k false)) = some r:=by rw [if_pos rfl] at H; exact H
   clear H
   have H:=H1
   clear H1
   by_cases c10 : t198 = true
   ·subst c10
    have H1 : (if (t195.size : Int) = 128 then (if 0 ≤ 10 then (if 10 ≤ (t195.size : Int) then (if (t195.extract 0 10).toList = ([76,2,0,0,0,7,0,2,97,98] : List UInt8) then (if (t197.length : Int) = 2 then (if 1 < (t197.length : Int) then (if ((rd_T52 t197 1).f2) = 5 then ((sheet_Kind.f k t195).bind fun t202 => (maquettelaw15_alive.j0 k (t202 == 76))) else (maquettelaw15_alive.j0 k false)) else (none)) else (maquettelaw15_alive.j0 k false)) else (maquettelaw15_alive.j0 k false)) else (none)) else (none)) else (maquettelaw15_alive.j0 k false)) = some r:=by rw [if_pos rfl] at H; exact H
    clear H
    have H:=H1
    clear H1
    by_cases c11 : (t195.size : Int) = 128
    ·rw [if_pos c11] at H
     have c11b0 : ((t195.size : Int) == 128) = true:=beq_iff_eq.mpr c11
     have c11b1 : ((t195.size : Int) != 128) = false:=bne_eq_false_iff_eq.mpr c11
     clear c11
     (first | rw [c11b0] | (simp only [i64_w,i32_w]; rw [c11b0]) | skip)
     by_cases c12 : 0 ≤ 10
     ·rw [if_pos c12] at H
      have c12b0:=eq_true c12
      have c12b1 : decide (0 ≤ 10) = true:=decide_eq_true c12
      clear c12
      by_cases c13 : 10 ≤ (t195.size : Int)
      ·rw [if_pos c13] at H
       have c13b0:=eq_true c13
       have c13b1 : decide (10 ≤ (t195.size : Int)) = true:=decide_eq_true c13
       clear c13
       by_cases c14 : (t195.extract 0 10).toList = ([76,2,0,0,0,7,0,2,97,98] : List UInt8)
       ·rw [if_pos c14] at H
        have c14b0 : ((t195.extract 0 10).toList == ([76,2,0,0,0,7,0,2,97,98] : List UInt8)) = true:=beq_iff_eq.mpr c14
        have c14b1 : ((t195.extract 0 10).toList != ([76,2,0,0,0,7,0,2,97,98] : List UInt8)) = false:=bne_eq_false_iff_eq.mpr c14
        clear c14
        by_cases c15 : (t197.length : Int) = 2
        ·rw [if_pos c15] at H
         have c15b0 : ((t197.length : Int) == 2) = true:=beq_iff_eq.mpr c15
         have c15b1 : ((t197.length : Int) != 2) = false:=bne_eq_false_iff_eq.mpr c15
         clear c15
         by_cases c16 : 1 < (t197.length : Int)
         ·rw [if_pos c16] at H
          have c16b0 : decide (1 < (t197.length : Int)) = true:=decide_eq_true c16
          have c16b1 : decide (1 < t197.length) = true:=decide_eq_true (by omega)
          clear c16
          by_cases c17 : ((rd_T52 t197 1).f2) = 5
          ·rw [if_pos c17] at H
           have c17b0 : (((rd_T52 t197 1).f2) == 5) = true:=beq_iff_eq.mpr c17
           have c17b1 : (((rd_T52 t197 1).f2) != 5) = false:=bne_eq_false_iff_eq.mpr c17
           clear c17
           replace H:=Option.bind_eq_some_iff.mp H
           obtain ⟨t202,A180,H⟩:=H
           replace H : (maquettelaw15_alive.j0 k (t202 == 76)) = some r:=H
           have A18:=Aside0.mk A180
           clear A180
           have H':=Aside0.mk H
           clear H
           obtain ⟨Ao19,co19,eo19⟩:=Kd.R_slice HO200.out
           subst eo19
           have p201 : 0 ≤ (1 : Int):=(by omega)
           have q201 : 1 < (t197.length : Int):=of_decide_eq_true (by first | (with_reducible assumption) | assumption)
           obtain ⟨ad201,e201,hx201_0,hx201_1,hx201_2,hx201_3⟩:=at_T52 (Kd.R_reads' HO200.out).2.2 1 p201 q201
           cases e201
           (try simp only [show (1 : Int).toNat = 1 from rfl,Nat.reduceMul,Nat.reduceEqDiff,Go.Addr.add,↓reduceIte] at hx201_0)
           (try simp only [show (1 : Int).toNat = 1 from rfl,Nat.reduceMul,Nat.reduceEqDiff,Go.Addr.add,↓reduceIte] at hx201_1)
           (try simp only [show (1 : Int).toNat = 1 from rfl,Nat.reduceMul,Nat.reduceEqDiff,Go.Addr.add,↓reduceIte] at hx201_2)
           (try simp only [show (1 : Int).toNat = 1 from rfl,Nat.reduceMul,Nat.reduceEqDiff,Go.Addr.add,↓reduceIte] at hx201_3)
           have qi201 : (1 < t197.length) = True:=eq_true (by omega)
           (try rw [show ((1 : Int)).toNat = 1 from rfl] at hx201_0)
           (try rw [show 1 * 4 = 4 from rfl] at hx201_0)
           (try rw [show ((1 : Int)).toNat = 1 from rfl] at hx201_1)
           (try rw [show 1 * 4 = 4 from rfl] at hx201_1)
           (try rw [show ((1 : Int)).toNat = 1 from rfl] at hx201_2)
           (try rw [show 1 * 4 = 4 from rfl] at hx201_2)
           (try rw [show ((1 : Int)).toNat = 1 from rfl] at hx201_3)
           (try rw [show 1 * 4 = 4 from rfl] at hx201_3)
           replace p201:=eq_true p201
           replace q201:=eq_true q201
           go_wp2_with (first | (go_at_call 18; (with_reducible refine (sheet_Kind.calls k t195 t202 _ A18.out).mono ?_); rintro e w20 ⟨rfl,hb⟩; have n0_:=Aside0.mk (Kd.R_below (by (with_reducible repeat (first | apply Kd.R_alloc | apply Kd.R_drewN | apply Kd.R_drew)); exact HO194.out) hb); have n1_:=Aside0.mk (Kd.R_below (by (with_reducible repeat (first | apply Kd.R_alloc | apply Kd.R_drewN | apply Kd.R_drew)); exact HO200.out) hb); have n2_:=Aside0.mk (below_step (by repeat (first | (with_reducible first | exact HB.out | apply below_alloc | apply pw_below_drewN | apply below_drew1) | exact HB.out)) hb); clear HO194; clear HO200; clear HB; have HO194:=n0_; have HO200:=n1_; have HB:=n2_; clear n0_ n1_ n2_; (try clear hb); (try clear hb2); (try clear hk); (try clear hi)))
           go_meet
           case rel => exact ⟨_,((t202 == 76)),(by first | rfl | (simp; done) | (simp [*]; done)),H',⟨by first | omega | exact Nat.le_refl _⟩,⟨by repeat (first | (with_reducible first | exact HB.out | apply below_alloc | apply pw_below_drewN | apply below_drew1) | exact HB.out)⟩⟩
          rw [if_neg c17] at H
          have c17b0 : (((rd_T52 t197 1).f2) == 5) = false:=beq_eq_false_iff_ne.mpr c17
          have c17b1 : (((rd_T52 t197 1).f2) != 5) = true:=bne_iff_ne.mpr c17
          have H':=Aside0.mk H
          clear H
          obtain ⟨Ao21,co21,eo21⟩:=Kd.R_slice HO200.out
          subst eo21
          have p201 : 0 ≤ (1 : Int):=(by omega)
          have q201 : 1 < (t197.length : Int):=of_decide_eq_true (by first | (with_reducible assumption) | assumption)
          obtain ⟨ad201,e201,hx201_0,hx201_1,hx201_2,hx201_3⟩:=at_T52 (Kd.R_reads' HO200.out).2.2 1 p201 q201
          cases e201
          (try simp only [show (1 : Int).toNat = 1 from rfl,Nat.reduceMul,Nat.reduceEqDiff,Go.Addr.add,↓reduceIte] at hx201_0)
          (try simp only [show (1 : Int).toNat = 1 from rfl,Nat.reduceMul,Nat.reduceEqDiff,Go.Addr.add,↓reduceIte] at hx201_1)
          (try simp only [show (1 : Int).toNat = 1 from rfl,Nat.reduceMul,Nat.reduceEqDiff,Go.Addr.add,↓reduceIte] at hx201_2)
          (try simp only [show (1 : Int).toNat = 1 from rfl,Nat.reduceMul,Nat.reduceEqDiff,Go.Addr.add,↓reduceIte] at hx201_3)
          have qi201 : (1 < t197.length) = True:=eq_true (by omega)
          (try rw [show ((1 : Int)).toNat = 1 from rfl] at hx201_0)
          (try rw [show 1 * 4 = 4 from rfl] at hx201_0)
          (try rw [show ((1 : Int)).toNat = 1 from rfl] at hx201_1)
          (try rw [show 1 * 4 = 4 from rfl] at hx201_1)
          (try rw [show ((1 : Int)).toNat = 1 from rfl] at hx201_2)
          (try rw [show 1 * 4 = 4 from rfl] at hx201_2)
          (try rw [show ((1 : Int)).toNat = 1 from rfl] at hx201_3)
          (try rw [show 1 * 4 = 4 from rfl] at hx201_3)
          replace p201:=eq_true p201
          replace q201:=eq_true q201
          go_wp2
          go_meet
          case rel => exact ⟨_,(false),(by first | rfl | (simp; done) | (simp [*]; done)),H',⟨by first | omega | exact Nat.le_refl _⟩,⟨by repeat (first | (with_reducible first | exact HB.out | apply below_alloc | apply pw_below_drewN | apply below_drew1) | exact HB.out)⟩⟩
         rw [if_neg c16] at H
         exact absurd H (by simp)
        rw [if_neg c15] at H
        have c15b0 : ((t197.length : Int) == 2) = false:=beq_eq_false_iff_ne.mpr c15
        have c15b1 : ((t197.length : Int) != 2) = true:=bne_iff_ne.mpr c15
        have H':=Aside0.mk H
        clear H
        obtain ⟨Ao22,co22,eo22⟩:=Kd.R_slice HO200.out
        subst eo22
        go_wp2
        go_meet
        case rel => exact ⟨_,(false),(by first | rfl | (simp; done) | (simp [*]; done)),H',⟨by first | omega | exact Nat.le_refl _⟩,⟨by repeat (first | (with_reducible first | exact HB.out | apply below_alloc | apply pw_below_drewN | apply below_drew1) | exact HB.out)⟩⟩
       rw [if_neg c14] at H
       have c14b0 : ((t195.extract 0 10).toList == ([76,2,0,0,0,7,0,2,97,98] : List UInt8)) = false:=beq_eq_false_iff_ne.mpr c14
       have c14b1 : ((t195.extract 0 10).toList != ([76,2,0,0,0,7,0,2,97,98] : List UInt8)) = true:=bne_iff_ne.mpr c14
       have H':=Aside0.mk H
       clear H
       go_wp2
       go_meet
       case rel => exact ⟨_,(false),(by first | rfl | (simp; done) | (simp [*]; done)),H',⟨by first | omega | exact Nat.le_refl _⟩,⟨by repeat (first | (with_reducible first | exact HB.out | apply below_alloc | apply pw_below_drewN | apply below_drew1) | exact HB.out)⟩⟩
      rw [if_neg c13] at H
      exact absurd H (by simp)
     rw [if_neg c12] at H
     exact absurd H (by simp)
    rw [if_neg c11] at H
    have c11b0 : ((t195.size : Int) == 128) = false:=beq_eq_false_iff_ne.mpr c11
    have c11b1 : ((t195.size : Int) != 128) = true:=bne_iff_ne.mpr c11
    (first | rw [c11b0] | (simp only [i64_w,i32_w]; rw [c11b0]) | skip)
    have H':=Aside0.mk H
    clear H
    go_wp2
    go_meet
    case rel => exact ⟨_,(false),(by first | rfl | (simp; done) | (simp [*]; done)),H',⟨by first | omega | exact Nat.le_refl _⟩,⟨by repeat (first | (with_reducible first | exact HB.out | apply below_alloc | apply pw_below_drewN | apply below_drew1) | exact HB.out)⟩⟩
   replace c10:=Bool.eq_false_iff.mpr c10
   subst c10
   have H1 : (maquettelaw15_alive.j0 k false) = some r:=by rw [if_neg (show ¬ (false = true) by decide)] at H; exact H
   clear H
   have H:=H1
   clear H1
   have H':=Aside0.mk H
   clear H
   go_wp2
   go_meet
   case rel => exact ⟨_,(false),(by first | rfl | (simp; done) | (simp [*]; done)),H',⟨by first | omega | exact Nat.le_refl _⟩,⟨by repeat (first | (with_reducible first | exact HB.out | apply below_alloc | apply pw_below_drewN | apply below_drew1) | exact HB.out)⟩⟩
  replace c9:=Bool.eq_false_iff.mpr c9
  subst c9
  have H1 : (maquettelaw15_alive.j0 k false) = some r:=by rw [if_neg (show ¬ (false = true) by decide)] at H; exact H
  clear H
  have H:=H1
  clear H1
  have H':=Aside0.mk H
  clear H
  go_wp2
  go_meet
  case rel => exact ⟨_,(false),(by first | rfl | (simp; done) | (simp [*]; done)),H',⟨by first | omega | exact Nat.le_refl _⟩,⟨by repeat (first | (with_reducible first | exact HB.out | apply below_alloc | apply pw_below_drewN | apply below_drew1) | exact HB.out)⟩⟩
 clear HC3
 try clear c1
 try clear p2
 try clear q2
 try clear hx2
 try clear qi2
 try clear c4
 try clear c9
 try clear c10
 try clear c11
 try clear c11b0
 try clear c11b1
 try clear c12
 try clear c12b0
 try clear c12b1
 try clear c13
 try clear c13b0
 try clear c13b1
 try clear c14
 try clear c14b0
 try clear c14b1
 try clear c15
 try clear c15b0
 try clear c15b1
 try clear c16
 try clear c16b0
 try clear c16b1
 try clear c17
 try clear c17b0
 try clear c17b1
 try clear p20
 try clear q20
 try clear hx20
 try clear qi20
 try clear hx201_0
 try clear hx201_1
 try clear hx201_2
 try clear hx201_3
 try clear p201
 try clear q201
 obtain ⟨kq,x0_2,rfl,HA,HJ2,HB⟩:=hcut
 cases kq with
 | zero => exact absurd HA.out (by simp [maquettelaw15_alive.j0])
 | succ kj2 =>
  have H:=HA.out
  clear HA
  simp only [maquettelaw15_alive.j0] at H
  obtain rfl:=Option.some.inj H
  go_wp2
  go_ret
  exact ⟨by first | rfl | (simp [errW_none,errW_some] <;> rfl) | (simp [*,errW_none,errW_some] <;> rfl),by repeat (first | (with_reducible first | exact HB.out | apply below_alloc | apply pw_below_drewN | apply below_drew1) | exact HB.out)⟩

def maquetteref13_Zeros.f (a0 : Int) : Option (ByteArray) := if 0 ≤ (mx a0 0) then (if (mx a0 0 : Int).toNat ≤ 281474976710656 then (some (strOfNums (List.replicate (mx a0 0 : Int).toNat 0))) else (none)) else (none)
set_option maxHeartbeats 8000000 in
set_option maxRecDepth 100000 in
theorem maquetteref13_Zeros.calls (a0 : Int) (r : ByteArray) (w : World) (h : maquetteref13_Zeros.f a0 = some r) :
    Calls Try.prog 38 #[.int .i64 a0] w fun e w' => e = .returned (.string r) ∧ Below w.heap.size w w':=by
 have HB:=Aside0.mk (Below.refl w.heap.size w)
 have H : (if 0 ≤ (mx a0 0) then (if (mx a0 0 : Int).toNat ≤ 281474976710656 then (some (strOfNums (List.replicate (mx a0 0 : Int).toNat 0))) else (none)) else (none)) = some r:=h
 clear h
 obtain ⟨ji2,hji2⟩ : ∃ j_ : Int,(mx a0 0) = j_:=⟨_,rfl⟩
 replace H : (if 0 ≤ (ji2) then (if (ji2 : Int).toNat ≤ 281474976710656 then (some (strOfNums (List.replicate (ji2 : Int).toNat 0))) else (none)) else (none)) = some r:=by first | (rw [hji2] at H; exact H) | (simp only [hji2] at H ⊢; exact H)
 (try (have hji2l : 0 ≤ ji2:=by (rw [← hji2]; unfold mx; (repeat' split) <;> omega)))
 (try (have hji2m : 0 ≤ ji2:=by omega))
 have hji2_ : (if a0 < 0 then 0 else a0) = ji2:=hji2
 by_cases c3 : 0 ≤ (ji2)
 ·rw [if_pos c3] at H
  have c3b0:=eq_true c3
  have c3b1 : decide (0 ≤ (ji2)) = true:=decide_eq_true c3
  clear c3
  by_cases c4 : (ji2 : Int).toNat ≤ 281474976710656
  ·rw [if_pos c4] at H
   have c4b0:=eq_true c4
   have c4b1 : decide ((ji2 : Int).toNat ≤ 281474976710656) = true:=decide_eq_true c4
   clear c4
   obtain ⟨y203,hy203⟩ : ∃ y_ : List Int,y_ = (List.replicate (ji2 : Int).toNat 0):=⟨_,rfl⟩
   replace H : (some (strOfNums y203)) = some r:=by first | (rw [hy203]; with_reducible exact H) | (have H2_:=(Option.bind_some _ _).symm.trans H; rw [hy203]; with_reducible exact H2_) | (have H2_:=(Option.bind_some _ _).symm.trans H; with_reducible exact H2_) | with_reducible exact H | (rw [hy203]; exact H) | exact H
   have Ny203:=Aside0.mk hy203
   clear hy203
   obtain rfl:=Option.some.inj H
   go_enter Try.func38,Try.ntmps38
   go_wp2_with (first | ((with_reducible refine gate_dst (N:=5) rfl ?_); refine Kd.R_make (Kd.int .u8) _ 5 rfl (N:=5) rfl 28 _ _ rfl ji2 rfl rfl Try.underlying28 (.int .u8 0) 1 info5 rfl (by decide) (by omega) 0 (ok:=fun _ => True) (okp:=fun _ => True) rfl (fun _ hk => hk) trivial (of_decide_eq_true (by first | (with_reducible assumption) | assumption)) (Nat.le_trans (Nat.mul_le_mul_right _ (of_decide_eq_true (by first | (with_reducible assumption) | assumption) : ji2.toNat ≤ 281474976710656)) (by omega)) (Below.refl _ _) (Nat.le_refl _) ?_; intro v204 w5 ho6 hb hg_ hnew_; clear hg_ hnew_; (first | rw [← Ny203.out] at ho6 | (simp only [Int.reduceToNat] at ho6; rw [← Ny203.out] at ho6)); have n0_:=Aside0.mk (Kd.R_lower ho6 (below_size (by repeat (first | (with_reducible first | exact HB.out | apply below_alloc | apply pw_below_drewN | apply below_drew1) | exact HB.out)))); have n1_:=Aside0.mk (below_step (by repeat (first | (with_reducible first | exact HB.out | apply below_alloc | apply pw_below_drewN | apply below_drew1) | exact HB.out)) hb); clear HB; have HO205:=n0_; have HB:=n1_; clear n0_ n1_; clear hb ho6; have hcv7:=own_string (P:=Try.prog) Try.underlying28 Try.underlying5 Try.underlying9 (Kd.own_of_R HO205.out)))
   go_ret
   exact ⟨by first | rfl | (simp [errW_none,errW_some] <;> rfl) | (simp only [← hji2]; first | rfl | (simp [errW_none,errW_some] <;> rfl)) | (simp [*,errW_none,errW_some] <;> rfl),by repeat (first | (with_reducible first | exact HB.out | apply below_alloc | apply pw_below_drewN | apply below_drew1) | exact HB.out)⟩
  rw [if_neg c4] at H
  exact absurd H (by simp)
 rw [if_neg c3] at H
 exact absurd H (by simp)

end Go.Proofs.Ytlgmabibcpkdmaa.PAll
